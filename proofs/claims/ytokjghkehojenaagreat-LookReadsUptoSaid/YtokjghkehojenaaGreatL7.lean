/- What a merge by turning computes. No condition. -/
import Derived.Test.YtokjghkehojenaaGreatL6
set_option linter.all false
set_option maxHeartbeats 8000000
set_option maxRecDepth 100000
namespace Go.Proofs.YtokjghkehojenaaGreat
open Go.Sx
section
variable {α:Type} [Inhabited α] {lt:α→α→Bool}
theorem std_iff {g:Nat->α} {a b:Nat}:Std lt (seg g a b)↔ ∀i j,a<=i->i<j->j<b->lt (g j) (g i)=false:=by
 unfold Std;rw [List.pairwise_iff_getElem];constructor
 . intro h i j h1 h2 h3;have:=h (i-a) (j-a) (by rw [seg_length];omega) (by rw [seg_length];omega) (by omega)
   have e1:(seg g a b)[i-a]? =some (g i):=by rw [seg_get (by omega)];congr 2;omega
   have e2:(seg g a b)[j-a]? =some (g j):=by rw [seg_get (by omega)];congr 2;omega
   rw [List.getElem_of_getElem? e1|>.2,List.getElem_of_getElem? e2|>.2] at this;exact this
 . intro h i j hi hj hij;rw [seg_length] at hi hj;have e1:(seg g a b)[i]? =some (g (a+i)):=seg_get hi
   have e2:(seg g a b)[j]? =some (g (a+j)):=seg_get hj
   rw [List.getElem_of_getElem? e1|>.2,List.getElem_of_getElem? e2|>.2];exact h _ _ (by omega) (by omega) (by omega)
theorem std_sub {g:Nat->α} {a b a' b':Nat} (h:Std lt (seg g a b)) (h1:a<=a') (h2:b'<=b):Std lt (seg g a' b'):=
 std_iff.2 fun i j x y z=>std_iff.1 h i j (by omega) y (by omega)
theorem Wk.irr (h:Wk lt) (x:α):lt x x=false:=by
 cases hx:lt x x with
 |false=>rfl
 |true=>have:=h.asymm _ _ hx;rw [hx] at this;exact this
theorem std_le (h:Wk lt) {g:Nat->α} {a b i j:Nat} (hs:Std lt (seg g a b)) (h1:a<=i) (h2:i<=j) (h3:j<b):lt (g j) (g i)=false:=by
 rcases Nat.lt_or_ge i j with h4|h4
 . exact std_iff.1 hs i j h1 h4 h3
 . have:i=j:=by omega
   subst this;exact h.irr _
theorem Wk.lt1 (h:Wk lt) {x y z:α} (h1:lt y x=false) (h2:lt y z=true):lt x z=true:=by
 cases hx:lt x z with
 |true=>rfl
 |false=>rw [h.trans z x y hx h1] at h2;cases h2
theorem Wk.lt2 (h:Wk lt) {x y z:α} (h1:lt z y=false) (h2:lt x y=true):lt x z=true:=by
 cases hx:lt x z with
 |true=>rfl
 |false=>rw [h.trans y z x h1 hx] at h2;cases h2
theorem Wk.le1 (h:Wk lt) {x y z:α} (h1:lt z y=false) (h2:lt y x=false):lt z x=false:=h.trans x y z h2 h1
theorem one_fin {g:Nat->α} {a i b:Nat} (h1:a+1<=i) (h2:i<=b) (h3: ∀k,a+1<=k->k<i->lt (g k) (g a)=true) (h4: ∀k,i<=k->k<b->lt (g k) (g a)=false):
 mg lt (seg g a (a+1)) (seg g (a+1) b)=seg g (a+1) i++g a::seg g i b:=by
 rw [seg_one,seg_app g h1 h2];refine mg_one _ _ _ ?_ ?_
 . intro y hy;obtain ⟨k,k1,k2,rfl⟩:=mem_seg.1 hy
   exact h3 k k1 k2
 . intro y hy;obtain ⟨k,k1,k2,rfl⟩:=mem_seg.1 hy
   exact h4 k k1 k2
theorem one_start (g:Nat->α) {a b:Nat} (h:a<b):put g a (seg g (a+1) (a+1)++g a::seg g (a+1) b)=g:=by
 rw [seg_nil g (Nat.le_refl _),List.nil_append, <-seg_cons g h,put_seg]
theorem one_step (g:Nat->α) {a k b:Nat} (h:a<=k) (hk:k+1<b):swp (put g a (seg g (a+1) (k+1)++g a::seg g (k+1) b)) k (k+1)=put g a (seg g (a+1) (k+1+1)++g a::seg g (k+1+1) b):=by
 have hl:a+(seg g (a+1) (k+1)).length=k:=by rw [seg_length];omega
 have:=put_swp g a (seg g (a+1) (k+1)) (g a) (g (k+1)) (seg g (k+1+1) b)
 rw [hl] at this;rw [seg_cons g hk,this,seg_snoc g (by omega:a+1<=k+1),List.append_assoc];rfl
theorem last_fin {g:Nat->α} {a i m:Nat} (h1:a<=i) (h2:i<=m) (h3: ∀k,a<=k->k<i->lt (g m) (g k)=false) (h4: ∀k,i<=k->k<m->lt (g m) (g k)=true):
 mg lt (seg g a m) (seg g m (m+1))=seg g a i++g m::seg g i m:=by
 rw [seg_one,seg_app g h1 h2];refine mg_last _ _ _ ?_ ?_
 . intro y hy;obtain ⟨k,k1,k2,rfl⟩:=mem_seg.1 hy
   exact h3 k k1 k2
 . intro y hy;obtain ⟨k,k1,k2,rfl⟩:=mem_seg.1 hy
   exact h4 k k1 k2
theorem last_start (g:Nat->α) {a m:Nat} (h:a<=m):put g a (seg g a m++g m::seg g m m)=g:=by
 rw [seg_nil g (Nat.le_refl _), <-seg_snoc g h,put_seg]
theorem last_step (g:Nat->α) {a k m:Nat} (h:a<=k) (hk:k+1<=m):swp (put g a (seg g a (k+1)++g m::seg g (k+1) m)) (k+1) k=put g a (seg g a k++g m::seg g k m):=by
 have hl:a+(seg g a k).length=k:=by rw [seg_length];omega
 have:=put_swp g a (seg g a k) (g k) (g m) (seg g (k+1) m)
 rw [hl] at this;rw [swp_comm,seg_snoc g h,List.append_assoc];show swp (put g a (seg g a k++g k::g m::seg g (k+1) m)) k (k+1)=_
 rw [this, <-seg_cons g (by omega:k<m)]
theorem put2 {g H:Nat->α} {a mid b:Nat} {u v:List α} (hH: ∀k,k<a \/b<=k->H k=g k) (hu:u.length=mid-a) (hv:v.length=b-mid) (h1:a<=mid) (h2:mid<=b):put (put H a u) mid v=put g a (u++v):=by
 funext k
 unfold put;rw [List.length_append];by_cases c1:mid<=k/\ k<mid+v.length
 . rw [if_pos c1,if_pos (by omega),List.getD_eq_getElem?_getD,List.getD_eq_getElem?_getD,List.getElem?_append_right (by omega)]
   congr 2;omega
 . rw [if_neg c1];by_cases c2:a<=k/\ k<a+u.length
   . rw [if_pos c2,if_pos (by omega),List.getD_eq_getElem?_getD,List.getD_eq_getElem?_getD,List.getElem?_append_left (by omega)]
   . rw [if_neg c2,if_neg (by omega),hH k (by omega)]
theorem rot_id (g:Nat->α) {s m e:Nat} (h1:s<=m) (h2:m<=e) (h: ¬(s<m/\ m<e)):rot g s m e=g:=by
 funext k;unfold rot
 split
 . congr 1;omega
 . split
   . congr 1;omega
   . rfl
theorem put_id (g:Nat->α) {a s m:Nat} (h1:a<=s) (h2:s<=m) (h: ¬(a<s/\ s<m)):put g a (mg lt (seg g a s) (seg g s m))=g:=by
 have:mg lt (seg g a s) (seg g s m)=seg g a m:=by
  rw [seg_app g h1 h2];rcases (by omega:s=a \/s=m) with rfl|rfl
  . rw [seg_nil g (Nat.le_refl _),mg_nil];rfl
  . rw [seg_nil g (Nat.le_refl s),mg_right,List.append_nil]
 rw [this,put_seg]
theorem sym_segs (g:Nat->α) {a m b s e mid:Nat} (h1:a<=s) (h2:s<=m) (h3:m<=e) (h4:e<=b) (he:e+s=mid+m):
 seg (rot g s m e) a s=seg g a s/\ seg (rot g s m e) s mid=seg g m e/\ seg (rot g s m e) mid e=seg g s m/\ seg (rot g s m e) e b=seg g e b:=by
 have hm:s+(e-m)=mid:=by omega
 refine ⟨?_, ?_, ?_, ?_⟩
 . exact seg_eq fun k _ hk=>rot_out g h2 h3 (.inl hk)
 . have:=seg_rot1 g h2 h3;rw [hm] at this;exact this
 . have:=seg_rot2 g h2 h3;rw [hm] at this;exact this
 . exact seg_eq fun k hk _=>rot_out g h2 h3 (.inr hk)
theorem sym_mg (h:Wk lt) (g:Nat->α) {a m b s e:Nat} (h1:a<=s) (h2:s<=m) (h3:m<=e) (h4:e<=b) (k1:Std lt (seg g a m)) (k2:Std lt (seg g m b))
 (hs:a<s->e<b->lt (g e) (g (s-1))=false) (ht:s<m->m<e->lt (g (e-1)) (g s)=true):
 mg lt (seg g a m) (seg g m b)=mg lt (seg g a s) (seg g m e)++mg lt (seg g s m) (seg g e b):=by
 rw [seg_app g h1 h2,seg_app g h3 h4];refine mg_split _ _ _ _ ?_ ?_
 . intro x hx y hy;obtain ⟨i,i1,i2,rfl⟩:=mem_seg.1 hx
   obtain ⟨j,j1,j2,rfl⟩:=mem_seg.1 hy
   have e1:=std_le h k1 i1 (by omega:i<=s-1) (by omega)
   have e2:=std_le h k2 h3 j1 j2
   exact h.le1 e2 (h.le1 (hs (by omega) (by omega)) e1)
 . intro y hy x hx;obtain ⟨i,i1,i2,rfl⟩:=mem_seg.1 hx
   obtain ⟨j,j1,j2,rfl⟩:=mem_seg.1 hy
   have e1:=std_le h k1 h1 i1 i2
   have e2:=std_le h k2 j1 (by omega:j<=e-1) (by omega)
   exact h.lt2 e1 (h.lt1 e2 (ht (by omega) (by omega)))
theorem sym_fin (h:Wk lt) (g:Nat->α) {a m b s e mid:Nat} (h1:a<=s) (h2:s<=m) (h3:m<=e) (h4:e<=b) (he:e+s=mid+m) (k1:Std lt (seg g a m)) (k2:Std lt (seg g m b))
 (hs:a<s->e<b->lt (g e) (g (s-1))=false) (ht:s<m->m<e->lt (g (e-1)) (g s)=true):
 ∀H1 H2 H3,H1=rot g s m e->H2=put H1 a (mg lt (seg H1 a s) (seg H1 s mid))->H3=put H2 mid (mg lt (seg H2 mid e) (seg H2 e b))->H3=put g a (mg lt (seg g a m) (seg g m b)):=by
 rintro H1 H2 H3 rfl rfl rfl
 obtain ⟨q1,q2,q3,q4⟩:=sym_segs g h1 h2 h3 h4 he
 rw [q1,q2];have hl:(mg lt (seg g a s) (seg g m e)).length=mid-a:=by rw [mg_length,seg_length,seg_length];omega
 have r3:seg (put (rot g s m e) a (mg lt (seg g a s) (seg g m e))) mid e=seg g s m:=by
  rw [<-q3];exact seg_eq fun k hk _=>put_out (.inr (by omega))
 have r4:seg (put (rot g s m e) a (mg lt (seg g a s) (seg g m e))) e b=seg g e b:=by
  rw [<-q4];exact seg_eq fun k hk _=>put_out (.inr (by omega))
 rw [r3,r4,sym_mg h g h1 h2 h3 h4 k1 k2 hs ht];refine put2 (b:=b) (fun k hk=>rot_out g h2 h3 (by omega)) hl (by rw [mg_length,seg_length,seg_length];omega) (by omega) (by omega)
theorem std_rot1 (g:Nat->α) {a m b s e mid:Nat} (h1:a<=s) (h2:s<=m) (h3:m<=e) (h4:e<=b) (he:e+s=mid+m) (k1:Std lt (seg g a m)) (k2:Std lt (seg g m b)):
 ∀H1,H1=rot g s m e->Std lt (seg H1 a s)/\ Std lt (seg H1 s mid)/\ ∀u:List α,u.length=mid-a->Std lt (seg (put H1 a u) mid e)/\ Std lt (seg (put H1 a u) e b):=by
 rintro H1 rfl
 obtain ⟨q1,q2,q3,q4⟩:=sym_segs g h1 h2 h3 h4 he
 refine ⟨q1▸std_sub k1 (Nat.le_refl _) h2,q2▸std_sub k2 (Nat.le_refl _) h4,fun u hu=>⟨?_, ?_⟩⟩
 . have:seg (put (rot g s m e) a u) mid e=seg g s m:=by rw [<-q3];exact seg_eq fun k hk _=>put_out (.inr (by omega))
   rw [this];exact std_sub k1 h1 (Nat.le_refl _)
 . have:seg (put (rot g s m e) a u) e b=seg g e b:=by rw [<-q4];exact seg_eq fun k hk _=>put_out (.inr (by omega))
   rw [this];exact std_sub k2 h3 (Nat.le_refl _)
end
theorem hlf {x y:Nat} (h:x+y<9223372036854775808):IntKind.wrap .i64 ((IntKind.wrap .u64 (IntKind.wrap .i64 ((x:Int)+(y:Int)))).fdiv (2^min (Int.toNat 1) (IntKind.bits .u64)))=(((x+y)/2:Nat):Int):=by
 have e1:IntKind.wrap .i64 ((x:Int)+(y:Int))=((x+y:Nat):Int):=by rw [wI_id _ (by omega) (by omega)];omega
 have e2:IntKind.wrap .u64 ((x+y:Nat):Int)=((x+y:Nat):Int):=by
  simp [IntKind.wrap,IntKind.signed,IntKind.bits]
  omega
 have e3:(2:Int)^min (Int.toNat 1) (IntKind.bits .u64)=2:=by decide
 rw [e1,e2,e3];have e4:(((x+y:Nat):Int)).fdiv 2=(((x+y)/2:Nat):Int):=by
  rw [Int.fdiv_eq_ediv_of_nonneg _ (by omega)];omega
 rw [e4,wI_id _ (by omega) (by omega)]
def FSym (M:Nat):List Ar->Option Rs
 | [.c (.ow 9 n0 f0),.c (.d (.v (.int .i64 i1))),.c (.d (.v (.int .i64 i2))),.c (.d (.v (.int .i64 i3))),.fv g4]=>some ⟨(n0<=1099511627776/\ ∀i,i<n0->rowSB (f0 i))/\ (-9223372036854775808<=i1/\ i1<9223372036854775808)/\ (-9223372036854775808<=i2/\ i2<9223372036854775808)/\ (-9223372036854775808<=i3/\ i3<9223372036854775808)/\ ((0<=i1/\ i1<i2/\ i2<i3/\ i3<=n0)/\ g4=gLess/\ Std ltB (seg (gF f0) (i1).toNat (i2).toNat)/\ Std ltB (seg (gF f0) (i2).toNat (i3).toNat)/\ (i3).toNat-(i1).toNat<M),.tup [],[some fun k=>bdC (put (gF f0) (i1).toNat (mg ltB (seg (gF f0) (i1).toNat (i2).toNat) (seg (gF f0) (i2).toNat (i3).toNat)) k)]⟩
 |_=>none
abbrev pl1L:Plan:= .take 0 (.take 1 (.take 2 (.take 3 (.take 4 (.take 5 (.take 6 (.take 7 (.take 8 (.take 10 (.take 11 (.take 12 (.all [(9,.all [(13,.take 14 (.all [(15,.take 16 (.all [(17,.done)]))]))]),(13,.all [(9,.take 14 (.all [(15,.take 16 (.all [(17,.done)]))]))])]))))))))))))
theorem fcSym: ∀M,FC Tryz.prog 203 (FSym M):=by
 intro M
 induction M with
 |zero=>
  intro xs pre r us h hp;unfold FSym at h;split at h
  . cases h;exact absurd hp.2.2.2.2.2.2.2.2 (Nat.not_lt_zero _)
  . cases h
 |succ M ih=>
  intro xs pre r us h hp;unfold FSym at h;split at h
  . rename_i n0 f0 i1 i2 i3 g4
    cases h;obtain ⟨hp0,hp1,hp2,hp3,hp4⟩:=hp
    refine FCat.deep (ys:= [.c (.ow 9 n0 fun k=>bdC (gF f0 k)),.c (.d (.v (.int .i64 i1))),.c (.d (.v (.int .i64 i2))),.c (.d (.v (.int .i64 i3))),.fv g4]) ?_ ?_
    . repeat' (first|exact trivial|exact rfl|exact DvE.refl _|refine ⟨?_, ?_⟩|fail)
      all_goals first|exact (canonF hp0.2).2.2
    refine fcat tys_ok (l:= [(212,⟨[true],FRot⟩),(203,⟨[true],(FSym M)⟩)]) ⟨fcRot,ih,trivial⟩ Tryz.func203 rfl (by kernel_rfl) false ?_
    obtain ⟨⟨ha,ham,hmb,hb⟩,rfl,hs1,hs2,hM⟩:=hp4
    obtain ⟨a,rfl⟩:=Int.eq_ofNat_of_zero_le ha
    obtain ⟨m,rfl⟩:=Int.eq_ofNat_of_zero_le (Int.le_trans ha (Int.le_of_lt ham))
    obtain ⟨b,rfl⟩:=Int.eq_ofNat_of_zero_le (Int.le_trans (Int.natCast_nonneg m) (Int.le_of_lt hmb))
    have hn:=hp0.1
    clear hp0
    generalize gF f0=G at*
    simp only [Int.toNat_natCast] at*
    repeat' (first|exact trivial|refine ⟨?_, ?_⟩|intro _)
    all_goals first|(with_reducible apply qq)|(conv=>whnf)
    . obtain rfl:m=a+1:=by have:=eq_of_beq ‹(_==(1:Int))=true›;rw [wI_id _ (by omega) (by omega)] at this;omega
      refine loop_ok tys_ok (l:= [(212,⟨[true],FRot⟩),(203,⟨[true],(FSym M)⟩)]) ⟨fcRot,ih,trivial⟩ (by kernel_rfl) (X:=Nat×Nat)
       (fun x=>⟨[(10,vx (.int .i64 x.1)),(11,vx (.int .i64 x.2)),(0,.va (.c (.osl 0 9 0 n0))),(1,vx (.int .i64 a)),(2,vx (.int .i64 (a+1:Nat))),(3,vx (.int .i64 b)),(4,.va (.c (.fv gLess)))],[(0,.row 9 n0 fun k=>bdC (G k))],1,220⟩)
       (fun x=>x.2-x.1) (fun x=>a+1<=x.1/\ x.1<=x.2/\ x.2<=b/\ (∀k,a+1<=k->k<x.1->ltB (G k) (G a)=true)/\ (∀k,x.2<=k->k<b->ltB (G k) (G a)=false)) [] []
       (fun x _ _=>if ltB (G ((x.1+x.2)/2)) (G a)=true then ((x.1+x.2)/2+1,x.2) else (x.1,(x.1+x.2)/2)) [0] [0] 0 0 (a+1,b) ?_ ?_ ?_
      . exact ⟨Nat.le_refl _,by show a+1<=b;omega,Nat.le_refl _,fun k h1 h2=>absurd h1 (Nat.not_le_of_lt h2),fun k h1 h2=>absurd h1 (Nat.not_le_of_lt h2)⟩
      . repeat' (first|exact trivial|exact rfl|(intro _ _;exact rfl)|refine ⟨?_, ?_⟩|fail)
      . rintro ⟨i,j⟩ ⟨k1,k2,k3,k4,k5⟩
        dsimp only at k1 k2 k3 k4 k5
        rcases Nat.lt_or_ge i j with hij|hij
        . have hne:decide ((i:Int)<(j:Int))=true:=decide_eq_true (by omega)
          have hh:IntKind.wrap .i64 ((IntKind.wrap .u64 (IntKind.wrap .i64 ((i:Int)+(j:Int)))).fdiv (2^min (Int.toNat 1) (IntKind.bits .u64)))=(((i+j)/2:Nat):Int):=hlf (by omega)
          have hq1:i<=(i+j)/2:=by omega
          have hq2:(i+j)/2<j:=by omega
          generalize hq:(i+j)/2=q at*
          cases hc:ltB (G q) (G a) with
          |true=>
           repeat' (first|exact trivial|refine ⟨?_, ?_⟩|intro _)
           all_goals first|(with_reducible apply qq)|(conv=>whnf)
           all_goals first|(exact absurd (hne.symm.trans ‹_=false›) (by decide))|skip
           all_goals first|(have hd:=‹decide (cfL _ _<0)=false›;simp only [hh,Int.toNat_natCast,Nat.zero_add] at hd;exact absurd (hc.symm.trans hd) (by decide))|skip
           all_goals (try simp only [hh,hq,hc,if_true,Int.toNat_natCast,Nat.zero_add])
           all_goals first|rfl|omega|(dsimp only;omega)|(exact congrArg (Value.int .i64) (by first|(rw [wI_id _ (by omega) (by omega)];omega)|omega|(dsimp only;omega)))|(rename_i kk h1 h2;simp only [hq,hc,if_true] at h1 h2;first|exact k4 _ h1 h2|exact k5 _ h1 h2|exact wkB.lt1 (std_le wkB hs2 (by omega) (by omega) (by omega)) hc)
          |false=>
           repeat' (first|exact trivial|refine ⟨?_, ?_⟩|intro _)
           all_goals first|(with_reducible apply qq)|(conv=>whnf)
           all_goals first|(exact absurd (hne.symm.trans ‹_=false›) (by decide))|skip
           all_goals first|(have hd:=‹decide (cfL _ _<0)=true›;simp only [hh,Int.toNat_natCast,Nat.zero_add] at hd;exact absurd (hc.symm.trans hd) (by decide))|skip
           all_goals (try simp only [hh,hq,hc,if_false,Bool.false_eq_true,Int.toNat_natCast,Nat.zero_add])
           all_goals first|rfl|omega|(dsimp only;omega)|(exact congrArg (Value.int .i64) (by first|(rw [wI_id _ (by omega) (by omega)];omega)|omega|(dsimp only;omega)))|(rename_i kk h1 h2;simp only [hq,hc,if_false,Bool.false_eq_true] at h1 h2;first|exact k4 _ h1 h2|exact k5 _ h1 h2|exact wkB.le1 (std_le wkB hs2 (by omega) (by omega) (by omega)) hc)
        . have hne:decide ((i:Int)<(j:Int))=false:=decide_eq_false (by omega)
          obtain rfl:i=j:=by omega
          repeat' (first|exact trivial|refine ⟨?_, ?_⟩|intro _)
          all_goals first|(with_reducible apply qq)|(conv=>whnf)
          all_goals first|(exact absurd (hne.symm.trans ‹_=true›) (by decide))|skip
          refine loop_ok tys_ok (l:= [(212,⟨[true],FRot⟩),(203,⟨[true],(FSym M)⟩)]) ⟨fcRot,ih,trivial⟩ (by kernel_rfl) (X:=Nat)
           (fun k=>⟨[(13,vx (.int .i64 k)),(10,vx (.int .i64 i)),(0,.va (.c (.osl 0 9 0 n0))),(1,vx (.int .i64 a)),(2,vx (.int .i64 (a+1:Nat))),(3,vx (.int .i64 b)),(4,.va (.c (.fv gLess)))],[(0,.row 9 n0 fun x=>bdC (put G a (seg G (a+1) (k+1)++G a::seg G (k+1) b) x))],1,220⟩)
           (fun k=>i-k) (fun k=>a<=k/\ k+1<=i) [] [] (fun k _ _=>k+1) [0] [0] 0 0 a ?_ ?_ ?_
          . exact ⟨Nat.le_refl _,k1⟩
          . rw [one_start G (by omega:a<b)]
            repeat' (first|exact trivial|exact rfl|(intro _ _;exact rfl)|refine ⟨?_, ?_⟩|fail)
          . rintro k ⟨q1,q2⟩
            have hw:IntKind.wrap .i64 ((i:Int)-1)=((i-1:Nat):Int):=by rw [wI_id _ (by omega) (by omega)];omega
            have hw2:IntKind.wrap .i64 ((k:Int)+1)=((k+1:Nat):Int):=by rw [wI_id _ (by omega) (by omega)];omega
            rcases Nat.lt_or_ge k (i-1) with hki|hki
            . have hne:decide ((k:Int)<IntKind.wrap .i64 ((i:Int)-1))=true:=by rw [hw];exact decide_eq_true (by omega)
              repeat' (first|exact trivial|refine ⟨?_, ?_⟩|intro _)
              all_goals first|(with_reducible apply qq)|(conv=>whnf)
              all_goals first|(exact absurd (hne.symm.trans ‹_=false›) (by decide))|skip
              all_goals first|((with_reducible show ASat _ _ _ _ _);refine draw_plan tys_ok (l:= [(212,⟨[true],FRot⟩),(203,⟨[true],(FSym M)⟩)]) ⟨fcRot,ih,trivial⟩ (by kernel_rfl) pl1L (by kernel_rfl) ?_)|skip
              all_goals repeat' (first|exact trivial|refine ⟨?_, ?_⟩|intro _)
              all_goals first|(with_reducible apply qq)|(conv=>whnf)
              all_goals (try simp only [hw,hw2,Int.toNat_natCast,Nat.zero_add])
              all_goals (try rw [setRow_at,if_neg (by omega)])
              all_goals repeat' (first|exact trivial|refine ⟨?_, ?_⟩|intro _)
              all_goals first|(with_reducible apply qq)|(conv=>whnf)
              all_goals (try simp only [hw,hw2,Int.toNat_natCast,Nat.zero_add])
              all_goals first|rfl|omega|(dsimp only;omega)|(exact congrArg (Value.int .i64) (by first|(rw [wI_id _ (by omega) (by omega)];omega)|omega|(dsimp only;omega)))|(exact row_swp rfl rfl (one_step G (by omega) (by omega)) _)
            . have hne:decide ((k:Int)<IntKind.wrap .i64 ((i:Int)-1))=false:=by rw [hw];exact decide_eq_false (by omega)
              obtain rfl:i=k+1:=by omega
              repeat' (first|exact trivial|refine ⟨?_, ?_⟩|intro _)
              all_goals first|(with_reducible apply qq)|(conv=>whnf)
              all_goals first|(exact absurd (hne.symm.trans ‹_=true›) (by decide))|skip
              all_goals first|exact Nat.le_refl _|(rw [one_fin k1 k3 k4 k5])
    . obtain rfl:b=m+1:=by have:=eq_of_beq ‹(IntKind.wrap .i64 ((b:Int)-(m:Int))==(1:Int))=true›;rw [wI_id _ (by omega) (by omega)] at this;omega
      refine loop_ok tys_ok (l:= [(212,⟨[true],FRot⟩),(203,⟨[true],(FSym M)⟩)]) ⟨fcRot,ih,trivial⟩ (by kernel_rfl) (X:=Nat×Nat)
       (fun x=>⟨[(14,vx (.int .i64 x.1)),(15,vx (.int .i64 x.2)),(0,.va (.c (.osl 0 9 0 n0))),(1,vx (.int .i64 a)),(2,vx (.int .i64 m)),(3,vx (.int .i64 (m+1:Nat))),(4,.va (.c (.fv gLess)))],[(0,.row 9 n0 fun k=>bdC (G k))],1,220⟩)
       (fun x=>x.2-x.1) (fun x=>a<=x.1/\ x.1<=x.2/\ x.2<=m/\ (∀k,a<=k->k<x.1->ltB (G m) (G k)=false)/\ (∀k,x.2<=k->k<m->ltB (G m) (G k)=true)) [] []
       (fun x _ _=>if ltB (G m) (G ((x.1+x.2)/2))=true then (x.1,(x.1+x.2)/2) else ((x.1+x.2)/2+1,x.2)) [0] [0] 0 0 (a,m) ?_ ?_ ?_
      . exact ⟨Nat.le_refl _,by show a<=m;omega,Nat.le_refl _,fun k h1 h2=>absurd h1 (Nat.not_le_of_lt h2),fun k h1 h2=>absurd h1 (Nat.not_le_of_lt h2)⟩
      . repeat' (first|exact trivial|exact rfl|(intro _ _;exact rfl)|refine ⟨?_, ?_⟩|fail)
      . rintro ⟨i,j⟩ ⟨k1,k2,k3,k4,k5⟩
        dsimp only at k1 k2 k3 k4 k5
        rcases Nat.lt_or_ge i j with hij|hij
        . have hne:decide ((i:Int)<(j:Int))=true:=decide_eq_true (by omega)
          have hh:IntKind.wrap .i64 ((IntKind.wrap .u64 (IntKind.wrap .i64 ((i:Int)+(j:Int)))).fdiv (2^min (Int.toNat 1) (IntKind.bits .u64)))=(((i+j)/2:Nat):Int):=hlf (by omega)
          have hq1:i<=(i+j)/2:=by omega
          have hq2:(i+j)/2<j:=by omega
          generalize hq:(i+j)/2=q at*
          cases hc:ltB (G m) (G q) with
          |true=>
           repeat' (first|exact trivial|refine ⟨?_, ?_⟩|intro _)
           all_goals first|(with_reducible apply qq)|(conv=>whnf)
           all_goals first|(exact absurd (hne.symm.trans ‹_=false›) (by decide))|skip
           all_goals first|(have hd:=‹(!decide (cfL _ _<0))=true›;simp only [hh,Int.toNat_natCast,Nat.zero_add] at hd;exact absurd ((congrArg not hc).symm.trans hd) (by decide))|skip
           all_goals (try simp only [hh,hq,hc,if_true,Int.toNat_natCast,Nat.zero_add])
           all_goals first|rfl|omega|(dsimp only;omega)|(exact congrArg (Value.int .i64) (by first|(rw [wI_id _ (by omega) (by omega)];omega)|omega|(dsimp only;omega)))|(rename_i kk h1 h2;simp only [hq,hc,if_true] at h1 h2;first|exact k4 _ h1 h2|exact k5 _ h1 h2|exact wkB.lt2 (std_le wkB hs1 (by omega) (by omega) (by omega)) hc)
          |false=>
           repeat' (first|exact trivial|refine ⟨?_, ?_⟩|intro _)
           all_goals first|(with_reducible apply qq)|(conv=>whnf)
           all_goals first|(exact absurd (hne.symm.trans ‹_=false›) (by decide))|skip
           all_goals first|(have hd:=‹(!decide (cfL _ _<0))=false›;simp only [hh,Int.toNat_natCast,Nat.zero_add] at hd;exact absurd ((congrArg not hc).symm.trans hd) (by decide))|skip
           all_goals (try simp only [hh,hq,hc,if_false,Bool.false_eq_true,Int.toNat_natCast,Nat.zero_add])
           all_goals first|rfl|omega|(dsimp only;omega)|(exact congrArg (Value.int .i64) (by first|(rw [wI_id _ (by omega) (by omega)];omega)|omega|(dsimp only;omega)))|(rename_i kk h1 h2;simp only [hq,hc,if_false,Bool.false_eq_true] at h1 h2;first|exact k4 _ h1 h2|exact k5 _ h1 h2|exact wkB.le1 hc (std_le wkB hs1 (by omega) (by omega) (by omega)))
        . have hne:decide ((i:Int)<(j:Int))=false:=decide_eq_false (by omega)
          obtain rfl:i=j:=by omega
          repeat' (first|exact trivial|refine ⟨?_, ?_⟩|intro _)
          all_goals first|(with_reducible apply qq)|(conv=>whnf)
          all_goals first|(exact absurd (hne.symm.trans ‹_=true›) (by decide))|skip
          refine loop_ok tys_ok (l:= [(212,⟨[true],FRot⟩),(203,⟨[true],(FSym M)⟩)]) ⟨fcRot,ih,trivial⟩ (by kernel_rfl) (X:=Nat)
           (fun k=>⟨[(17,vx (.int .i64 k)),(14,vx (.int .i64 i)),(0,.va (.c (.osl 0 9 0 n0))),(1,vx (.int .i64 a)),(2,vx (.int .i64 m)),(3,vx (.int .i64 (m+1:Nat))),(4,.va (.c (.fv gLess)))],[(0,.row 9 n0 fun x=>bdC (put G a (seg G a k++G m::seg G k m) x))],1,220⟩)
           (fun k=>k-i) (fun k=>i<=k/\ k<=m) [] [] (fun k _ _=>k-1) [0] [0] 0 0 m ?_ ?_ ?_
          . exact ⟨k3,Nat.le_refl _⟩
          . rw [last_start G (by omega:a<=m)]
            repeat' (first|exact trivial|exact rfl|(intro _ _;exact rfl)|refine ⟨?_, ?_⟩|fail)
          . rintro k ⟨q1,q2⟩
            rcases Nat.lt_or_ge i k with hki|hki
            . obtain ⟨p,rfl⟩: ∃p,k=p+1:=⟨k-1,by omega⟩
              have hw:IntKind.wrap .i64 (((p+1:Nat):Int)-1)=(p:Int):=by rw [wI_id _ (by omega) (by omega)];omega
              have hne:decide (((p+1:Nat):Int)>(i:Int))=true:=decide_eq_true (by omega)
              repeat' (first|exact trivial|refine ⟨?_, ?_⟩|intro _)
              all_goals first|(with_reducible apply qq)|(conv=>whnf)
              all_goals first|(exact absurd (hne.symm.trans ‹_=false›) (by decide))|skip
              all_goals first|((with_reducible show ASat _ _ _ _ _);refine draw_plan tys_ok (l:= [(212,⟨[true],FRot⟩),(203,⟨[true],(FSym M)⟩)]) ⟨fcRot,ih,trivial⟩ (by kernel_rfl) pl1L (by kernel_rfl) ?_)|skip
              all_goals repeat' (first|exact trivial|refine ⟨?_, ?_⟩|intro _)
              all_goals first|(with_reducible apply qq)|(conv=>whnf)
              all_goals (try simp only [hw,Int.toNat_natCast,Nat.zero_add])
              all_goals (try rw [setRow_at,if_neg (by omega)])
              all_goals repeat' (first|exact trivial|refine ⟨?_, ?_⟩|intro _)
              all_goals first|(with_reducible apply qq)|(conv=>whnf)
              all_goals (try simp only [hw,Int.toNat_natCast,Nat.zero_add,Nat.add_sub_cancel])
              all_goals first|rfl|omega|(dsimp only;omega)|(exact congrArg (Value.int .i64) (by first|(rw [wI_id _ (by omega) (by omega)];omega)|omega|(dsimp only;omega)))|(exact row_swp rfl rfl (last_step G (by omega) (by omega)) _)
            . obtain rfl:i=k:=by omega
              have hne:decide ((i:Int)>(i:Int))=false:=decide_eq_false (by omega)
              repeat' (first|exact trivial|refine ⟨?_, ?_⟩|intro _)
              all_goals first|(with_reducible apply qq)|(conv=>whnf)
              all_goals first|(exact absurd (hne.symm.trans ‹_=true›) (by decide))|skip
              all_goals first|exact Nat.le_refl _|(rw [last_fin k1 k3 k4 k5])
    . obtain ⟨mid,hmid0⟩: ∃mid,mid=(a+b)/2:=⟨_,rfl⟩
      have hmid:IntKind.wrap .i64 ((IntKind.wrap .u64 (IntKind.wrap .i64 ((a:Int)+(b:Int)))).fdiv (2^min (Int.toNat 1) (IntKind.bits .u64)))=(mid:Int):=by rw [hlf (by omega),hmid0]
      have hm2:a+2<=m/\ m+2<=b:=by
       have h1:=ne_of_beq_false ‹(IntKind.wrap .i64 ((m:Int)-(a:Int))==(1:Int))=false›
       have h2:=ne_of_beq_false ‹(IntKind.wrap .i64 ((b:Int)-(m:Int))==(1:Int))=false›
       rw [wI_id _ (by omega) (by omega)] at h1 h2;omega
      have hm1:a<mid/\ mid<b/\ 2*mid<=a+b/\ a+b<=2*mid+1:=by omega
      clear hmid0;have hwn:IntKind.wrap .i64 ((mid:Int)+(m:Int))=((mid+m:Nat):Int):=by rw [wI_id _ (by omega) (by omega)];omega
      have hwp:IntKind.wrap .i64 (((mid+m:Nat):Int)-1)=((mid+m-1:Nat):Int):=by rw [wI_id _ (by omega) (by omega)];omega
      have hwl:IntKind.wrap .i64 (((mid+m:Nat):Int)-(b:Int))=((mid+m:Nat):Int)-(b:Int):=by rw [wI_id _ (by omega) (by omega)]
      have hx:=of_decide_eq_true ‹decide ((m:Int)>_)=true›
      rw [hmid] at hx;have hlh:a<=(mid+m-b)/\ (mid+m-b)<=mid/\ mid<=mid/\ mid<=m/\ mid+m-(mid+m-b)<=b/\ ((mid+m-b)=a \/mid+m-(mid+m-b)=b)/\ (mid=mid \/mid=m):=by
       omega
      refine loop_ok tys_ok (l:= [(212,⟨[true],FRot⟩),(203,⟨[true],(FSym M)⟩)]) ⟨fcRot,ih,trivial⟩ (by kernel_rfl) (X:=Nat×Nat)
       (fun x=>⟨[(20,vx (.int .i64 x.1)),(21,vx (.int .i64 x.2)),(22,vx (.int .i64 (mid+m-1:Nat))),(18,vx (.int .i64 mid)),(19,vx (.int .i64 (mid+m:Nat))),(0,.va (.c (.osl 0 9 0 n0))),(1,vx (.int .i64 a)),(2,vx (.int .i64 m)),(3,vx (.int .i64 b)),(4,.va (.c (.fv gLess)))],[(0,.row 9 n0 fun k=>bdC (G k))],1,220⟩)
       (fun x=>x.2-x.1) (fun x=>(mid+m-b)<=x.1/\ x.1<=x.2/\ x.2<=mid/\ (∀k,(mid+m-b)<=k->k<x.1->ltB (G (mid+m-1-k)) (G k)=false)/\ (∀k,x.2<=k->k<mid->ltB (G (mid+m-1-k)) (G k)=true)) [] []
       (fun x _ _=>if ltB (G (mid+m-1-(x.1+x.2)/2)) (G ((x.1+x.2)/2))=true then (x.1,(x.1+x.2)/2) else ((x.1+x.2)/2+1,x.2)) [0] [0] 0 0 ((mid+m-b),mid) ?_ ?_ ?_
      . exact ⟨Nat.le_refl _,hlh.2.1,Nat.le_refl _,fun k h1 h2=>absurd h1 (Nat.not_le_of_lt h2),fun k h1 h2=>absurd h1 (Nat.not_le_of_lt h2)⟩
      . repeat' (first|exact trivial|exact rfl|(intro _ _;exact rfl)|refine ⟨?_, ?_⟩|fail)
        all_goals (refine congrArg (Value.int .i64) ?_;simp only [hmid,hwn,hwp,hwl]<;>omega)
      . rintro ⟨i,j⟩ ⟨k1,k2,k3,k4,k5⟩
        dsimp only at k1 k2 k3 k4 k5
        rcases Nat.lt_or_ge i j with hij|hij
        . have hne:decide ((i:Int)<(j:Int))=true:=decide_eq_true (by omega)
          have hh:IntKind.wrap .i64 ((IntKind.wrap .u64 (IntKind.wrap .i64 ((i:Int)+(j:Int)))).fdiv (2^min (Int.toNat 1) (IntKind.bits .u64)))=(((i+j)/2:Nat):Int):=hlf (by omega)
          have hq1:i<=(i+j)/2:=by omega
          have hq2:(i+j)/2<j:=by omega
          generalize hq:(i+j)/2=q at*
          have hwc:IntKind.wrap .i64 (((mid+m-1:Nat):Int)-(q:Int))=((mid+m-1-q:Nat):Int):=by rw [wI_id _ (by omega) (by omega)];omega
          cases hc:ltB (G (mid+m-1-q)) (G q) with
          |true=>
           repeat' (first|exact trivial|refine ⟨?_, ?_⟩|intro _)
           all_goals first|(with_reducible apply qq)|(conv=>whnf)
           all_goals first|(exact absurd (hne.symm.trans ‹_=false›) (by decide))|skip
           all_goals first|(have hd:=‹(!decide (cfL _ _<0))=true›;simp only [hh,hwc,Int.toNat_natCast,Nat.zero_add] at hd;exact absurd ((congrArg not hc).symm.trans hd) (by decide))|skip
           all_goals (try simp only [hh,hq,hc,hwc,if_true,Int.toNat_natCast,Nat.zero_add])
           all_goals first|rfl|omega|(dsimp only;omega)|(exact congrArg (Value.int .i64) (by first|(rw [wI_id _ (by omega) (by omega)];omega)|omega|(dsimp only;omega)))|(rename_i kk h1 h2;simp only [hq,hc,if_true] at h1 h2;first|exact k4 _ h1 h2|exact k5 _ h1 h2|exact wkB.lt2 (std_le wkB hs1 (by omega) h1 (by omega)) (wkB.lt1 (std_le wkB hs2 (by omega) (by omega) (by omega)) hc))
          |false=>
           repeat' (first|exact trivial|refine ⟨?_, ?_⟩|intro _)
           all_goals first|(with_reducible apply qq)|(conv=>whnf)
           all_goals first|(exact absurd (hne.symm.trans ‹_=false›) (by decide))|skip
           all_goals first|(have hd:=‹(!decide (cfL _ _<0))=false›;simp only [hh,hwc,Int.toNat_natCast,Nat.zero_add] at hd;exact absurd ((congrArg not hc).symm.trans hd) (by decide))|skip
           all_goals (try simp only [hh,hq,hc,hwc,if_false,Bool.false_eq_true,Int.toNat_natCast,Nat.zero_add])
           all_goals first|rfl|omega|(dsimp only;omega)|(exact congrArg (Value.int .i64) (by first|(rw [wI_id _ (by omega) (by omega)];omega)|omega|(dsimp only;omega)))|(rename_i kk h1 h2;simp only [hq,hc,if_false,Bool.false_eq_true] at h1 h2;first|exact k4 _ h1 h2|exact k5 _ h1 h2|exact wkB.le1 (std_le wkB hs2 (by omega) (by omega) (by omega)) (wkB.le1 hc (std_le wkB hs1 (by omega) (by omega) (by omega))))
        . have hne:decide ((i:Int)<(j:Int))=false:=decide_eq_false (by omega)
          obtain rfl:i=j:=by omega
          obtain ⟨e,he0⟩: ∃e,e=mid+m-i:=⟨_,rfl⟩
          have he:e+i=mid+m:=by omega
          have hwe:IntKind.wrap .i64 (((mid+m:Nat):Int)-(i:Int))=(e:Int):=by rw [wI_id _ (by omega) (by omega)];omega
          have hb1:a<=i/\ i<=m/\ m<=e/\ e<=b/\ i<=mid/\ mid<=e:=by omega
          have hx1:a<i->e<b->ltB (G e) (G (i-1))=false:=by
           intro h1 h2;have:=k4 (i-1) (by omega) (by omega)
           rw [show mid+m-1-(i-1)=e by omega] at this;exact this
          have hx2:i<m->m<e->ltB (G (e-1)) (G i)=true:=by
           intro h1 h2;have:=k5 i (Nat.le_refl _) (by omega)
           rw [show mid+m-1-i=e-1 by omega] at this;exact this
          have hfin:=sym_fin wkB G hb1.1 hb1.2.1 hb1.2.2.1 hb1.2.2.2.1 he hs1 hs2 hx1 hx2
          have hst1:=std_rot1 G hb1.1 hb1.2.1 hb1.2.2.1 hb1.2.2.2.1 he hs1 hs2
          have hst2: ∀H1 H2,H1=rot G i m e->H2=put H1 a (mg ltB (seg H1 a i) (seg H1 i mid))->Std ltB (seg H2 mid e)/\ Std ltB (seg H2 e b):=by
           rintro H1 H2 h1 rfl
           exact (hst1 H1 h1).2.2 _ (by rw [mg_length,seg_length,seg_length];omega)
          have hok: ∀(H:Nat->Bd) (i:Nat),i<n0->rowSB (bdC (H i)):=fun H i _=>rowSB_bdC _
          clear hx1 hx2 k4 k5 hlh hwl hwn hwp hmid he0
          repeat' (first|exact trivial|(with_reducible first|exact (hok _)|exact (fun h=>absurd (hne.symm.trans h) Bool.false_ne_true))|refine ⟨?_, ?_⟩|(intro h;(first|have h1:=of_decide_eq_true h|have h1:=of_decide_eq_false h);clear h;(try simp only [hwe] at h1);(try dsimp only at h1);try (exfalso;omega))|intro _)
          all_goals first|(with_reducible apply qq)|(conv=>whnf)
          all_goals (try dsimp only)
          all_goals first|rfl|omega|skip
          all_goals (try simp only [hwe,gF_bdC,Int.toNat_natCast])
          all_goals first|rfl|omega|(exact congrArg bdC (congrFun (hfin _ _ _ rfl rfl rfl) _))|(exact congrArg bdC (congrFun (hfin _ _ _ rfl rfl (put_id _ hb1.2.2.2.2.2 hb1.2.2.2.1 (by omega)).symm) _))|(exact congrArg bdC (congrFun (hfin _ _ _ rfl (put_id _ hb1.1 hb1.2.2.2.2.1 (by omega)).symm rfl) _))|(exact congrArg bdC (congrFun (hfin _ _ _ rfl (put_id _ hb1.1 hb1.2.2.2.2.1 (by omega)).symm (put_id _ hb1.2.2.2.2.2 hb1.2.2.2.1 (by omega)).symm) _))|(exact congrArg bdC (congrFun (hfin _ _ _ (rot_id G hb1.2.1 hb1.2.2.1 (by omega)).symm rfl rfl) _))|(exact congrArg bdC (congrFun (hfin _ _ _ (rot_id G hb1.2.1 hb1.2.2.1 (by omega)).symm rfl (put_id _ hb1.2.2.2.2.2 hb1.2.2.2.1 (by omega)).symm) _))|(exact congrArg bdC (congrFun (hfin _ _ _ (rot_id G hb1.2.1 hb1.2.2.1 (by omega)).symm (put_id _ hb1.1 hb1.2.2.2.2.1 (by omega)).symm rfl) _))|(exact congrArg bdC (congrFun (hfin _ _ _ (rot_id G hb1.2.1 hb1.2.2.1 (by omega)).symm (put_id _ hb1.1 hb1.2.2.2.2.1 (by omega)).symm (put_id _ hb1.2.2.2.2.2 hb1.2.2.2.1 (by omega)).symm) _))|exact (hst1 _ rfl).1|exact (hst1 _ rfl).2.1|exact (hst1 _ (rot_id G hb1.2.1 hb1.2.2.1 (by omega)).symm).1|exact (hst1 _ (rot_id G hb1.2.1 hb1.2.2.1 (by omega)).symm).2.1|exact (hst2 _ _ rfl rfl).1|exact (hst2 _ _ rfl rfl).2|exact (hst2 _ _ rfl (put_id _ hb1.1 hb1.2.2.2.2.1 (by omega)).symm).1|exact (hst2 _ _ rfl (put_id _ hb1.1 hb1.2.2.2.2.1 (by omega)).symm).2|exact (hst2 _ _ (rot_id G hb1.2.1 hb1.2.2.1 (by omega)).symm rfl).1|exact (hst2 _ _ (rot_id G hb1.2.1 hb1.2.2.1 (by omega)).symm rfl).2|exact (hst2 _ _ (rot_id G hb1.2.1 hb1.2.2.1 (by omega)).symm (put_id _ hb1.1 hb1.2.2.2.2.1 (by omega)).symm).1|exact (hst2 _ _ (rot_id G hb1.2.1 hb1.2.2.1 (by omega)).symm (put_id _ hb1.1 hb1.2.2.2.2.1 (by omega)).symm).2|skip
          all_goals trace_state
    . obtain ⟨mid,hmid0⟩: ∃mid,mid=(a+b)/2:=⟨_,rfl⟩
      have hmid:IntKind.wrap .i64 ((IntKind.wrap .u64 (IntKind.wrap .i64 ((a:Int)+(b:Int)))).fdiv (2^min (Int.toNat 1) (IntKind.bits .u64)))=(mid:Int):=by rw [hlf (by omega),hmid0]
      have hm2:a+2<=m/\ m+2<=b:=by
       have h1:=ne_of_beq_false ‹(IntKind.wrap .i64 ((m:Int)-(a:Int))==(1:Int))=false›
       have h2:=ne_of_beq_false ‹(IntKind.wrap .i64 ((b:Int)-(m:Int))==(1:Int))=false›
       rw [wI_id _ (by omega) (by omega)] at h1 h2;omega
      have hm1:a<mid/\ mid<b/\ 2*mid<=a+b/\ a+b<=2*mid+1:=by omega
      clear hmid0;have hwn:IntKind.wrap .i64 ((mid:Int)+(m:Int))=((mid+m:Nat):Int):=by rw [wI_id _ (by omega) (by omega)];omega
      have hwp:IntKind.wrap .i64 (((mid+m:Nat):Int)-1)=((mid+m-1:Nat):Int):=by rw [wI_id _ (by omega) (by omega)];omega
      have hwl:IntKind.wrap .i64 (((mid+m:Nat):Int)-(b:Int))=((mid+m:Nat):Int)-(b:Int):=by rw [wI_id _ (by omega) (by omega)]
      have hx:=of_decide_eq_false ‹decide ((m:Int)>_)=false›
      rw [hmid] at hx;have hlh:a<=a/\ a<=m/\ m<=mid/\ m<=m/\ mid+m-a<=b/\ (a=a \/mid+m-a=b)/\ (m=mid \/m=m):=by
       omega
      refine loop_ok tys_ok (l:= [(212,⟨[true],FRot⟩),(203,⟨[true],(FSym M)⟩)]) ⟨fcRot,ih,trivial⟩ (by kernel_rfl) (X:=Nat×Nat)
       (fun x=>⟨[(20,vx (.int .i64 x.1)),(21,vx (.int .i64 x.2)),(22,vx (.int .i64 (mid+m-1:Nat))),(18,vx (.int .i64 mid)),(19,vx (.int .i64 (mid+m:Nat))),(0,.va (.c (.osl 0 9 0 n0))),(1,vx (.int .i64 a)),(2,vx (.int .i64 m)),(3,vx (.int .i64 b)),(4,.va (.c (.fv gLess)))],[(0,.row 9 n0 fun k=>bdC (G k))],1,220⟩)
       (fun x=>x.2-x.1) (fun x=>a<=x.1/\ x.1<=x.2/\ x.2<=m/\ (∀k,a<=k->k<x.1->ltB (G (mid+m-1-k)) (G k)=false)/\ (∀k,x.2<=k->k<m->ltB (G (mid+m-1-k)) (G k)=true)) [] []
       (fun x _ _=>if ltB (G (mid+m-1-(x.1+x.2)/2)) (G ((x.1+x.2)/2))=true then (x.1,(x.1+x.2)/2) else ((x.1+x.2)/2+1,x.2)) [0] [0] 0 0 (a,m) ?_ ?_ ?_
      . exact ⟨Nat.le_refl _,hlh.2.1,Nat.le_refl _,fun k h1 h2=>absurd h1 (Nat.not_le_of_lt h2),fun k h1 h2=>absurd h1 (Nat.not_le_of_lt h2)⟩
      . repeat' (first|exact trivial|exact rfl|(intro _ _;exact rfl)|refine ⟨?_, ?_⟩|fail)
        all_goals (refine congrArg (Value.int .i64) ?_;simp only [hmid,hwn,hwp,hwl]<;>omega)
      . rintro ⟨i,j⟩ ⟨k1,k2,k3,k4,k5⟩
        dsimp only at k1 k2 k3 k4 k5
        rcases Nat.lt_or_ge i j with hij|hij
        . have hne:decide ((i:Int)<(j:Int))=true:=decide_eq_true (by omega)
          have hh:IntKind.wrap .i64 ((IntKind.wrap .u64 (IntKind.wrap .i64 ((i:Int)+(j:Int)))).fdiv (2^min (Int.toNat 1) (IntKind.bits .u64)))=(((i+j)/2:Nat):Int):=hlf (by omega)
          have hq1:i<=(i+j)/2:=by omega
          have hq2:(i+j)/2<j:=by omega
          generalize hq:(i+j)/2=q at*
          have hwc:IntKind.wrap .i64 (((mid+m-1:Nat):Int)-(q:Int))=((mid+m-1-q:Nat):Int):=by rw [wI_id _ (by omega) (by omega)];omega
          cases hc:ltB (G (mid+m-1-q)) (G q) with
          |true=>
           repeat' (first|exact trivial|refine ⟨?_, ?_⟩|intro _)
           all_goals first|(with_reducible apply qq)|(conv=>whnf)
           all_goals first|(exact absurd (hne.symm.trans ‹_=false›) (by decide))|skip
           all_goals first|(have hd:=‹(!decide (cfL _ _<0))=true›;simp only [hh,hwc,Int.toNat_natCast,Nat.zero_add] at hd;exact absurd ((congrArg not hc).symm.trans hd) (by decide))|skip
           all_goals (try simp only [hh,hq,hc,hwc,if_true,Int.toNat_natCast,Nat.zero_add])
           all_goals first|rfl|omega|(dsimp only;omega)|(exact congrArg (Value.int .i64) (by first|(rw [wI_id _ (by omega) (by omega)];omega)|omega|(dsimp only;omega)))|(rename_i kk h1 h2;simp only [hq,hc,if_true] at h1 h2;first|exact k4 _ h1 h2|exact k5 _ h1 h2|exact wkB.lt2 (std_le wkB hs1 (by omega) h1 (by omega)) (wkB.lt1 (std_le wkB hs2 (by omega) (by omega) (by omega)) hc))
          |false=>
           repeat' (first|exact trivial|refine ⟨?_, ?_⟩|intro _)
           all_goals first|(with_reducible apply qq)|(conv=>whnf)
           all_goals first|(exact absurd (hne.symm.trans ‹_=false›) (by decide))|skip
           all_goals first|(have hd:=‹(!decide (cfL _ _<0))=false›;simp only [hh,hwc,Int.toNat_natCast,Nat.zero_add] at hd;exact absurd ((congrArg not hc).symm.trans hd) (by decide))|skip
           all_goals (try simp only [hh,hq,hc,hwc,if_false,Bool.false_eq_true,Int.toNat_natCast,Nat.zero_add])
           all_goals first|rfl|omega|(dsimp only;omega)|(exact congrArg (Value.int .i64) (by first|(rw [wI_id _ (by omega) (by omega)];omega)|omega|(dsimp only;omega)))|(rename_i kk h1 h2;simp only [hq,hc,if_false,Bool.false_eq_true] at h1 h2;first|exact k4 _ h1 h2|exact k5 _ h1 h2|exact wkB.le1 (std_le wkB hs2 (by omega) (by omega) (by omega)) (wkB.le1 hc (std_le wkB hs1 (by omega) (by omega) (by omega))))
        . have hne:decide ((i:Int)<(j:Int))=false:=decide_eq_false (by omega)
          obtain rfl:i=j:=by omega
          obtain ⟨e,he0⟩: ∃e,e=mid+m-i:=⟨_,rfl⟩
          have he:e+i=mid+m:=by omega
          have hwe:IntKind.wrap .i64 (((mid+m:Nat):Int)-(i:Int))=(e:Int):=by rw [wI_id _ (by omega) (by omega)];omega
          have hb1:a<=i/\ i<=m/\ m<=e/\ e<=b/\ i<=mid/\ mid<=e:=by omega
          have hx1:a<i->e<b->ltB (G e) (G (i-1))=false:=by
           intro h1 h2;have:=k4 (i-1) (by omega) (by omega)
           rw [show mid+m-1-(i-1)=e by omega] at this;exact this
          have hx2:i<m->m<e->ltB (G (e-1)) (G i)=true:=by
           intro h1 h2;have:=k5 i (Nat.le_refl _) (by omega)
           rw [show mid+m-1-i=e-1 by omega] at this;exact this
          have hfin:=sym_fin wkB G hb1.1 hb1.2.1 hb1.2.2.1 hb1.2.2.2.1 he hs1 hs2 hx1 hx2
          have hst1:=std_rot1 G hb1.1 hb1.2.1 hb1.2.2.1 hb1.2.2.2.1 he hs1 hs2
          have hst2: ∀H1 H2,H1=rot G i m e->H2=put H1 a (mg ltB (seg H1 a i) (seg H1 i mid))->Std ltB (seg H2 mid e)/\ Std ltB (seg H2 e b):=by
           rintro H1 H2 h1 rfl
           exact (hst1 H1 h1).2.2 _ (by rw [mg_length,seg_length,seg_length];omega)
          have hok: ∀(H:Nat->Bd) (i:Nat),i<n0->rowSB (bdC (H i)):=fun H i _=>rowSB_bdC _
          clear hx1 hx2 k4 k5 hlh hwl hwn hwp hmid he0
          repeat' (first|exact trivial|(with_reducible first|exact (hok _)|exact (fun h=>absurd (hne.symm.trans h) Bool.false_ne_true))|refine ⟨?_, ?_⟩|(intro h;(first|have h1:=of_decide_eq_true h|have h1:=of_decide_eq_false h);clear h;(try simp only [hwe] at h1);(try dsimp only at h1);try (exfalso;omega))|intro _)
          all_goals first|(with_reducible apply qq)|(conv=>whnf)
          all_goals (try dsimp only)
          all_goals first|rfl|omega|skip
          all_goals (try simp only [hwe,gF_bdC,Int.toNat_natCast])
          all_goals first|rfl|omega|(exact congrArg bdC (congrFun (hfin _ _ _ rfl rfl rfl) _))|(exact congrArg bdC (congrFun (hfin _ _ _ rfl rfl (put_id _ hb1.2.2.2.2.2 hb1.2.2.2.1 (by omega)).symm) _))|(exact congrArg bdC (congrFun (hfin _ _ _ rfl (put_id _ hb1.1 hb1.2.2.2.2.1 (by omega)).symm rfl) _))|(exact congrArg bdC (congrFun (hfin _ _ _ rfl (put_id _ hb1.1 hb1.2.2.2.2.1 (by omega)).symm (put_id _ hb1.2.2.2.2.2 hb1.2.2.2.1 (by omega)).symm) _))|(exact congrArg bdC (congrFun (hfin _ _ _ (rot_id G hb1.2.1 hb1.2.2.1 (by omega)).symm rfl rfl) _))|(exact congrArg bdC (congrFun (hfin _ _ _ (rot_id G hb1.2.1 hb1.2.2.1 (by omega)).symm rfl (put_id _ hb1.2.2.2.2.2 hb1.2.2.2.1 (by omega)).symm) _))|(exact congrArg bdC (congrFun (hfin _ _ _ (rot_id G hb1.2.1 hb1.2.2.1 (by omega)).symm (put_id _ hb1.1 hb1.2.2.2.2.1 (by omega)).symm rfl) _))|(exact congrArg bdC (congrFun (hfin _ _ _ (rot_id G hb1.2.1 hb1.2.2.1 (by omega)).symm (put_id _ hb1.1 hb1.2.2.2.2.1 (by omega)).symm (put_id _ hb1.2.2.2.2.2 hb1.2.2.2.1 (by omega)).symm) _))|exact (hst1 _ rfl).1|exact (hst1 _ rfl).2.1|exact (hst1 _ (rot_id G hb1.2.1 hb1.2.2.1 (by omega)).symm).1|exact (hst1 _ (rot_id G hb1.2.1 hb1.2.2.1 (by omega)).symm).2.1|exact (hst2 _ _ rfl rfl).1|exact (hst2 _ _ rfl rfl).2|exact (hst2 _ _ rfl (put_id _ hb1.1 hb1.2.2.2.2.1 (by omega)).symm).1|exact (hst2 _ _ rfl (put_id _ hb1.1 hb1.2.2.2.2.1 (by omega)).symm).2|exact (hst2 _ _ (rot_id G hb1.2.1 hb1.2.2.1 (by omega)).symm rfl).1|exact (hst2 _ _ (rot_id G hb1.2.1 hb1.2.2.1 (by omega)).symm rfl).2|exact (hst2 _ _ (rot_id G hb1.2.1 hb1.2.2.1 (by omega)).symm (put_id _ hb1.1 hb1.2.2.2.2.1 (by omega)).symm).1|exact (hst2 _ _ (rot_id G hb1.2.1 hb1.2.2.1 (by omega)).symm (put_id _ hb1.1 hb1.2.2.2.2.1 (by omega)).symm).2|skip
          all_goals trace_state
  . cases h
section
variable {α:Type} [Inhabited α] {lt:α→α→Bool}
def BS (lt:α->α->Bool) (G H:Nat->α) (D n:Nat):Prop:=(∀c,D∣c->c<n->seg H c (min (c+D) n)=srt lt (seg G c (min (c+D) n)))/\ ∀k,n<=k->H k=G k
def PB (lt:α->α->Bool) (G H H':Nat->α) (D a:Nat):Prop:=D∣a/\ (∀c,D∣c->c+D<=a->seg H' c (c+D)=srt lt (seg G c (c+D)))/\ ∀k,a<=k->H' k=H k
theorem dvd_gap {D c a:Nat} (h1:D∣c) (h2:D∣a) (h:c<a):c+D<=a:=by
 have:=Nat.le_of_dvd (by omega) (Nat.dvd_sub h2 h1)
 omega
theorem PB.start (G H:Nat->α) (D:Nat) (hD:0<D):PB lt G H H D 0:=⟨Nat.dvd_zero _,fun c _ h=>by omega,fun _ _=>rfl⟩
theorem PB.step {G H H':Nat->α} {D a:Nat} (h:PB lt G H H' D a) (hD:0<D):PB lt G H (put H' a (srt lt (seg G a (a+D)))) D (a+D):=by
 obtain ⟨h1,h2,h3⟩:=h
 have hl:(srt lt (seg G a (a+D))).length=a+D-a:=by rw [srt_length,seg_length]
 refine ⟨(Nat.dvd_add_right h1).2 (Nat.dvd_refl D),fun c hc hcd=> ?_,fun k hk=> ?_⟩
 . rcases Nat.lt_or_ge c a with hca|hca
   . have:=dvd_gap hc h1 hca
     rw [<-h2 c hc this];exact seg_eq fun k _ hk=>put_out (.inl (by omega))
   . have:c=a:=by omega
     subst this;exact seg_put _ _ _ _ hl (by omega)
 . rw [put_out (.inr (by omega)),h3 k (by omega)]
theorem PB.done {G H H':Nat->α} {D a n:Nat} (h:PB lt G H H' D a) (hD:0<D) (ha:a<=n) (hn:n<a+D) (hH: ∀k,n<=k->H k=G k):BS lt G (put H' a (srt lt (seg G a n))) D n:=by
 obtain ⟨h1,h2,h3⟩:=h
 have hl:(srt lt (seg G a n)).length=n-a:=by rw [srt_length,seg_length]
 refine ⟨fun c hc hcn=> ?_,fun k hk=> ?_⟩
 . rcases Nat.lt_or_ge c a with hca|hca
   . have:=dvd_gap hc h1 hca
     have e:min (c+D) n=c+D:=by omega
     rw [e, <-h2 c hc this];exact seg_eq fun k _ hk=>put_out (.inl (by omega))
   . have:c=a:=by
      rcases Nat.lt_or_ge a c with h4|h4
      . have:=dvd_gap h1 hc h4;omega
      . omega
     subst this;have e:min (c+D) n=n:=by omega
     rw [e];exact seg_put _ _ _ _ hl (by omega)
 . rw [put_out (.inr (by omega)),h3 k (by omega),hH k hk]
theorem BS.two (hw:Wk lt) {G H H':Nat->α} {B a e n:Nat} (h:BS lt G H B n) (hp:PB lt G H H' (2*B) a) (hB:0<B) (h1:a+B<e) (h2:e<=a+2*B) (h3:e<=n) (h4:e=a+2*B \/e=n):
 seg H' a (a+B)=srt lt (seg G a (a+B))/\ seg H' (a+B) e=srt lt (seg G (a+B) e)/\ mg lt (seg H' a (a+B)) (seg H' (a+B) e)=srt lt (seg G a e):=by
 have d1:B∣a:=Nat.dvd_trans ⟨2,Nat.mul_comm 2 B⟩ hp.1
 have d2:B∣a+B:=(Nat.dvd_add_right d1).2 (Nat.dvd_refl B)
 have k1:=h.1 a d1 (by omega)
 have k2:=h.1 (a+B) d2 (by omega)
 rw [show min (a+B) n=a+B by omega] at k1;rw [show min (a+B+B) n=e by omega] at k2;have e1:seg H' a (a+B)=seg H a (a+B):=seg_eq fun k hk _=>hp.2.2 k hk
 have e2:seg H' (a+B) e=seg H (a+B) e:=seg_eq fun k hk _=>hp.2.2 k (by omega)
 rw [e1,e2,k1,k2];refine ⟨rfl,rfl, ?_⟩
 rw [<-srt_append hw, <-seg_app G (by omega) (by omega)]
theorem BS.one {G H H':Nat->α} {B a n:Nat} (h:BS lt G H B n) (hp:PB lt G H H' (2*B) a) (h1:n<=a+B) (h2:a<=n):put H' a (srt lt (seg G a n))=H':=by
 have e1:seg H' a n=srt lt (seg G a n):=by
  rcases Nat.lt_or_ge a n with h3|h3
  . have k1:=h.1 a (Nat.dvd_trans ⟨2,Nat.mul_comm 2 B⟩ hp.1) h3
    rw [show min (a+B) n=n by omega] at k1;rw [<-k1];exact seg_eq fun k hk _=>hp.2.2 k hk
  . rw [seg_nil _ h3,seg_nil _ h3];rfl
 rw [<-e1,put_seg]
theorem BS.fin {G H:Nat->α} {B n:Nat} (h:BS lt G H B n) (hn:n<=B):H=put G 0 (srt lt (seg G 0 n)):=by
 rcases Nat.eq_zero_or_pos n with h0|h0
 . subst h0
   funext k
   rw [h.2 k (Nat.zero_le _)];exact (put_out (by rw [srt_length,seg_length];omega)).symm
 . have k1:=h.1 0 (Nat.dvd_zero _) h0
   rw [show min (0+B) n=n by omega] at k1;rw [<-k1]
   funext k
   rcases Nat.lt_or_ge k n with hk|hk
   . have:=putAt (g:=G) (a:=0) (l:=seg H 0 n) (k:=k) (by rw [seg_length];omega)
     rw [Nat.zero_add] at this;rw [this,seg_getD (by omega),Nat.zero_add]
   . rw [put_out (by rw [seg_length];omega)];exact h.2 k hk
end
def FStable:List Ar->Option Rs
 | [.c (.ow 9 n0 f0),.c (.d (.v (.int .i64 i1))),.fv g2]=>some ⟨(n0<=1099511627776/\ ∀i,i<n0->rowSB (f0 i))/\ (-9223372036854775808<=i1/\ i1<9223372036854775808)/\ ((0<=i1/\ i1<=n0)/\ g2=gLess),.tup [],[some fun k=>bdC (put (gF f0) 0 (srt ltB (seg (gF f0) 0 (i1).toNat)) k)]⟩
 |_=>none
theorem fcStable:FC Tryz.prog 170 FStable:=by
 intro xs pre r us h hp;unfold FStable at h;split at h
 . rename_i n0 f0 i1 g2
   cases h;obtain ⟨hp0,hp1,hp2⟩:=hp
   refine FCat.deep (ys:= [.c (.ow 9 n0 fun k=>bdC (gF f0 k)),.c (.d (.v (.int .i64 i1))),.fv g2]) ?_ ?_
   . repeat' (first|exact trivial|exact rfl|exact DvE.refl _|refine ⟨?_, ?_⟩|fail)
     all_goals first|exact (canonF hp0.2).2.2
   refine fcat tys_ok (l:= [(202,⟨[true],FInsSort⟩),(203,⟨[true],(FSym 2199023255552)⟩)]) ⟨fcInsSort,(fcSym 2199023255552),trivial⟩ Tryz.func170 rfl (by kernel_rfl) false ?_
   obtain ⟨⟨ha,hb⟩,rfl⟩:=hp2
   obtain ⟨n,rfl⟩:=Int.eq_ofNat_of_zero_le ha
   have hn:=hp0.1
   clear hp0
   generalize gF f0=G at*
   have hok: ∀(H:Nat->Bd) (i:Nat),i<n0->rowSB (bdC (H i)):=fun H i _=>rowSB_bdC _
   simp only [Int.toNat_natCast] at*
   repeat' (first|exact trivial|refine ⟨?_, ?_⟩|intro _)
   all_goals first|(with_reducible apply qq)|(conv=>whnf)
   refine loop_ok tys_ok (l:= [(202,⟨[true],FInsSort⟩),(203,⟨[true],(FSym 2199023255552)⟩)]) ⟨fcInsSort,(fcSym 2199023255552),trivial⟩ (by kernel_rfl) (X:=Nat×(Nat->Bd))
    (fun x=>⟨[(6,vx (.int .i64 20)),(7,vx (.int .i64 x.1)),(8,vx (.int .i64 (x.1+20:Nat))),(0,.va (.c (.osl 0 9 0 n0))),(1,vx (.int .i64 n)),(2,.va (.c (.fv gLess)))],[(0,.row 9 n0 fun k=>bdC (x.2 k))],1,63⟩)
    (fun x=>n-x.1) (fun x=>x.1<=n/\ PB ltB G G x.2 20 x.1) [] []
    (fun x _ _=>(x.1+20,put x.2 x.1 (srt ltB (seg x.2 x.1 (x.1+20))))) [0] [0] 0 0 (0,G) ?_ ?_ ?_
   . exact ⟨Nat.zero_le _,PB.start G G 20 (by decide)⟩
   . repeat' (first|exact trivial|exact rfl|(intro _ _;exact rfl)|refine ⟨?_, ?_⟩|fail)
   . rintro ⟨a,H⟩ ⟨k1,k2⟩
     dsimp only at k1 k2
     have hE: ∀e,seg H a e=seg G a e:=fun e=>seg_eq fun k hk _=>k2.2.2 k hk
     have hw:IntKind.wrap .i64 (((a+20:Nat):Int)+20)=((a+20+20:Nat):Int):=by rw [wI_id _ (by omega) (by omega)];omega
     rcases Nat.lt_or_ge n (a+20) with hc|hc
     . have hne:decide (((a+20:Nat):Int)<=(n:Int))=false:=decide_eq_false (by omega)
       repeat' (first|exact trivial|(with_reducible exact (hok _))|refine ⟨?_, ?_⟩|intro _)
       all_goals first|(with_reducible apply qq)|(conv=>whnf)
       all_goals first|(exact absurd (hne.symm.trans ‹_=true›) (by decide))|skip
       all_goals first|omega|(dsimp only;omega)|exact hok _ _ ‹_›|skip
       have hd:=k2.done (by decide) k1 hc (fun _ _=>rfl)
       refine loop_ok tys_ok (l:= [(202,⟨[true],FInsSort⟩),(203,⟨[true],(FSym 2199023255552)⟩)]) ⟨fcInsSort,(fcSym 2199023255552),trivial⟩ (by kernel_rfl) (X:=Nat×(Nat->Bd))
        (fun x=>⟨[(6,vx (.int .i64 x.1)),(0,.va (.c (.osl 0 9 0 n0))),(1,vx (.int .i64 n)),(2,.va (.c (.fv gLess)))],[(0,.row 9 n0 fun k=>bdC (x.2 k))],1,63⟩)
        (fun x=>n-x.1) (fun x=>0<x.1/\ (x.1=20 \/x.1<2*n)/\ BS ltB G x.2 x.1 n) [] [0]
        (fun x _ bs=>(2*x.1,match bs with| [.row _ _ f]=>gF f|_=>G)) [0] [0] 0 0 (20,put H a (srt ltB (seg G a n))) ?_ ?_ ?_
       . exact ⟨Nat.zero_lt_succ _,.inl rfl,hd⟩
       . repeat' (first|exact trivial|exact rfl|(intro _ _;exact rfl)|refine ⟨?_, ?_⟩|fail)
         all_goals (intro i _;dsimp only;simp only [gF_bdC,hE,Int.toNat_natCast])
       . rintro ⟨B,H1⟩ ⟨q1,q2,q3⟩
         dsimp only at q1 q2 q3
         clear hd k1 k2 hE hw hc hne;rcases Nat.lt_or_ge B n with hc|hc
         . have hne:decide ((B:Int)<(n:Int))=true:=decide_eq_true (by omega)
           have hw2:IntKind.wrap .i64 (2*(B:Int))=((2*B:Nat):Int):=by rw [wI_id _ (by omega) (by omega)];omega
           have hw5:IntKind.wrap .i64 ((B:Int)*2)=((2*B:Nat):Int):=by rw [wI_id _ (by omega) (by omega)];omega
           repeat' (first|exact trivial|refine ⟨?_, ?_⟩|intro _)
           all_goals first|(with_reducible apply qq)|(conv=>whnf)
           all_goals first|(exact absurd (hne.symm.trans ‹_=false›) (by decide))|skip
           refine loop_ok tys_ok (l:= [(202,⟨[true],FInsSort⟩),(203,⟨[true],(FSym 2199023255552)⟩)]) ⟨fcInsSort,(fcSym 2199023255552),trivial⟩ (by kernel_rfl) (X:=Nat×(Nat->Bd))
            (fun x=>⟨[(6,vx (.int .i64 B)),(7,vx (.int .i64 x.1)),(8,vx (.int .i64 (x.1+2*B:Nat))),(0,.va (.c (.osl 0 9 0 n0))),(1,vx (.int .i64 n)),(2,.va (.c (.fv gLess)))],[(0,.row 9 n0 fun k=>bdC (x.2 k))],1,63⟩)
            (fun x=>n-x.1) (fun x=>x.1<=n/\ PB ltB G H1 x.2 (2*B) x.1) [] []
            (fun x _ _=>(x.1+2*B,put x.2 x.1 (srt ltB (seg G x.1 (x.1+2*B))))) [0] [0] 0 0 (0,H1) ?_ ?_ ?_
           . exact ⟨Nat.zero_le _,PB.start G H1 (2*B) (by omega)⟩
           . repeat' (first|exact trivial|exact rfl|(intro _ _;exact rfl)|refine ⟨?_, ?_⟩|fail)
             all_goals (refine congrArg (Value.int .i64) ?_;rw [hw2];dsimp only;omega)
           . rintro ⟨a,H⟩ ⟨k1,k2⟩
             dsimp only at k1 k2
             have hw3:IntKind.wrap .i64 ((a:Int)+(B:Int))=((a+B:Nat):Int):=by rw [wI_id _ (by omega) (by omega)];omega
             have hw4:IntKind.wrap .i64 (((a+2*B:Nat):Int)+((2*B:Nat):Int))=((a+2*B+2*B:Nat):Int):=by rw [wI_id _ (by omega) (by omega)];omega
             rcases Nat.lt_or_ge n (a+2*B) with hd|hd
             . have hn2:decide (((a+2*B:Nat):Int)<=(n:Int))=false:=decide_eq_false (by omega)
               have hfin:=k2.done (by omega) k1 hd q3.2
               rcases Nat.lt_or_ge (a+B) n with hm|hm
               . have hn3:decide (IntKind.wrap .i64 ((a:Int)+(B:Int))<(n:Int))=true:=by rw [hw3];exact decide_eq_true (by omega)
                 have ht:=q3.two wkB k2 q1 hm (by omega) (Nat.le_refl n) (.inr rfl)
                 have hs1:Std ltB (seg H a (a+B)):=by rw [ht.1];exact srt_srt wkB _
                 have hs2:Std ltB (seg H (a+B) n):=by rw [ht.2.1];exact srt_srt wkB _
                 repeat' (first|exact trivial|(with_reducible first|exact (hok _)|exact (fun h=>absurd (hn2.symm.trans h) Bool.false_ne_true)|exact (fun h=>absurd (h.symm.trans hn2) Bool.false_ne_true)|exact (fun h=>absurd (hn3.symm.trans h) Bool.false_ne_true)|exact (fun h=>absurd (h.symm.trans hn3) Bool.false_ne_true))|refine ⟨?_, ?_⟩|intro _)
                 all_goals first|(with_reducible apply qq)|(conv=>whnf)
                 all_goals first|(exact absurd (hn2.symm.trans ‹_=true›) (by decide))|(exact absurd (hn3.symm.trans ‹_=false›) (by decide))|skip
                 all_goals (try dsimp only)
                 all_goals (try simp only [hw2,hw3,hw4,hw5,gF_bdC,ht.2.2,Int.toNat_natCast])
                 all_goals first|rfl|omega|exact hs1|exact hs2|exact hfin.1 _ ‹_› ‹_›|exact hfin.2 _ ‹_›
               . have hn3:decide (IntKind.wrap .i64 ((a:Int)+(B:Int))<(n:Int))=false:=by rw [hw3];exact decide_eq_false (by omega)
                 rw [q3.one k2 hm k1] at hfin
                 repeat' (first|exact trivial|(with_reducible first|exact (hok _)|exact (fun h=>absurd (hn2.symm.trans h) Bool.false_ne_true)|exact (fun h=>absurd (h.symm.trans hn2) Bool.false_ne_true)|exact (fun h=>absurd (hn3.symm.trans h) Bool.false_ne_true)|exact (fun h=>absurd (h.symm.trans hn3) Bool.false_ne_true))|refine ⟨?_, ?_⟩|intro _)
                 all_goals first|(with_reducible apply qq)|(conv=>whnf)
                 all_goals first|(exact absurd (hn2.symm.trans ‹_=true›) (by decide))|(exact absurd (hn3.symm.trans ‹_=true›) (by decide))|skip
                 all_goals (try dsimp only)
                 all_goals (try simp only [hw2,hw3,hw4,hw5,gF_bdC,Int.toNat_natCast])
                 all_goals first|rfl|omega|exact hfin.1 _ ‹_› ‹_›|exact hfin.2 _ ‹_›
             . have hn2:decide (((a+2*B:Nat):Int)<=(n:Int))=true:=decide_eq_true (by omega)
               have ht:=q3.two wkB k2 q1 (by omega:a+B<a+2*B) (Nat.le_refl _) hd (.inl rfl)
               have hs1:Std ltB (seg H a (a+B)):=by rw [ht.1];exact srt_srt wkB _
               have hs2:Std ltB (seg H (a+B) (a+2*B)):=by rw [ht.2.1];exact srt_srt wkB _
               have hs:=k2.step (by omega)
               have hdv:=hs.1
               repeat' (first|exact trivial|(with_reducible first|exact (hok _)|exact hdv)|refine ⟨?_, ?_⟩|intro _)
               all_goals first|(with_reducible apply qq)|(conv=>whnf)
               all_goals first|(exact absurd (hn2.symm.trans ‹_=false›) (by decide))|skip
               all_goals (try dsimp only)
               all_goals (try simp only [hw2,hw3,hw4,hw5,gF_bdC,ht.2.2,Int.toNat_natCast])
               all_goals first|rfl|omega|exact hs1|exact hs2|exact hs.1|exact hs.2.1 _ ‹_› ‹_›|exact hs.2.2 _ ‹_›
         . have hne:decide ((B:Int)<(n:Int))=false:=decide_eq_false (by omega)
           have hf:=q3.fin hc
           repeat' (first|exact trivial|refine ⟨?_, ?_⟩|intro _)
           all_goals first|(with_reducible apply qq)|(conv=>whnf)
           all_goals first|(exact absurd (hne.symm.trans ‹_=true›) (by decide))|skip
           all_goals first|exact Nat.le_refl _|exact congrArg bdC (congrFun hf _)
     . have hne:decide (((a+20:Nat):Int)<=(n:Int))=true:=decide_eq_true (by omega)
       have hs:=k2.step (by decide)
       have hdv:=hs.1
       repeat' (first|exact trivial|(with_reducible first|exact (hok _)|exact hdv)|refine ⟨?_, ?_⟩|intro _)
       all_goals first|(with_reducible apply qq)|(conv=>whnf)
       all_goals first|(exact absurd (hne.symm.trans ‹_=false›) (by decide))|skip
       all_goals (try dsimp only)
       all_goals (try simp only [hE,hw,gF_bdC,Int.toNat_natCast])
       all_goals first|rfl|omega|exact hs.1|exact hs.2.1 _ ‹_› ‹_›|exact hs.2.2 _ ‹_›
 . cases h
def ddA (p:Bd):List Bd->List Bd
 | []=> []
 |y::r=>if y.name=p.name then ddA y r else y::ddA y r
def dd:List Bd->List Bd
 | []=> []
 |x::r=>x::ddA x r
theorem ddA_snoc (r:List Bd) (p y:Bd):ddA p (r++ [y])=if y.name=(r.getLastD p).name then ddA p r else ddA p r++ [y]:=by
 induction r generalizing p with
 |nil=>simp only [List.nil_append,ddA];rfl
 |cons x r ih=>
  have e:(x::r).getLastD p=r.getLastD x:=by cases r<;>simp [List.getLastD]
  rw [List.cons_append,ddA,ddA,ih x,e];split<;>split<;>rfl
theorem dd_snoc (l:List Bd) (x y:Bd):dd (l++ [x]++ [y])=if y.name=x.name then dd (l++ [x]) else dd (l++ [x])++ [y]:=by
 cases l with
 |nil=>simp only [List.nil_append,List.cons_append,dd,ddA];split<;>rfl
 |cons a l=>
  have e:(l++ [x]).getLastD a=x:=by simp
  simp only [List.cons_append,dd];rw [ddA_snoc,e];split<;>rfl
theorem ddA_len (r:List Bd) (p:Bd):(ddA p r).length<=r.length:=by
 induction r generalizing p with
 |nil=>exact Nat.le_refl _
 |cons x r ih=>rw [ddA];have:=ih x;split<;>simp<;>omega
theorem dd_len (l:List Bd):(dd l).length<=l.length:=by
 cases l with
 |nil=>exact Nat.le_refl _
 |cons x r=>simp only [dd,List.length_cons];have:=ddA_len r x;omega
theorem dd_seg (G:Nat->Bd) (k:Nat):dd (seg G 0 (k+1+1))=if (G (k+1)).name=(G k).name then dd (seg G 0 (k+1)) else dd (seg G 0 (k+1))++ [G (k+1)]:=by
 rw [seg_snoc G (Nat.zero_le (k+1)),seg_snoc G (Nat.zero_le k),dd_snoc]
theorem dd_small (G:Nat->Bd) {n:Nat} (h:n<2):dd (seg G 0 n)=seg G 0 n:=by
 rcases (by omega:n=0 \/n=1) with rfl|rfl<;>rfl
theorem row_push {G:Nat->Bd} {L:List Bd} {x:Bd} {i:Nat} {r:List DV} (hi:i=L.length) (hr:r=bdC x) (k:Nat):setRow (fun k=>bdC (put G 0 L k)) i r k=bdC (put G 0 (L++ [x]) k):=by
 subst hi;subst hr
 rw [setRow_at];split
 . rename_i h;subst h
   have:=put_mid G 0 L x []
   rw [Nat.zero_add] at this;rw [this]
 . rename_i h
   unfold put;rw [List.length_append];by_cases c:k<L.length
   . rw [if_pos (by omega),if_pos (by simp;omega),List.getD_eq_getElem?_getD,List.getD_eq_getElem?_getD,List.getElem?_append_left (by omega)]
   . rw [if_neg (by omega),if_neg (by simp;omega)]
theorem clr_lo {f:Nat->List DV} {o len:Nat} {ds:List DV} {k:Nat} (h:k<o):clrRow f o len ds k=f k:=by
 unfold clrRow;rw [if_neg (by omega)]
theorem seg_gBs (n:Nat) (f:Nat->List DV):seg (gF f) 0 n=gBs n f:=by
 unfold seg gBs gF;rw [Nat.sub_zero,List.range_eq_range']
theorem put_atB {G:Nat->Bd} {l:List Bd} {k:Nat} (h:k<l.length):put G 0 l k=atB l k:=by
 have:=putAt (g:=G) (a:=0) h
 rw [Nat.zero_add] at this;exact this
theorem seg_at {G:Nat->Bd} {n k:Nat} (h:k<n):atB (seg G 0 n) k=G k:=by
 unfold atB;rw [seg_getD (by omega),Nat.zero_add]
def FSameN:List Ar->Option Rs
 | [.agg [.d (.v (.string x0)),.d (.v (.bool _)),.d (.v (.int .i64 _)),.d (.v (.int .i64 _)),.d (.v (.bool _)),.d (.v (.int .i64 _)),.d (.v (.int .i64 _)),.d (.v (.bool _)),.d (.lst 1 _ _)],.agg [.d (.v (.string x1)),.d (.v (.bool _)),.d (.v (.int .i64 _)),.d (.v (.int .i64 _)),.d (.v (.bool _)),.d (.v (.int .i64 _)),.d (.v (.int .i64 _)),.d (.v (.bool _)),.d (.lst 1 _ _)]]=>some ⟨True,.va (.c (.d (bo (decide (x0=x1))))),[]⟩
 |_=>none
theorem fcSameN:FC Tryz.prog 129 FSameN:=by
 intro xs pre r us h hp;unfold FSameN at h;split at h
 . rename_i x0 s0 l0 h0 b0 m0 r0 z0 n0 f0 x1 s1 l1 h1 b1 m1 r1 z1 n1 f1
   cases h;refine fcat tys_ok (l:= []) trivial Tryz.func129 rfl (by kernel_rfl) false ?_
   repeat' (first|exact trivial|refine ⟨?_, ?_⟩|intro _)
   all_goals first|(with_reducible apply qq)|(conv=>whnf)
   all_goals exact congrArg Value.bool (seq_iff _ _)
 . cases h
abbrev gSame:List Cv->Option Gs:=mkFv (sums [(129,⟨[],FSameN⟩)]) 129 []
def FCompact:List Ar->Option Rs
 | [.c (.ow 9 n0 f0),.fv g1]=>some ⟨(n0<=1099511627776/\ ∀i,i<n0->rowSB (f0 i))/\ (g1=gSame),.va (.c (.ow 9 (dd (gBs n0 f0)).length (rwB (dd (gBs n0 f0))))),[none]⟩
 |_=>none
theorem fcCompact:FC Tryz.prog 128 FCompact:=by
 intro xs pre r us h hp;unfold FCompact at h;split at h
 . rename_i n0 f0 g1
   cases h;obtain ⟨hp0,hp1⟩:=hp
   refine FCat.deep (ys:= [.c (.ow 9 n0 fun k=>bdC (gF f0 k)),.fv g1]) ?_ ?_
   . repeat' (first|exact trivial|exact rfl|exact DvE.refl _|refine ⟨?_, ?_⟩|fail)
     all_goals first|exact (canonF hp0.2).2.2
   refine fcat tys_ok (l:= []) trivial Tryz.func128 rfl (by kernel_rfl) false ?_
   obtain rfl:=hp1
   have hn:=hp0.1
   clear hp0;rw [<-seg_gBs]
   generalize gF f0=G at*
   have hl:=dd_len (seg G 0 n0)
   rw [seg_length] at hl
   repeat' (first|exact trivial|refine ⟨?_, ?_⟩|intro _)
   all_goals first|(with_reducible apply qq)|(conv=>whnf)
   all_goals first|(have hlt:=of_decide_eq_true ‹_=true›;have hd:=dd_small G (n:=n0) (by omega);first|omega|(rw [hd,seg_length];rfl)|(rename_i i hi;rw [hd];exact congrArg bdC (seg_at hi).symm))|skip
   have hge:=of_decide_eq_false ‹_=false›
   refine loop_ok tys_ok (l:= []) trivial (by kernel_rfl) (X:=Nat)
    (fun k=>⟨[(5,vx (.int .i64 (k+1:Nat))),(0,.va (.c (.osl 0 9 0 n0))),(1,.va (.c (.fv gSame)))],[(0,.row 9 n0 fun k=>bdC (G k))],1,66⟩)
    (fun k=>n0-k) (fun k=>k+1<=n0/\ dd (seg G 0 (k+1))=seg G 0 (k+1)) [] [] (fun k _ _=>k+1) [0] [0] 0 0 0 ?_ ?_ ?_
   . exact ⟨by omega,dd_small G (by decide)⟩
   . repeat' (first|exact trivial|exact rfl|(intro _ _;exact rfl)|refine ⟨?_, ?_⟩|fail)
   . rintro k ⟨k1,k2⟩
     have hw:IntKind.wrap .i64 (((k+1:Nat):Int)-1)=(k:Int):=by rw [wI_id _ (by omega) (by omega)];omega
     rcases Nat.lt_or_ge (k+1) n0 with hk|hk
     . have hne:decide (((k+1:Nat):Int)<(n0:Int))=true:=decide_eq_true (by omega)
       have hs:=dd_seg G k
       by_cases hc:(G (k+1)).name=(G k).name
       . have hcd:decide ((G (k+1)).name=(G k).name)=true:=decide_eq_true hc
         rw [if_pos hc] at hs
         repeat' (first|exact trivial|refine ⟨?_, ?_⟩|intro _)
         all_goals first|(with_reducible apply qq)|(conv=>whnf)
         all_goals first|(exact absurd (hne.symm.trans ‹_=false›) (by decide))|skip
         all_goals first|(have hd:=‹decide ((G _).name=_)=false›;simp only [hw,Int.toNat_natCast,Nat.zero_add] at hd;exact absurd (hcd.symm.trans hd) (by decide))|skip
         all_goals (try simp only [hw,Int.toNat_natCast,Nat.zero_add])
         all_goals first|omega|skip
         refine loop_ok tys_ok (l:= []) trivial (by kernel_rfl) (X:=Nat)
          (fun j=>⟨[(7,vx (.int .i64 (j+1:Nat))),(6,.va (.c (.osl 0 9 (k+1) (n0-(k+1))))),(5,vx (.int .i64 (dd (seg G 0 (k+1+(j+1)))).length)),(0,.va (.c (.osl 0 9 0 n0))),(1,.va (.c (.fv gSame)))],[(0,.row 9 n0 fun x=>bdC (put G 0 (dd (seg G 0 (k+1+(j+1)))) x))],1,66⟩)
          (fun j=>n0-j) (fun j=>k+1+(j+1)<=n0/\ (dd (seg G 0 (k+1+(j+1)))).length<=k+1+j) [] [] (fun j _ _=>j+1) [0] [0] 0 0 0 ?_ ?_ ?_
         . exact ⟨by omega,by rw [hs,k2,seg_length];omega⟩
         . rw [hs,k2,put_seg,seg_length]
           repeat' (first|exact trivial|exact rfl|(intro _ _;exact rfl)|refine ⟨?_, ?_⟩|fail)
           all_goals omega
         . rintro j ⟨q1,q2⟩
           have hw2:IntKind.wrap .i64 (((j+1:Nat):Int)-1)=(j:Int):=by rw [wI_id _ (by omega) (by omega)];omega
           have hg1:put G 0 (dd (seg G 0 (k+1+(j+1)))) (k+1+(j+1))=G (k+1+(j+1)):=put_out (.inr (by omega))
           have hg2:put G 0 (dd (seg G 0 (k+1+(j+1)))) (k+1+j)=G (k+1+j):=put_out (.inr (by omega))
           rcases Nat.lt_or_ge (k+1+(j+1)) n0 with hj|hj
           . have hne2:decide (((j+1:Nat):Int)<((n0-(k+1):Nat):Int))=true:=decide_eq_true (by omega)
             have hs2:=dd_seg G (k+1+j)
             rw [show k+1+j+1=k+1+(j+1) by omega,show k+1+(j+1)+1=k+1+(j+1+1) by omega] at hs2;by_cases hc2:(G (k+1+(j+1))).name=(G (k+1+j)).name
             . have hcd2:decide ((G (k+1+(j+1))).name=(G (k+1+j)).name)=true:=decide_eq_true hc2
               rw [if_pos hc2] at hs2
               repeat' (first|exact trivial|refine ⟨?_, ?_⟩|intro _)
               all_goals first|(with_reducible apply qq)|(conv=>whnf)
               all_goals first|(exact absurd (hne2.symm.trans ‹_=false›) (by decide))|skip
               all_goals first|(have hd:=‹(!decide ((put G 0 _ _).name=_))=true›;simp only [hw2,hg1,hg2,hcd2,Int.toNat_natCast] at hd;exact absurd hd (by decide))|skip
               all_goals (try simp only [hw2,hs2,Int.toNat_natCast])
               all_goals first|rfl|omega|(exact congrArg (Value.int .i64) (by first|(rw [wI_id _ (by omega) (by omega)];omega)|omega|(dsimp only;omega)))
             . have hcd2:decide ((G (k+1+(j+1))).name=(G (k+1+j)).name)=false:=decide_eq_false hc2
               rw [if_neg hc2] at hs2;have hlen:(dd (seg G 0 (k+1+(j+1+1)))).length=(dd (seg G 0 (k+1+(j+1)))).length+1:=by rw [hs2];simp
               repeat' (first|exact trivial|refine ⟨?_, ?_⟩|intro _)
               all_goals first|(with_reducible apply qq)|(conv=>whnf)
               all_goals first|(exact absurd (hne2.symm.trans ‹_=false›) (by decide))|skip
               all_goals first|(have hd:=‹(!decide ((put G 0 _ _).name=_))=false›;simp only [hw2,hg1,hg2,hcd2,Int.toNat_natCast] at hd;exact absurd hd (by decide))|skip
               all_goals (try simp only [hw2,hlen,Int.toNat_natCast,Nat.zero_add])
               all_goals first|rfl|omega|(exact congrArg (Value.int .i64) (by first|(rw [wI_id _ (by omega) (by omega)];omega)|omega|(dsimp only;omega)))|(rw [hs2];exact row_push rfl (by rw [hg1]) _)
           . have hne2:decide (((j+1:Nat):Int)<((n0-(k+1):Nat):Int))=false:=decide_eq_false (by omega)
             obtain rfl:n0=k+1+(j+1):=by omega
             repeat' (first|exact trivial|refine ⟨?_, ?_⟩|intro _)
             all_goals first|(with_reducible apply qq)|(conv=>whnf)
             all_goals first|(exact absurd (hne2.symm.trans ‹_=true›) (by decide))|skip
             all_goals (try simp only [Int.toNat_natCast,Nat.zero_add])
             all_goals first|rfl|omega|(rename_i i hi;rw [clr_lo (by omega)];exact congrArg bdC (put_atB (by omega)))
       . have hcd:decide ((G (k+1)).name=(G k).name)=false:=decide_eq_false hc
         rw [if_neg hc,k2, <-seg_snoc G (Nat.zero_le _)] at hs
         repeat' (first|exact trivial|refine ⟨?_, ?_⟩|intro _)
         all_goals first|(with_reducible apply qq)|(conv=>whnf)
         all_goals first|(exact absurd (hne.symm.trans ‹_=false›) (by decide))|skip
         all_goals first|(have hd:=‹decide ((G _).name=_)=true›;simp only [hw,Int.toNat_natCast,Nat.zero_add] at hd;exact absurd (hcd.symm.trans hd) (by decide))|skip
         all_goals (try simp only [hw,Int.toNat_natCast,Nat.zero_add])
         all_goals first|rfl|omega|exact hs|(exact congrArg (Value.int .i64) (by first|(rw [wI_id _ (by omega) (by omega)];omega)|omega|(dsimp only;omega)))
     . have hne:decide (((k+1:Nat):Int)<(n0:Int))=false:=decide_eq_false (by omega)
       obtain rfl:n0=k+1:=by omega
       repeat' (first|exact trivial|refine ⟨?_, ?_⟩|intro _)
       all_goals first|(with_reducible apply qq)|(conv=>whnf)
       all_goals first|(exact absurd (hne.symm.trans ‹_=true›) (by decide))|skip
       all_goals first|omega|(rw [k2,seg_length];rfl)|(rename_i i hi;rw [k2];exact congrArg bdC (seg_at hi).symm)
 . cases h
structure RowsOk (n:Nat) (f:Nat->List DV):Prop where
 h: ∀i,i<n->rowOkB (f i)
def FSortF:List Ar->Option Rs
 | [.c (.ow 9 n0 f0),.fv g1]=>some ⟨(n0<=1099511627776/\ ∀i,i<n0->rowSB (f0 i))/\ (g1=gLess),.tup [],[some fun k=>bdC (put (gF f0) 0 (srt ltB (gBs n0 f0)) k)]⟩
 |_=>none
theorem fcSortF:FC Tryz.prog 126 FSortF:=by
 intro xs pre r us h hp;unfold FSortF at h;split at h
 . rename_i n0 f0 g1
   cases h;obtain ⟨hp0,hp1⟩:=hp
   refine FCat.deep (ys:= [.c (.ow 9 n0 fun k=>bdC (gF f0 k)),.fv g1]) ?_ ?_
   . repeat' (first|exact trivial|exact rfl|exact DvE.refl _|refine ⟨?_, ?_⟩|fail)
     all_goals first|exact (canonF hp0.2).2.2
   refine fcat tys_ok (l:= [(170,⟨[true],FStable⟩)]) ⟨fcStable,trivial⟩ Tryz.func126 rfl (by kernel_rfl) false ?_
   obtain rfl:=hp1
   have hn:=hp0.1
   clear hp0;rw [<-seg_gBs]
   generalize gF f0=G at*
   have hok: ∀(H:Nat->Bd) (i:Nat),i<n0->rowSB (bdC (H i)):=fun H i _=>rowSB_bdC _
   repeat' (first|exact trivial|(with_reducible exact (hok _))|refine ⟨?_, ?_⟩|intro _)
   all_goals first|(with_reducible apply qq)|(conv=>whnf)
   all_goals (try simp only [gF_bdC,Int.toNat_natCast])
   all_goals first|rfl|omega
 . cases h
def FBClone:List Ar->Option Rs
 | [.c (.d (.lst 9 n0 f0))]=>some ⟨(n0<=1099511627776/\ RowsOk n0 f0),.va (.c (.ow 9 n0 (rwB (gBs n0 f0)))),[]⟩
 |_=>none
theorem fcBClone:FC Tryz.prog 125 FBClone:=by
 intro xs pre r us h hp;unfold FBClone at h;split at h
 . rename_i n0 f0
   cases h;have hp0:=hp
   refine FCat.deep (ys:= [.c (.d (.lst 9 n0 (rwB (gBs n0 f0))))]) ?_ ?_
   . repeat' (first|exact trivial|exact rfl|exact DvE.refl _|refine ⟨?_, ?_⟩|fail)
     all_goals first|exact canonB hp0.2.h
   refine fcat tys_ok (l:= []) trivial Tryz.func125 rfl (by kernel_rfl) false ?_
   have hn:=hp0.1
   generalize gBs n0 f0=L at*
   clear hp0
   repeat' (first|exact trivial|refine ⟨?_, ?_⟩|intro _)
   all_goals first|(with_reducible apply qq)|(conv=>whnf)
   all_goals first|omega|rfl|(simp_all;done)|(simp [appRow];done)|exact ‹_=true->_› ‹_›
 . cases h
def FVCleanV:List Ar->Option Rs
 | [.agg [.d (.v (.bool s0)),.d (.v (.int .i64 l0)),.d (.v (.int .i64 h0)),.d (.v (.bool b0)),.d (.v (.int .i64 m0)),.d (.v (.int .i64 r0)),.d (.v (.bool z0)),.d (.lst 1 n0 f0)]]=>some ⟨((n0*16<=140737488351232/\ ∀i,i<n0->f0 i= [st (gT (f0 i))])/\ Sp.inR ⟨s0,l0,h0⟩/\ Cg.inR ⟨b0,m0,r0⟩),.va (Vl.ar (Vl.of (⟨⟨⟨s0,l0,h0⟩,⟨b0,m0,r0⟩⟩,⟨z0,gN n0 f0⟩⟩:Vl))),[]⟩
 |_=>none
theorem fcVCleanV:FC Tryz.prog 40 FVCleanV:=by
 intro xs pre r us h hp;unfold FVCleanV at h;split at h
 . rename_i s0 l0 h0 b0 m0 r0 z0 n0 f0
   cases h;have hp0:=hp
   refine FCat.of_eq (as':= [.agg [.d (.v (.bool s0)),.d (.v (.int .i64 l0)),.d (.v (.int .i64 h0)),.d (.v (.bool b0)),.d (.v (.int .i64 m0)),.d (.v (.int .i64 r0)),.d (.v (.bool z0)),.d (.lst 1 n0 fun i=> [st (gT (f0 i))])]]) ?_ rfl rfl ?_
   . repeat' (first|exact trivial|exact rfl|refine ⟨?_, ?_⟩|fail)
     all_goals first|exact hp0.2|exact hp1.2|exact hp2.2|(intro i hi;exact (hp0.2 i hi).1)|(intro i hi;exact (hp1.2 i hi).1)|(intro i hi;exact (hp2.2 i hi).1)|grind
   refine fcat tys_ok (l:= [(62,⟨[],FVOf⟩),(66,⟨[],FVValue⟩)]) ⟨fcVOf,fcVValue,trivial⟩ Tryz.func40 rfl (by kernel_rfl) true ?_
   have hv0:okV (⟨⟨⟨s0,l0,h0⟩,⟨b0,m0,r0⟩⟩,⟨z0,gN n0 fun i=> [st (gT (f0 i))]⟩⟩:Vl):=⟨⟨(by rw [gN_length];exact hp0.1.1),fun _ _=>rfl⟩,hp0.2⟩
   have ho0:=okV_of hv0
   have hoo0:=okV_of ho0
   unfold okV at ho0 hoo0
   repeat' (first|exact trivial|(with_reducible first|assumption|exact ho0.1|exact ho0.2.1|exact ho0.2.2|exact hp0.1|exact hp0.2|exact hp0.2.1|exact hp0.2.2|exact hoo0.1|exact hoo0.2.1|exact hoo0.2.2)|refine ⟨?_, ?_⟩|intro _)
   all_goals first|(with_reducible apply qq)|(conv=>whnf)
   all_goals (try simp only [gN_lst] at*)
   all_goals first|rfl|(with_reducible exact hp0.1.1)
 . cases h
namespace En
def clean (e:En):En:=if e.live=true then ⟨true,(dd (srt ltB e.binds)).map fun b=>⟨b.name,b.v.of⟩⟩ else ⟨false,[]⟩
end En
theorem srt_rows (L:List Bd):(gBs L.length fun k=>bdC (put (gF (rwB L)) 0 (srt ltB L) k))=srt ltB L:=by
 rw [<-seg_gBs,gF_bdC];exact seg_put _ _ _ _ (by rw [srt_length];omega) (Nat.zero_le _)
def cln (D:List Bd) (i:Nat):Nat->Bd:=fun k=>if k<i then ⟨(atB D k).name,(atB D k).v.of⟩ else atB D k
theorem cln_at (D:List Bd) (i:Nat):cln D i i=atB D i:=if_neg (Nat.lt_irrefl i)
theorem cln_step {D:List Bd} {i:Nat} {r:List DV} (hr:r=bdC ⟨(atB D i).name,(atB D i).v.of⟩) (k:Nat):setRow (fun k=>bdC (cln D i k)) i r k=bdC (cln D (i+1) k):=by
 subst hr;rw [setRow_at];unfold cln;split
 . rename_i h;subst h;rw [if_pos (Nat.lt_succ_self k)]
 . rename_i h
   by_cases c:k<i
   . rw [if_pos c,if_pos (by omega)]
   . rw [if_neg c,if_neg (by omega)]
theorem atB_map (D:List Bd) (f:Bd->Bd) {k:Nat} (hk:k<D.length):atB (D.map f) k=f (atB D k):=by
 unfold atB;simp [List.getD_eq_getElem?_getD,hk]
theorem ddA_sub (r:List Bd) (p:Bd) {x:Bd} (h:x∈ddA p r):x∈r:=by
 induction r generalizing p with
 |nil=>cases h
 |cons y r ih=>
  rw [ddA] at h;split at h
  . exact List.mem_cons_of_mem _ (ih _ h)
  . rcases List.mem_cons.1 h with rfl|h
    . exact List.mem_cons_self
    . exact List.mem_cons_of_mem _ (ih _ h)
theorem dd_sub {l:List Bd} {x:Bd} (h:x∈dd l):x∈l:=by
 cases l with
 |nil=>exact h
 |cons y r=>
  rcases List.mem_cons.1 h with rfl|h
  . exact List.mem_cons_self
  . exact List.mem_cons_of_mem _ (ddA_sub _ _ h)
theorem atB_mem {l:List Bd} {k:Nat} (h:k<l.length):atB l k∈l:=by
 unfold atB;rw [List.getD_eq_getElem?_getD,List.getElem?_eq_getElem h];exact List.getElem_mem h
theorem mem_atB {l:List Bd} {x:Bd} (h:x∈l): ∃k,k<l.length/\ atB l k=x:=by
 obtain ⟨k,hk,e⟩:=List.mem_iff_getElem.1 h
 exact ⟨k,hk,by unfold atB;rw [List.getD_eq_getElem?_getD,List.getElem?_eq_getElem hk];exact e⟩
def okL (l:List Bd):Prop:= ∀x∈l,okB x
theorem okL_at {l:List Bd} (h:okL l) {k:Nat} (hk:k<l.length):okB (atB l k):=h _ (atB_mem hk)
theorem okL_rows {n:Nat} {f:Nat->List DV} (h:RowsOk n f):okL (gBs n f):=by
 intro x hx;obtain ⟨k,hk,rfl⟩:=mem_atB hx
 rw [gBs_length] at hk;exact okB_at h.h k hk
theorem okL_row {l:List Bd} (h:okL l):RowsOk l.length (rwB l):=⟨fun i hi=>rowOkB_bdC (okL_at h hi)⟩
theorem okL_srt {l:List Bd} (h:okL l):okL (srt ltB l):=fun x hx=>h x (srt_mem.1 hx)
theorem okL_dd {l:List Bd} (h:okL l):okL (dd l):=fun x hx=>h x (dd_sub hx)
theorem okL_of {l:List Bd} (h:okL l):okL (l.map fun b=>⟨b.name,b.v.of⟩):=by
 intro x hx;obtain ⟨b,hb,rfl⟩:=List.mem_map.1 hx
 exact okV_of (h b hb)
theorem clean_ok {e:En} (h:okL e.binds):okL e.clean.binds:=by
 unfold En.clean;split
 . exact okL_of (okL_dd (okL_srt h))
 . intro x hx;cases hx
theorem clean_len (e:En):e.clean.binds.length<=e.binds.length:=by
 unfold En.clean;split
 . show (List.map _ _).length<=_
   rw [List.length_map];have:=dd_len (srt ltB e.binds)
   rw [srt_length] at this;exact this
 . exact Nat.zero_le _
def FEClean:List Ar->Option Rs
 | [.agg [.d (.v (.bool e0)),.d (.lst 9 n0 f0)]]=>some ⟨(n0<=1099511627776/\ RowsOk n0 f0),.va (En.ar (En.clean (⟨e0,gBs n0 f0⟩:En))),[]⟩
 |_=>none
theorem fcEClean:FC Tryz.prog 88 FEClean:=by
 intro xs pre r us h hp;unfold FEClean at h;split at h
 . rename_i e0 n0 f0
   cases h;have hp0:=hp
   refine FCat.deep (ys:= [.agg [.d (.v (.bool e0)),.d (.lst 9 n0 (rwB (gBs n0 f0)))]]) ?_ ?_
   . repeat' (first|exact trivial|exact rfl|exact DvE.refl _|refine ⟨?_, ?_⟩|fail)
     all_goals first|exact canonB hp0.2.h
   refine fcat tys_ok (l:= [(125,⟨[],FBClone⟩),(126,⟨[true],FSortF⟩),(128,⟨[true],FCompact⟩),(40,⟨[],FVCleanV⟩),(127,⟨[],FLess⟩),(129,⟨[],FSameN⟩)]) ⟨fcBClone,fcSortF,fcCompact,fcVCleanV,fcLess,fcSameN,trivial⟩ Tryz.func88 rfl (by kernel_rfl) true ?_
   have hn:=hp0.1
   have hL:=okL_rows hp0.2
   have hlen:=gBs_length n0 f0
   generalize gBs n0 f0=L at*
   clear hp hp0;subst hlen;have hok: ∀(H:Nat->Bd) (i:Nat),i<L.length->rowSB (bdC (H i)):=fun H i _=>rowSB_bdC _
   have hrow:=okL_row hL
   repeat' (first|exact trivial|(with_reducible first|exact (hok _)|exact hrow)|refine ⟨?_, ?_⟩|intro _)
   all_goals first|(with_reducible apply qq)|(conv=>whnf)
   all_goals first|exact hn|exact Nat.le_refl _|rfl|skip
   . rw [show e0=false by simpa using ‹(!e0)=true›];rfl
   . rw [show e0=false by simpa using ‹(!e0)=true›];rfl
   obtain rfl:e0=true:=by simpa using ‹(!e0)=false›
   generalize hD:dd (gBs L.length fun k=>bdC (put (gF (rwB (gBs L.length (rwB L)))) 0 (srt ltB (gBs L.length (rwB (gBs L.length (rwB L))))) k))=D
   have hD2:D=dd (srt ltB L):=by
    rw [<-hD,gBs_row,gBs_row,srt_rows]
   clear hD;have hC:En.clean ⟨true,L⟩=⟨true,D.map fun b=>⟨b.name,b.v.of⟩⟩:=by rw [hD2];rfl
   have hDl:D.length<=L.length:=by have:=dd_len (srt ltB L);rw [srt_length] at this;rw [hD2];exact this
   have hDo:okL D:=by rw [hD2];exact okL_dd (okL_srt hL)
   refine loop_ok tys_ok (l:= [(125,⟨[],FBClone⟩),(126,⟨[true],FSortF⟩),(128,⟨[true],FCompact⟩),(40,⟨[],FVCleanV⟩),(127,⟨[],FLess⟩),(129,⟨[],FSameN⟩)]) ⟨fcBClone,fcSortF,fcCompact,fcVCleanV,fcLess,fcSameN,trivial⟩ (by kernel_rfl) (X:=Nat)
    (fun i=>⟨[(19,vx (.int .i64 i)),(18,vx (.int .i64 D.length)),(17,.va (.c (.osl 0 9 0 D.length))),(3,.va (.c (.osl 0 9 0 D.length))),(2,.va (.c (.own 1 0)))],[(0,.row 9 D.length fun k=>bdC (cln D i k)),(1,.cells [.d (bo false),.d (.v (.slice none 0 0))])],2,34⟩)
    (fun i=>D.length-i) (fun i=>i<=D.length) [] [] (fun i _ _=>i+1) [0,1] [3,1] 0 0 0 ?_ ?_ ?_
   . exact Nat.zero_le _
   . repeat' (first|exact trivial|exact rfl|(intro _ _;exact rfl)|refine ⟨?_, ?_⟩|fail)
     all_goals trace_state
   . rintro i k1
     rcases Nat.lt_or_ge i D.length with hi|hi
     . have hne:decide ((i:Int)<(D.length:Int))=true:=decide_eq_true (by omega)
       have ho0:=okV_of (okL_at hDo hi)
       have ho1:=okL_at hDo hi
       repeat' (first|exact trivial|refine ⟨?_, ?_⟩|intro _)
       all_goals first|(with_reducible apply qq)|(conv=>whnf)
       all_goals first|(exact absurd (hne.symm.trans ‹_=false›) (by decide))|skip
       all_goals (try simp only [Int.toNat_natCast,Nat.zero_add,cln_at])
       all_goals first|omega|rfl|exact ho1.1.1|(have hq:=ho1.2;unfold Sp.inR Cg.inR at hq;omega)|(exact congrArg (Value.int .i64) (by first|(rw [wI_id _ (by omega) (by omega)];omega)|omega|(dsimp only;omega)))|(simp only [gN_lst];exact cln_step rfl _)
     . have hne:decide ((i:Int)<(D.length:Int))=false:=decide_eq_false (by omega)
       obtain rfl:i=D.length:=Nat.le_antisymm k1 hi
       repeat' (first|exact trivial|refine ⟨?_, ?_⟩|intro _)
       all_goals first|(with_reducible apply qq)|(conv=>whnf)
       all_goals first|(exact absurd (hne.symm.trans ‹_=true›) (by decide))|skip
       all_goals (try rw [hC])
       all_goals first|rfl|omega|exact (List.length_map _).symm|(rename_i k hk;show bdC (cln D D.length (0+k))=bdC (atB _ k);rw [Nat.zero_add,atB_map _ _ (by omega)];unfold cln;rw [if_pos (by omega)])|(rename_i k hk;show bdC (cln D D.length k)=bdC (atB _ k);rw [atB_map _ _ (by omega)];unfold cln;rw [if_pos (by omega)])
 . cases h
theorem seg_atB (L:List Bd):seg (atB L) 0 L.length=L:=by
 apply List.ext_getElem
 . rw [seg_length];omega
 . intro i h1 h2;have:=seg_getD (g:=atB L) (a:=0) (b:=L.length) (k:=i) (by omega)
   rw [List.getD_eq_getElem?_getD,List.getElem?_eq_getElem h1,Nat.zero_add] at this;unfold atB at this;rw [List.getD_eq_getElem?_getD,List.getElem?_eq_getElem h2] at this;exact this
def lowN (L:List Bd) (s:ByteArray):Nat:=L.countP fun b=>ltB b ⟨s,Vl.zero⟩
def foundN (L:List Bd) (s:ByteArray):Bool:=decide (lowN L s<L.length)&&(cfL (atB L (lowN L s)).name.data.toList s.data.toList==0)
theorem low_of {L:List Bd} {s:ByteArray} {i:Nat} (hi:i<=L.length) (h1: ∀k,k<i->ltB (atB L k) ⟨s,Vl.zero⟩=true) (h2: ∀k,i<=k->k<L.length->ltB (atB L k) ⟨s,Vl.zero⟩=false):lowN L s=i:=by
 unfold lowN
 conv=>lhs;rw [<-seg_atB L,seg_app (atB L) (Nat.zero_le i) hi,List.countP_append]
 rw [List.countP_eq_length.2,List.countP_eq_zero.2,seg_length]
 . omega
 . intro x hx;obtain ⟨k,k1,k2,rfl⟩:=mem_seg.1 hx
   rw [h2 k k1 k2];exact Bool.false_ne_true
 . intro x hx;obtain ⟨k,k1,k2,rfl⟩:=mem_seg.1 hx
   exact h1 k k2
def FFindC:List Ar->Option Rs
 | [.agg [.d (.v (.string x0)),.d (.v (.bool _)),.d (.v (.int .i64 _)),.d (.v (.int .i64 _)),.d (.v (.bool _)),.d (.v (.int .i64 _)),.d (.v (.int .i64 _)),.d (.v (.bool _)),.d (.lst 1 _ _)],.c (.d (.v (.string x1)))]=>some ⟨True,.va (.c (.d (it (cfL x0.data.toList x1.data.toList)))),[]⟩
 |_=>none
theorem fcFindC:FC Tryz.prog 131 FFindC:=by
 intro xs pre r us h hp;unfold FFindC at h;split at h
 . rename_i x0 s0 l0 h0 b0 m0 r0 z0 n0 f0 x1
   cases h;refine fcat tys_ok (l:= [(111,⟨[],FStrCmp⟩)]) ⟨fcStrCmp,trivial⟩ Tryz.func131 rfl (by kernel_rfl) false ?_
   repeat' (first|exact trivial|refine ⟨?_, ?_⟩|intro _)
   all_goals first|(with_reducible apply qq)|(conv=>whnf)
   all_goals grind
 . cases h
abbrev gFind:List Cv->Option Gs:=mkFv (sums [(131,⟨[],FFindC⟩)]) 131 []
def FBSearch:List Ar->Option Rs
 | [.c (.d (.lst 9 n0 f0)),.c (.d (.v (.string x1))),.fv g2]=>some ⟨(n0<=1099511627776/\ RowsOk n0 f0)/\ (Std ltB (gBs n0 f0)/\ g2=gFind),.tup [.c (.d (it (lowN (gBs n0 f0) x1:Nat))),.c (.d (bo (foundN (gBs n0 f0) x1)))],[]⟩
 |_=>none
theorem fcBSearch:FC Tryz.prog 130 FBSearch:=by
 intro xs pre r us h hp;unfold FBSearch at h;split at h
 . rename_i n0 f0 x1 g2
   cases h;obtain ⟨hp0,hp1⟩:=hp
   refine FCat.deep (ys:= [.c (.d (.lst 9 n0 (rwB (gBs n0 f0)))),.c (.d (.v (.string x1))),.fv g2]) ?_ ?_
   . repeat' (first|exact trivial|exact rfl|exact DvE.refl _|refine ⟨?_, ?_⟩|fail)
     all_goals first|first|exact canonB hp0.2.h|exact (canonBo hp0.2.h).2.2
   refine fcat tys_ok (l:= []) trivial Tryz.func130 rfl (by kernel_rfl) false ?_
   obtain ⟨hs,rfl⟩:=hp1
   have hn:=hp0.1
   have hlen:=gBs_length n0 f0
   generalize gBs n0 f0=L at*
   clear hp0;subst hlen;rw [<-seg_atB L] at hs;have hdef: ∀k,ltB (atB L k) ⟨x1,Vl.zero⟩=decide (cfL (atB L k).name.data.toList x1.data.toList<0):=fun _=>rfl
   generalize hp:(fun k=>ltB (atB L k) ⟨x1,Vl.zero⟩)=p
   have hpd: ∀k,p k=decide (cfL (atB L k).name.data.toList x1.data.toList<0):=fun k=>by rw [<-hp];rfl
   have hm: ∀k q,k<=q->q<L.length->p q=true->p k=true:=fun k q h1 h2 h3=>by
    rw [<-hp] at h3⊢;exact wkB.lt1 (std_le wkB hs (Nat.zero_le _) h1 h2) h3
   have hm2: ∀k q,q<=k->k<L.length->p q=false->p k=false:=fun k q h1 h2 h3=>by
    rw [<-hp] at h3⊢;exact wkB.le1 (std_le wkB hs (Nat.zero_le _) h1 h2) h3
   have hlow: ∀i,i<=L.length->(∀k,k<i->p k=true)->(∀k,i<=k->k<L.length->p k=false)->lowN L x1=i:=fun i h1 h2 h3=>by
    rw [<-hp] at h2 h3;exact low_of h1 h2 h3
   clear hp hdef
   repeat' (first|exact trivial|refine ⟨?_, ?_⟩|intro _)
   all_goals first|(with_reducible apply qq)|(conv=>whnf)
   refine loop_ok tys_ok (l:= []) trivial (by kernel_rfl) (X:=Nat×Nat)
    (fun x=>⟨[(9,vx (.int .i64 x.1)),(10,vx (.int .i64 x.2)),(0,.va (.c (.d (.lst 9 L.length (rwB L))))),(1,vx (.string x1)),(2,.va (.c (.fv gFind))),(8,vx (.int .i64 L.length))],[],0,49⟩)
    (fun x=>x.2-x.1) (fun x=>x.1<=x.2/\ x.2<=L.length/\ (∀k,k<x.1->p k=true)/\ (∀k,x.2<=k->k<L.length->p k=false)) [] []
    (fun x _ _=>if p ((x.1+x.2)/2)=true then ((x.1+x.2)/2+1,x.2) else (x.1,(x.1+x.2)/2)) [] [] 0 0 (0,L.length) ?_ ?_ ?_
   . exact ⟨Nat.zero_le _,Nat.le_refl _,fun k h=>absurd h (Nat.not_lt_zero k),fun k h1 h2=>absurd h1 (Nat.not_le_of_lt h2)⟩
   . repeat' (first|exact trivial|exact rfl|(intro _ _;exact rfl)|refine ⟨?_, ?_⟩|fail)
   . rintro ⟨i,j⟩ ⟨k2,k3,k4,k5⟩
     dsimp only at k2 k3 k4 k5
     rcases Nat.lt_or_ge i j with hij|hij
     . have hne:decide ((i:Int)<(j:Int))=true:=decide_eq_true (by omega)
       have hh:IntKind.wrap .i64 ((IntKind.wrap .u64 (IntKind.wrap .i64 ((i:Int)+(j:Int)))).fdiv (2^min (Int.toNat 1) (IntKind.bits .u64)))=(((i+j)/2:Nat):Int):=hlf (by omega)
       have hq1:i<=(i+j)/2:=by omega
       have hq2:(i+j)/2<j:=by omega
       generalize hq:(i+j)/2=q at*
       cases hc:p q with
       |true=>
        repeat' (first|exact trivial|refine ⟨?_, ?_⟩|intro _)
        all_goals first|(with_reducible apply qq)|(conv=>whnf)
        all_goals first|(exact absurd (hne.symm.trans ‹_=false›) (by decide))|skip
        all_goals first|(have hd:=‹decide (cfL _ _<0)=false›;simp only [hh,Int.toNat_natCast,Nat.zero_add] at hd;exact absurd ((hc.symm.trans (hpd q)).trans hd) (by decide))|skip
        all_goals (try simp only [hh,hq,hc,if_true,Int.toNat_natCast,Nat.zero_add])
        all_goals first|rfl|omega|(dsimp only;omega)|(exact congrArg (Value.int .i64) (by first|(rw [wI_id _ (by omega) (by omega)];omega)|omega|(dsimp only;omega)))|(rename_i kk h1;simp only [hq,hc,if_true] at h1;exact hm _ q (by omega) (by omega) hc)|(rename_i kk h1 h2;simp only [hq,hc,if_true] at h1 h2;exact k5 _ h1 h2)
       |false=>
        repeat' (first|exact trivial|refine ⟨?_, ?_⟩|intro _)
        all_goals first|(with_reducible apply qq)|(conv=>whnf)
        all_goals first|(exact absurd (hne.symm.trans ‹_=false›) (by decide))|skip
        all_goals first|(have hd:=‹decide (cfL _ _<0)=true›;simp only [hh,Int.toNat_natCast,Nat.zero_add] at hd;exact absurd ((hc.symm.trans (hpd q)).trans hd) (by decide))|skip
        all_goals (try simp only [hh,hq,hc,if_false,Bool.false_eq_true,Int.toNat_natCast,Nat.zero_add])
        all_goals first|rfl|omega|(dsimp only;omega)|(exact congrArg (Value.int .i64) (by first|(rw [wI_id _ (by omega) (by omega)];omega)|omega|(dsimp only;omega)))|(rename_i kk h1;simp only [hq,hc,if_false,Bool.false_eq_true] at h1;exact k4 _ h1)|(rename_i kk h1 h2;simp only [hq,hc,if_false,Bool.false_eq_true] at h1 h2;exact hm2 _ q (by omega) h2 hc)
     . have hne:decide ((i:Int)<(j:Int))=false:=decide_eq_false (by omega)
       obtain rfl:i=j:=by omega
       have hl:=hlow i k3 k4 k5
       repeat' (first|exact trivial|refine ⟨?_, ?_⟩|intro _)
       all_goals first|(with_reducible apply qq)|(conv=>whnf)
       all_goals first|(exact absurd (hne.symm.trans ‹_=true›) (by decide))|skip
       all_goals (try dsimp only)
       all_goals (try simp only [Int.toNat_natCast,Nat.zero_add])
       all_goals (try unfold foundN)
       all_goals (try rw [hl])
       all_goals first|omega|rfl|(have hd:=of_decide_eq_true ‹decide (((i,i).1:Int)<(L.length:Int))=true›;exact hd)|(have hd:=of_decide_eq_true ‹decide (((i,i).1:Int)<_)=true›;rw [show decide (i<L.length)=true from decide_eq_true (by dsimp only at hd;omega)];rfl)|(have hd:=of_decide_eq_false ‹decide (((i,i).1:Int)<(L.length:Int))=false›;rw [show decide (i<L.length)=false from decide_eq_false (by dsimp only at hd;omega)];rfl)
 . cases h
def FEFind:List Ar->Option Rs
 | [.agg [.d (.v (.bool _)),.d (.lst 9 n0 f0)],.c (.d (.v (.string x1)))]=>some ⟨(n0<=1099511627776/\ RowsOk n0 f0)/\ (Std ltB (gBs n0 f0)),.tup [.c (.d (it (lowN (gBs n0 f0) x1:Nat))),.c (.d (bo (foundN (gBs n0 f0) x1)))],[]⟩
 |_=>none
theorem fcEFind:FC Tryz.prog 89 FEFind:=by
 intro xs pre r us h hp;unfold FEFind at h;split at h
 . rename_i e0 n0 f0 x1
   cases h;obtain ⟨hp0,hp1⟩:=hp
   refine FCat.deep (ys:= [.agg [.d (.v (.bool e0)),.d (.lst 9 n0 (rwB (gBs n0 f0)))],.c (.d (.v (.string x1)))]) ?_ ?_
   . repeat' (first|exact trivial|exact rfl|exact DvE.refl _|refine ⟨?_, ?_⟩|fail)
     all_goals first|first|exact canonB hp0.2.h|exact (canonBo hp0.2.h).2.2
   refine fcat tys_ok (l:= [(130,⟨[],FBSearch⟩),(131,⟨[],FFindC⟩)]) ⟨fcBSearch,fcFindC,trivial⟩ Tryz.func89 rfl (by kernel_rfl) false ?_
   have hn:=hp0.1
   have hL:=okL_rows hp0.2
   have hlen:=gBs_length n0 f0
   generalize gBs n0 f0=L at*
   clear hp0;subst hlen;have hrow:=okL_row hL
   have hb:=gBs_row L
   repeat' (first|exact trivial|(with_reducible exact hrow)|refine ⟨?_, ?_⟩|intro _)
   all_goals first|(with_reducible apply qq)|(conv=>whnf)
   all_goals (try simp only [hb])
   all_goals first|exact hn|exact hp1|exact Nat.le_refl _|rfl
 . cases h
theorem ofS_nil:ofS []= []:=List.eq_nil_of_length_eq_zero (Nat.le_zero.1 (ofS_len []))
namespace Vl
end Vl
theorem std_dd {l:List Bd} (h:Std ltB l):Std ltB (dd l):=by
 have hA: ∀(r:List Bd) (p:Bd),Std ltB (p::r)->Std ltB (p::ddA p r):=by
  intro r
  induction r with
  |nil=>intro p h;exact h
  |cons y r ih=>
   intro p h;have h1:=List.pairwise_cons.1 h
   have h2:=List.pairwise_cons.1 h1.2
   rw [ddA];split
   . have:=List.pairwise_cons.1 (ih y h1.2)
     exact List.pairwise_cons.2 ⟨fun x hx=>h1.1 x (List.mem_cons_of_mem _ (ddA_sub _ _ hx)),this.2⟩
   . have h3:=ih y h1.2
     refine List.pairwise_cons.2 ⟨fun x hx=> ?_,h3⟩
     rcases List.mem_cons.1 hx with rfl|hx
     . exact h1.1 _ List.mem_cons_self
     . exact h1.1 x (List.mem_cons_of_mem _ (ddA_sub _ _ hx))
 cases l with
 |nil=>exact h
 |cons p r=>exact hA r p h
theorem std_of {l:List Bd} (h:Std ltB l):Std ltB (l.map fun b=>⟨b.name,b.v.of⟩):=by
 unfold Std;rw [List.pairwise_map];exact h
theorem clean_std (e:En):Std ltB e.clean.binds:=by
 unfold En.clean;split
 . exact std_of (std_dd (srt_srt wkB _))
 . exact List.Pairwise.nil
theorem found_lt {L:List Bd} {s:ByteArray} (h:foundN L s=true):lowN L s<L.length:=by
 unfold foundN at h;rw [Bool.and_eq_true] at h;exact of_decide_eq_true h.1
namespace En
def get (e:En) (s:ByteArray):Vl:=if foundN e.clean.binds s=true then (atB e.clean.binds (lowN e.clean.binds s)).v else Vl.zero
end En
def FEGet:List Ar->Option Rs
 | [.agg [.d (.v (.bool e0)),.d (.lst 9 n0 f0)],.c (.d (.v (.string x1)))]=>some ⟨(n0<=1099511627776/\ RowsOk n0 f0),.va (Vl.ar (En.get (⟨e0,gBs n0 f0⟩:En) x1)),[]⟩
 |_=>none
theorem fcEGet:FC Tryz.prog 51 FEGet:=by
 intro xs pre r us h hp;unfold FEGet at h;split at h
 . rename_i e0 n0 f0 x1
   cases h;have hp0:=hp
   refine FCat.deep (ys:= [.agg [.d (.v (.bool e0)),.d (.lst 9 n0 (rwB (gBs n0 f0)))],.c (.d (.v (.string x1)))]) ?_ ?_
   . repeat' (first|exact trivial|exact rfl|exact DvE.refl _|refine ⟨?_, ?_⟩|fail)
     all_goals first|exact canonB hp0.2.h
   refine fcat tys_ok (l:= [(88,⟨[],FEClean⟩),(89,⟨[],FEFind⟩)]) ⟨fcEClean,fcEFind,trivial⟩ Tryz.func51 rfl (by kernel_rfl) true ?_
   have hn:=hp0.1
   have hL:=okL_rows hp0.2
   have hlen:=gBs_length n0 f0
   generalize gBs n0 f0=L at*
   clear hp0;subst hlen;have hrow:=okL_row hL
   have hb:=gBs_row L
   have hc:=clean_ok (e:=⟨e0,L⟩) hL
   have hcr:=okL_row hc
   have hcl:=clean_len ⟨e0,L⟩
   have hcs:=clean_std ⟨e0,L⟩
   have hcn:(En.clean ⟨e0,L⟩).binds.length<=1099511627776:=Nat.le_trans hcl hn
   repeat' (first|exact trivial|refine ⟨?_, ?_⟩|intro _)
   all_goals first|(with_reducible apply qq)|(conv=>whnf)
   all_goals (try simp only [gBs_row,Bool.not_eq_true',Bool.not_eq_false',Int.toNat_natCast,Nat.zero_add] at*)
   all_goals first|exact hrow|exact hcr|exact hn|exact hcn|exact hcs|(have hd:=‹foundN _ _=true›;have hlt:=found_lt hd;first|omega|(unfold En.get;rw [if_pos hd];done)|(unfold En.get;rw [if_pos hd];rfl))|(have hd:=‹foundN _ _=false›;unfold En.get;rw [if_neg (by rw [hd];exact Bool.false_ne_true)];rfl)|rfl
 . cases h
end Go.Proofs.YtokjghkehojenaaGreat
