/- What a comparison leaves. No condition. -/
import Derived.Test.YtiblbnhknemloaaGreatG16
import Derived.Test.YtiblbnhknemloaaGreatRows
import Derived.SizedLaws
import Derived.KernelRfl
set_option linter.all false
set_option maxHeartbeats 8000000
set_option maxRecDepth 100000
namespace Go.Proofs.YtiblbnhknemloaaGreat
open Go.Proofs.Tryz
open Go.Sx
open Go.RowKit Go.Lib Go.Sort
abbrev aHq:List (Nat×Sm):= [(121,⟨[],aGT⟩),(123,⟨[],aGV⟩),(124,⟨[],aA3⟩),(125,⟨[],aCj⟩),(66,⟨[],aFE⟩),(126,⟨[],aFg⟩),(28,⟨[],aFS⟩),(127,⟨[],aGb⟩)]
theorem aMY:gX prog aHq:=⟨aRX,aR0,aE5,aGR,aPu,aOF,aP3,aQQ,trivial⟩
theorem bDd {R:Ro} (hR:R.ok) {E:En} (hE:rP E) (s:Se) (op n:Int) (x:ByteArray) (at_:Int) (ae:rI op) (k:Nat) (f:Nat->List DV) (V0 V1:Vl) (S0 S1:Se) (gw:aY V0) (AJ:cD R S0) (j7:aY V1) (Dl:cD R S1)
 (l0:V0.t.names.length<=1099511627776) (l1:V1.t.names.length<=1099511627776)
 (l5: ∀o,rP (eO E op x (bZ o V0.of V1.of (bQ R.G R.G.length)))) (au: ∀o,rP (eO E 1 ⟨#[]⟩ (bZ o V1.of V0.of (bQ R.G R.G.length))))
 (sv:bH prog 122 [.c (.own 0 0),.agg [.d (bo E.live),.d (dT E.binds)],.agg [.d (it op),.d (it n),.d (st x),.d (.lst 5 k f),.d (it at_)]] (HG R s) (jF V0) (HG R S0)) (j6:bH prog 122 [.c (.own 0 0),.agg [.d (bo E.live),.d (dT E.binds)],.agg [.d (it 1),.d (it 0),.d (st ⟨#[]⟩),.d (.v (.slice none 0 0)),.d (it 0)]] (HG R S0) (jF V1) (HG R S1)) (hc:tH op k=false) (t_:Bool):bH prog 71 [.c (.own 0 0),.agg [.d (bo E.live),.d (dT E.binds)],.agg [.d (it op),.d (it n),.d (st x),.d (.lst 5 k f),.d (it at_)],.c (.d (bo t_))] (HG R s) (kQ (qG R S1 E 15 op x V0 1 ⟨#[]⟩ V1 t_)) (HG R S1):=by
 have tv:=cX gw
 have tw:=cX j7
 have ET:V0.of.t.names.length<=V0.t.names.length:=j1w
 have EU:V1.of.t.names.length<=V1.t.names.length:=j1w
 have vo:=fun o=>aEb (op:=o) (m:=bQ R.G R.G.length) tv tw j3 j3
 have vq:=fun o=>aEb (op:=o) (m:=bQ R.G R.G.length) tw tv j3 j3
 have eM:fZ R=bQ R.G R.G.length:=y8
 have e0:(bK V0)=V0:=yE V0
 have e1:(bK V1)=V1:=yE V1
 have eE:(⟨E.live,aH E.binds.length (aW E.binds)⟩:En)=E:=by rw [dJ]
 have Ao:(-9223372036854775808<=(15:Int)/\ (15:Int)<9223372036854775808):=j5
 have Ap:(-9223372036854775808<=qF 15/\ qF 15<9223372036854775808):=aR1 15
 have cG:(R.G.length<=1099511627776/\ nL R.G.length (dC R.G)):=⟨hR.gn,pL hR.g⟩
 have cE:(E.binds.length<=1099511627776/\ dN E.binds.length (aW E.binds)):=⟨hE.n,dV hE.ok⟩
 have c0:lS V0:=gw
 have c1:lS V1:=j7
 have cM:((bQ (bN R.G.length (dC R.G)) R.G.length).length*16<=140737488351232/\ ∀i,i<(bQ (bN R.G.length (dC R.G)) R.G.length).length->(fun i=> [st (aN (bQ (bN R.G.length (dC R.G)) R.G.length) i)]) i= [st (gT ((fun i=> [st (aN (bQ (bN R.G.length (dC R.G)) R.G.length) i)]) i))]):=⟨by rw [gS];have:=aC6 R.G R.G.length;have:=hR.gn;omega,fun _ _=>rfl⟩
 have Aq: ∀o,lS (lG o (bK V0) (bK V1) (fZ R)):=fun o=>by rw [eM,e0,e1];exact (aD7 gw j7).1
 have As: ∀o,lS (bZ o (Vl.of (bK V0)) (Vl.of (bK V1)) (fZ R)):=fun o=>by rw [eM,e0,e1];exact (vo o).1
 have Au: ∀o,lS (eC o (Vl.of (bK V0)) (Vl.of (bK V1)) (fZ R)):=fun o=>by rw [eM,e0,e1];exact (vo o).2
 have Av: ∀o,(((eO (⟨E.live,aH E.binds.length (aW E.binds)⟩:En) op x (bK (bZ o (Vl.of (bK V0)) (Vl.of (bK V1)) (fZ R))))).binds.length<=1099511627776/\ dN ((eO (⟨E.live,aH E.binds.length (aW E.binds)⟩:En) op x (bK (bZ o (Vl.of (bK V0)) (Vl.of (bK V1)) (fZ R))))).binds.length (aW ((eO (⟨E.live,aH E.binds.length (aW E.binds)⟩:En) op x (bK (bZ o (Vl.of (bK V0)) (Vl.of (bK V1)) (fZ R))))).binds)):=fun o=>by rw [eM,e0,e1,eE,yE];exact ⟨(l5 o).n,dV (l5 o).ok⟩
 have AQ: ∀o,lS (lG o (bK V1) (bK V0) (fZ R)):=fun o=>by rw [eM,e0,e1];exact (aD7 j7 gw).1
 have AR: ∀o,lS (bZ o (Vl.of (bK V1)) (Vl.of (bK V0)) (fZ R)):=fun o=>by rw [eM,e0,e1];exact (vq o).1
 have AS: ∀o,lS (eC o (Vl.of (bK V1)) (Vl.of (bK V0)) (fZ R)):=fun o=>by rw [eM,e0,e1];exact (vq o).2
 have AU: ∀o,(((eO (⟨E.live,aH E.binds.length (aW E.binds)⟩:En) 1 ⟨#[]⟩ (bK (bZ o (Vl.of (bK V1)) (Vl.of (bK V0)) (fZ R))))).binds.length<=1099511627776/\ dN ((eO (⟨E.live,aH E.binds.length (aW E.binds)⟩:En) 1 ⟨#[]⟩ (bK (bZ o (Vl.of (bK V1)) (Vl.of (bK V0)) (fZ R))))).binds.length (aW ((eO (⟨E.live,aH E.binds.length (aW E.binds)⟩:En) 1 ⟨#[]⟩ (bK (bZ o (Vl.of (bK V1)) (Vl.of (bK V0)) (fZ R))))).binds)):=fun o=>by rw [eM,e0,e1,eE,yE];exact ⟨(au o).n,dV (au o).ok⟩
 refine iZ (c:=7) (inl aA (l:=aHq) aMY func71 rfl j4 j4 rfl ?_)
 all_goals repeat' (first|exact trivial|(with_reducible exact (nx (congrArg Bool.not hc)))|refine ⟨?_,?_⟩|intro _)
 all_goals first|(conv=>whnf)
 all_goals first|((with_reducible show aO _ _ (.region 4 _ _) _ _);refine cO aA (l:=aHq) aMY ([.take 0,.take 1,.take 2,.take 3,.take 4,.take 5,.take 6,.take 7,.take 8,.take 9,.act 10 [3,2,1,0] [32,33,37],.take 11,.news [12],.act 13 [] [10,39]]) j4 ?_)
 all_goals (repeat' (first|exact j2y|refine ⟨?_,?_⟩|intro _));all_goals first|apply qq|conv=>whnf
 all_goals first|((with_reducible show bM _ _ 122 _ _ _);refine bH.go 7 sv rfl rfl rfl rfl rfl rfl ?_ ?_ ?_)|skip
 all_goals (repeat' (first|exact trivial|exact j2y|refine ⟨?_,?_⟩|intro _));all_goals first|apply qq|conv=>whnf
 all_goals first|((with_reducible show aO _ _ (.region 5 _ _) _ _);refine cO aA (l:=aHq) aMY ([.take 0,.take 1,.take 2,.take 3,.take 4,.take 5,.take 6,.take 7,.take 8,.take 9,.act 10 [3,2,1,0] [44,45,49],.take 11,.news [12],.act 13 [] [11,51]]) j4 ?_)|skip
 all_goals (repeat' (first|exact j2y|refine ⟨?_,?_⟩|intro _));all_goals first|apply qq|conv=>whnf
 all_goals first|((with_reducible show bM _ _ 122 _ _ _);refine bH.go 7 j6 rfl rfl rfl rfl rfl rfl ?_ ?_ ?_)|skip
 all_goals (repeat' (first|exact trivial|exact j2y|(with_reducible first|exact nd|exact j5c|exact (kds _ _)|exact (⟨fun _=> .inl rfl⟩:KdS _))|refine ⟨?_,?_⟩|intro _));all_goals first|apply qq|conv=>whnf
 all_goals first|exact rfl|omega|skip
 all_goals (clear Ao Ap cG cE c0 c1 cM Aq AQ As AR Au AS Av AU eM e0 e1 eE vo vq l5 au)
 all_goals (simp only [bI,gS,dJ,aKT,aKX,aKY,aGd,aKU,aKV,aKW,Bool.not_eq_true',Bool.not_eq_false'] at*)
 all_goals (try simp only [qG,rM,if_true,if_false,Bool.false_eq_true, ↓reduceIte, *])
 all_goals first|rfl
theorem aDs {M:Nat} {c:List DV} (h:lR M c): ∃op n x q u a,c=aS op n x (.lst 5 q u) a:=by
 cases M with
 |zero=>exact h.elim
 |succ M=>
  obtain ⟨op,n,x,k,f,at_,rfl, -⟩:=h
  exact ⟨_,_,_,_,_,_,rfl⟩
theorem bDe {op:Int} {k:Nat} (h:tH op k=true):k=2:=by
 unfold tH at h;simp only [Bool.and_eq_true,beq_iff_eq] at h;omega
theorem bDf {W V:List ByteArray} (hW:Ws W V) {R:Ro} (hR:R.ok) {M0 M:Nat} {s:Se} {E:En} (hs:cD R s) (hE:dX W V E) (hM:M+1<=M0) {op n:Int} {x:ByteArray} {k:Nat} {f:Nat->List DV} {at_:Int} (hc:lR (M+1) (aS op n x (.lst 5 k f) at_)) (t:Bool):bH prog 71 [.c (.own 0 0),.agg [.d (bo E.live),.d (dT E.binds)],.agg [.d (it op),.d (it n),.d (st x),.d (.lst 5 k f),.d (it at_)],.c (.d (bo t))] (HG R s) (kQ (lI R M0 s E op n x (.lst 5 k f) at_ t).1) (HG R (lI R M0 s E op n x (.lst 5 k f) at_ t).2):=by
 have hx:iK M0 (aS op n x (.lst 5 k f) at_):=wY hM hc.ok
 obtain ⟨GR,n',x',k',f',a',e,h1,h2,h3,h4,hf⟩:=hc
 cases e;have iw:=hE.e.ev
 unfold lI;by_cases h:tH op (bP (.lst 5 k f)).1=true
 . rw [if_pos h];have hk:k=2:=bDe h
   subst hk;have c0:=hf 0 j3
   have c1:=hf 1 j3
   have y0:iK M0 (f 0):=wY j3 c0.ok
   have y1:iK M0 (f 1):=wY j3 c1.ok
   obtain ⟨c4,n0,x0,q0,u0,a0,e0⟩:=aDs c0
   obtain ⟨df,n1,x1,q1,u1,a1,e1⟩:=aDs c1
   show bH _ _ _ _ (kQ (qG R (bD R (bD R s E M0 (f 0)).2 E M0 (f 1)).2 E op (vS (f 0)) (vT (f 0)) (bD R s E M0 (f 0)).1 (vS (f 1)) (vT (f 1)) (bD R (bD R s E M0 (f 0)).2 E M0 (f 1)).1 t)) (HG R (bD R (bD R s E M0 (f 0)).2 E M0 (f 1)).2)
   have ef: ∀i,i<2->f i=(match i with|0=>aS c4 n0 x0 (.lst 5 q0 u0) a0|_=>aS df n1 x1 (.lst 5 q1 u1) a1):=fun i hi=>match i,hi with
    |0,_=>e0
    |1,_=>e1
   rw [e0] at y0;rw [e1] at y1;rw [e0,e1];have k0:=aA7 hR iw hs y0
   have k1:=aA7 hR iw k0.2.2 y1
   have w0:=aDr hW R s hE M0 c4 n0 x0 (.lst 5 q0 u0) a0
   have w1:=aDr hW R (bD R s E M0 (aS c4 n0 x0 (.lst 5 q0 u0) a0)).2 hE M0 df n1 x1 (.lst 5 q1 u1) a1
   have m0:=aD9 hR iw hs y0
   have m1:=aD9 hR iw k0.2.2 y1
   generalize bD R s E M0 (aS c4 n0 x0 (.lst 5 q0 u0) a0)=P0 at*
   generalize bD R P0.2 E M0 (aS df n1 x1 (.lst 5 q1 u1) a1)=P1 at*
   refine (bDc hR iw s op n x at_ h1 c4 n0 x0 q0 u0 a0 P0.1 P0.2 k0.1 k0.2.2 df n1 x1 q1 u1 a1 P1.1 P1.2 k1.1 k1.2.2 k0.2.1 k1.2.1 (fun o=>(yY (s:=s) hW hE (op:=o) k0.1 k1.1 k0.2.1 k1.2.1 w0 w1).1.e.ev) (fun o=>(yY (s:=s) hW hE (op:=o) k1.1 k0.1 k1.2.1 k0.2.1 w1 w0).1.e.ev) m0 m1 h t).arg ⟨⟨rfl,rfl⟩,⟨rfl,⟨rfl,rfl,fun _ _=>rfl⟩,trivial⟩,⟨rfl,rfl,rfl,⟨rfl,rfl,fun i hi=> ?_⟩,rfl,trivial⟩,rfl,trivial⟩
   exact ef i hi
 . rw [if_neg h];have yl:iK M0 aAs:=wY hM (aR6 (M:=M))
   have k0:=aA7 hR iw hs hx
   have k1:=aA7 hR iw k0.2.2 yl
   have w0:=aDr hW R s hE M0 op n x (.lst 5 k f) at_
   have w1:(1:Int)=2->eP E.binds ⟨#[]⟩=true-> ∀y,y∈(bD R (bD R s E M0 (aS op n x (.lst 5 k f) at_)).2 E M0 aAs).1.t.names->y∈W:=fun h=>absurd h j5
   have m0:=aD9 hR iw hs hx
   have m1:=bEB hR iw k0.2.2 yl (.inl rfl)
   generalize bD R s E M0 (aS op n x (.lst 5 k f) at_)=P0 at*
   generalize bD R P0.2 E M0 aAs=P1 at*
   exact bDd hR iw s op n x at_ h1 k f P0.1 P1.1 P0.2 P1.2 k0.1 k0.2.2 k1.1 k1.2.2 k0.2.1 k1.2.1 (fun o=>(yY (s:=s) hW hE (op:=o) k0.1 k1.1 k0.2.1 k1.2.1 w0 w1).1.e.ev) (fun o=>(yY (s:=s) hW hE (op:=o) k1.1 k0.1 k1.2.1 k0.2.1 w1 w0).1.e.ev) m0 m1 (Bool.eq_false_iff.2 h) t
theorem bBC {W V:List ByteArray} {A B:En} (ha:dX W V A) (hb:dX W V B):xS A.binds B.binds where
 both x hx y hy:=by have h1:=(ha.e.v x hx).1;have h2:=(hb.e.v y hy).1;unfold QJ;omega
 left x hx:=by have h1:=(ha.e.v x hx).1;have h2:Vl.zero.t.names.length=0:=rfl;unfold QJ;omega
 right y hy:=by have h1:=(hb.e.v y hy).1;have h2:Vl.zero.t.names.length=0:=rfl;unfold QJ;omega
theorem aTd {W V:List ByteArray} (hW:Ws W V) {R:Ro} (hR:R.ok) {M0:Nat}: ∀{M:Nat},M<=M0-> ∀{s:Se} {E:En} {c:List DV} (t:Bool),cD R s->dX W V E->lR M c->bH prog 38 [.c (.own 0 0),.agg [.d (bo E.live),.d (dT E.binds)],.agg (c.map .d),.c (.d (bo t))] (HG R s) (kQ (bX R M0 M s E c t).1) (HG R (bX R M0 M s E c t).2)
 |0,_,_,_,_,_,_,_,h=>h.elim
 |M+1,hM,s,E,c,t,hs,hE,hc=>by
  have zh:=hc
  obtain ⟨op,n,x,k,f,at_,rfl,h1,h2,h3,h4,hf⟩:=hc
  have ih:=fun {s E c} t hs hE hc=>aTd hW hR (M0:=M0) (M:=M) j3 (s:=s) (E:=E) (c:=c) t hs hE hc
  have ix:=fun {s E c} t hs hE hc=>aFG hW hR (M0:=M0) (M:=M) j3 (s:=s) (E:=E) (c:=c) t hs hE hc
  show bH prog 38 [.c (.own 0 0),.agg [.d (bo E.live),.d (dT E.binds)],.agg [.d (it op),.d (it n),.d (st x),.d (.lst 5 k f),.d (it at_)],.c (.d (bo t))] (HG R s) (kQ (bX R M0 (M+1) s E (aS op n x (.lst 5 k f) at_) t).1) (HG R (bX R M0 (M+1) s E (aS op n x (.lst 5 k f) at_) t).2)
  rcases Bool.eq_false_or_eq_true E.live with hl|hl
  rotate_left
  ·
   have e:bX R M0 (M+1) s E (aS op n x (.lst 5 k f) at_) t=(⟨false,[]⟩,s):=by show ite _ _ _=_;exact if_neg (by rw [hl];decide)
   rw [e];exact bBB s op n x at_ t k f hl
  ·
   by_cases h6:op=6/\ k=1
   . obtain ⟨ho,rfl⟩:=h6
     have e:bX R M0 (M+1) s E (aS op n x (.lst 5 1 f) at_) t=bX R M0 M s E (f 0) (!t):=by
      show ite _ (ite _ _ _) _=_
      rw [if_pos hl];exact if_pos ⟨ho,rfl⟩
     rw [e];have c0:=hf 0 j3
     have m:=ih (!t) hs hE c0
     obtain ⟨c4,n0,x0,q0,u0,a0,e0⟩:=aDs c0
     rw [e0] at m⊢;refine (bC9 s op n x at_ t hl ho c4 n0 x0 q0 u0 a0 m).arg ⟨⟨rfl,rfl⟩,⟨rfl,⟨rfl,rfl,fun _ _=>rfl⟩,trivial⟩,⟨rfl,rfl,rfl,⟨rfl,rfl,fun i hi=> ?_⟩,rfl,trivial⟩,rfl,trivial⟩
     obtain rfl:i=0:=j3
     exact e0
   . by_cases lh:(op=16 \/op=17)/\ k=2
     . obtain ⟨ho,rfl⟩:=lh
       have c0:=hf 0 j3
       have c1:=hf 1 j3
       have m0:=ih t hs hE c0
       have vr:=ix t hs hE c0
       obtain ⟨c4,n0,x0,q0,u0,a0,e0⟩:=aDs c0
       obtain ⟨df,n1,x1,q1,u1,a1,e1⟩:=aDs c1
       have ef: ∀i,i<2->f i=(match i with|0=>aS c4 n0 x0 (.lst 5 q0 u0) a0|_=>aS df n1 x1 (.lst 5 q1 u1) a1):=fun i hi=>match i,hi with
        |0,_=>e0
        |1,_=>e1
       by_cases ht:t=decide (op=16)
       . have e:bX R M0 (M+1) s E (aS op n x (.lst 5 2 f) at_) t=bX R M0 M (bX R M0 M s E (f 0) t).2 (bX R M0 M s E (f 0) t).1 (f 1) t:=by
          show ite _ (ite _ _ (ite _ (ite _ _ _) _)) _=_
          rw [if_pos hl,if_neg (show¬(op=6/\ (bP (.lst 5 2 f)).1=1) from h6),if_pos (show (op=16 \/op=17)/\ (bP (.lst 5 2 f)).1=2 from ⟨ho,rfl⟩)];exact if_pos ht
         rw [e];have m1:=ih t vr.1 vr.2 c1
         generalize bX R M0 M s E (f 0) t=P0 at*
         rw [e1] at m1⊢;rw [e0] at m0;refine (bDa s op n x at_ t hl ho ht c4 n0 x0 q0 u0 a0 df n1 x1 q1 u1 a1 m0 m1).arg ⟨⟨rfl,rfl⟩,⟨rfl,⟨rfl,rfl,fun _ _=>rfl⟩,trivial⟩,⟨rfl,rfl,rfl,⟨rfl,rfl,fun i hi=> ?_⟩,rfl,trivial⟩,rfl,trivial⟩
         exact ef i hi
       . have e:bX R M0 (M+1) s E (aS op n x (.lst 5 2 f) at_) t=(En.join (bX R M0 M s E (f 0) t).1 (bX R M0 M (bX R M0 M s E (f 0) t).2 E (f 1) t).1,(bX R M0 M (bX R M0 M s E (f 0) t).2 E (f 1) t).2):=by
          show ite _ (ite _ _ (ite _ (ite _ _ _) _)) _=_
          rw [if_pos hl,if_neg (show¬(op=6/\ (bP (.lst 5 2 f)).1=1) from h6),if_pos (show (op=16 \/op=17)/\ (bP (.lst 5 2 f)).1=2 from ⟨ho,rfl⟩)];exact if_neg ht
         rw [e];have m1:=ih t vr.1 hE c1
         have C5:=ix t vr.1 hE c1
         have jj:t= !decide (op=16):=by cases t<;>cases h:decide (op=16)<;>simp_all
         generalize bX R M0 M s E (f 0) t=P0 at*
         generalize bX R M0 M P0.2 E (f 1) t=P1 at*
         rw [e1] at m1;rw [e0] at m0;have l0:=vr.2.e.n
         have l1:=C5.2.e.n
         refine (bEN s op n x at_ t hl ho jj c4 n0 x0 q0 u0 a0 df n1 x1 q1 u1 a1 m0 m1 (bBC vr.2 C5.2) j3 vr.2.e.ok C5.2.e.ok).arg ⟨⟨rfl,rfl⟩,⟨rfl,⟨rfl,rfl,fun _ _=>rfl⟩,trivial⟩,⟨rfl,rfl,rfl,⟨rfl,rfl,fun i hi=> ?_⟩,rfl,trivial⟩,rfl,trivial⟩
         exact ef i hi
     . have e:bX R M0 (M+1) s E (aS op n x (.lst 5 k f) at_) t=lI R M0 s E op n x (.lst 5 k f) at_ t:=by
        show ite _ (ite _ _ (ite _ (ite _ _ _) _)) _=_
        rw [if_pos hl,if_neg (show¬(op=6/\ (bP (.lst 5 k f)).1=1) from h6)];exact if_neg (show¬((op=16 \/op=17)/\ (bP (.lst 5 k f)).1=2) from lh)
       rw [e];exact bDb s op n x at_ t k f hl (fun a b=>h6 ⟨eq_of_beq a,by have:=eq_of_beq b;omega⟩) (fun a b=>lh ⟨a.imp eq_of_beq eq_of_beq,by have:=eq_of_beq b;omega⟩) (bDf hW hR hs hE hM zh t)
structure aTP (M:Nat) (c:List DV):Prop where
 h:True->lR M c
structure aHr (W V:List ByteArray) (E:En):Prop where
 w:Ws W V
 e:dX W V E
abbrev aTQ (e:En) (s:Se):Ar:= .agg [.d (bo e.live),.d (dT e.binds),.d (yA s.gets),.d (bo s.wants),.d (st s.want.name),.d (it s.want.node)]
def aGg (M:Nat) (W:List ByteArray) (V:List ByteArray):List Ar->Option Rs
 | [.agg [.d (.lst 4 n0 f0),.d (.lst 5 c0 d0),.d (.v (.bool e0)),.d (.lst 9 p0 q0),.d (.lst 12 u0 w0)],.agg [.d (.v (.int .i64 i1)),.d (.v (.int .i64 j1)),.d (.v (.string x1)),.d (.lst 5 k1 g1),.d (.v (.int .i64 a1))],.c (.d (.v (.bool b2)))]=>some ⟨((n0<=1099511627776/\ nL n0 f0)/\ (p0<=1099511627776/\ dN p0 q0)/\ (u0<=1099511627776/\ aAl u0 w0)/\ (∀x,x∈aH p0 q0->x.v.t.names.length<=1048576)/\ (∀x,x∈gD u0 w0->x.s.v.t.names.length<=1048576))/\ (aTP M (aS i1 j1 x1 (.lst 5 k1 g1) a1))/\ (aHr W V ⟨e0,aH p0 q0⟩),.va (aTQ (jQ (⟨bN n0 f0,c0,d0,e0,aH p0 q0,gD u0 w0⟩:Ro) M (aS i1 j1 x1 (.lst 5 k1 g1) a1) b2).1 (jQ (⟨bN n0 f0,c0,d0,e0,aH p0 q0,gD u0 w0⟩:Ro) M (aS i1 j1 x1 (.lst 5 k1 g1) a1) b2).2),[]⟩
 |_=>none
theorem aJ2 (M:Nat) (W:List ByteArray) (V:List ByteArray):FC prog 13 (aGg M W V):=by
 intro xs pre r us h hp;unfold aGg at h;split at h
 . rename_i n0 f0 c0 d0 e0 p0 q0 u0 w0 i1 j1 x1 k1 g1 a1 b2
   cases h;obtain ⟨a7,a8,af⟩:=hp
   refine aU.deep (ys:= [.agg [.d (.lst 4 n0 (dC (bN n0 f0))),.d (.lst 5 c0 d0),.d (.v (.bool e0)),.d (.lst 9 p0 (aW (aH p0 q0))),.d (.lst 12 u0 (iC (gD u0 w0)))],.agg [.d (.v (.int .i64 i1)),.d (.v (.int .i64 j1)),.d (.v (.string x1)),.d (.lst 5 k1 g1),.d (.v (.int .i64 a1))],.c (.d (.v (.bool b2)))]) ?_ ?_
   . repeat' (first|exact j3s|refine ⟨?_,?_⟩|fail)
     all_goals first|first|exact j3q
   refine aE aA (l:= [(39,⟨[],aDE⟩)]) ⟨aJx,trivial⟩ func13 rfl j4 true ?_
   have hR:Ro.ok ⟨bN n0 f0,c0,d0,e0,aH p0 q0,gD u0 w0⟩:=⟨yX a7.1.2,by rw [qQ];exact a7.1.1,iD a7.2.1.2,by rw [eD];exact a7.2.1.1,aFs a7.2.2.1.2,by rw [uB];exact a7.2.2.1.1,a7.2.2.2.1,a7.2.2.2.2⟩
   have l1:=qQ n0 f0
   have l2:=eD p0 q0
   have l3:=uB u0 w0
   generalize bN n0 f0=G_ at*
   generalize aH p0 q0=B_ at*
   generalize gD u0 w0=D_ at*
   clear a7;subst l1 l2 l3;have hz:cD ⟨G_,c0,d0,e0,B_,D_⟩ ⟨[],false,⟨⟨#[]⟩,0⟩⟩:=⟨List.nodup_nil,fun k h=>by cases h⟩
   have hx:=a8.h trivial
   have BR:bH prog 38 [.c (.own 0 0),.agg [.d (bo e0),.d (dT B_)],.agg [.d (it i1),.d (it j1),.d (st x1),.d (.lst 5 k1 g1),.d (it a1)],.c (.d (bo b2))] (HG ⟨G_,c0,d0,e0,B_,D_⟩ ⟨[],false,⟨⟨#[]⟩,0⟩⟩) (kQ (bX ⟨G_,c0,d0,e0,B_,D_⟩ M M ⟨[],false,⟨⟨#[]⟩,0⟩⟩ ⟨e0,B_⟩ (aS i1 j1 x1 (.lst 5 k1 g1) a1) b2).1) (HG ⟨G_,c0,d0,e0,B_,D_⟩ (bX ⟨G_,c0,d0,e0,B_,D_⟩ M M ⟨[],false,⟨⟨#[]⟩,0⟩⟩ ⟨e0,B_⟩ (aS i1 j1 x1 (.lst 5 k1 g1) a1) b2).2):=aTd af.w hR (Nat.le_refl M) b2 hz af.e hx
   have AL:=aFG af.w hR (Nat.le_refl M) b2 hz af.e hx
   unfold jQ
   generalize bX ⟨G_,c0,d0,e0,B_,D_⟩ M M ⟨[],false,⟨⟨#[]⟩,0⟩⟩ ⟨e0,B_⟩ (aS i1 j1 x1 (.lst 5 k1 g1) a1) b2=P_ at*
   have qx:=dV AL.2.e.ok
   have ji:P_.1.binds.length<=1099511627776:=Nat.le_trans AL.2.e.n j5
   repeat' (fail)
   all_goals first|(conv=>whnf)
   all_goals first|((with_reducible show bM _ _ 38 _ _ _);refine bH.use (nv:=1) [3] BR rfl rfl rfl rfl rfl rfl ?_ ?_ ?_)
   all_goals (repeat' (first|exact j4p|refine ⟨?_,?_⟩|intro _));all_goals first|apply qq|conv=>whnf
   all_goals (try simp only [Bool.not_eq_true',Bool.not_eq_false'] at*)
   all_goals (try simp only [sT,bI,eZ,dJ,aGd,Nat.zero_add, ↓reduceIte,Bool.false_eq_true, *])
   all_goals first|rfl|omega|decide
 . cases h
end Go.Proofs.YtiblbnhknemloaaGreat
namespace Go.Proofs.YtiblbnhknemloaaGreat
open Go.Proofs.Tryz
open Go.Sx
def aK1:List Ar->Option Rs
 | [.agg [.d (.v (.bool e0)),.d (.lst 9 n0 f0),.d (.lst 2 m0 k0),.d (.v (.bool w0)),.d (.v (.string x0)),.d (.v (.int .i64 i0))],.agg [.d (.v (.bool e1)),.d (.lst 9 n1 f1),.d (.lst 2 m1 k1),.d (.v (.bool w1)),.d (.v (.string x1)),.d (.v (.int .i64 i1))]]=>some ⟨((n0<=1099511627776/\ dN n0 f0)/\ m0<=1099511627776/\ sY m0 k0)/\ ((n1<=1099511627776/\ dN n1 f1)/\ m1<=1099511627776/\ sY m1 k1)/\ (((⟨e0,aH n0 f0⟩,⟨cV m0 k0,w0,⟨x0,i0⟩⟩):En×Se)=((⟨e1,aH n1 f1⟩,⟨cV m1 k1,w1,⟨x1,i1⟩⟩):En×Se)),.va (.c (.d (bo (true)))),[]⟩
 |_=>none
theorem aZS:FC prog 15 aK1:=by
 intro xs pre r us h hp;unfold aK1 at h;split at h
 . rename_i e0 n0 f0 m0 k0 w0 x0 i0 e1 n1 f1 m1 k1 w1 x1 i1
   cases h;obtain ⟨a7,a8,af⟩:=hp
   refine aU.deep (ys:= [.agg [.d (.v (.bool e0)),.d (.lst 9 n0 (aW (aH n0 f0))),.d (.lst 2 m0 (fH (cV m0 k0))),.d (.v (.bool w0)),.d (.v (.string x0)),.d (.v (.int .i64 i0))],.agg [.d (.v (.bool e1)),.d (.lst 9 n1 (aW (aH n1 f1))),.d (.lst 2 m1 (fH (cV m1 k1))),.d (.v (.bool w1)),.d (.v (.string x1)),.d (.v (.int .i64 i1))]]) ?_ ?_
   . repeat' (first|exact j3s|refine ⟨?_,?_⟩|fail)
     all_goals first|first|exact j3p
   refine aE aA (l:= [(40,⟨[],aJc⟩),(41,⟨[],aLH⟩)]) ⟨aWm,bBk,trivial⟩ func15 rfl j4 true ?_
   have l0:=eD n0 f0
   have l1:=eD n1 f1
   have EV:=yO m0 k0
   have EW:=yO m1 k1
   have hL:=dV (iD a7.1.2)
   have EX:=dV (iD a8.1.2)
   have hK:=oJ (cV m0 k0)
   have C6:=oJ (cV m1 k1)
   have hn:=a7.1.1
   have BU:=a8.1.1
   have hm:=a7.2.1
   have j6:=a8.2.1
   have e1:e0=e1/\ aH n0 f0=aH n1 f1:=⟨congrArg (fun p:En×Se=>p.1.live) af,congrArg (fun p:En×Se=>p.1.binds) af⟩
   have e2:cV m0 k0=cV m1 k1/\ w0=w1/\ x0=x1/\ i0=i1:=⟨congrArg (fun p:En×Se=>p.2.gets) af,congrArg (fun p:En×Se=>p.2.wants) af,congrArg (fun p:En×Se=>p.2.want.name) af,congrArg (fun p:En×Se=>p.2.want.node) af⟩
   clear a7 a8 af
   generalize aH n0 f0=L at*
   generalize aH n1 f1=M_ at*
   generalize cV m0 k0=A_ at*
   generalize cV m1 k1=B_ at*
   subst l0 l1 EV EW;obtain ⟨rfl,rfl⟩:=e1
   obtain ⟨rfl,rfl,rfl,rfl⟩:=e2
   clear EX C6 BU j6
   repeat' (first|exact trivial|(with_reducible first|assumption|exact n1)|refine ⟨?_,?_⟩|intro _)
   all_goals first|(conv=>whnf)
   all_goals (try simp only [sT,dJ,decide_true,beq_self_eq_true,Bool.true_and,Bool.and_true] at*)
   all_goals first|(exact absurd ‹_=false› j8)
 . cases h
def PL (b:Bool):En:=⟨true,[⟨XN,if b=true then NV 4 else NV 7⟩]⟩
theorem aTe:aY VJ:=⟨⟨Nat.zero_le _,fun _ _=>rfl⟩,by unfold Sp.inR Cg.inR;decide⟩
abbrev XK:Nat->List DV:=fun i=>match i with|0=>XV 0|_=>X5 0
theorem bDg:lR 2 (aS 12 0 ⟨#[]⟩ (.lst 5 2 XK) 0):=⟨12,0,⟨#[]⟩,2,XK,0,rfl,by unfold rI;decide,by unfold rI;decide,by unfold rI;decide,by decide,fun i hi=>match i,hi with
 |0,_=>⟨2,0,XN,0,fun _=> [],0,rfl,by unfold rI;decide,by unfold rI;decide,by unfold rI;decide,by decide,fun i hi=>absurd hi (Nat.not_lt_zero i)⟩
 |1,_=>⟨1,5,⟨#[]⟩,0,fun _=> [],0,rfl,by unfold rI;decide,by unfold rI;decide,by unfold rI;decide,by decide,fun i hi=>absurd hi (Nat.not_lt_zero i)⟩⟩
theorem aMZ:dX [] [XN] EJ:=⟨⟨fun b hb=>by rw [List.mem_singleton.1 hb];exact aTe,by decide,fun b hb=>by rw [List.mem_singleton.1 hb];exact ⟨by decide,fun x hx=>hx⟩⟩,fun b hb=>by rw [List.mem_singleton.1 hb];exact List.mem_singleton.2 rfl⟩
theorem bDh:Vl.join ⟨⟨Sp.of 4 4,Cg.of 0 4⟩,⟨false,[]⟩⟩ ⟨⟨Sp.of 7 7,Cg.of 0 7⟩,⟨false,[]⟩⟩=VJ:=aZR
theorem bBD:En.get (PL true) ⟨#[120]⟩=NV 4:=aLR aHn
theorem bBE:En.get (PL false) ⟨#[120]⟩=NV 7:=aLR aHo
theorem bBF:Vl.same (NV 4) ⟨⟨Sp.of 4 4,Cg.of 0 4⟩,⟨false,[]⟩⟩=true:=j4
theorem bBG:Vl.same (NV 7) ⟨⟨Sp.of 7 7,Cg.of 0 7⟩,⟨false,[]⟩⟩=true:=j4
theorem bBH (b:Bool):dN (PL b).binds.length (aW (PL b).binds):=dV (l:=(PL b).binds) fun x hx=>by
 rw [List.mem_singleton.1 (show x∈ [(⟨XN,if b=true then NV 4 else NV 7⟩:Bd)] from hx)];cases b
 . exact ⟨⟨Nat.zero_le _,fun _ _=>rfl⟩,by unfold Sp.inR Cg.inR;decide⟩
 . exact ⟨⟨Nat.zero_le _,fun _ _=>rfl⟩,by unfold Sp.inR Cg.inR;decide⟩
def aJ3:List Ar->Option Rs:=fun xs=>match xs with
 | [.agg [.d (.v (.slice none 0 0)),.d (.v (.slice none 0 0)),.d (.v (.bool e)),.d (.lst 9 p q),.d (.v (.slice none 0 0))],.agg [.d (.v (.int .i64 i)),.d (.v (.int .i64 j)),.d (.v (.string x)),.d (.lst 5 k h),.d (.v (.int .i64 a))],.c (.d (.v (.bool b)))]=>
   some ⟨(e=true/\ p=1/\ i=12/\ j=0/\ x=⟨#[]⟩/\ k=2/\ a=0)/\ h 0= [it 2,it 0,st XN,.v (.slice none 0 0),it 0]/\ h 1= [it 1,it 5,st ⟨#[]⟩,.v (.slice none 0 0),it 0]/\ dN p q/\ aH p q= [⟨XN,VJ⟩],.va (aTQ (PL b) fG),[]⟩
 |_=>none
theorem aXR:FC prog 13 aJ3:=by
 intro xs pre r us h hp;unfold aJ3 at h;split at h
 . rename_i e p q i j x k f a b
   cases h;obtain ⟨⟨rfl,rfl,rfl,rfl,rfl,rfl,rfl⟩,h0,h1,hr,hB⟩:=hp
   have ht:=aJ2 2 [] [XN] [.agg [.d (.lst 4 0 fun _=> []),.d (.lst 5 0 fun _=> []),.d (.v (.bool true)),.d (.lst 9 1 (aW EJ.binds)),.d (.lst 12 0 fun _=> [])],.agg [.d (.v (.int .i64 12)),.d (.v (.int .i64 0)),.d (.v (.string ⟨#[]⟩)),.d (.lst 5 2 XK),.d (.v (.int .i64 0))],.c (.d (.v (.bool b)))] _ _ _ rfl ⟨⟨⟨by decide,⟨fun i h=>absurd h (Nat.not_lt_zero i)⟩⟩,⟨by decide,dV aMZ.e.ok⟩,⟨by decide,⟨fun i h=>absurd h (Nat.not_lt_zero i)⟩⟩,fun x hx=>by rw [show aH 1 (aW EJ.binds)=EJ.binds from dJ EJ.binds] at hx;exact (aMZ.e.v x hx).1,fun x hx=>by cases hx⟩,⟨fun _=>bDg⟩,⟨⟨by decide,by decide⟩,by rw [show aH 1 (aW EJ.binds)=EJ.binds from dJ EJ.binds];exact aMZ⟩⟩
   have et:=bBA (R:=⟨bN 0 fun _=> [],0,fun _=> [],true,aH 1 (aW EJ.binds),gD 0 fun _=> []⟩) rfl rfl (dJ EJ.binds) 0 ⟨#[]⟩ XK 0 0 0 rfl rfl b
   rw [et] at ht;refine aU.deep ?_ ht
   refine ⟨⟨.nil,.nil,.refl _,by have AV:=gY hr.h;rw [hB] at AV;exact AV,.nil,trivial⟩,⟨.refl _,.refl _,.refl _,.lst (fun i hi=> ?_) (fun i j a b hi ha hb=> ?_),.refl _,trivial⟩,.refl _,trivial⟩
   . match i,hi with
     |0,_=>rw [h0];rfl
     |1,_=>rw [h1];rfl
   . match i,hi with
     |0,_=>
      rw [h0] at ha
      match j with
      |0=>cases ha;cases hb;exact .refl _
      |1=>cases ha;cases hb;exact .refl _
      |2=>cases ha;cases hb;exact .refl _
      |3=>cases ha;cases hb;exact .nil
      |4=>cases ha;cases hb;exact .refl _
      |j+5=>cases ha
     |1,_=>
      rw [h1] at ha
      match j with
      |0=>cases ha;cases hb;exact .refl _
      |1=>cases ha;cases hb;exact .refl _
      |2=>cases ha;cases hb;exact .refl _
      |3=>cases ha;cases hb;exact .nil
      |4=>cases ha;cases hb;exact .refl _
      |j+5=>cases ha
 . cases h
def aJ4:List Ar->Option Rs
 | []=>some ⟨True,.va (.c (.d (bo (true)))),[]⟩
 |_=>none
theorem aXS:FC prog 16 aJ4:=by
 intro xs pre r us h hp;unfold aJ4 at h;split at h
 . cases h;refine aE aA (l:= [(43,⟨[],xK⟩),(42,⟨[],xA⟩),(21,⟨[],aB1⟩),(44,⟨[],aGs⟩)]) ⟨aBt,aDz,aGB,aRe,trivial⟩ func16 rfl j4 true ?_
   (repeat' (first|refine ⟨?_,?_⟩|intro _));all_goals first|apply qq|conv=>whnf
   all_goals first|((with_reducible show aO _ _ (.region 3 _ _) _ _);refine cO aA (l:= [(43,⟨[],xK⟩),(42,⟨[],xA⟩),(13,⟨[],aJ3⟩),(21,⟨[],aB1⟩),(44,⟨[],aGs⟩)]) ⟨aBt,aDz,aXR,aGB,aRe,trivial⟩ ([.take 0,.take 1,.take 2,.take 4,.take 5,.take 6,.act 3 [6,5,4] [16,17],.act 7 [] [20,21],.news [8,9],.act 10 [] [3,18],.act 11 [] [4,22]]) j4 ?_)|skip
   all_goals (repeat' (first|exact trivial|refine ⟨?_,?_⟩|intro _));all_goals first|apply qq|conv=>whnf
   all_goals (try simp only [bI,dJ,aKT,aKX,aKY,aKU,aKV,aKW,aGd,bDh,bBD,bBE,bBF,bBG,Bool.true_and,Bool.and_true,Bool.true_eq_false,Bool.not_true,Bool.not_false] at*)
   all_goals first|omega|rfl|decide|exact bBH _|(exact ⟨fun i hi=>by obtain rfl:i=0:=j3;exact ⟨.inl rfl,fun j hj=>absurd hj (Nat.not_lt_zero j),aTe⟩⟩)
 . cases h
open Go.RowKit Go.Lib Go.Sort
theorem aWr {L:List Sd} {x:Sd} {g:Nat->List DV} (hg:g 0=sdC x): ∀j,j<L.length+1->dG L.length (iC L) g j=iC (L++ [x]) j:=by
 intro j hj;unfold dG;split
 . rename_i h
   unfold iC eK;simp only [List.getD_eq_getElem?_getD,List.getElem?_append_left h]
 . have:j=L.length:=by omega
   subst this;rw [Nat.sub_self,hg];simp [iC,eK]
theorem aXT {W V:List ByteArray} {R:Ro} (hR:R.ok) {M:Nat} {c:List DV} (t:Bool) (hp:aHr W V ⟨R.lv,R.B⟩) (hx:lR M c):dX W V (jQ R M c t).1/\ cD R (jQ R M c t).2:=by
 have hz:cD R fG:=⟨List.nodup_nil,fun k h=>by cases h⟩
 have h:=aFG hp.w hR (Nat.le_refl M) t hz hp.e hx
 unfold jQ;refine ⟨?_,h.1⟩
 show dX W V (ite _ _ _)
 split
 . exact aAW W V
 . exact aFF hp.w h.2
def aQ3 (M:Nat) (W:List ByteArray) (V:List ByteArray):List Ar->Option Rs
 | [.agg [.d (.lst 4 n0 f0),.d (.lst 5 _ _),.d (.v (.bool e0)),.d (.lst 9 p0 q0),.d (.lst 12 u0 w0)],.agg [.d (.v (.int .i64 i1)),.d (.v (.int .i64 j1)),.d (.v (.string x1)),.d (.lst 5 k1 g1),.d (.v (.int .i64 a1))],.c (.d (.v (.bool _)))]=>some ⟨((n0<=1099511627776/\ nL n0 f0)/\ (p0<=1099511627776/\ dN p0 q0)/\ (u0<=1099511627776/\ aAl u0 w0)/\ (∀x,x∈aH p0 q0->x.v.t.names.length<=1048576)/\ (∀x,x∈gD u0 w0->x.s.v.t.names.length<=1048576))/\ (aTP M (aS i1 j1 x1 (.lst 5 k1 g1) a1))/\ (aHr W V ⟨e0,aH p0 q0⟩/\ u0<=1048576),.va (.c (.d (bo (true)))),[]⟩
 |_=>none
theorem aXU (M:Nat) (W:List ByteArray) (V:List ByteArray):FC prog 4 (aQ3 M W V):=by
 intro xs pre r us h hp;unfold aQ3 at h;split at h
 . rename_i n0 f0 c0 d0 e0 p0 q0 u0 w0 i1 j1 x1 k1 g1 a1 b2
   cases h;obtain ⟨a7,a8,af⟩:=hp
   refine aU.deep (ys:= [.agg [.d (.lst 4 n0 (dC (bN n0 f0))),.d (.lst 5 c0 d0),.d (.v (.bool e0)),.d (.lst 9 p0 (aW (aH p0 q0))),.d (.lst 12 u0 (iC (gD u0 w0)))],.agg [.d (.v (.int .i64 i1)),.d (.v (.int .i64 j1)),.d (.v (.string x1)),.d (.lst 5 k1 g1),.d (.v (.int .i64 a1))],.c (.d (.v (.bool b2)))]) ?_ ?_
   . repeat' (first|exact j3s|refine ⟨?_,?_⟩|fail)
     all_goals first|first|exact j3q
   refine aE aA (l:= [(14,⟨[],aD8⟩)]) ⟨aKR,trivial⟩ func4 rfl j4 true ?_
   have hR:Ro.ok ⟨bN n0 f0,c0,d0,e0,aH p0 q0,gD u0 w0⟩:=⟨yX a7.1.2,by rw [qQ];exact a7.1.1,iD a7.2.1.2,by rw [eD];exact a7.2.1.1,aFs a7.2.2.1.2,by rw [uB];exact a7.2.2.1.1,a7.2.2.2.1,a7.2.2.2.2⟩
   have l1:=qQ n0 f0
   have l2:=eD p0 q0
   have l3:=uB u0 w0
   generalize bN n0 f0=G_ at*
   generalize aH p0 q0=B_ at*
   generalize gD u0 w0=D_ at*
   clear a7;subst l1 l2 l3;have hz:cD ⟨G_,c0,d0,e0,B_,D_⟩ ⟨[],false,⟨⟨#[]⟩,0⟩⟩:=⟨List.nodup_nil,fun k h=>by cases h⟩
   have hG:=pL hR.g
   have hB:=dV hR.b
   have EL:=aDG hR.d
   have xj:=hR.gn
   have er:=hR.bn
   have BW:=hR.dn
   have mj:=gS G_
   have qv:=dJ B_
   have sl:=aD1 D_
   have BX:jQ ⟨bN G_.length (dC G_),c0,d0,e0,aH B_.length (aW B_),gD D_.length (iC D_)⟩ M (aS i1 j1 x1 (.lst 5 k1 g1) a1) b2=jQ ⟨G_,c0,d0,e0,B_,D_⟩ M (aS i1 j1 x1 (.lst 5 k1 g1) a1) b2:=by rw [mj,qv,sl]
   have vj:=aXT hR b2 af.1 (a8.h trivial)
   have DB:=aXQ ⟨G_,c0,d0,e0,B_,D_⟩ M (aS i1 j1 x1 (.lst 5 k1 g1) a1) b2
   generalize jQ ⟨G_,c0,d0,e0,B_,D_⟩ M (aS i1 j1 x1 (.lst 5 k1 g1) a1) b2=P_ at*
   repeat' (fail)
   all_goals first|(conv=>whnf)
   all_goals first|((with_reducible show bM _ _ 13 _ _ _);refine aIy (l:= [(13,⟨[],(aGg M W V)⟩)]) ⟨(aJ2 M W V),trivial⟩ ?_)
   all_goals (repeat' (first|exact j3f|refine ⟨?_,?_⟩|intro _));all_goals first|apply qq|conv=>whnf
   all_goals (try rw [BX])
   all_goals first|(rename_i hx;rw [qv] at hx;exact hR.bv _ hx)|(rename_i hx;rw [sl] at hx;exact hR.dv _ hx)|exact af.1.w.w|exact af.1.w.v|(rw [qv];exact af.1.e.e)|(rename_i hx;rw [qv] at hx;exact af.1.e.m _ hx)|skip
   have EZ:=oJ P_.2.gets
   have F0:=wJ vj.2
   dsimp only at F0
   have F1:=dV vj.1.e.ok
   have F2:P_.1.binds.length<=1099511627776:=Nat.le_trans vj.1.e.n j5
   have F3:=aDG (l:=dZ D_ P_.2.gets D_.length) fun x hx=>hR.d x (aFe (Nat.le_refl _) hx)
   refine aIZ aA (l:= [(14,⟨[],aD8⟩)]) ⟨aKR,trivial⟩ j4 (X:=Nat) (fun i=>⟨[(9,vx (.int .i64 i)),(8,.va (.c (.own 3 0))),(7,.va (.c (.own 2 0))),(3,.va (.c (.own 0 0))),(4,.va (.c (.own 1 0))),(2,.va (.c (.d (bo b2))))],[(0,.cells [.d (xZ G_),.d (.lst 5 c0 d0),.d (bo e0),.d (dT B_),.d (aEx D_)]),(1,.cells [.d (it i1),.d (it j1),.d (st x1),.d (.lst 5 k1 g1),.d (it a1)]),(2,.cells [.d (bo P_.1.live),.d (dT P_.1.binds),.d (yA P_.2.gets),.d (bo P_.2.wants),.d (st P_.2.want.name),.d (it P_.2.want.node)]),(3,.cells [.d (xZ G_),.d (.lst 5 c0 d0),.d (bo e0),.d (dT B_),.osl 4 12 0 (dZ D_ P_.2.gets i).length]),(4,.row 12 (dZ D_ P_.2.gets i).length (iC (dZ D_ P_.2.gets i)))],5,Tryz.f4.ntmps⟩) (fun i=>D_.length-i) (fun i=>i<=D_.length) [] [3] (fun i _ _=>i+1) (aTt 4 [0,1,2,3] []) [0,1,2,3] 0 1 0 ?_ ?_ ?_
   . exact Nat.zero_le _
   . repeat' (first|exact j2w|refine ⟨?_,?_⟩|fail)
     all_goals decide
   . rintro i ki
     have EP:=aPq D_ P_.2.gets i
     rcases Nat.lt_or_ge i D_.length with hi|hi
     . have ag:decide ((i:Int)<(D_.length:Int))=true:=decide_eq_true j3
       have ka:(0:Int)<=(i:Int)/\ (i:Int)<(D_.length:Int):=j3
       have hc:(iG (cV P_.2.gets.length (fH P_.2.gets)) ⟨(eK D_ (Int.toNat (i:Int))).k.name,(eK D_ (Int.toNat (i:Int))).k.node⟩=true/\ dZ D_ P_.2.gets (i+1)=dZ D_ P_.2.gets i++ [eK D_ (Int.toNat (i:Int))]) \/(iG (cV P_.2.gets.length (fH P_.2.gets)) ⟨(eK D_ (Int.toNat (i:Int))).k.name,(eK D_ (Int.toNat (i:Int))).k.node⟩=false/\ dZ D_ P_.2.gets (i+1)=dZ D_ P_.2.gets i):=by
        rw [sT];by_cases hq:iG P_.2.gets (eK D_ i).k=true
        . exact .inl ⟨hq,if_pos hq⟩
        . exact .inr ⟨Bool.eq_false_iff.2 hq,if_neg hq⟩
       rcases hc with ⟨qj,e⟩|⟨qj,e⟩
       all_goals (repeat' (first|exact trivial|exact j5r|refine ⟨?_,?_⟩|intro _));all_goals first|apply qq|conv=>whnf
       all_goals (repeat' (fail));all_goals first|apply qq|conv=>whnf
       all_goals (repeat' (fail));all_goals first|apply qq|conv=>whnf
       all_goals (try dsimp only)
       all_goals (try simp only [e])
       all_goals first|exact j6q|exact j3a|(rw [List.length_append];rfl)|(exact aWr rfl _ j9)
     . have ag:decide ((i:Int)<(D_.length:Int))=false:=decide_eq_false j3
       obtain rfl:i=D_.length:=j3
       have DC:(fun i=>iC (dZ D_ P_.2.gets D_.length) (0+i))=iC (dZ D_ P_.2.gets D_.length):=funext fun i=>by rw [Nat.zero_add]
       have vt:gD (dZ D_ P_.2.gets D_.length).length (fun i=>iC (dZ D_ P_.2.gets D_.length) (0+i))=(dZ D_ P_.2.gets D_.length):=by rw [DC];exact aD1 _
       have Gm:aAl (dZ D_ P_.2.gets D_.length).length (fun i=>iC (dZ D_ P_.2.gets D_.length) (0+i)):=by rw [DC];exact F3
       have F4:jQ ⟨bN G_.length (dC G_),c0,d0,e0,aH B_.length (aW B_),gD (dZ D_ P_.2.gets D_.length).length (fun i=>iC (dZ D_ P_.2.gets D_.length) (0+i))⟩ M (aS i1 j1 x1 (.lst 5 k1 g1) a1) b2=P_:=by rw [mj,qv,vt];exact DB
       have Gn:(dZ D_ P_.2.gets D_.length).length<=1099511627776:=j3
       have DD:P_.2.gets.length<=1099511627776:=j3
       cases b2
       all_goals repeat' (first|(with_reducible exact nx ag)|refine ⟨?_,?_⟩|intro _)
       all_goals first|(conv=>whnf)
       all_goals first|((with_reducible show aO _ _ (.region 8 _ _) _ _);refine cO aA (l:= [(13,⟨[],(aGg M W V)⟩),(14,⟨[],aD8⟩),(15,⟨[],aK1⟩),(16,⟨[],aJ4⟩)]) ⟨(aJ2 M W V),aKR,aZS,aXS,trivial⟩ ([.take 0,.take 1,.take 2,.take 4,.act 3 [4] [45,46,47],.act 5 [] [48,49],.take 6,.act 7 [] [51],.take 8,.take 9]) j4 ?_)
       all_goals (repeat' (first|exact j4p|refine ⟨?_,?_⟩|intro _));all_goals first|apply qq|conv=>whnf
       all_goals (try simp only [F4])
       all_goals (try simp only [bI,eZ,sT,dJ])
       all_goals first|(rename_i hx;rw [qv] at hx;exact hR.bv _ hx)|(rename_i hx;rw [vt] at hx;exact hR.dv _ (aFe (Nat.le_refl _) hx))|exact EZ|exact F1|exact F2|exact DD|omega|rfl|exact af.1.w.w|exact af.1.w.v|(rename_i hx;rw [qv] at hx;exact af.1.e.m _ hx)|exact af.1.e.e
 . cases h
end Go.Proofs.YtiblbnhknemloaaGreat
namespace Go.Proofs.YtiblbnhknemloaaGreat
open Go.Proofs.Tryz
open Go.Sx Go.ChangeShapes Go.WideShapes Go.RowKit
theorem kX {i:Int} (h:(Lit.int .i64 i).wf=true): -9223372036854775808<=i/\ i<9223372036854775808:=by
 have h:(decide (-9223372036854775808<=i)&&decide (i<=9223372036854775807))=true:=h
 simp at h;omega
theorem aPx {H:Type} (d:DataW H):1<=Rows.uptoBulk d:=by
 cases d with
 |lit l=>cases l<;>simp [Rows.uptoBulk]
 |_=>simp [Rows.uptoBulk]
theorem wN {H:Type}: ∀(l:List (DataW H)),l.length<=Rows.uptoBulkAll l
 | []=>Nat.zero_le _
 |d::l=>by
  have h1:=aPx d
  have h2:=wN l
  simp only [Rows.uptoBulkAll,List.length_cons];omega
def tI {P:Program} {t:TT} (_:TT.ok P t):TT:=t
def lB (t:TT):Prop:=t=tI aA
theorem aDt {H:Type}: ∀{xs:List (DataW H)} {i:Nat} {x:DataW H},xs[i]? =some x->Rows.uptoBulk x<=Rows.uptoBulkAll xs
 | [],_,_,h=>by simp at h
 |y::xs,0,x,h=>by
  have h:y=x:=w7
  subst h;simp only [Rows.uptoBulkAll];omega
 |y::xs,i+1,x,h=>by
  have:=aDt (xs:=xs) (i:=i) (x:=x) w7
  simp only [Rows.uptoBulkAll];omega
structure xT (l:List DV) (N:Nat):Prop where
 sb:jC l
 s:(gB l).v.i.s.inR
 c:(gB l).v.i.c.inR
 n:lD l<=N
theorem xT.ok {l:List DV} {N:Nat} (h:xT l N) (hN:N*16<=140737488351232):zV l:=⟨h.sb.1,h.sb.2,⟨by show (gN (lD l) (qN l)).length*16<=_;rw [bU];have:=h.n;omega,fun _ _=>rfl⟩,h.s,h.c⟩
theorem aFI {k:Nat} {f:Nat->List DV} {N:Nat} (h: ∀i,i<k->xT (f i) N) (hN:N*16<=140737488351232):dN k f:=⟨fun i hi=>(h i hi).ok hN⟩
theorem aPy {k:Nat} {f:Nat->List DV} {N:Nat} (h: ∀i,i<k->xT (f i) N): ∀x∈aH k f,x.v.t.names.length<=N:=by
 intro x hx;obtain ⟨j,hj,rfl⟩:=aF0 hx
 rw [eD] at hj;rw [aDB hj];show (gN (lD (f j)) (qN (f j))).length<=N
 rw [bU];exact (h j hj).n
theorem aJ5 {H:Type} {n:Nat} {cs:List DV} {d:DataW H} {tt:TT} (fc:lB tt) (h:Rd tt.get (n+5) 118 cs d):xT cs (Rows.uptoBulk d):=by
 unfold lB tI at fc;subst fc;obtain ⟨_,rfl,⟨_,_,_,_,rfl,rfl,⟨t_1,rfl,_,rfl⟩,⟨_,_,_,_,rfl,rfl,⟨_,rfl,⟨_,_,_,_,rfl,rfl,⟨_,rfl,⟨_,_,_,_,rfl,rfl,⟨b_2,rfl,rfl⟩,⟨_,_,_,_,rfl,rfl,⟨n_3,rfl,pa,rfl⟩,⟨_,_,_,_,rfl,rfl,⟨n_4,rfl,jq,rfl⟩,⟨rfl,rfl⟩⟩⟩⟩⟩,⟨_,_,_,_,rfl,rfl,⟨_,rfl,⟨_,_,_,_,rfl,rfl,⟨b_5,rfl,rfl⟩,⟨_,_,_,_,rfl,rfl,⟨n_6,rfl,zi,rfl⟩,⟨_,_,_,_,rfl,rfl,⟨n_7,rfl,pb,rfl⟩,⟨rfl,rfl⟩⟩⟩⟩⟩,⟨_,_,_,_,rfl,rfl,⟨_,rfl,⟨_,_,_,_,rfl,rfl,⟨b_8,rfl,rfl⟩,⟨_,_,_,_,rfl,rfl,⟨sz_9,m_9,f_9,rfl,C7,lm_9,y_9⟩,⟨rfl,rfl⟩⟩⟩⟩,⟨rfl,rfl⟩⟩⟩⟩⟩,⟨rfl,rfl⟩⟩⟩⟩:=h
 have pa:=kX pa
 have jq:=kX jq
 have zi:=kX zi
 have pb:=kX pb
 have C7:sz_9=1:=C7;subst C7
 refine ⟨⟨.inl rfl, ?_⟩,⟨pa,jq⟩,⟨zi,pb⟩, ?_⟩
 . intro i hi;have hi:i<m_9:=hi
   show f_9 i= [st (gT (f_9 i))]
   rcases y_9 with ⟨hm,_⟩|⟨xs,_,_,hl,hx⟩
   . omega
   . obtain ⟨z,f1,_,_⟩:=hx i (xs[i]'j3) j8
     rw [f1];rfl
 . show m_9<=_
   rcases y_9 with ⟨hm,rfl⟩|⟨xs,sp,rfl,hl,_⟩
   . omega
   . have:=wN xs
     simp only [Rows.uptoBulk,Rows.uptoBulkAll];omega
theorem aZT {H:Type} {n:Nat} {cs:List DV} {d:DataW H} {tt:TT} (fc:lB tt) (h:Rd tt.get (n+9) 51 cs d): ∃eA kA fA sA lA hA bA mA rA zA pA gA,cs= [.v (.bool eA),.lst 9 kA fA,.v (.bool sA),.v (.int .i64 lA),.v (.int .i64 hA),.v (.bool bA),.v (.int .i64 mA),.v (.int .i64 rA),.v (.bool zA),.lst 1 pA gA]/\ (∀i,i<kA->xT (fA i) (Rows.uptoBulk d))/\ kA<=Rows.uptoBulk d/\ Sp.inR ⟨sA,lA,hA⟩/\ Cg.inR ⟨bA,mA,rA⟩/\ (∀i,i<pA->gA i= [st (gT (gA i))])/\ pA<=Rows.uptoBulk d:=by
 unfold lB tI at fc;subst fc;obtain ⟨_,rfl,⟨_,_,_,_,rfl,rfl,⟨_,rfl,⟨_,_,_,_,rfl,rfl,⟨F5,rfl,rfl⟩,⟨_,_,_,_,rfl,rfl,⟨sz_2,m_2,f_2,rfl,vu,lm_2,y_2⟩,⟨rfl,rfl⟩⟩⟩⟩,⟨_,_,_,_,rfl,rfl,⟨_,rfl,⟨_,_,_,_,rfl,rfl,⟨_,rfl,⟨_,_,_,_,rfl,rfl,⟨b_3,rfl,rfl⟩,⟨_,_,_,_,rfl,rfl,⟨n_4,rfl,jq,rfl⟩,⟨_,_,_,_,rfl,rfl,⟨n_5,rfl,jz,rfl⟩,⟨rfl,rfl⟩⟩⟩⟩⟩,⟨_,_,_,_,rfl,rfl,⟨_,rfl,⟨_,_,_,_,rfl,rfl,⟨b_6,rfl,rfl⟩,⟨_,_,_,_,rfl,rfl,⟨n_7,rfl,pb,rfl⟩,⟨_,_,_,_,rfl,rfl,⟨n_8,rfl,zj,rfl⟩,⟨rfl,rfl⟩⟩⟩⟩⟩,⟨_,_,_,_,rfl,rfl,⟨_,rfl,⟨_,_,_,_,rfl,rfl,⟨b_9,rfl,rfl⟩,⟨_,_,_,_,rfl,rfl,⟨sz_10,m_10,f_10,rfl,zk,lm_10,y_10⟩,⟨rfl,rfl⟩⟩⟩⟩,⟨rfl,rfl⟩⟩⟩⟩⟩,⟨rfl,rfl⟩⟩⟩⟩:=h
 have vu:sz_2=9:=vu;subst vu
 have jq:=kX jq
 have jz:=kX jz
 have pb:=kX pb
 have zj:=kX zj
 have zk:sz_10=1:=zk;subst zk
 refine ⟨_,_,_,_,_,_,_,_,_,_,_,_,rfl, ?_⟩
 refine ⟨?_,?_,⟨jq,jz⟩,⟨pb,zj⟩, ?_,?_⟩
 . intro i hi;rcases y_2 with ⟨hm,_⟩|⟨xs,sp,rfl,hl,hx⟩
   . omega
   . have hg:xs[i]? =some (xs[i]'j3):=by simp
     have h1:=aJ5 j0q (hx i _ hg)
     have h2:=aDt hg
     exact ⟨h1.sb,h1.s,h1.c,by have:=h1.n;simp only [Rows.uptoBulk,Rows.uptoBulkAll];omega⟩
 . rcases y_2 with ⟨hm,rfl⟩|⟨xs,sp,rfl,hl,_⟩
   . omega
   . have:=wN xs
     simp only [Rows.uptoBulk,Rows.uptoBulkAll];omega
 . intro i hi;rcases y_10 with ⟨hm,_⟩|⟨xs,_,_,hl,hx⟩
   . omega
   . obtain ⟨z,f1,_,_⟩:=hx i (xs[i]'j3) j8
     rw [f1];rfl
 . rcases y_10 with ⟨hm,rfl⟩|⟨xs,sp,rfl,hl,_⟩
   . omega
   . have:=wN xs
     simp only [Rows.uptoBulk,Rows.uptoBulkAll];omega
theorem aZU {H:Type} {n:Nat} {cs:List DV} {d:DataW H} {tt:TT} (fc:lB tt) (h:Rd tt.get (n+11) 53 cs d) (hN:Rows.uptoBulk d<=100000000):aD2 cs/\ (gSd cs).s.v.t.names.length<=Rows.uptoBulk d:=by
 unfold lB tI at fc;subst fc;obtain ⟨_,rfl,⟨_,_,_,_,rfl,rfl,⟨_,rfl,⟨_,_,_,_,rfl,rfl,⟨t_1,rfl,_,rfl⟩,⟨_,_,_,_,rfl,rfl,⟨n_2,rfl,k9,rfl⟩,⟨rfl,rfl⟩⟩⟩⟩,⟨cs_3,_,dx_3,_,rfl,rfl,hs_3,⟨rfl,rfl⟩⟩⟩⟩:=h
 have k9:=kX k9
 obtain ⟨eA,kA,fA,sA,lA,hA,bA,mA,rA,zA,pA,gA,rfl,fB,vk,vs,vc,gp,vp⟩:=aZT j0q hs_3
 have l5:=aPx dx_3
 have F6:=hN
 simp only [Rows.uptoBulk,Rows.uptoBulkAll] at F6;have jw:iO (aH kA fA):=iD (aFI fB j3)
 have ik:aY ⟨⟨⟨sA,lA,hA⟩,⟨bA,mA,rA⟩⟩,⟨zA,gN pA gA⟩⟩:=⟨⟨by show (gN pA gA).length*16<=_;rw [bU];omega,fun _ _=>rfl⟩,vs,vc⟩
 refine ⟨⟨?_,⟨k9,jw,ik,by show (aH kA fA).length<=_;rw [eD];omega⟩⟩,by show (gN pA gA).length<=_;rw [bU];simp only [Rows.uptoBulk,Rows.uptoBulkAll];omega⟩
 refine ⟨rfl,fun j a b ha hb=> ?_⟩
 match j with
 |0=>cases ha;cases hb;exact .refl _
 |1=>cases ha;cases hb;exact .refl _
 |2=>cases ha;cases hb;exact .refl _
 |3=>
  cases ha;cases hb
  show cS (.lst 9 kA fA) (.lst 9 (aH kA fA).length (aW (aH kA fA)))
  rw [eD];exact gY (aFI fB j3).h
 |4=>cases ha;cases hb;exact .refl _
 |5=>cases ha;cases hb;exact .refl _
 |6=>cases ha;cases hb;exact .refl _
 |7=>cases ha;cases hb;exact .refl _
 |8=>cases ha;cases hb;exact .refl _
 |9=>cases ha;cases hb;exact .refl _
 |10=>cases ha;cases hb;exact .refl _
 |11=>
  cases ha;cases hb
  have e:lst (gN pA gA)= .lst 1 pA fun i=> [st (aN (gN pA gA) i)]:=by show DV.lst 1 (gN pA gA).length _=_;rw [bU]
  show cS (.lst 1 pA gA) (lst (gN pA gA))
  rw [e];exact .rows fun i hi=>by
   have e2: [st (aN (gN pA gA) i)]=gA i:=by rw [gp i hi];congr 2;simp [aN,gN,hi,List.getD_eq_getElem?_getD]
   rw [e2];exact ⟨rfl,fun j a b ha hb=>by rw [ha] at hb;cases hb;exact .refl _⟩
 |j+12=>exact absurd ha j8
theorem aZV {H:Type} {n:Nat} {cs:List DV} {d:DataW H} {tt:TT} (fc:lB tt) (h:Rd tt.get (n+5) 133 cs d):cs=glC (vW cs)/\ (vW cs).ok:=by
 unfold lB tI at fc;subst fc;obtain ⟨_,rfl,⟨_,_,_,_,rfl,rfl,⟨t_1,rfl,_,rfl⟩,⟨_,_,_,_,rfl,rfl,⟨b_2,rfl,rfl⟩,⟨_,_,_,_,rfl,rfl,⟨n_3,rfl,pa,rfl⟩,⟨_,_,_,_,rfl,rfl,⟨n_4,rfl,jq,rfl⟩,⟨rfl,rfl⟩⟩⟩⟩⟩⟩:=h
 have pa:=kX pa
 have jq:=kX jq
 exact ⟨rfl,pa,jq⟩
theorem aPz: ∀M {c:List DV},lR M c->lR (M+1) c
 |0,_,h=>h.elim
 |M+1,_,⟨op,n,x,k,f,a,e,h1,h2,h3,hl,hf⟩=>⟨op,n,x,k,f,a,e,h1,h2,h3,hl,fun i hi=>aPz M (hf i hi)⟩
theorem aR7 {H:Type} {tt:TT} (fc:lB tt): ∀n {cs:List DV} {d:DataW H},Rd tt.get n 65 cs d->Rows.uptoBulk d<=100000000->lR n cs
 |0,_,_,h,_=>h.elim
 |1,_,_,h,_=>by
  unfold lB tI at fc;subst fc;obtain ⟨_,rfl,⟨_,_,_,_,rfl,rfl,h,_⟩⟩:=h
  exact h.elim
 |n+2,_,_,h,hN=>by
  have ih:=fun (cs:List DV) (d:DataW H)=>aR7 fc n (cs:=cs) (d:=d)
  unfold lB tI at fc;subst fc;obtain ⟨_,rfl,⟨_,_,_,_,rfl,rfl,⟨n_1,rfl,r6,rfl⟩,⟨_,_,_,_,rfl,rfl,⟨n_2,rfl,k9,rfl⟩,⟨_,_,_,_,rfl,rfl,⟨t_3,rfl,_,rfl⟩,⟨_,_,_,_,rfl,rfl,⟨sz_4,m_4,f_4,rfl,pc,lm_4,y_4⟩,⟨_,_,_,_,rfl,rfl,⟨n_5,rfl,jz,rfl⟩,⟨rfl,rfl⟩⟩⟩⟩⟩⟩⟩:=h
  have r6:=kX r6
  have k9:=kX k9
  have pc:sz_4=5:=pc;subst pc
  have jz:=kX jz
  refine ⟨_,_,_,_,_,_,rfl,r6,k9,jz, ?_,fun i hi=> ?_⟩
  . rcases y_4 with ⟨hm,_⟩|⟨xs,sp,rfl,hl,_⟩
    . omega
    . have:=wN xs
      simp only [Rows.uptoBulk,Rows.uptoBulkAll] at hN;omega
  . rcases y_4 with ⟨hm,_⟩|⟨xs,sp,rfl,hl,hx⟩
    . omega
    . have hg:xs[i]? =some (xs[i]'j3):=by simp
      have h2:=aDt hg
      exact aPz n (ih _ _ (hx i _ hg) j1y)
theorem aPA {H:Type}: ∀(xs:List (DataW H)) (g:Nat->Nat),(∀i x,xs[i]? =some x->g i<=Rows.uptoBulk x)->((List.range xs.length).map g).sum<=Rows.uptoBulkAll xs
 | [],_,_=>Nat.zero_le _
 |x::xs,g,h=>by
  have h1:=aPA xs (fun i=>g (i+1)) fun i y hy=>h (i+1) y hy
  have h0:=h 0 x rfl
  rw [List.length_cons,List.range_succ_eq_map,List.map_cons,List.sum_cons,List.map_map];simp only [Rows.uptoBulkAll];have e:(List.map (g∘Nat.succ) (List.range xs.length))=List.map (fun i=>g (i+1)) (List.range xs.length):=rfl
  rw [e];omega
abbrev nmW (k:Nat) (f:Nat->List DV):List ByteArray:=(List.range k).flatMap fun i=>gN (lD (f i)) (qN (f i))
theorem aZW (k:Nat) (f:Nat->List DV):(nmW k f).length=((List.range k).map fun i=>lD (f i)).sum:=by
 rw [List.length_flatMap]
 congr 1
 refine List.map_congr_left fun i _=> ?_
 rw [bU]
theorem aZX {k:Nat} {f:Nat->List DV} {N:Nat} (e:Bool) (h: ∀i,i<k->xT (f i) N) (hk:k<=1048576) (hN:N<=1048576) (hs:((List.range k).map fun i=>lD (f i)).sum<=1048576):aHr (nmW k f) ((aH k f).map (·.name)) ⟨e,aH k f⟩:=by
 refine ⟨⟨by rw [aZW];exact hs,by rw [List.length_map,eD];exact hk⟩,⟨iD (aFI h j3),by show (aH k f).length<=_;rw [eD];exact hk,fun b hb=> ?_⟩,fun b hb=>List.mem_map.2 ⟨b,hb,rfl⟩⟩
 refine ⟨Nat.le_trans (aPy h b hb) hN,fun x hx=> ?_⟩
 obtain ⟨j,hj,rfl⟩:=aF0 hb
 rw [eD] at hj;rw [aDB hj] at hx;exact List.mem_flatMap.2 ⟨j,List.mem_range.2 hj,hx⟩
theorem aWs {H:Type} {n:Nat} {a:Ar} {d:DataW H} {tt:TT} (fc:lB tt) (h:aAw tt.get (n+16) 62 a d): ∃n f c w e p q u z,a= .agg [.d (.lst 4 n f),.d (.lst 5 c w),.d (.v (.bool e)),.d (.lst 9 p q),.d (.lst 12 u z)]/\ n<=Rows.uptoBulk d/\ (∀i,i<n->f i=glC (vW (f i))/\ (vW (f i)).ok)/\ p<=Rows.uptoBulk d/\ (∀i,i<p->xT (q i) (Rows.uptoBulk d))/\ u<=Rows.uptoBulk d/\ (Rows.uptoBulk d<=100000000-> ∀i,i<u->aD2 (z i)/\ (gSd (z i)).s.v.t.names.length<=Rows.uptoBulk d)/\ ((List.range p).map fun i=>lD (q i)).sum<=Rows.uptoBulk d:=by
 unfold lB tI at fc;subst fc;obtain ⟨_,rfl,⟨_,rfl,⟨_,_,_,_,rfl,rfl,⟨_,rfl,⟨_,_,_,_,rfl,rfl,⟨sz_1,m_1,f_1,rfl,C8,lm_1,y_1⟩,⟨_,_,_,_,rfl,rfl,⟨sz_2,m_2,f_2,rfl,vu,lm_2,y_2⟩,⟨rfl,rfl⟩⟩⟩⟩,⟨_,_,_,_,rfl,rfl,⟨_,rfl,⟨_,_,_,_,rfl,rfl,⟨b_3,rfl,rfl⟩,⟨_,_,_,_,rfl,rfl,⟨sz_4,m_4,f_4,rfl,pc,lm_4,y_4⟩,⟨rfl,rfl⟩⟩⟩⟩,⟨_,_,_,_,rfl,rfl,⟨sz_5,m_5,f_5,rfl,r8,lm_5,y_5⟩,⟨rfl,rfl⟩⟩⟩⟩⟩⟩:=h
 have C8:sz_1=4:=C8;subst C8
 have vu:sz_2=5:=vu;subst vu
 have pc:sz_4=9:=pc;subst pc
 have r8:sz_5=12:=r8;subst r8
 refine ⟨_,_,_,_,_,_,_,_,_,rfl, ?_,?_,?_,?_,?_,?_,?_⟩
 . rcases y_1 with ⟨hm,rfl⟩|⟨xs,sp,rfl,hl,_⟩
   . omega
   . have:=wN xs
     simp only [Rows.uptoBulk,Rows.uptoBulkAll];omega
 . intro i hi;rcases y_1 with ⟨hm,_⟩|⟨xs,sp,rfl,hl,hx⟩
   . omega
   . exact aZV j0q (hx i (xs[i]'j3) j8)
 . rcases y_4 with ⟨hm,rfl⟩|⟨xs,sp,rfl,hl,_⟩
   . omega
   . have:=wN xs
     simp only [Rows.uptoBulk,Rows.uptoBulkAll];omega
 . intro i hi;rcases y_4 with ⟨hm,_⟩|⟨xs,sp,rfl,hl,hx⟩
   . omega
   . have hg:xs[i]? =some (xs[i]'j3):=by simp
     have h1:=aJ5 j0q (hx i _ hg)
     have h2:=aDt hg
     exact ⟨h1.sb,h1.s,h1.c,by have:=h1.n;simp only [Rows.uptoBulk,Rows.uptoBulkAll];omega⟩
 . rcases y_5 with ⟨hm,rfl⟩|⟨xs,sp,rfl,hl,_⟩
   . omega
   . have:=wN xs
     simp only [Rows.uptoBulk,Rows.uptoBulkAll];omega
 . intro hN i hi;rcases y_5 with ⟨hm,_⟩|⟨xs,sp,rfl,hl,hx⟩
   . omega
   . have hg:xs[i]? =some (xs[i]'j3):=by simp
     have h2:=aDt hg
     have h1:=aZU j0q (hx i _ hg) j1y
     exact ⟨h1.1,by have:=h1.2;simp only [Rows.uptoBulk,Rows.uptoBulkAll];omega⟩
 . rcases y_4 with ⟨hm,rfl⟩|⟨xs,sp,rfl,hl,hx⟩
   . subst hm;exact Nat.zero_le _
   . have h1:=aPA xs (fun i=>lD (f_4 i)) fun i x hg=>(aJ5 j0q (hx i x hg)).n
     subst hl;have h2:=h1
     simp only [Rows.uptoBulk,Rows.uptoBulkAll];omega
theorem aZY {H:Type} {n:Nat} {a:Ar} {d:DataW H} {tt:TT} (fc:lB tt) (h:aAw tt.get (n+16) 65 a d): ∃i j x k g t M,a= .agg [.d (.v (.int .i64 i)),.d (.v (.int .i64 j)),.d (.v (.string x)),.d (.lst 5 k g),.d (.v (.int .i64 t))]/\ (Rows.uptoBulk d<=100000000->lR M [.v (.int .i64 i),.v (.int .i64 j),.v (.string x),.lst 5 k g,.v (.int .i64 t)]):=by
 have ho:=fun (cs:List DV) (hh:Rd tt.get (n+16) 65 cs d)=>aR7 fc (n+16) hh
 unfold lB tI at fc;subst fc;obtain ⟨_,rfl,h⟩:=h
 have ho:=ho _ h
 obtain ⟨_,rfl,⟨_,_,_,_,rfl,rfl,⟨n_1,rfl,r6,rfl⟩,⟨_,_,_,_,rfl,rfl,⟨n_2,rfl,k9,rfl⟩,⟨_,_,_,_,rfl,rfl,⟨t_3,rfl,_,rfl⟩,⟨_,_,_,_,rfl,rfl,⟨sz_4,m_4,f_4,rfl,pc,lm_4,y_4⟩,⟨_,_,_,_,rfl,rfl,⟨n_5,rfl,jz,rfl⟩,⟨rfl,rfl⟩⟩⟩⟩⟩⟩⟩:=h
 have r6:=kX r6
 have k9:=kX k9
 have pc:sz_4=5:=pc;subst pc
 have jz:=kX jz
 exact ⟨_,_,_,_,_,_,n+16,rfl,ho⟩
theorem aZZ {H:Type} {n:Nat} {a:Ar} {d:DataW H} {tt:TT} (fc:lB tt) (h:aAw tt.get (n+16) 4 a d): ∃b,a= .c (.d (.v (.bool b))):=by
 unfold lB tI at fc;subst fc;obtain ⟨_,rfl,⟨F5,e0,rfl⟩⟩:=h
 cases e0;exact ⟨_,rfl⟩
theorem aUw:ownKnob prog.godebug=none:=j4
theorem aUo: ∀(H:Type) (ds:List (DataW H)),ds.length=Tryz.f4.params.size->(Rows.guardReadsSpec.fn H (ds++ [])).results= [.lit (.bool true)]/\ (Rows.guardReadsSpec.fn H (ds++ [])).args=ds/\ (Rows.guardReadsSpec.fn H (ds++ [])).vars= []:=by
 intro H ds h;have h:ds.length=3:=h
 match ds,h with
 | [d0,d1,d2],_=>exact ⟨rfl,rfl,rfl⟩
theorem aUd (H:Type) (enc:TypeId×Value->H) (W:World) (base:Nat) (args:Array Value) (ds gs:List (DataW H)) (before:List MemPlace)
 (kz: ∀(j:Nat) t v,Tryz.f4.params[j]? =some t->args[j]? =some v->Value.okWide prog W .any base t v)
 (hW:DataW.Whole enc prog Tryz.f4.params.toList Rows.guardReadsSpec.vars false W args.toList ds gs before) (hk:Rows.uptoSmall H (ds++gs)=true):
 Calls prog 4 args W fun e W'=> ∃v,e= .returned v/\ Rows.guardReadsSpec.post enc prog Tryz.f4 false true false false W args v W':=by
 refine aYf (TT.tysOk aA) j4 (ts0:= [3,4,9,45,42,44,47,49,118,38,40,51,34,53,26,133,22,189,93,270,103,65,63,105,23,25,62]) j4 (tb:=4) j4 j4 rfl j4 rfl aUo (xO.of_none j4) (aEK func4 rfl rfl) ?_ kz hW
 intro n vs h;have h:=aJl (Nat.le_add_right n 16) h
 obtain ⟨a0,qn,d0,GU,F7,F8,h0,⟨a1,GV,d1,C9,F9,Fa,h1,⟨a2,GX,d2,Ca,Fb,Fc,h2,⟨rfl,rfl⟩⟩⟩⟩:=h
 subst Fc Fa F8;subst Fb F9 F7;obtain ⟨n0,f0,c0,w0,e0,p0,q0,u0,z0,Fe,GY,Ff,GZ,Cb,H0,Fg,H4⟩:=aWs j0q h0
 obtain ⟨i1,j1,x1,k1,g1,t1,M1,Fh,Cc⟩:=aZY j0q h1
 obtain ⟨b2,Fi⟩:=aZZ j0q h2
 subst Fe;subst Fh;subst Fi;have hk:=of_decide_eq_true hk
 simp only [List.cons_append,List.nil_append,Rows.uptoBulkAll] at hk;have Cc:=Cc j3
 obtain hs:=Fg j3
 have hg:nL n0 f0:=⟨fun i hi=>Ff i hi⟩
 have hb:dN p0 q0:=aFI Cb j3
 have qw:=aPy Cb
 exact aXU M1 _ _ _ _ _ _ rfl ⟨⟨⟨by omega,hg⟩,⟨by omega,hb⟩,⟨by omega,⟨fun i hi=>(hs i hi).1⟩⟩,fun x hx=>Nat.le_trans (qw x hx) j3,fun x hx=>by
  obtain ⟨i,hi,rfl⟩:=aKw hx
  rw [uB] at hi;rw [aLq hi];exact Nat.le_trans (hs i hi).2 j3⟩,⟨fun _=>Cc⟩,aZX _ Cb j3 j3 j3,by omega⟩
theorem aUf (os:Os) (started:os.Started) (H:Type) (enc:TypeId×Value->H) (F:Stop.Interp):
 ReturnsInHanded {} checked os 4 .any ((Rows.OpenSpec.upto Rows.guardReadsSpec).pre6 enc prog Tryz.f4 Rows.guardReadsUptoRow.domain false) (((Rows.OpenSpec.upto Rows.guardReadsSpec).at F).post enc prog Tryz.f4 false true false false):=by
 refine returnsInHanded_of_cond (C:=checked) (s:=Rows.OpenSpec.upto Rows.guardReadsSpec) (k:=Rows.uptoSmall) rfl aUw started j4 func4
  (OpenSpec.witness (enc:=enc) (C:=checked) (s:=Rows.OpenSpec.upto Rows.guardReadsSpec) (k:=Rows.uptoSmall) rfl false ⟨#[], #[.agg #[.slice none 0 0,.slice none 0 0,.bool false,.slice none 0 0,.slice none 0 0],.agg #[.int .i64 0,.int .i64 0,.string ByteArray.empty,.slice none 0 0,.int .i64 0],.bool false],[]⟩ 8 j4 j4 j4
   (x:=([.agg [.agg [.nil,.nil],.agg [.lit (.bool false),.nil],.nil],.agg [.lit (.int .i64 0),.lit (.int .i64 0),.lit (.string []),.nil,.lit (.int .i64 0)],.lit (.bool false)],[],[])) j4 rfl j4) ?_
 intro W base args ds gs before kz hW _ hk _;exact aUd H enc W base args ds gs before kz hW hk
end Go.Proofs.YtiblbnhknemloaaGreat
