/- The eye mI at leaves. No condition. -/
import Derived.Test.YtiblbnhknemloaaGreatG13
import Derived.Lib.Overlaps
set_option linter.all false
set_option maxHeartbeats 8000000
set_option maxRecDepth 100000
namespace Go.Proofs.YtiblbnhknemloaaGreat
open Tryz
open Go.Sx
open Go.RowKit Go.Lib Go.Sort
theorem aKP (f:Nat->List DV):aP (gN 0 f)= []:=List.eq_nil_of_length_eq_zero (by have:=dF (gN 0 f);rw [bU] at this;omega)
theorem qZ:aP []= []:=aKP fun _=> []
def aTL (n:Int):Vl:=⟨⟨Sp.of n n,Cg.of 0 n⟩,⟨false,[]⟩⟩
def aSY:Vl:=⟨Ig.zero,⟨true,[]⟩⟩
def gZ (R:Ro) (s:Se) (op n:Int) (x:ByteArray):Vl×Se:=
 if op=1 then (aTL n,s) else if op=2 then eT R s x else if op=4 then rJ R s x else if op=19 then (tD x (jG R.G x),s) else (aSY,s)
def jS (R:Ro) (s:Se) (op:Int) (x:ByteArray) (k:Vl):Vl×Se:=
 if op=3 then (if rZ R.G x k=true then eS R s x else (Vl.zero,s)) else if op=20 then (tD x (rZ R.G x k),s) else (oC op k,s)
theorem bCV {R:Ro} (hR:R.ok) (s:Se) (op n:Int) (x:ByteArray) (k_:Nat) (f_:Nat->List DV) (at_:Int) (hs:cD R s) (ae:rI op) (hn:rI n):bH prog 199 [.c (.own 0 0),.agg [.d (it op),.d (it n),.d (st x),.d (.lst 5 k_ f_),.d (it at_)]] (HE R s) (jF (gZ R s op n x).1) (HE R (gZ R s op n x).2):=by
 have hG:=pL hR.g
 have xj:=hR.gn
 have hK:=oJ s.gets
 have rj:=wJ hs
 have mj:=gS R.G
 unfold rI at ae hn;have hc:(op=1/\ gZ R s op n x=(aTL n,s)) \/(op=2/\ gZ R s op n x=eT R s x) \/(op=4/\ gZ R s op n x=rJ R s x) \/(op=19/\ jG (bN R.G.length (dC R.G)) x=true/\ gZ R s op n x=(tD x true,s)) \/(op=19/\ jG (bN R.G.length (dC R.G)) x=false/\ gZ R s op n x=(tD x false,s)) \/(op≠1/\ op≠2/\ op≠4/\ op≠19/\ gZ R s op n x=(aSY,s)):=by
  unfold gZ;by_cases e1:op=1
  . exact .inl ⟨e1,if_pos e1⟩
  rw [if_neg e1];by_cases e2:op=2
  . exact .inr (.inl ⟨e2,if_pos e2⟩)
  rw [if_neg e2];by_cases e4:op=4
  . exact .inr (.inr (.inl ⟨e4,if_pos e4⟩))
  rw [if_neg e4];by_cases vh:op=19
  . rw [if_pos vh];cases hq:jG R.G x with
    |true=>exact .inr (.inr (.inr (.inl ⟨vh,by rw [mj];exact hq,rfl⟩)))
    |false=>exact .inr (.inr (.inr (.inr (.inl ⟨vh,by rw [mj];exact hq,rfl⟩))))
  . exact .inr (.inr (.inr (.inr (.inr ⟨e1,e2,e4,vh,if_neg vh⟩))))
 rcases hc with ⟨rfl,e⟩|⟨rfl,e⟩|⟨rfl,e⟩|⟨rfl,Be,e⟩|⟨rfl,Be,e⟩|⟨e1,e2,e4,vh,e⟩
 all_goals rw [e]
 all_goals refine iZ (c:=13) (inl aA (l:= [(43,⟨[],xK⟩),(149,⟨[],sX⟩),(235,⟨[],aD6⟩),(65,⟨[],aEk⟩),(137,⟨[],FN 1 rR⟩)]) ⟨aBt,xB,aKD,aK8,pS 1 uW,trivial⟩ func199 rfl j4 j4 rfl ?_)
 all_goals (repeat' (first|exact trivial|(with_reducible first|exact hn|exact nd|exact (nx (beq_eq_false_iff_ne.2 e1))|exact (nx (beq_eq_false_iff_ne.2 e2))|exact (nx (beq_eq_false_iff_ne.2 e4))|exact (nx (beq_eq_false_iff_ne.2 vh)))|refine ⟨?_,?_⟩|intro _));all_goals first|apply qq|conv=>whnf
 all_goals first|((with_reducible show aO _ _ (.region 9 _ _) _ _);refine cO aA (l:= [(43,⟨[],xK⟩),(149,⟨[],sX⟩),(235,⟨[],aD6⟩),(65,⟨[],aEk⟩),(137,⟨[],FN 1 rR⟩)]) ⟨aBt,xB,aKD,aK8,pS 1 uW,trivial⟩ ([.take 0,.take 1,.take 2,.take 3,.take 4,.take 5,.take 6,.act 7 [] [33,35],.take 8,.take 9,.take 10,.news [11],.act 12 [10] [5,37],.take 13]) j4 ?_)|((with_reducible show bM _ _ 193 _ _ _);refine bH.go 13 (aSK hR s x rj) rfl rfl rfl rfl rfl rfl ?_ ?_ ?_)|((with_reducible show bM _ _ 234 _ _ _);refine bH.go 13 (bCH hR s x hs) rfl rfl rfl rfl rfl rfl ?_ ?_ ?_)|skip
 all_goals (repeat' (first|exact j4p|refine ⟨?_,?_⟩|intro _));all_goals first|apply qq|conv=>whnf
 all_goals (try rw [Be])
 all_goals (repeat' (first|exact trivial|refine ⟨?_,?_⟩|intro _));all_goals first|apply qq|conv=>whnf
 all_goals (repeat' (fail));all_goals first|apply qq|conv=>whnf
 all_goals (repeat' (fail));all_goals first|apply qq|conv=>whnf
 all_goals (try simp only [gS,bI,eZ,aKP,qZ])
 all_goals first|exact j6q|exact Nat.zero_le _
theorem bEu {R:Ro} (hR:R.ok) (s:Se) (op n:Int) (x:ByteArray) (k_:Nat) (f_:Nat->List DV) (at_:Int) (v_:Vl) (hs:cD R s) (ae:rI op) (hn:rI n) (hv:aY v_):bH prog 200 [.c (.own 0 0),.agg [.d (it op),.d (it n),.d (st x),.d (.lst 5 k_ f_),.d (it at_)],.agg [.d (bo (v_).i.s.some),.d (it (v_).i.s.lo),.d (it (v_).i.s.hi),.d (bo (v_).i.c.some),.d (it (v_).i.c.m),.d (it (v_).i.c.r),.d (bo (v_).t.null),.d (lst (v_).t.names)]] (HE R s) (jF (jS R s op x v_).1) (HE R (jS R s op x v_).2):=by
 have hG:=pL hR.g
 have xj:=hR.gn
 have hK:=oJ s.gets
 have rj:=wJ hs
 have mj:=gS R.G
 unfold rI at ae hn;have hc:(op=3/\ rZ (bN R.G.length (dC R.G)) x ⟨⟨⟨v_.i.s.some,v_.i.s.lo,v_.i.s.hi⟩,⟨v_.i.c.some,v_.i.c.m,v_.i.c.r⟩⟩,⟨v_.t.null,gN v_.t.names.length fun i=> [st (aN v_.t.names i)]⟩⟩=true/\ jS R s op x v_=eS R s x) \/(op=3/\ rZ (bN R.G.length (dC R.G)) x ⟨⟨⟨v_.i.s.some,v_.i.s.lo,v_.i.s.hi⟩,⟨v_.i.c.some,v_.i.c.m,v_.i.c.r⟩⟩,⟨v_.t.null,gN v_.t.names.length fun i=> [st (aN v_.t.names i)]⟩⟩=false/\ jS R s op x v_=(Vl.zero,s)) \/(op=20/\ jS R s op x v_=(tD x (rZ R.G x v_),s)) \/(op≠3/\ op≠20/\ jS R s op x v_=(oC op v_,s)):=by
  rw [mj,bI];unfold jS;by_cases e3:op=3
  . rw [if_pos e3];by_cases hq:rZ R.G x v_=true
    . exact .inl ⟨e3,hq,if_pos hq⟩
    . exact .inr (.inl ⟨e3,Bool.eq_false_iff.2 hq,if_neg hq⟩)
  rw [if_neg e3];by_cases xp:op=20
  . exact .inr (.inr (.inl ⟨xp,if_pos xp⟩))
  . exact .inr (.inr (.inr ⟨e3,xp,if_neg xp⟩))
 rcases hc with ⟨rfl,qj,e⟩|⟨rfl,qj,e⟩|⟨rfl,e⟩|⟨e3,xp,e⟩
 all_goals rw [e]
 all_goals refine iZ (c:=13) (inl aA (l:= [(95,⟨[],aJF⟩),(235,⟨[],aD6⟩),(236,⟨[],aIE⟩)]) ⟨aXh,aKD,aVh,trivial⟩ func200 rfl j4 j4 rfl ?_)
 all_goals (repeat' (first|exact trivial|(with_reducible first|assumption|exact nd|exact nx qj|exact (nx (beq_eq_false_iff_ne.2 e3))|exact (nx (beq_eq_false_iff_ne.2 xp)))|refine ⟨?_,?_⟩|intro _));all_goals first|apply qq|conv=>whnf
 all_goals first|((with_reducible show bM _ _ 230 _ _ _);refine bH.go 13 (aLA hR s x rj) rfl rfl rfl rfl rfl rfl ?_ ?_ ?_)|skip
 all_goals (repeat' (first|exact trivial|refine ⟨?_,?_⟩|intro _));all_goals first|apply qq|conv=>whnf
 all_goals (repeat' (fail));all_goals first|apply qq|conv=>whnf
 all_goals (repeat' (fail));all_goals first|apply qq|conv=>whnf
 all_goals (try simp only [gS,bI,eZ,aKP,qZ])
 all_goals first|(exact rfl)|exact hv.1.1|exact j3j
end Go.Proofs.YtiblbnhknemloaaGreat
namespace Go.Proofs.YtiblbnhknemloaaGreat
open Tryz
open Go.Sx
open Go.RowKit Go.Lib Go.Sort
def bP:DV->Nat×(Nat->List DV)
 | .lst _ k f=>(k,f)
 |_=>(0,fun _=> [])
abbrev aS (op n:Int) (x:ByteArray) (kd:DV) (at_:Int):List DV:= [it op,it n,st x,kd,it at_]
def cR (R:Ro):Nat->Se->List DV->Vl×Se
 |0,s,_=>(Vl.zero,s)
 |M+1,s,c=>match c with
  | [.v (.int .i64 op),.v (.int .i64 n),.v (.string x),kd,.v (.int .i64 _)]=>
    if fK op=(bP kd).1 then
     if (bP kd).1=0 then gZ R s op n x
     else if (bP kd).1=1 then jS R (cR R M s ((bP kd).2 0)).2 op x (cR R M s ((bP kd).2 0)).1
     else (lG op (cR R M s ((bP kd).2 0)).1 (cR R M (cR R M s ((bP kd).2 0)).2 ((bP kd).2 1)).1 (bQ R.G R.G.length),(cR R M (cR R M s ((bP kd).2 0)).2 ((bP kd).2 1)).2)
    else (Vl.zero,s)
  |_=>(Vl.zero,s)
def iK:Nat->List DV->Prop
 |0,_=>False
 |M+1,c=> ∃op n x kd at_,c=aS op n x kd at_/\ rI op/\ rI n/\ rI at_/\ (kd= .v (.slice none 0 0) \/ ∃k f,kd= .lst 5 k f/\ k<=1099511627776/\ ∀i,i<k->iK M (f i))
theorem aJT (op:Int):fK op= -1 \/fK op=0 \/fK op=1 \/fK op=2:=by
 unfold fK;(repeat' split)<;>simp
theorem aRU (x:ByteArray) (b:Bool):aY (tD x b)/\ (tD x b).t.names.length<=1:=by
 cases b
 . exact ⟨mF,Nat.zero_le _⟩
 . have h:(aP (aP [x])).length<=1:=Nat.le_trans (dF _) (dF _)
   exact ⟨⟨⟨by show (aP (aP [x])).length*16<=_;omega,fun _ _=>rfl⟩,mF.2⟩,h⟩
theorem aXA {R:Ro} (hR:R.ok) {s:Se} (hs:cD R s) {op n:Int} (hn:rI n) (x:ByteArray):yC R (gZ R s op n x) 1099511627776:=by
 unfold gZ;split
 . exact ⟨⟨⟨Nat.zero_le _,fun _ h=>absurd h (Nat.not_lt_zero _)⟩,Sp.of_inR hn hn,by unfold rI at hn;exact Cg.of_inR 0 n j5 j5 hn.1 hn.2⟩,Nat.zero_le _,hs⟩
 . split
   . have h:=aI2 hR s x;exact ⟨h.1,Nat.le_trans h.2 j5,aI1 hs x⟩
   . split
     . exact aXi hR hs x
     . split
       . have h:=aRU x (jG R.G x);exact ⟨h.1,Nat.le_trans h.2 j5,hs⟩
       . exact ⟨⟨⟨Nat.zero_le _,fun _ h=>absurd h (Nat.not_lt_zero _)⟩,mF.2⟩,Nat.zero_le _,hs⟩
theorem aZw {s:Sp} {c:Cg} (h:s.inR) (h2:c.inR):aY (cQ s c)/\ (cQ s c).t.names= []:=by
 have ht:(cQ s c).t.names= []:=by rw [aDp]
 exact ⟨⟨⟨by rw [ht];exact Nat.zero_le _,fun i hi=>absurd hi (by rw [ht];exact Nat.not_lt_zero i)⟩,aAR h h2⟩,ht⟩
theorem bBe {op:Int} {a:Vl} (h:aY a):aY (oC op a)/\ (oC op a).t.names= []:=by
 have o:=(cX h).2
 unfold oC;split
 . exact ⟨mF,rfl⟩
 . exact aZw (aOy o.1) (aOA o.2)
theorem aD7 {op:Int} {a b:Vl} {m:List ByteArray} (h:aY a) (h2:aY b):aY (lG op a b m)/\ (lG op a b m).t.names.length<=0:=by
 have o:=(cX h).2
 have o2:=(cX h2).2
 have k1:=aPn (op:=op) (a:=a.of) (b:=b.of) o o2
 have k2:=aPo op a.of.t b.of.t m
 have t1:(kJ op a.of b.of).t.names= []:=by rw [aRS]
 have t2:(fW op a.of.t b.of.t m).t.names= []:=by rw [aRT]
 have hn:=aJG (kJ op a.of b.of) (fW op a.of.t b.of.t m)
 rw [t1,t2] at hn;refine ⟨aIz ⟨⟨by rw [t1];exact Nat.zero_le _,fun i hi=>absurd hi (by rw [t1];exact Nat.not_lt_zero i)⟩,k1⟩ ⟨⟨by rw [t2];exact Nat.zero_le _,fun i hi=>absurd hi (by rw [t2];exact Nat.not_lt_zero i)⟩,k2⟩ (by rw [t1,t2];decide),hn⟩
theorem aZx {R:Ro} (hR:R.ok) {s:Se} (hs:cD R s) {op:Int} (x:ByteArray) {k:Vl} (hk:aY k):yC R (jS R s op x k) 1099511627776:=by
 unfold jS;split
 . split
   . have h:=aE6 hR s x;exact ⟨h.1,Nat.le_trans h.2 j5,aI0 hs x⟩
   . exact ⟨mF,Nat.zero_le _,hs⟩
 . split
   . have h:=aRU x (rZ R.G x k);exact ⟨h.1,Nat.le_trans h.2 j5,hs⟩
   . have h:=bBe (op:=op) hk;exact ⟨h.1,by show (oC op k).t.names.length<=_;rw [h.2];exact Nat.zero_le _,hs⟩
theorem wL {R:Ro} (hR:R.ok): ∀M {s:Se} {c:List DV},cD R s->iK M c->yC R (cR R M s c) 1099511627776
 |0,_,_,_,h=>h.elim
 |M+1,s,c,hs,h=>by
  obtain ⟨op,n,x,kd,at_,rfl, -,h2, -,hk⟩:=h
  have yx: ∀i,i<(bP kd).1->iK M ((bP kd).2 i):=by
   rcases hk with rfl|⟨k,f,rfl, -,hf⟩
   . intro i hi;exact absurd hi (Nat.not_lt_zero i)
   . exact hf
  show yC R (if _ then _ else _) _
  split
  . rename_i hn
    split
    . exact aXA hR hs h2 x
    . split
      . have h0:=wL hR M hs (yx 0 j3)
        exact aZx hR h0.s x h0.v
      . have hr:=aJT op
        have h0:=wL hR M hs (yx 0 j3)
        have h1:=wL hR M h0.s (yx 1 j3)
        have hd:=aD7 (op:=op) (m:=bQ R.G R.G.length) h0.v h1.v
        exact ⟨hd.1,Nat.le_trans hd.2 (Nat.zero_le _),h1.s⟩
  . exact ⟨mF,Nat.zero_le _,hs⟩
end Go.Proofs.YtiblbnhknemloaaGreat
namespace Go.Proofs.YtiblbnhknemloaaGreat
open Tryz
open Go.Sx
open Go.RowKit Go.Lib Go.Sort
theorem bEv {R:Ro} (hR:R.ok) (s:Se) (op n:Int) (x:ByteArray) (k_:Nat) (f_:Nat->List DV) (at_:Int) (hs:cD R s) (ae:rI op) (hk: ¬fK op=k_):bH prog 157 [.c (.own 0 0),.agg [.d (it op),.d (it n),.d (st x),.d (.lst 5 k_ f_),.d (it at_)]] (HE R s) (jF Vl.zero) (HE R s):=by
 unfold rI at ae;have hr:=aJT op
 have h3:((k_:Int) !=fK op)=true:=by unfold bne;rw [beq_eq_false_iff_ne.2 (fun e=>hk e.symm)];rfl
 refine iZ (c:=13) (inl aA (l:= [(198,⟨[],uL⟩)]) ⟨zG,trivial⟩ func157 rfl j4 j4 rfl ?_)
 repeat' (first|exact trivial|(with_reducible first|exact ae|exact nx h3)|refine ⟨?_,?_⟩|intro _)
 all_goals first|(conv=>whnf)
 all_goals (try simp only [gS,bI,eZ])
 all_goals first|(exact rfl)
theorem bEw {R:Ro} (hR:R.ok) (s:Se) (op n:Int) (x:ByteArray) (f_:Nat->List DV) (at_:Int) (hs:cD R s) (ae:rI op) (hn:rI n) (hk:fK op=0):bH prog 157 [.c (.own 0 0),.agg [.d (it op),.d (it n),.d (st x),.d (.lst 5 0 f_),.d (it at_)]] (HE R s) (jF (gZ R s op n x).1) (HE R (gZ R s op n x).2):=by
 have ml:=bCV hR s op n x 0 f_ at_ hs ae hn
 have qz:=ae
 unfold rI at qz
 have h2:decide (fK op<0)=false:=v8
 have h3:(((0:Nat):Int) !=fK op)=false:=v8
 have h4:(fK op==0)=true:=v8
 refine iZ (c:=13) (inl aA (l:= [(198,⟨[],uL⟩)]) ⟨zG,trivial⟩ func157 rfl j4 j4 rfl ?_)
 repeat' (first|exact j5t|refine ⟨?_,?_⟩|intro _)
 all_goals first|(conv=>whnf)
 all_goals first|((with_reducible show aO _ _ (.loop _) _ _);refine aJq aA (l:= [(198,⟨[],uL⟩)]) ⟨zG,trivial⟩ j4 1 ?_)
 all_goals repeat' (first|(with_reducible first|exact nd|exact nx h4)|refine ⟨?_,?_⟩|intro _)
 all_goals first|(conv=>whnf)
 all_goals first|((with_reducible show bM _ _ 199 _ _ _);refine bH.go 13 ml rfl rfl rfl rfl rfl rfl ?_ ?_ ?_)
 all_goals repeat' (first|exact trivial|refine ⟨?_,?_⟩|intro _)
 all_goals first|(conv=>whnf)
 all_goals (try simp only [gS,bI,eZ])
 all_goals first|(exact rfl)
theorem bEx {R:Ro} (hR:R.ok) (s:Se) (op n:Int) (x:ByteArray) (at_:Int) (hs:cD R s) (ae:rI op) (hn:rI n) (hk:fK op=1) (c4 n0:Int) (x0:ByteArray) (l8:DV) (fR:Int) (V0:Vl) (S0:Se) (gw:aY V0) (AJ:cD R S0) (vi:l8= .v (.slice none 0 0) \/ ∃k g,l8= .lst 5 k g)
 (hm:bH prog 157 [.c (.own 0 0),.agg [.d (it c4),.d (it n0),.d (st x0),.d (l8),.d (it fR)]] (HE R s) (jF V0) (HE R S0)):bH prog 157 [.c (.own 0 0),.agg [.d (it op),.d (it n),.d (st x),.d (.lst 5 1 fun _=>(aS c4 n0 x0 l8 fR)),.d (it at_)]] (HE R s) (jF (jS R S0 op x V0).1) (HE R (jS R S0 op x V0).2):=by
 have qz:=ae
 unfold rI at qz
 have h2:decide (fK op<0)=false:=v8
 have h3:(((1:Nat):Int) !=fK op)=false:=v8
 have h4:(fK op==0)=false:=v8
 have h5:(fK op==1)=true:=v8
 have mo:=bEu hR S0 op n x 1 (fun _=>(aS c4 n0 x0 l8 fR)) at_ V0 AJ ae hn gw
 rcases vi with rfl|⟨k0,g0,rfl⟩
 all_goals refine iZ (c:=13) (inl aA (l:= [(198,⟨[],uL⟩)]) ⟨zG,trivial⟩ func157 rfl j4 j4 rfl ?_)
 all_goals repeat' (first|exact j5t|refine ⟨?_,?_⟩|intro _)
 all_goals first|(conv=>whnf)
 all_goals first|((with_reducible show aO _ _ (.loop _) _ _);refine aJq aA (l:= [(198,⟨[],uL⟩)]) ⟨zG,trivial⟩ j4 2 ?_)
 all_goals (repeat' (first|exact j6i|refine ⟨?_,?_⟩|intro _));all_goals first|apply qq|conv=>whnf
 all_goals first|((with_reducible show bM _ _ 157 _ _ _);refine bH.go 13 hm rfl rfl rfl rfl rfl rfl ?_ ?_ ?_)|skip
 all_goals (repeat' (first|exact trivial|(with_reducible first|exact nd|exact nx h4|exact nx h5)|refine ⟨?_,?_⟩|intro _));all_goals first|apply qq|conv=>whnf
 all_goals first|((with_reducible show bM _ _ 200 _ _ _);refine bH.go 13 mo rfl rfl rfl rfl rfl rfl ?_ ?_ ?_)|skip
 all_goals (repeat' (first|exact trivial|refine ⟨?_,?_⟩|intro _));all_goals first|apply qq|conv=>whnf
 all_goals (try simp only [gS,bI,eZ])
 all_goals first|exact j6q
theorem bEy {R:Ro} (hR:R.ok) (s:Se) (op n:Int) (x:ByteArray) (at_:Int) (hs:cD R s) (ae:rI op) (hn:rI n) (hk:fK op=2) (c4 n0:Int) (x0:ByteArray) (l8:DV) (fR:Int) (V0:Vl) (S0:Se) (gw:aY V0) (AJ:cD R S0) (vi:l8= .v (.slice none 0 0) \/ ∃k g,l8= .lst 5 k g) (df n1:Int) (x1:ByteArray) (xq:DV) (mq:Int) (V1:Vl) (S1:Se) (j7:aY V1) (Dl:cD R S1) (AK:xq= .v (.slice none 0 0) \/ ∃k g,xq= .lst 5 k g)
 (hm:bH prog 157 [.c (.own 0 0),.agg [.d (it c4),.d (it n0),.d (st x0),.d (l8),.d (it fR)]] (HE R s) (jF V0) (HE R S0)) (lu:bH prog 157 [.c (.own 0 0),.agg [.d (it df),.d (it n1),.d (st x1),.d (xq),.d (it mq)]] (HE R S0) (jF V1) (HE R S1)):bH prog 157 [.c (.own 0 0),.agg [.d (it op),.d (it n),.d (st x),.d (.lst 5 2 fun j=>match j with|0=>(aS c4 n0 x0 l8 fR)|_=>(aS df n1 x1 xq mq)),.d (it at_)]] (HE R s) (jF (lG op V0 V1 (bQ R.G R.G.length))) (HE R S1):=by
 have hG:=pL hR.g
 have xj:=hR.gn
 have mj:=gS R.G
 have D9:=aC6 R.G R.G.length
 have qz:=ae
 unfold rI at qz
 have h2:decide (fK op<0)=false:=v8
 have h3:(((2:Nat):Int) !=fK op)=false:=v8
 have h4:(fK op==0)=false:=v8
 have h5:(fK op==1)=false:=v8
 rcases vi with rfl|⟨k0,g0,rfl⟩<;>rcases AK with rfl|⟨k1,g1,rfl⟩
 all_goals refine iZ (c:=13) (inl aA (l:= [(198,⟨[],uL⟩),(124,⟨[],aA3⟩),(125,⟨[],aCj⟩)]) ⟨zG,aE5,aGR,trivial⟩ func157 rfl j4 j4 rfl ?_)
 all_goals repeat' (first|exact j5t|refine ⟨?_,?_⟩|intro _)
 all_goals first|(conv=>whnf)
 all_goals first|((with_reducible show aO _ _ (.loop _) _ _);refine aJq aA (l:= [(198,⟨[],uL⟩),(124,⟨[],aA3⟩),(125,⟨[],aCj⟩)]) ⟨zG,aE5,aGR,trivial⟩ j4 3 ?_)
 all_goals (repeat' (first|exact j6i|refine ⟨?_,?_⟩|intro _));all_goals first|apply qq|conv=>whnf
 all_goals first|((with_reducible show bM _ _ 157 _ _ _);refine bH.go 13 hm rfl rfl rfl rfl rfl rfl ?_ ?_ ?_)|skip
 all_goals (repeat' (first|exact trivial|exact j6i|refine ⟨?_,?_⟩|intro _));all_goals first|apply qq|conv=>whnf
 all_goals first|((with_reducible show bM _ _ 157 _ _ _);refine bH.go 13 lu rfl rfl rfl rfl rfl rfl ?_ ?_ ?_)|skip
 all_goals (repeat' (first|exact trivial|(with_reducible first|assumption|exact nd|exact nx h4|exact nx h5)|refine ⟨?_,?_⟩|intro _));all_goals first|apply qq|conv=>whnf
 all_goals (repeat' (fail));all_goals first|apply qq|conv=>whnf
 all_goals (try simp only [gS,bI,eZ])
 all_goals first|exact j6q|decide|exact gw.1.1|exact gw.2.1.1.1|exact gw.2.1.1.2|exact gw.2.1.2.1|exact gw.2.1.2.2|exact gw.2.2.1.1|exact gw.2.2.1.2|exact gw.2.2.2.1|exact gw.2.2.2.2|exact j7.1.1|exact j7.2.1.1.1|exact j7.2.1.1.2|exact j7.2.1.2.1|exact j7.2.1.2.2|exact j7.2.2.1.1|exact j7.2.2.1.2|exact j7.2.2.2.1|exact j7.2.2.2.2
end Go.Proofs.YtiblbnhknemloaaGreat
namespace Go.Proofs.YtiblbnhknemloaaGreat
open Tryz
open Go.Sx
open Go.RowKit Go.Lib Go.Sort
theorem aFd {M:Nat} {c:List DV} (h:iK M c): ∃op n x kd at_,c=aS op n x kd at_/\ (kd= .v (.slice none 0 0) \/ ∃k g,kd= .lst 5 k g):=by
 cases M with
 |zero=>exact h.elim
 |succ M=>
  obtain ⟨op,n,x,kd,at_,e, -, -, -,hk⟩:=h
  refine ⟨op,n,x,kd,at_,e, ?_⟩
  rcases hk with h|⟨k,f,h, -⟩
  . exact .inl h
  . exact .inr ⟨k,f,h⟩
theorem aGS {R:Ro} (hR:R.ok): ∀M {s:Se} {c:List DV},cD R s->iK M c->bH prog 157 [.c (.own 0 0),.agg (c.map .d)] (HE R s) (jF (cR R M s c).1) (HE R (cR R M s c).2)
 |0,_,_,_,h=>h.elim
 |M+1,s,c,hs,h=>by
  obtain ⟨op,n,x,kd,at_,rfl,h1,h2, -,hk⟩:=h
  have main: ∀k f,(∀i,i<k->iK M (f i))->bH prog 157 [.c (.own 0 0),.agg [.d (it op),.d (it n),.d (st x),.d (.lst 5 k f),.d (it at_)]] (HE R s) (jF (cR R (M+1) s (aS op n x (.lst 5 k f) at_)).1) (HE R (cR R (M+1) s (aS op n x (.lst 5 k f) at_)).2):=by
   intro k f hf;by_cases hn:fK op=(k:Int)
   . have hr:=aJT op
     have hk:k=0 \/k=1 \/k=2:=j3
     rcases hk with rfl|rfl|rfl
     . have e:cR R (M+1) s (aS op n x (.lst 5 0 f) at_)=gZ R s op n x:=by
        show (if _ then _ else _)=_
        exact (if_pos hn).trans rfl
       rw [e];exact bEw hR s op n x f at_ hs h1 h2 hn
     . have h0:=hf 0 j3
       have m0:=aGS hR M hs h0
       have o0:=wL hR M hs h0
       have e:cR R (M+1) s (aS op n x (.lst 5 1 f) at_)=jS R (cR R M s (f 0)).2 op x (cR R M s (f 0)).1:=by
        show (if _ then _ else _)=_
        exact (if_pos hn).trans rfl
       rw [e];obtain ⟨c4,n0,x0,l8,fR,e0,vi⟩:=aFd h0
       rw [e0] at m0 o0⊢;refine (bEx hR s op n x at_ hs h1 h2 hn c4 n0 x0 l8 fR _ _ o0.v o0.s vi m0).arg ⟨⟨rfl,rfl⟩,⟨rfl,rfl,rfl,⟨rfl,rfl,fun i hi=> ?_⟩,rfl,trivial⟩,trivial⟩
       obtain rfl:i=0:=j3
       exact e0
     . have h0:=hf 0 j3
       have g1:=hf 1 j3
       have m0:=aGS hR M hs h0
       have o0:=wL hR M hs h0
       have m1:=aGS hR M o0.s g1
       have o1:=wL hR M o0.s g1
       have e:cR R (M+1) s (aS op n x (.lst 5 2 f) at_)=(lG op (cR R M s (f 0)).1 (cR R M (cR R M s (f 0)).2 (f 1)).1 (bQ R.G R.G.length),(cR R M (cR R M s (f 0)).2 (f 1)).2):=by
        show (if _ then _ else _)=_
        exact (if_pos hn).trans rfl
       rw [e];obtain ⟨c4,n0,x0,l8,fR,e0,vi⟩:=aFd h0
       obtain ⟨df,n1,x1,xq,mq,e1,AK⟩:=aFd g1
       rw [e0] at m0 o0 m1 o1⊢;rw [e1] at m1 o1⊢;refine (bEy hR s op n x at_ hs h1 h2 hn c4 n0 x0 l8 fR _ _ o0.v o0.s vi df n1 x1 xq mq _ _ o1.v o1.s AK m0 m1).arg ⟨⟨rfl,rfl⟩,⟨rfl,rfl,rfl,⟨rfl,rfl,fun i hi=> ?_⟩,rfl,trivial⟩,trivial⟩
       match i,hi with
       |0,_=>exact e0
       |1,_=>exact e1
   . have e:cR R (M+1) s (aS op n x (.lst 5 k f) at_)=(Vl.zero,s):=by
      show (if _ then _ else _)=_
      exact if_neg hn
     rw [e];exact bEv hR s op n x k f at_ hs h1 hn
  rcases hk with rfl|⟨k,f,rfl, -,hf⟩
  . exact (main 0 (fun _=> []) (fun i hi=>absurd hi (Nat.not_lt_zero i))).arg ⟨⟨rfl,rfl⟩,⟨rfl,rfl,rfl,⟨rfl,rfl⟩,rfl,trivial⟩,trivial⟩
  . exact main k f hf
def oN (p:Vl×Se):Vl:=if p.2.wants=true then Vl.zero else p.1.of
abbrev seL (k:Nat) (s:Se) (v:Vl):List aL:= [.d (bo v.i.s.some),.d (it v.i.s.lo),.d (it v.i.s.hi),.d (bo v.i.c.some),.d (it v.i.c.m),.d (it v.i.c.r),.d (bo v.t.null),.d (lst v.t.names),.osl k 2 0 s.gets.length,.d (bo s.wants),.d (st s.want.name),.d (it s.want.node)]
abbrev HT (R:Ro) (s:Se) (v:Vl):List (Nat×aB):= [(0,.cells ([.d (xZ R.G),.d (.lst 5 R.c R.d),.d (bo R.lv),.d (dT R.B),.d (aEx R.D)]++seL 1 s v)),(1,.row 2 s.gets.length (fH s.gets))]
theorem bCW (R:Ro) (s:Se) (v:Vl) (hv:aY v):bH prog 156 [.c (.own 0 0),.agg [.d (bo (v).i.s.some),.d (it (v).i.s.lo),.d (it (v).i.s.hi),.d (bo (v).i.c.some),.d (it (v).i.c.m),.d (it (v).i.c.r),.d (bo (v).t.null),.d (lst (v).t.names)]] (HE R s) (.va (.agg (seL 1 s (oN (v,s))))) (HT R s (oN (v,s))):=by
 cases h1:s.wants with
 |true=>
  have e:oN (v,s)=Vl.zero:=if_pos h1
  rw [e];refine iZ (c:=13) (inl aA (l:= [(78,⟨[],pK⟩)]) ⟨sL,trivial⟩ func156 rfl j4 j4 rfl ?_)
  repeat' (first|exact trivial|(with_reducible exact (nx (congrArg Bool.not h1)))|refine ⟨?_,?_⟩|intro _)
  all_goals first|(conv=>whnf)
  all_goals (try simp only [bI,eZ])
  all_goals first|(exact rfl)
 |false=>
  have e:oN (v,s)=v.of:=if_neg (by rw [h1];decide)
  rw [e];refine iZ (c:=13) (inl aA (l:= [(78,⟨[],pK⟩)]) ⟨sL,trivial⟩ func156 rfl j4 j4 rfl ?_)
  (repeat' (first|exact trivial|(with_reducible exact (nx (congrArg Bool.not h1)))|refine ⟨?_,?_⟩|intro _));all_goals first|apply qq|conv=>whnf
  all_goals (try simp only [bI,eZ])
  all_goals first|(exact rfl)|exact hv.1.1|exact j3j
end Go.Proofs.YtiblbnhknemloaaGreat
namespace Go.Proofs.YtiblbnhknemloaaGreat
open Tryz
open Go.Sx
open Go.RowKit Go.Lib Go.Sort
structure aTM (M:Nat) (c:List DV):Prop where
 h:True->iK M c
theorem aKQ {n:Nat} {f:Nat->List DV} (h:nL n f):cS (.lst 4 n f) (.lst 4 n (dC (bN n f))):=
 .rows fun i hi=>by rw [aDF h i hi];exact ⟨rfl,fun j a b ha hb=>by rw [ha] at hb;cases hb;exact .refl _⟩
abbrev bEz (v:Vl) (s:Se):Ar:= .agg [.d (bo v.i.s.some),.d (it v.i.s.lo),.d (it v.i.s.hi),.d (bo v.i.c.some),.d (it v.i.c.m),.d (it v.i.c.r),.d (bo v.t.null),.d (lst v.t.names),.d (yA s.gets),.d (bo s.wants),.d (st s.want.name),.d (it s.want.node)]
def dP (R:Ro) (M:Nat) (c:List DV):Vl×Se:=if R.lv=true then (oN (cR R M ⟨[],false,⟨⟨#[]⟩,0⟩⟩ c),(cR R M ⟨[],false,⟨⟨#[]⟩,0⟩⟩ c).2) else (Vl.zero,⟨[],false,⟨⟨#[]⟩,0⟩⟩)
def zL (M:Nat):List Ar->Option Rs
 | [.agg [.d (.lst 4 n0 f0),.d (.lst 5 c0 d0),.d (.v (.bool e0)),.d (.lst 9 p0 q0),.d (.lst 12 u0 w0)],.agg [.d (.v (.int .i64 i1)),.d (.v (.int .i64 j1)),.d (.v (.string x1)),.d k1,.d (.v (.int .i64 a1))]]=>some ⟨((n0<=1099511627776/\ nL n0 f0)/\ (p0<=1099511627776/\ dN p0 q0)/\ (u0<=1099511627776/\ aAl u0 w0)/\ (∀x,x∈aH p0 q0->x.v.t.names.length<=1048576)/\ (∀x,x∈gD u0 w0->x.s.v.t.names.length<=1048576))/\ (aTM M (aS i1 j1 x1 k1 a1)),.va (bEz (dP (⟨bN n0 f0,c0,d0,e0,aH p0 q0,gD u0 w0⟩:Ro) M (aS i1 j1 x1 k1 a1)).1 (dP (⟨bN n0 f0,c0,d0,e0,aH p0 q0,gD u0 w0⟩:Ro) M (aS i1 j1 x1 k1 a1)).2),[]⟩
 |_=>none
theorem aDq (M:Nat):FC prog 114 (zL M):=by
 intro xs pre r us h hp;unfold zL at h;split at h
 . rename_i n0 f0 c0 d0 e0 p0 q0 u0 w0 i1 j1 x1 k1 a1
   cases h;obtain ⟨a7,a8⟩:=hp
   refine aU.deep (ys:= [.agg [.d (.lst 4 n0 (dC (bN n0 f0))),.d (.lst 5 c0 d0),.d (.v (.bool e0)),.d (.lst 9 p0 (aW (aH p0 q0))),.d (.lst 12 u0 (iC (gD u0 w0)))],.agg [.d (.v (.int .i64 i1)),.d (.v (.int .i64 j1)),.d (.v (.string x1)),.d k1,.d (.v (.int .i64 a1))]]) ?_ ?_
   . repeat' (first|exact j3s|refine ⟨?_,?_⟩|fail)
     all_goals first|first|exact j3q
   refine aE aA (l:= []) trivial func114 rfl j4 true ?_
   have hR:Ro.ok ⟨bN n0 f0,c0,d0,e0,aH p0 q0,gD u0 w0⟩:=⟨yX a7.1.2,by rw [qQ];exact a7.1.1,iD a7.2.1.2,by rw [eD];exact a7.2.1.1,aFs a7.2.2.1.2,by rw [uB];exact a7.2.2.1.1,a7.2.2.2.1,a7.2.2.2.2⟩
   have l1:=qQ n0 f0
   have l2:=eD p0 q0
   have l3:=uB u0 w0
   generalize bN n0 f0=G_ at*
   generalize aH p0 q0=B_ at*
   generalize gD u0 w0=D_ at*
   clear a7;subst l1 l2 l3;have hz:cD ⟨G_,c0,d0,e0,B_,D_⟩ ⟨[],false,⟨⟨#[]⟩,0⟩⟩:=⟨List.nodup_nil,fun k h=>by cases h⟩
   have hx:=a8.h trivial
   have BR:=aGS hR M hz hx
   have AL:=wL hR M hz hx
   have EI:=bCW ⟨G_,c0,d0,e0,B_,D_⟩ (cR ⟨G_,c0,d0,e0,B_,D_⟩ M ⟨[],false,⟨⟨#[]⟩,0⟩⟩ (aS i1 j1 x1 k1 a1)).2 (cR ⟨G_,c0,d0,e0,B_,D_⟩ M ⟨[],false,⟨⟨#[]⟩,0⟩⟩ (aS i1 j1 x1 k1 a1)).1 AL.v
   obtain ⟨_,_,_,_,_,ex,BT⟩:=aFd hx
   cases ex;unfold dP
   generalize cR ⟨G_,c0,d0,e0,B_,D_⟩ M ⟨[],false,⟨⟨#[]⟩,0⟩⟩ (aS i1 j1 x1 k1 a1)=P_ at*
   rcases BT with rfl|⟨k_,g_,rfl⟩<;>cases e0
   all_goals all_goals repeat' (first|exact trivial|exact j6i|refine ⟨?_,?_⟩|intro _)
   all_goals first|(conv=>whnf)
   all_goals first|((with_reducible show bM _ _ 157 _ _ _);refine bH.use (nv:=1) [3] BR rfl rfl rfl rfl rfl rfl ?_ ?_ ?_)|skip
   all_goals (repeat' (first|exact trivial|refine ⟨?_,?_⟩|intro _));all_goals first|apply qq|conv=>whnf
   all_goals first|((with_reducible show bM _ _ 156 _ _ _);refine bH.use (nv:=0) [3,4] EI rfl rfl rfl rfl rfl rfl ?_ ?_ ?_)|skip
   all_goals (repeat' (first|exact trivial|refine ⟨?_,?_⟩|intro _));all_goals first|apply qq|conv=>whnf
   all_goals (try simp only [sT,bI,eZ])
   all_goals first|exact j6q|decide|(rw [Nat.zero_add];rfl)
 . cases h
end Go.Proofs.YtiblbnhknemloaaGreat
namespace Go.Proofs.YtiblbnhknemloaaGreat
open Tryz
open Go.Sx
open Go.RowKit Go.Lib Go.Sort
theorem aZy {k:Ky} {L:List Ky} {i:Nat} (hi:i<L.length) (h2:dA (bW L i) k=true):iG L k=true:=decide_eq_true (by rw [<-wV.1 h2];exact aRt hi)
theorem aZz {k:Ky} {L:List Ky} (h1: ∀j,j<L.length->dA (bW L j) k=false):iG L k=false:=decide_eq_false fun h=>by
 obtain ⟨j,hj,e⟩:=aKx h
 have:=h1 j hj
 rw [wV.2 e] at this;cases this
theorem aQN {L:List Ky} {k:Nat} (h:k<L.length):bW L k=L[k]:=by unfold bW;rw [List.getD_eq_getElem?_getD,List.getElem?_eq_getElem h];rfl
theorem bBf {L M:List Ky} (hl:L.length=M.length) (h: ∀k,k<L.length->dA (bW L k) (bW M k)=true):decide (L=M)=true:=decide_eq_true<|List.ext_getElem hl fun i h1 h2=>by
 have:=wV.1 (h i h1)
 rw [aQN h1,aQN h2] at this;exact this
theorem bBg {L M:List Ky} {i:Nat} (h:dA (bW L i) (bW M i)=false):decide (L=M)=false:=decide_eq_false fun e=>by subst e;rw [wV.2 rfl] at h;cases h
theorem bBh {L M:List Ky} {i:Nat} (h: ∀k,k<i->dA (bW L k) (bW M k)=true) (h2:(!dA (bW L i) (bW M i))=false): ∀k,k<i+1->dA (bW L k) (bW M k)=true:=fun k hk=>by
 rcases Nat.lt_or_ge k i with h1|h1
 . exact h k h1
 . obtain rfl:k=i:=by omega
   cases e:dA (bW L k) (bW M k) with
   |true=>rfl
   |false=>rw [e] at h2;cases h2
theorem aZA {L M:List Ky} {i:Nat} (h:(!dA (bW L i) (bW M i))=true):decide (L=M)=false:=bBg (i:=i) (by
 cases e:dA (bW L i) (bW M i) with
 |true=>rw [e] at h;cases h
 |false=>rfl)
theorem bBi {L M:List Ky} (h:((L.length:Int) !=(M.length:Int))=true):decide (L=M)=false:=decide_eq_false fun e=>by subst e;simp at h
theorem bBj {L M:List Ky} (h:((L.length:Int) !=(M.length:Int))=false):L.length=M.length:=by
 have:=bne_eq_false_iff_eq.1 h;omega
def aD8:List Ar->Option Rs
 | [.c (.d (.lst 2 n0 f0)),.agg [.d (.v (.string x1)),.d (.v (.int .i64 i1))]]=>some ⟨(n0<=1099511627776/\ sY n0 f0),.va (.c (.d (bo (iG (cV n0 f0) (⟨x1,i1⟩:Ky))))),[]⟩
 |_=>none
theorem aKR:FC prog 14 aD8:=by
 intro xs pre r us h hp;unfold aD8 at h;split at h
 . rename_i n0 f0 x1 i1
   cases h;have a7:=hp
   refine aU.of_eq (as':= [.c (.d (.lst 2 n0 (fH (cV n0 f0)))),.agg [.d (.v (.string x1)),.d (.v (.int .i64 i1))]]) ?_ rfl rfl ?_
   . repeat' (first|exact j2t|refine ⟨?_,?_⟩|fail)
     all_goals first|exact aBg a7.2
   refine aE aA (l:= []) trivial func14 rfl j4 false ?_
   have hn:=a7.1
   have hlen:=yO n0 f0
   generalize cV n0 f0=L at*
   clear a7;subst hlen
   repeat' (fail)
   all_goals first|(conv=>whnf)
   refine dM aA (l:= []) trivial j4 (X:=Nat)
    (fun i=>⟨[(5,vx (.int .i64 i)),(3,.va (.c (.own 0 0))),(0,.va (.c (.d (yA L))))],[(0,.cells [.d (st x1),.d (it i1)])],1,18⟩)
    (fun i=>L.length-i) (fun i=>i<=L.length/\ ∀k,k<i->dA (bW L k) ⟨x1,i1⟩=false) [] []
    (fun i _ _=>i+1) [0] [0] 0 0 0 ?_ ?_ ?_
   . exact ⟨Nat.zero_le _,fun k h=>absurd h (Nat.not_lt_zero k)⟩
   . repeat' (first|exact j2w|refine ⟨?_,?_⟩|fail)
   . rintro i ⟨k1,k2⟩
     rcases Nat.lt_or_ge i L.length with hi|hi
     . have ag:decide ((i:Int)<(L.length:Int))=true:=decide_eq_true j3
       have ka:(0:Int)<=(i:Int)/\ (i:Int)<(L.length:Int):=j3
       cases hq:dA (bW L i) ⟨x1,i1⟩ with
       |true=>
        have hv:=aZy (k:=⟨x1,i1⟩) hi hq
        (repeat' (first|exact j3b|refine ⟨?_,?_⟩|intro _));all_goals first|apply qq|conv=>whnf
        all_goals (try simp only [Int.toNat_natCast,Nat.zero_add] at*)
        all_goals first|exact j3u
       |false=>
        have hk: ∀k,k<i+1->dA (bW L k) ⟨x1,i1⟩=false:=fun k h=>by
         rcases Nat.lt_or_ge k i with h1|h1
         . exact k2 k h1
         . rw [show k=i by omega];exact hq
        (repeat' (first|exact j3b|refine ⟨?_,?_⟩|intro _));all_goals first|apply qq|conv=>whnf
        all_goals (try dsimp only)
        all_goals (try simp only [Int.toNat_natCast,Nat.zero_add] at*)
        all_goals first|exact j3k
     . have ag:decide ((i:Int)<(L.length:Int))=false:=decide_eq_false j3
       obtain rfl:i=L.length:=j3
       have hv:=aZz (k:=⟨x1,i1⟩) k2
       repeat' (first|exact j3i|refine ⟨?_,?_⟩|intro _)
       all_goals first|(conv=>whnf)
       all_goals first|(rw [hv];done)
 . cases h
def aLH:List Ar->Option Rs
 | [.c (.d (.lst 2 n0 f0)),.c (.d (.lst 2 n1 f1))]=>some ⟨(n0<=1099511627776/\ sY n0 f0)/\ (n1<=1099511627776/\ sY n1 f1),.va (.c (.d (bo (decide ((cV n0 f0)=(cV n1 f1)))))),[]⟩
 |_=>none
theorem bBk:FC prog 41 aLH:=by
 intro xs pre r us h hp;unfold aLH at h;split at h
 . rename_i n0 f0 n1 f1
   cases h;obtain ⟨a7,a8⟩:=hp
   refine aU.of_eq (as':= [.c (.d (.lst 2 n0 (fH (cV n0 f0)))),.c (.d (.lst 2 n1 (fH (cV n1 f1))))]) ?_ rfl rfl ?_
   . repeat' (first|exact j2t|refine ⟨?_,?_⟩|fail)
     all_goals first|exact aBg a7.2|exact aBg a8.2
   refine aE aA (l:= []) trivial func41 rfl j4 false ?_
   have hn:=a7.1
   have hlen:=yO n0 f0
   generalize cV n0 f0=L at*
   clear a7;subst hlen;have BU:=a8.1
   have kh:=yO n1 f1
   generalize cV n1 f1=M_ at*
   clear a8;subst kh
   repeat' (first|exact trivial|refine ⟨?_,?_⟩|intro _)
   all_goals first|(conv=>whnf)
   all_goals first|(rw [bBi j9];done)|skip
   have hl:=bBj j9
   refine dM aA (l:= []) trivial j4 (X:=Nat)
    (fun i=>⟨[(5,vx (.int .i64 i)),(0,.va (.c (.d (yA L)))),(1,.va (.c (.d (yA M_))))],[],0,f41.ntmps⟩)
    (fun i=>L.length-i) (fun i=>i<=L.length/\ ∀k,k<i->dA (bW L k) (bW M_ k)=true) [] []
    (fun i _ _=>i+1) [] [] 0 0 0 ?_ ?_ ?_
   . exact ⟨Nat.zero_le _,fun k h=>absurd h (Nat.not_lt_zero k)⟩
   . repeat' (first|exact j2w|refine ⟨?_,?_⟩|fail)
   . rintro i ⟨k1,k2⟩
     rcases Nat.lt_or_ge i L.length with hi|hi
     . have ag:decide ((i:Int)<(L.length:Int))=true:=decide_eq_true j3
       have ka:(0:Int)<=(i:Int)/\ (i:Int)<(L.length:Int):=j3
       have Gj:(i:Int)<(M_.length:Int):=j3
       (repeat' (first|exact trivial|(with_reducible first|assumption|exact ka.1|exact nx ag)|refine ⟨?_,?_⟩|intro _));all_goals first|apply qq|conv=>whnf
       all_goals (try dsimp only)
       all_goals (try simp only [Int.toNat_natCast,Nat.zero_add] at*)
       all_goals first|omega|(rw [aZA (L:=L) (M:=M_) (i:=i) j9];done)|(exact bBh k2 j9 _ j9)|rfl|exact j3a
     . have ag:decide ((i:Int)<(L.length:Int))=false:=decide_eq_false j3
       obtain rfl:i=L.length:=j3
       have hv:=bBf hl k2
       repeat' (first|exact j3i|refine ⟨?_,?_⟩|intro _)
       all_goals first|(conv=>whnf)
       all_goals first|(rw [hv];done)
 . cases h
end Go.Proofs.YtiblbnhknemloaaGreat
namespace Go.Proofs.YtiblbnhknemloaaGreat
open Tryz
open Go.Sx
open Go.RowKit Go.Lib Go.Sort
def dZ (D:List Sd) (g:List Ky):Nat->List Sd
 |0=> []
 |i+1=>if iG g (eK D i).k=true then dZ D g i++ [eK D i] else dZ D g i
theorem aIF (D:List Sd) (g:List Ky): ∀i,i<=D.length->dZ D g i=(D.take i).filter fun x=>iG g x.k
 |0,_=>rfl
 |i+1,hi=>by
  have ha:eK D i=D[i]:=by unfold eK;rw [List.getD_eq_getElem?_getD,List.getElem?_eq_getElem j3];rfl
  have ih:=aIF D g i j3
  show (if iG g (eK D i).k=true then dZ D g i++ [eK D i] else dZ D g i)=_
  rw [List.take_succ_eq_append_getElem j3,List.filter_append, <-ih,ha];split
  . rename_i h;rw [List.filter_cons,if_pos h];rfl
  . rename_i h;rw [List.filter_cons,if_neg h,List.filter_nil,List.append_nil]
abbrev gL (R:Ro) (g:List Ky):Ro:=⟨R.G,R.c,R.d,R.lv,R.B,dZ R.D g R.D.length⟩
theorem aZB (D:List Sd) (g:List Ky) (k:Ky) (h:iG g k=true):lU (dZ D g D.length) k=lU D k:=by
 rw [aIF D g _ (Nat.le_refl _),List.take_length];unfold lU;rw [List.find?_filter]
 congr 2
 funext x
 cases e:dA x.k k with
 |true=>rw [wV.1 e,h];rfl
 |false=>simp
theorem aXB {D:List Sd} (g:List Ky) {k:Ky} (h:lU D k=none):lU (dZ D g D.length) k=none:=by
 rw [aIF D g _ (Nat.le_refl _),List.take_length];unfold lU at*
 rw [Option.map_eq_none_iff,List.find?_eq_none] at*
 intro x hx;exact h x (List.mem_filter.1 hx).1
def dS (a b:List Ky):Prop:= ∀k,k∈a->k∈b
theorem dS.trans {a b c:List Ky} (h:dS a b) (h2:dS b c):dS a c:=fun k hk=>h2 k (h k hk)
theorem dS.refl (a:List Ky):dS a a:=fun _ h=>h
theorem aEU (R:Ro) (s:Se) (x:ByteArray):dS s.gets (eS R s x).2.gets:=by
 unfold eS;split
 . exact .refl _
 . split
   . show dS _ (Se.gets (if _ then _ else _))
     split
     . exact .refl _
     . exact fun k hk=>List.mem_append_left _ hk
   . exact .refl _
theorem aIG {R:Ro} {g:List Ky} {s:Se} {x:ByteArray} (h:dS (eS R s x).2.gets g):eS (gL R g) s x=eS R s x:=by
 cases hw:s.wants with
 |true=>unfold eS;rw [if_pos hw,if_pos hw]
 |false=>
  cases hk:iX R.D ⟨x, -1⟩ with
  |false=>
   have h1:lU R.D ⟨x, -1⟩=none:=by unfold iX at hk;exact Option.isSome_eq_false_iff.1 hk|>Option.isNone_iff_eq_none.1
   have h2:iX (dZ R.D g R.D.length) ⟨x, -1⟩=false:=by unfold iX;rw [aXB g h1];rfl
   have iz: ¬s.wants=true:=j0t
   have ba: ¬iX R.D ⟨x, -1⟩=true:=by rw [hk];decide
   have BV: ¬iX (gL R g).D ⟨x, -1⟩=true:=by show¬iX (dZ R.D g R.D.length) _=true;rw [h2];decide
   unfold eS;rw [if_neg iz,if_neg iz,if_neg BV,if_neg ba]
  |true=>
   have hm:(⟨x, -1⟩:Ky)∈(eS R s x).2.gets:=by
    unfold eS;rw [if_neg j0t,if_pos hk];show _∈Se.gets (if _ then _ else _)
    split
    . rename_i hh;exact of_decide_eq_true hh
    . exact List.mem_append_right _ (List.mem_singleton.2 rfl)
   have hg:iG g ⟨x, -1⟩=true:=decide_eq_true (h _ hm)
   have hf:=aZB R.D g ⟨x, -1⟩ hg
   have hb:iX (dZ R.D g R.D.length) ⟨x, -1⟩=true:=by unfold iX at*;rw [hf];exact hk
   have hs:mT (dZ R.D g R.D.length) ⟨x, -1⟩=mT R.D ⟨x, -1⟩:=by unfold mT;rw [hf]
   have iz: ¬s.wants=true:=j0t
   have fu:iX (gL R g).D ⟨x, -1⟩=true:=hb
   have EK:mT (gL R g).D ⟨x, -1⟩=mT R.D ⟨x, -1⟩:=hs
   unfold eS;rw [if_neg iz,if_neg iz,if_pos fu,if_pos hk,EK]
theorem aOB (R:Ro) (s:Se) (x:ByteArray):dS s.gets (eT R s x).2.gets:=by
 unfold eT;split
 . exact .refl _
 . split
   . exact aEU R s x
   . exact .refl _
theorem aOC {R:Ro} {g:List Ky} {s:Se} {x:ByteArray} (h:dS (eT R s x).2.gets g):eT (gL R g) s x=eT R s x:=by
 unfold eT at*
 split
 . rfl
 . rename_i h1
   rw [if_neg h1] at h;split
   . rename_i h2
     rw [if_pos h2] at h;exact aIG h
   . rfl
theorem aJU (R:Ro) (N:List ByteArray) (s:Se): ∀i,dS s.gets (dI R N s i).2.gets
 |0=> .refl _
 |i+1=>by
  refine (aJU R N s i).trans ?_
  show dS _ (sC R (dI R N s i) (aN N i)).2.gets
  unfold sC;split
  . exact aEU R _ _
  . exact .refl _
theorem aQO {R:Ro} {g:List Ky} {N:List ByteArray} {s:Se}: ∀i,dS (dI R N s i).2.gets g->dI (gL R g) N s i=dI R N s i
 |0,_=>rfl
 |i+1,h=>by
  have hs:dS (dI R N s i).2.gets (sC R (dI R N s i) (aN N i)).2.gets:=by
   unfold sC;split
   . exact aEU R _ _
   . exact .refl _
  have ih:=aQO (R:=R) (g:=g) (N:=N) (s:=s) i (hs.trans h)
  show sC (gL R g) (dI (gL R g) N s i) (aN N i)=sC R (dI R N s i) (aN N i)
  have h:dS (sC R (dI R N s i) (aN N i)).2.gets g:=h
  rw [ih];unfold sC at*
  split
  . rename_i h2
    rw [if_pos h2] at h;rw [aIG h]
  . rfl
theorem aWb (R:Ro) (s:Se) (x:ByteArray):dS s.gets (rJ R s x).2.gets:=(aOB R s x).trans (aJU R _ _ _)
theorem aWc {R:Ro} {g:List Ky} {s:Se} {x:ByteArray} (h:dS (rJ R s x).2.gets g):rJ (gL R g) s x=rJ R s x:=by
 have h1:=aOC (R:=R) (g:=g) (s:=s) (x:=x) ((aJU R _ _ _).trans h)
 unfold rJ;rw [h1];exact aQO _ h
theorem aWd (R:Ro) (s:Se) (op n:Int) (x:ByteArray):dS s.gets (gZ R s op n x).2.gets:=by
 unfold gZ
 repeat' split
 . exact .refl _
 . exact aOB R s x
 . exact aWb R s x
 . exact .refl _
 . exact .refl _
theorem aWe {R:Ro} {g:List Ky} {s:Se} {op n:Int} {x:ByteArray} (h:dS (gZ R s op n x).2.gets g):gZ (gL R g) s op n x=gZ R s op n x:=by
 unfold gZ at*
 by_cases e1:op=1
 . rw [if_pos e1,if_pos e1]
 . rw [if_neg e1] at h;rw [if_neg e1,if_neg e1];by_cases e2:op=2
   . rw [if_pos e2] at h;rw [if_pos e2,if_pos e2];exact aOC h
   . rw [if_neg e2] at h;rw [if_neg e2,if_neg e2];by_cases e4:op=4
     . rw [if_pos e4] at h;rw [if_pos e4,if_pos e4];exact aWc h
     . rw [if_neg e4,if_neg e4]
theorem aPp (R:Ro) (s:Se) (op:Int) (x:ByteArray) (k:Vl):dS s.gets (jS R s op x k).2.gets:=by
 unfold jS
 repeat' split
 . exact aEU R s x
 . exact .refl _
 . exact .refl _
 . exact .refl _
theorem aXC {R:Ro} {g:List Ky} {s:Se} {op:Int} {x:ByteArray} {k:Vl} (h:dS (jS R s op x k).2.gets g):jS (gL R g) s op x k=jS R s op x k:=by
 unfold jS at*
 by_cases e3:op=3
 . rw [if_pos e3] at h;rw [if_pos e3,if_pos e3];by_cases hp:rZ R.G x k=true
   . rw [if_pos hp] at h;rw [if_pos hp,if_pos hp];exact aIG h
   . rw [if_neg hp,if_neg hp]
 . rw [if_neg e3,if_neg e3]
theorem aEV (R:Ro): ∀M (s:Se) (c:List DV),dS s.gets (cR R M s c).2.gets
 |0,s,c=> .refl _
 |M+1,s,c=>by
  unfold cR;split
  . split
    . split
      . exact aWd R s _ _ _
      . split
        . exact (aEV R M s _).trans (aPp R _ _ _ _)
        . exact (aEV R M s _).trans (aEV R M _ _)
    . exact .refl _
  . exact .refl _
theorem aEW {R:Ro} {g:List Ky}: ∀M {s:Se} {c:List DV},dS (cR R M s c).2.gets g->cR (gL R g) M s c=cR R M s c
 |0,_,_,_=>rfl
 |M+1,s,c,h=>by
  unfold cR at*
  split
  . rename_i op n x kd a
    dsimp only at h
    by_cases h1:fK op=(bP kd).1
    . rw [if_pos h1] at h;rw [if_pos h1,if_pos h1];by_cases h2:(bP kd).1=0
      . rw [if_pos h2] at h;rw [if_pos h2,if_pos h2];exact aWe h
      . rw [if_neg h2] at h;rw [if_neg h2,if_neg h2];by_cases h3:(bP kd).1=1
        . rw [if_pos h3] at h;rw [if_pos h3,if_pos h3,aEW M ((aPp R _ _ _ _).trans h)];exact aXC h
        . rw [if_neg h3] at h;have h:dS (cR R M (cR R M s ((bP kd).2 0)).2 ((bP kd).2 1)).2.gets g:=h
          rw [if_neg h3,if_neg h3,aEW M ((aEV R M _ _).trans h),aEW M h]
    . rw [if_neg h1,if_neg h1]
  . rfl
theorem aPq (D:List Sd) (g:List Ky): ∀i,(dZ D g i).length<=i
 |0=>Nat.le_refl 0
 |i+1=>by
  have:=aPq D g i
  unfold dZ;split
  . rw [List.length_append];simp;omega
  . omega
theorem aFe {D:List Sd} {g:List Ky} {x:Sd}: ∀{i},i<=D.length->x∈dZ D g i->x∈D
 |0,_,h=>by cases h
 |i+1,hi,h=>by
  unfold dZ at h;split at h
  . rcases List.mem_append.1 h with h|h
    . exact aFe j3 h
    . rw [List.mem_singleton] at h;subst h;exact aRr j3
  . exact aFe j3 h
end Go.Proofs.YtiblbnhknemloaaGreat
namespace Go.Proofs.YtiblbnhknemloaaGreat
open Tryz
open Go.Sx
theorem aRV {P:Program} {base:Nat} {ψ:aJ} {S:Nat->Prop} {w:World} {st:St} {a:Act} (a6:aC P base ψ S w st a) {k ln:Nat} {f:Nat->List DV} (hb:aF st.heap k= .row 9 ln f) {b m:Nat} (h1:ψ k=some (.at b m)):
 ∃arr e,w.heap[b]? =some (.cells arr e (0,0))/\ arr.size=m:=by
 have:=a6.sim.blk k _ h1
 rw [hb] at this;obtain ⟨arr,e,h2,h3,_⟩:=this
 exact ⟨arr,e,h2,h3⟩
theorem aRW {P:Program} {ψ:aJ} {S:Nat->Prop} {w:World} {k o len:Nat} {c:aL} {v:Value} (hc:c= .osl k 9 o len \/ ∃q,c= .osc k 9 o len q) (hl:0<len) (h:kI P ψ S w c v):
 ∃b m q off,ψ k=some (.at b m)/\ v= .slice (some ⟨b,off,none⟩) len q/\ 0<m:=by
 rcases hc with rfl|⟨q,rfl⟩
 . rcases h with ⟨_,h,_⟩|⟨b,m,c,off,h1,h2,h3,h4⟩
   . omega
   . obtain ⟨_,h5⟩:=h4 j3
     exact ⟨b,m,c,off,h1,h2,by omega⟩
 . rcases h with ⟨_,h,_⟩|⟨b,m,off,h1,h2,h3,h4⟩
   . omega
   . obtain ⟨_,h5⟩:=h4 j3
     exact ⟨b,m,q,off,h1,h2,by omega⟩
theorem aUn {base:Nat} {k1 k2 o1 o2 tk tl Dm Dn:Nat} {f1 f2:Nat->List DV} {c1 c2:aL} {ts:List (Nat×Tm)} {h:List (Nat×aB)} {n m:Nat} {K:Tm->St->Prop} (fh:c1= .osl k1 9 o1 tk \/ ∃q,c1= .osc k1 9 o1 tk q) (oa:c2= .osl k2 9 o2 tl \/ ∃q,c2= .osc k2 9 o2 tl q) (ag:k1≠k2) (au:aF h k1= .row 9 Dm f1) (ie:aF h k2= .row 9 Dn f2)
 (mi:0<tk) (ic:0<tl) (hk:K (.va (.c (.d (bo false)))) ⟨ts,h,n,m⟩):bM prog base 224 [.c c1,.c c2] ⟨ts,h,n,m⟩ K:=by
 refine ⟨fun ψ S w a ak a6 cr=> ?_⟩
 match ak,cr with
 | [v1,v2],⟨bj,fi,_⟩=>
   obtain ⟨b1,m1,q1,Bf,p1,rfl,r1⟩:=aRW fh mi bj
   obtain ⟨b2,m2,q2,Bg,p2,rfl,r2⟩:=aRW oa ic fi
   obtain ⟨a1,e1,s1,u1⟩:=aRV a6 (f:=f1) (ln:=Dm) au p1
   obtain ⟨a2,e2,s2,u2⟩:=aRV a6 (f:=f2) (ln:=Dn) ie p2
   have lx:b1≠b2:=by
    intro e;subst e;exact ag (a6.sim.inj k1 k2 b1 m1 m2 p1 p2 (by show (aF h k1).live;rw [au];trivial) (by show (aF h k2).live;rw [ie];trivial))
   have key:(callFunc 224 #[.slice (some ⟨b1,Bf,none⟩) tk q1,.slice (some ⟨b2,Bg,none⟩) tl q2]).run prog w= .ok (.value (.bool false)) w:=by
    rw [run_callFunc_extern (fn:=f224) j4 j4 j4 j4 (e:=Extern.SlicesOverlaps.overlaps #[38,38] #[4]) j4,
     Lib.run_overlaps_apart w 38 4 118 j4 9 (fun w=>by kernel_rfl) ⟨b1,Bf,none⟩ ⟨b2,Bg,none⟩ tk q1 tl q2 lx e1 e2 a1.size a2.size
      (by simp [World.shape?,s1]) (by simp [World.shape?,s2]) j3 (by simp [World.frozen?,s1]) (by simp [World.frozen?,s1])]
    rfl
   exact .inr ⟨_,_,key,_,_,_,ψ,S,rfl,hk,a6,.v trivial,aI.refl _ _ _ _⟩
def tG (G:Nat->Bd) (i:Nat) (x:Bd):Nat->Bd:=fun k=>if k<i then G k else if k=i then x else G (k-1)
def aFB:List Ar->Option Rs
 | [.c (.ow 9 n0 f0),.c (.d (.v (.int .i64 i1))),.c (.ow 9 n2 f2)]=>some ⟨(n0<=1099511627776/\ ∀i,i<n0->jC (f0 i))/\ (-9223372036854775808<=i1/\ i1<9223372036854775808)/\ (n2<=1099511627776/\ ∀i,i<n2->jC (f2 i))/\ ((0<=i1/\ i1<=n0)/\ n2=1),.va (.c (.ow 9 (n0+1) fun k=>aT (tG (gF f0) (i1).toNat ((gF f2) 0) k))),[none,some fun k=>aT ((gF f2) k)]⟩
 |_=>none
theorem aPr:FC prog 187 aFB:=by
 intro xs pre r us h hp;unfold aFB at h;split at h
 . rename_i n0 f0 i1 n2 f2
   cases h;obtain ⟨a7,a8,af,di⟩:=hp
   refine aU.deep (ys:= [.c (.ow 9 n0 fun k=>aT (gF f0 k)),.c (.d (.v (.int .i64 i1))),.c (.ow 9 n2 fun k=>aT (gF f2 k))]) ?_ ?_
   . repeat' (first|exact j3z|refine ⟨?_,?_⟩|fail)
     all_goals first|first|exact j5v|exact (uK af.2).2.2
   refine bDj aA (l:= []) trivial func187 rfl j4 false ?_
   obtain ⟨⟨ha,hb⟩,rfl⟩:=di
   obtain ⟨i,rfl⟩:=Int.eq_ofNat_of_zero_le ha
   have hn:=a7.1
   clear a7 af
   generalize gF f0=G at*
   generalize gF f2=X at*
   simp only [Int.toNat_natCast] at*
   (repeat' (first|exact trivial|refine ⟨?_,?_⟩|intro _));all_goals first|apply qq|conv=>whnf
   all_goals (have yz:=‹aEg _ _›;simp only [aEg] at yz)
   all_goals first|omega|(exact absurd (eq_of_beq ‹(((1:Nat):Int)==0)=true›) j5)|skip
   all_goals (have s7:IntKind.wrap .i64 ((n0:Int)+((1:Nat):Int))=(n0:Int)+1:=by rw [aR _ j3 j3];rfl)
   all_goals (have gd:IntKind.wrap .i64 ((i:Int)+((1:Nat):Int))=(i:Int)+1:=by rw [aR _ j3 j3];rfl)
   all_goals (have ot:IntKind.wrap .i64 (IntKind.wrap .i64 ((n0:Int)+((1:Nat):Int))-(i:Int))=(n0:Int)+1-i:=by rw [s7,aR _ j3 j3])
   all_goals first|(have ee:=eq_of_beq ‹((i:Int)==(n0:Int))=true›)|(have ee:=ne_of_beq_false ‹((i:Int)==(n0:Int))=false›)
   all_goals first|(have fg:=of_decide_eq_true ‹decide (_>(_:Int))=true›)|(have fg:=of_decide_eq_false ‹decide (_>(_:Int))=false›)|skip
   all_goals (simp only [ot,s7,gd] at*)
   all_goals first|omega|skip
   all_goals first|(rename_i k hk;simp only [qX,dG,tG];(repeat' split);all_goals first|exact j6f)|skip
   apply aUn
   . exact .inl rfl
   . exact .inr ⟨_,rfl⟩
   . decide
   . exact rfl
   . exact rfl
   . decide
   . omega
   have z6:IntKind.wrap .i64 ((i:Int)+((1:Nat):Int))=(i:Int)+1:=by rw [aR _ j3 j3];rfl
   (repeat' (first|exact trivial|refine ⟨?_,?_⟩|intro _));all_goals first|apply qq|conv=>whnf
   all_goals first|(exact absurd ‹(!false)=false› j5)|skip
   all_goals (try simp only [z6])
   all_goals first|omega|(rename_i k hk;simp only [qX,dG,tG];(repeat' split);all_goals first|exact j6f)
 . cases h
def lL (D:List Bd) (s:ByteArray) (w:Vl):List Bd:=
 if iE D s=true then D.set (cF D s) ⟨(aM D (cF D s)).name,w⟩ else D.take (cF D s)++⟨s,w⟩::D.drop (cF D s)
theorem aKS (D:List Bd) (s:ByteArray):cF D s<=D.length:=List.countP_le_length
theorem aZC {D:List Bd} {i k:Nat} {x:Bd} (hk:k<D.length):aM (D.set i x) k=if k=i then x else aM D k:=by
 unfold aM;rw [List.getD_eq_getElem?_getD,List.getElem?_set];by_cases h:i=k
 . subst h;rw [if_pos rfl,if_pos hk,if_pos rfl];rfl
 . rw [if_neg h,if_neg (Ne.symm h),List.getD_eq_getElem?_getD]
theorem aZD {D:List Bd} {i:Nat} {x:Bd} (hi:i<=D.length) (k:Nat):aM (D.take i++x::D.drop i) k=tG (aM D) i x k:=by
 unfold aM tG;have hl:(D.take i).length=i:=u4
 simp only [List.getD_eq_getElem?_getD];by_cases h:k<i
 . rw [if_pos h,List.getElem?_append_left j3,List.getElem?_take_of_lt h]
 . rw [if_neg h,List.getElem?_append_right j3,hl];by_cases h2:k=i
   . subst h2;rw [if_pos rfl,Nat.sub_self];rfl
   . rw [if_neg h2,show k-i=(k-i-1)+1 by omega,List.getElem?_cons_succ,List.getElem?_drop]
     congr 2;omega
theorem aQP (D:List Bd) (s:ByteArray) (w:Vl):(lL D s w).length=if iE D s=true then D.length else D.length+1:=by
 unfold lL;have:=aKS D s
 split
 . rw [List.length_set]
 . simp only [List.length_append,List.length_take,List.length_cons,List.length_drop];omega
namespace En
def set (e:En) (s:ByteArray) (v:Vl):En:=if e.clean.live=true then ⟨true,lL e.clean.binds s v.of⟩ else e.clean
end En
theorem aXD {D:List Bd} {s:ByteArray} {w:Vl} {r:List DV} (h:iE D s=true) (hr:r=aT ⟨(aM D (cF D s)).name,w⟩) {k:Nat} (hk:k<D.length):mB (aW D) (cF D s) r k=aT (aM (lL D s w) k):=by
 subst hr;unfold lL;rw [if_pos h,aZC hk,sK];split<;>rfl
theorem bBl (D:List Bd):gF (aW D)=aM D:=rH (aM D)
theorem aXE {D:List Bd} {s:ByteArray} {w:Vl} {r:List DV} {x:Bd} (h:iE D s=false) (hr:r=aT ⟨s,w⟩) (k:Nat):mB (fun k=>aT (tG (gF (aW D)) (cF D s) x k)) (cF D s) r k=aT (aM (lL D s w) k):=by
 subst hr;unfold lL;rw [if_neg (by rw [h];exact Bool.false_ne_true),aZD (aKS D s),sK,bBl];by_cases hk:k=cF D s
 . subst hk;rw [if_pos rfl];unfold tG;rw [if_neg (Nat.lt_irrefl _),if_pos rfl]
 . rw [if_neg hk];unfold tG;rw [if_neg hk,if_neg hk]
theorem aZE (G:Nat->Bd) (i:Nat) (x:Bd):tG G i x i=x:=by unfold tG;rw [if_neg (Nat.lt_irrefl _),if_pos rfl]
def aLI:List Ar->Option Rs
 | [.agg [.d (.v (.bool e0)),.d (.lst 9 n0 f0)],.c (.d (.v (.string x1))),.agg [.d (.v (.bool s2)),.d (.v (.int .i64 l2)),.d (.v (.int .i64 h2)),.d (.v (.bool b2)),.d (.v (.int .i64 m2)),.d (.v (.int .i64 r2)),.d (.v (.bool z2)),.d (.lst 1 n2 f2)]]=>some ⟨(n0<=1099511627776/\ dN n0 f0)/\ ((n2*16<=140737488351232/\ ∀i,i<n2->f2 i= [st (gT (f2 i))])/\ Sp.inR ⟨s2,l2,h2⟩/\ Cg.inR ⟨b2,m2,r2⟩),.va (En.ar (En.set (⟨e0,aH n0 f0⟩:En) x1 (⟨⟨⟨s2,l2,h2⟩,⟨b2,m2,r2⟩⟩,⟨z2,gN n2 f2⟩⟩:Vl))),[]⟩
 |_=>none
theorem bBm:FC prog 146 aLI:=by
 intro xs pre r us h hp;unfold aLI at h;split at h
 . rename_i e0 n0 f0 x1 s2 l2 h2 b2 m2 r2 z2 n2 f2
   cases h;obtain ⟨a7,a8⟩:=hp
   refine aU.deep (ys:= [.agg [.d (.v (.bool e0)),.d (.lst 9 n0 (aW (aH n0 f0)))],.c (.d (.v (.string x1))),.agg [.d (.v (.bool s2)),.d (.v (.int .i64 l2)),.d (.v (.int .i64 h2)),.d (.v (.bool b2)),.d (.v (.int .i64 m2)),.d (.v (.int .i64 r2)),.d (.v (.bool z2)),.d (.lst 1 n2 fun i=> [st (gT (f2 i))])]]) ?_ ?_
   . repeat' (first|exact j3s|refine ⟨?_,?_⟩|fail)
     all_goals first|first|exact j4h
   refine aE aA (l:= [(39,⟨[],aFr⟩),(86,⟨[true],aE2⟩),(187,⟨[true,false,true],aFB⟩),(78,⟨[],pK⟩),(87,⟨[],aBC⟩)]) ⟨aO9,aOj,aPr,sL,aKu,trivial⟩ func146 rfl j4 true ?_
   have hn:=a7.1
   have hL:=iD a7.2
   have hlen:=eD n0 f0
   generalize aH n0 f0=L at*
   clear a7;subst hlen;have b8:=dV hL
   have hb:=dJ L
   have hc:=aA1 (e:=⟨e0,L⟩) hL
   have za:=dV hc
   have fk:=aE1 ⟨e0,L⟩
   have hcs:=aE3 ⟨e0,L⟩
   have xr:(En.clean ⟨e0,L⟩).binds.length<=1099511627776:=Nat.le_trans fk hn
   have fi:aY (⟨⟨⟨s2,l2,h2⟩,⟨b2,m2,r2⟩⟩,⟨z2,gN n2 fun i=> [st (gT (f2 i))]⟩⟩:Vl):=⟨⟨y5,fun _ _=>rfl⟩,a8.2⟩
   have Dp:=cX fi
   have Dq:=cX Dp
   unfold aY at Dp Dq
   (repeat' (first|exact trivial|refine ⟨?_,?_⟩|intro _));all_goals first|apply qq|conv=>whnf
   all_goals first|((with_reducible show bM _ _ _ _ _ _);refine inl aA (l:= [(39,⟨[],aFr⟩),(86,⟨[true],aE2⟩),(187,⟨[true,false,true],aFB⟩),(78,⟨[],pK⟩),(87,⟨[],aBC⟩)]) ⟨aO9,aOj,aPr,sL,aKu,trivial⟩ func47 rfl j4 j4 rfl ?_)|skip
   all_goals (repeat' (first|exact trivial|refine ⟨?_,?_⟩|intro _));all_goals first|apply qq|conv=>whnf
   all_goals (try simp only [dJ,Bool.not_eq_true',Bool.not_eq_false',Int.toNat_natCast,Nat.zero_add] at*)
   all_goals (have dz:En.set ⟨e0,L⟩ x1 ⟨⟨⟨s2,l2,h2⟩,⟨b2,m2,r2⟩⟩,⟨z2,gN n2 f2⟩⟩=if (En.clean ⟨e0,L⟩).live=true then ⟨true,lL (En.clean ⟨e0,L⟩).binds x1 (Vl.of (⟨⟨⟨s2,l2,h2⟩,⟨b2,m2,r2⟩⟩,⟨z2,gN n2 fun i=> [st (gT (f2 i))]⟩⟩:Vl))⟩ else En.clean ⟨e0,L⟩:=rfl)
   all_goals (generalize En.set ⟨e0,L⟩ x1 ⟨⟨⟨s2,l2,h2⟩,⟨b2,m2,r2⟩⟩,⟨z2,gN n2 f2⟩⟩=R at*;generalize (⟨⟨⟨s2,l2,h2⟩,⟨b2,m2,r2⟩⟩,⟨z2,gN n2 fun i=> [st (gT (f2 i))]⟩⟩:Vl)=V at*;generalize En.clean ⟨e0,L⟩=C at*;have nf:=aKS C.binds x1)
   all_goals first|(have hl:=‹C.live=true›;rw [if_pos hl] at dz;subst dz)|(have hl:=‹C.live=false›;rw [if_neg (by rw [hl];exact Bool.false_ne_true)] at dz;subst dz)|skip
   all_goals first|rfl|exact b8|exact za|exact hn|exact xr|exact hcs|omega|exact .inl rfl|skip
   all_goals first|(obtain rfl:=Nat.lt_one_iff.1 ‹_<1›;first|exact .inr rfl|exact absurd ‹_<lD _› (Nat.not_lt_zero _))|skip
   all_goals first|(have hd:=‹iE _ _=true›;have hlt:=aDi hd;have hle:=aQP C.binds x1 V.of;rw [if_pos hd] at hle;first|omega|exact hle.symm|skip)|(have hd:=‹iE _ _=false›;have hle:=aQP C.binds x1 V.of;rw [if_neg (by rw [hd];exact Bool.false_ne_true)] at hle;first|exact hle.symm|skip)
   all_goals first|(have hq:=a8.2;simp only [Sp.inR,Cg.inR] at hq;omega)|skip
   all_goals first|(exact congrArg Value.bool hl)|(rename_i k hk;(try simp only [bI]);first|(exact aXE hd (by rw [aZE];rfl) _))|skip
   all_goals (rename_i k hk;exact aXD (w:=V.of) hd rfl hk)
 . cases h
open Go.RowKit Go.Lib Go.Sort
structure KdS (kd:DV):Prop where
 h:True->(kd= .v (.slice none 0 0) \/ ∃k g,kd= .lst 5 k g)
def aGa:List Ar->Option Rs
 | [.agg [.d (.v (.string x0)),.d (.v (.bool _)),.d (.v (.int .i64 _)),.d (.v (.int .i64 _)),.d (.v (.bool _)),.d (.v (.int .i64 _)),.d (.v (.int .i64 _)),.d (.v (.bool _)),.d (.lst 1 _ _)],.rp [.v (.int .i64 _),.v (.int .i64 _),.v (.string x1),k1,.v (.int .i64 _)]]=>some ⟨(KdS k1),.va (.c (.d (bo (x0.toList==x1.toList)))),[]⟩
 |_=>none
theorem aZF:FC prog 172 aGa:=by
 intro xs pre r us h hp;unfold aGa at h;split at h
 . rename_i x0 s0 l0 h0 b0 m0 r0 z0 n0 f0 i1 j1 x1 k1 a1
   cases h;have a7:=hp
   refine aE aA (l:= []) trivial func172 rfl j4 false ?_
   rcases a7.h trivial with rfl|⟨k_,g_,rfl⟩
   all_goals repeat' (first|exact trivial|refine ⟨?_,?_⟩|fail)
   all_goals first|(conv=>whnf)
   all_goals fail
 . cases h
abbrev gBg (ny:Int) (n_:Int) (nm:ByteArray) (l9:DV) (at_:Int):List Cv->Option Gs:=nO (cJ [(172,⟨[],aGa⟩)]) 172 [.rp [.v (.int .i64 ny),.v (.int .i64 n_),.v (.string nm),l9,.v (.int .i64 at_)]]
def aLJ (ny:Int) (n_:Int) (nm:ByteArray) (l9:DV) (at_:Int):List Ar->Option Rs
 | [.c (.d (.lst 9 n0 f0)),.fv g1]=>some ⟨(n0<=1099511627776/\ dN n0 f0)/\ (g1=gBg ny n_ nm l9 at_/\ KdS l9),.va (.c (.d (it (tU (aH n0 f0) nm)))),[]⟩
 |_=>none
theorem bBn (ny:Int) (n_:Int) (nm:ByteArray) (l9:DV) (at_:Int):FC prog 186 (aLJ ny n_ nm l9 at_):=by
 intro xs pre r us h hp;unfold aLJ at h;split at h
 . rename_i n0 f0 g1
   cases h;obtain ⟨a7,a8⟩:=hp
   refine aU.deep (ys:= [.c (.d (.lst 9 n0 (aW (aH n0 f0)))),.fv g1]) ?_ ?_
   . repeat' (first|exact j2t|refine ⟨?_,?_⟩|fail)
     all_goals first|exact gY a7.2.h
   refine aE aA (l:= []) trivial func186 rfl j4 false ?_
   obtain ⟨rfl,ly⟩:=a8
   have hn:=a7.1
   have hL:=iD a7.2
   have hlen:=eD n0 f0
   generalize aH n0 f0=L at*
   clear a7;subst hlen;have b8:=dV hL
   repeat' (fail)
   all_goals first|(conv=>whnf)
   refine dM aA (l:= []) trivial j4 (X:=Nat)
    (fun i=>⟨[(8,vx (.int .i64 i)),(0,.va (.c (.d (dT L)))),(1,.va (.c (.fv (gBg ny n_ nm l9 at_)))),(7,vx (.int .i64 L.length))],[],0,19⟩)
    (fun i=>L.length-i) (fun i=>i<=L.length/\ ∀k,k<i->((aM L k).name.toList==nm.toList)=false) [] []
    (fun i _ _=>i+1) [] [] 0 0 0 ?_ ?_ ?_
   . exact ⟨Nat.zero_le _,fun k h=>absurd h (Nat.not_lt_zero k)⟩
   . repeat' (first|exact j2w|refine ⟨?_,?_⟩|fail)
   . rintro i ⟨k1,k2⟩
     rcases Nat.lt_or_ge i L.length with hi|hi
     . have ag:decide ((i:Int)<(L.length:Int))=true:=decide_eq_true j3
       have ka:(0:Int)<=(i:Int)/\ (i:Int)<(L.length:Int):=j3
       cases hq:((aM L i).name.toList==nm.toList) with
       |true=>
        have hv:=aQh hi k2 hq
        (repeat' (first|exact j3b|refine ⟨?_,?_⟩|intro _));all_goals first|apply qq|conv=>whnf
        all_goals (try simp only [Int.toNat_natCast,Nat.zero_add] at*)
        all_goals first|exact j3u
       |false=>
        have hk: ∀k,k<i+1->((aM L k).name.toList==nm.toList)=false:=fun k h=>by
         rcases Nat.lt_or_ge k i with h1|h1
         . exact k2 k h1
         . rw [show k=i by omega];exact hq
        (repeat' (first|exact j3b|refine ⟨?_,?_⟩|intro _));all_goals first|apply qq|conv=>whnf
        all_goals (try dsimp only)
        all_goals (try simp only [Int.toNat_natCast,Nat.zero_add] at*)
        all_goals first|exact j3k
     . have ag:decide ((i:Int)<(L.length:Int))=false:=decide_eq_false j3
       obtain rfl:i=L.length:=j3
       have hv:=aQi k2
       repeat' (first|exact j3i|refine ⟨?_,?_⟩|intro _)
       all_goals first|(conv=>whnf)
       all_goals first|(rw [hv];done)
 . cases h
def aJV (ny:Int) (n_:Int) (nm:ByteArray) (l9:DV) (at_:Int):List Ar->Option Rs
 | [.c (.d (.lst 9 n0 f0)),.fv g1]=>some ⟨(n0<=1099511627776/\ dN n0 f0)/\ (g1=gBg ny n_ nm l9 at_/\ KdS l9),.va (.c (.d (bo (eP (aH n0 f0) nm)))),[]⟩
 |_=>none
theorem aXF (ny:Int) (n_:Int) (nm:ByteArray) (l9:DV) (at_:Int):FC prog 144 (aJV ny n_ nm l9 at_):=by
 intro xs pre r us h hp;unfold aJV at h;split at h
 . rename_i n0 f0 g1
   cases h;obtain ⟨a7,a8⟩:=hp
   refine aU.deep (ys:= [.c (.d (.lst 9 n0 (aW (aH n0 f0)))),.fv g1]) ?_ ?_
   . repeat' (first|exact j2t|refine ⟨?_,?_⟩|fail)
     all_goals first|exact gY a7.2.h
   refine aE aA (l:= [(186,⟨[],(aLJ ny n_ nm l9 at_)⟩)]) ⟨(bBn ny n_ nm l9 at_),trivial⟩ func144 rfl j4 false ?_
   obtain ⟨rfl,ly⟩:=a8
   have hn:=a7.1
   have hL:=iD a7.2
   have hlen:=eD n0 f0
   generalize aH n0 f0=L at*
   clear a7;subst hlen;have b8:=dV hL
   repeat' (first|exact j4p|refine ⟨?_,?_⟩|intro _)
   all_goals first|(conv=>whnf)
   all_goals (try simp only [dJ] at*)
   all_goals first|rfl
 . cases h
def tH (op:Int) (k:Nat):Bool:=decide (op≥12)&&(decide (op<=15)&&((k:Int)==2))
def eO (e:En) (op:Int) (x:ByteArray) (v:Vl):En:=if op=2 then (if eP e.binds x=true then En.set e x v else e) else e
def aGT:List Ar->Option Rs
 | [.agg [.d (.v (.int .i64 i0)),.d (.v (.int .i64 _)),.d (.v (.string _)),.d (.lst 5 k0 _),.d (.v (.int .i64 _))]]=>some ⟨True,.va (.c (.d (bo (tH i0 k0)))),[]⟩
 |_=>none
theorem aRX:FC prog 121 aGT:=by
 intro xs pre r us h hp;unfold aGT at h;split at h
 . rename_i i0 j0 x0 k0 u0 a0
   cases h;refine aE aA (l:= []) trivial func121 rfl j4 false ?_
   unfold tH;cases h1:decide (i0≥12)<;>cases h2:decide (i0<=15)<;>cases h3:((k0:Int)==2)
   all_goals repeat' (first|exact trivial|(with_reducible first|exact nx h1|exact nx h2)|refine ⟨?_,?_⟩|intro _)
   all_goals first|(conv=>whnf)
   all_goals first|rfl|(rw [h3];rfl)
 . cases h
def aGb:List Ar->Option Rs
 | [.agg [.d (.v (.bool e0)),.d (.lst 9 n0 f0)],.agg [.d (.v (.int .i64 i1)),.d (.v (.int .i64 _)),.d (.v (.string x1)),.d k1,.d (.v (.int .i64 _))],.agg [.d (.v (.bool s2)),.d (.v (.int .i64 l2)),.d (.v (.int .i64 h2)),.d (.v (.bool b2)),.d (.v (.int .i64 m2)),.d (.v (.int .i64 r2)),.d (.v (.bool z2)),.d (.lst 1 n2 f2)]]=>some ⟨(n0<=1099511627776/\ dN n0 f0)/\ (KdS k1)/\ ((n2*16<=140737488351232/\ ∀i,i<n2->f2 i= [st (gT (f2 i))])/\ Sp.inR ⟨s2,l2,h2⟩/\ Cg.inR ⟨b2,m2,r2⟩),.va (En.ar (eO (⟨e0,aH n0 f0⟩:En) i1 x1 (⟨⟨⟨s2,l2,h2⟩,⟨b2,m2,r2⟩⟩,⟨z2,gN n2 f2⟩⟩:Vl))),[]⟩
 |_=>none
theorem aQQ:FC prog 127 aGb:=by
 intro xs pre r us h hp;unfold aGb at h;split at h
 . rename_i e0 n0 f0 i1 j1 x1 k1 a1 s2 l2 h2 b2 m2 r2 z2 n2 f2
   cases h;obtain ⟨a7,a8,af⟩:=hp
   refine aU.deep (ys:= [.agg [.d (.v (.bool e0)),.d (.lst 9 n0 (aW (aH n0 f0)))],.agg [.d (.v (.int .i64 i1)),.d (.v (.int .i64 j1)),.d (.v (.string x1)),.d k1,.d (.v (.int .i64 a1))],.agg [.d (.v (.bool s2)),.d (.v (.int .i64 l2)),.d (.v (.int .i64 h2)),.d (.v (.bool b2)),.d (.v (.int .i64 m2)),.d (.v (.int .i64 r2)),.d (.v (.bool z2)),.d (.lst 1 n2 fun i=> [st (gT (f2 i))])]]) ?_ ?_
   . repeat' (first|exact j3s|refine ⟨?_,?_⟩|fail)
     all_goals first|first|exact j4g
   refine aE aA (l:= [(144,⟨[],(aJV i1 j1 x1 k1 a1)⟩),(172,⟨[],aGa⟩),(146,⟨[],aLI⟩)]) ⟨(aXF i1 j1 x1 k1 a1),aZF,bBm,trivial⟩ func127 rfl j4 true ?_
   have hn:=a7.1
   have hL:=iD a7.2
   have hlen:=eD n0 f0
   generalize aH n0 f0=L at*
   clear a7;subst hlen;have b8:=dV hL
   have BT:=a8
   have hc:(i1=2/\ eP (aH L.length (aW L)) x1=true/\ eO ⟨e0,L⟩ i1 x1 ⟨⟨⟨s2,l2,h2⟩,⟨b2,m2,r2⟩⟩,⟨z2,gN n2 f2⟩⟩=En.set ⟨e0,L⟩ x1 ⟨⟨⟨s2,l2,h2⟩,⟨b2,m2,r2⟩⟩,⟨z2,gN n2 f2⟩⟩) \/(i1=2/\ eP (aH L.length (aW L)) x1=false/\ eO ⟨e0,L⟩ i1 x1 ⟨⟨⟨s2,l2,h2⟩,⟨b2,m2,r2⟩⟩,⟨z2,gN n2 f2⟩⟩=⟨e0,L⟩) \/(i1≠2/\ eO ⟨e0,L⟩ i1 x1 ⟨⟨⟨s2,l2,h2⟩,⟨b2,m2,r2⟩⟩,⟨z2,gN n2 f2⟩⟩=⟨e0,L⟩):=by
    rw [dJ];unfold eO;by_cases h1:i1=2
    . rw [if_pos h1];by_cases h2:eP L x1=true
      . exact .inl ⟨h1,h2,if_pos h2⟩
      . exact .inr (.inl ⟨h1,Bool.eq_false_iff.2 h2,if_neg h2⟩)
    . rw [if_neg h1];exact .inr (.inr ⟨h1,rfl⟩)
   have ag:i1≠2->(i1 !=2)=true:=fun h=>by simpa using h
   rcases BT.h trivial with rfl|⟨k_,g_,rfl⟩
   all_goals rcases hc with ⟨rfl,hq,e⟩|⟨rfl,hq,e⟩|⟨h1,e⟩
   all_goals rw [e]
   all_goals (repeat' (first|exact trivial|(with_reducible first|assumption|exact af.2|exact nd|exact (nx (ag h1))|exact (nx (congrArg Bool.not hq)))|refine ⟨?_,?_⟩|intro _));all_goals first|apply qq|conv=>whnf
   all_goals (repeat' (fail));all_goals first|apply qq|conv=>whnf
   all_goals (try simp only [dJ,bI] at*)
   all_goals first|rfl|omega
 . cases h
end Go.Proofs.YtiblbnhknemloaaGreat
namespace Go.Proofs.YtiblbnhknemloaaGreat
open Tryz
open Go.Sx
open Go.RowKit Go.Lib Go.Sort
theorem aQR {R:Ro} (hR:R.ok) {M:Nat} {c:List DV} (hc:iK M c):yC R (dP R M c) 1099511627776:=by
 have hz:cD R ⟨[],false,⟨⟨#[]⟩,0⟩⟩:=⟨List.nodup_nil,fun k h=>by cases h⟩
 have h:=wL hR M hz hc
 unfold dP;split
 . refine ⟨?_,?_,h.s⟩
   . show aY (oN _);unfold oN;split
     . exact mF
     . exact cX h.v
   . show (oN _).t.names.length<=_;unfold oN;split
     . exact Nat.zero_le _
     . exact Nat.le_trans (dF _) h.n
 . exact ⟨mF,Nat.zero_le _,hz⟩
abbrev TCm (k:Nat) (R:Ro) (g:List Ky) (w:Bool) (q:Ky):List aL:= [.d (xZ R.G),.d (.lst 5 R.c R.d),.d (bo R.lv),.d (dT R.B),.d (aEx R.D),.d (bo false),.d (.v (.slice none 0 0)),.osl k 2 0 g.length,.d (bo w),.d (st q.name),.d (it q.node)]
abbrev TCn (k:Nat) (R:Ro) (s:Se):List aL:=TCm k R s.gets s.wants s.want
abbrev HG (R:Ro) (s:Se):List (Nat×aB):= [(0,.cells (TCn 1 R s)),(1,.row 2 s.gets.length (fH s.gets))]
def bEA (c:Nat) (k2:List Nat):List aB->List Nat
 | [.cells cs]=>match cs.getD c .top with
   | .osl r _ _ _=>0::1::(match Nat.beq r 1 with
     |true=>2
     |false=>r)::k2
   |_=> []
 |_=> []
def bBo (c:Nat):List aB->Bool
 | [.cells cs]=>match cs.getD c .top with
   | .osl r _ _ _=> !Nat.beq r 1
   |_=>false
 |_=>false
abbrev rwN (b:Bool):Nat:=match b with
 |true=>2
 |false=>1
def fO (g L:List Ky):Nat->List Ky
 |0=>g
 |i+1=>if iG (fO g L i) (bW L i)=true then fO g L i else fO g L i++ [bW L i]
abbrev eU (R:Ro) (E:En):Ro:=⟨R.G,R.c,R.d,E.live,E.binds,R.D⟩
def bD (R:Ro) (s:Se) (E:En) (M:Nat) (c:List DV):Vl×Se:=
 if s.wants=true then (Vl.zero,s) else ((dP (eU R E) M c).1,⟨fO s.gets (dP (eU R E) M c).2.gets (dP (eU R E) M c).2.gets.length,(dP (eU R E) M c).2.wants,(dP (eU R E) M c).2.want⟩)
structure rP (E:En):Prop where
 ok:iO E.binds
 n:E.binds.length<=1099511627776
 v: ∀x,x∈E.binds->x.v.t.names.length<=1048576
theorem aQS {R:Ro} (hR:R.ok) {E:En} (hE:rP E):(eU R E).ok:=⟨hR.g,hR.gn,hE.ok,hE.n,hR.d,hR.dn,hE.v,hR.dv⟩
theorem aRY {g L:List Ky} (h:g.Nodup): ∀i,(fO g L i).Nodup
 |0=>h
 |i+1=>by
  have ih:=aRY (L:=L) h i
  unfold fO;split
  . exact ih
  . rename_i hk
    refine List.nodup_append.2 ⟨ih,List.nodup_cons.2 ⟨by simp,List.nodup_nil⟩,fun a ha b hb=> ?_⟩
    rw [List.mem_singleton] at hb;subst hb;intro e;subst e
    exact hk (decide_eq_true ha)
theorem aJW {g L:List Ky}: ∀i,i<=L.length-> ∀k,k∈fO g L i->k∈g \/k∈L
 |0,_,_,h=> .inl h
 |i+1,hi,k,h=>by
  unfold fO at h;split at h
  . exact aJW i j3 k h
  . rcases List.mem_append.1 h with h|h
    . exact aJW i j3 k h
    . rw [List.mem_singleton] at h;subst h;exact .inr (aRt j3)
theorem aQT {g L:List Ky}: ∀i,dS g (fO g L i)
 |0=> .refl _
 |i+1=>by
  refine (aQT (g:=g) (L:=L) i).trans ?_
  show dS _ (if _ then _ else _)
  split
  . exact .refl _
  . exact fun k hk=>List.mem_append_left _ hk
theorem aJX {g L:List Ky}: ∀i,i<=L.length-> ∀j,j<i->bW L j∈fO g L i
 |0,_,_,h=>absurd h (Nat.not_lt_zero _)
 |i+1,hi,j,hj=>by
  show _∈(if _ then _ else _)
  split
  . rename_i hk
    rcases Nat.lt_or_ge j i with h|h
    . exact aJX i j3 j h
    . obtain rfl:j=i:=by omega
      exact of_decide_eq_true hk
  . rcases Nat.lt_or_ge j i with h|h
    . exact List.mem_append_left _ (aJX i j3 j h)
    . obtain rfl:j=i:=by omega
      exact List.mem_append_right _ (List.mem_singleton.2 rfl)
theorem aRZ {R:Ro} {s t:Se} (hs:cD R s) (ht:cD R t) {i:Nat} (hi:i<=t.gets.length) (w:Bool) (k:Ky):cD R ⟨fO s.gets t.gets i,w,k⟩:=
 ⟨aRY hs.nd i,fun k hk=>(aJW i hi k hk).elim (hs.kn k) (ht.kn k)⟩
theorem aA7 {R:Ro} (hR:R.ok) {E:En} (hE:rP E) {s:Se} (hs:cD R s) {M:Nat} {c:List DV} (hc:iK M c):aY (bD R s E M c).1/\ (bD R s E M c).1.t.names.length<=1099511627776/\ cD R (bD R s E M c).2:=by
 have h:=aQR (aQS hR hE) hc
 unfold bD;split
 . exact ⟨mF,Nat.zero_le _,hs⟩
 . exact ⟨h.v,h.n,aRZ hs (t:=(dP (eU R E) M c).2) ⟨h.s.nd,h.s.kn⟩ (Nat.le_refl _) _ _⟩
theorem aD9 {R:Ro} (hR:R.ok) {E:En} (hE:rP E) {s:Se} (hs:cD R s) {M:Nat} {op n:Int} {x:ByteArray} {k_:Nat} {g_:Nat->List DV} {at_:Int} (hc:iK M (aS op n x (.lst 5 k_ g_) at_)):bH prog 122 [.c (.own 0 0),.agg [.d (bo E.live),.d (dT E.binds)],.agg [.d (it op),.d (it n),.d (st x),(.d (.lst 5 k_ g_)),.d (it at_)]] (HG R s) (jF (bD R s E M (aS op n x (.lst 5 k_ g_) at_)).1) (HG R (bD R s E M (aS op n x (.lst 5 k_ g_) at_)).2):=by
 have hG:=pL hR.g
 have xj:=hR.gn
 have hB:=dV hE.ok
 have er:=hE.n
 have EL:=aDG hR.d
 have BW:=hR.dn
 have hK:=oJ s.gets
 have rj:=wJ hs
 have mj:=gS R.G
 have qv:=dJ E.binds
 have sl:=aD1 R.D
 have hx:aTM M (aS op n x (.lst 5 k_ g_) at_):=⟨fun _=>hc⟩
 have vj:=aQR (aQS hR hE) hc
 have BX:dP ⟨bN R.G.length (dC R.G),R.c,R.d,E.live,aH E.binds.length (aW E.binds),gD R.D.length (iC R.D)⟩ M (aS op n x (.lst 5 k_ g_) at_)=dP (eU R E) M (aS op n x (.lst 5 k_ g_) at_):=by rw [mj,qv,sl]
 cases hw:s.wants with
 |true=>
  have e:bD R s E M (aS op n x (.lst 5 k_ g_) at_)=(Vl.zero,s):=if_pos hw
  rw [e]
  all_goals refine iZ (c:=7) (inl aA (l:= [(114,⟨[],(zL M)⟩)]) ⟨(aDq M),trivial⟩ func122 rfl j4 j4 rfl ?_)
  all_goals repeat' (first|exact trivial|(with_reducible exact nx hw)|refine ⟨?_,?_⟩|intro _)
  all_goals first|(conv=>whnf)
  all_goals (try simp only [hw])
  all_goals first|(exact rfl)
 |false=>
  have e:bD R s E M (aS op n x (.lst 5 k_ g_) at_)=((dP (eU R E) M (aS op n x (.lst 5 k_ g_) at_)).1,⟨fO s.gets (dP (eU R E) M (aS op n x (.lst 5 k_ g_) at_)).2.gets (dP (eU R E) M (aS op n x (.lst 5 k_ g_) at_)).2.gets.length,(dP (eU R E) M (aS op n x (.lst 5 k_ g_) at_)).2.wants,(dP (eU R E) M (aS op n x (.lst 5 k_ g_) at_)).2.want⟩):=if_neg j0t
  rw [e]
  clear e
  generalize dP (eU R E) M (aS op n x (.lst 5 k_ g_) at_)=P_ at*
  obtain ⟨V_,L_,w_,q_⟩:=P_
  have GL:=oJ L_
  have GM:L_.length<=R.D.length:=wJ vj.s
  have hA:=fun i (hi:i<=L_.length)=>aRZ (R:=R) (s:=s) (t:=⟨L_,w_,q_⟩) hs ⟨vj.s.nd,vj.s.kn⟩ hi s.wants s.want
  all_goals refine iZ (c:=7) (inl aA (l:= [(114,⟨[],(zL M)⟩)]) ⟨(aDq M),trivial⟩ func122 rfl j4 j4 rfl ?_)
  all_goals (repeat' (first|(with_reducible first|assumption|exact nx hw)|refine ⟨?_,?_⟩|intro _));all_goals first|apply qq|conv=>whnf
  all_goals (repeat' (fail));all_goals first|apply qq|conv=>whnf
  all_goals (try rw [BX])
  all_goals first|(rename_i hx;rw [qv] at hx;exact hE.v _ hx)|(rename_i hx;rw [sl] at hx;exact hR.dv _ hx)|skip
  all_goals refine aIZ aA (l:= [(114,⟨[],(zL M)⟩)]) ⟨(aDq M),trivial⟩ j4 (X:=Nat×Bool) (fun i=>⟨[(33,vx (.int .i64 i.1)),(32,vx (.int .i64 L_.length)),(31,.va (.c (.d (yA L_)))),(0,.va (.c (.own 0 0))),(7,.va (.c (.own 4 0))),(6,.va (.c (.own 3 0)))],[(0,.cells (TCm (rwN i.2) R (fO s.gets L_ i.1) s.wants s.want)),(rwN i.2,.row 2 (fO s.gets L_ i.1).length (fH (fO s.gets L_ i.1))),(3,.cells [.d (bo false),.d (it 0),.d (it 0),.d (bo false),.d (it 0),.d (it 0),.d (bo false),.d (.v (.slice none 0 0))]),(4,.cells [.d (bo (V_).i.s.some),.d (it (V_).i.s.lo),.d (it (V_).i.s.hi),.d (bo (V_).i.c.some),.d (it (V_).i.c.m),.d (it (V_).i.c.r),.d (bo (V_).t.null),.d (lst (V_).t.names),.d (yA L_),.d (bo w_),.d (st q_.name),.d (it q_.node)])],5,f122.ntmps⟩) (fun i=>L_.length-i.1) (fun i=>i.1<=L_.length) [] [0] (fun i _ bs=>(i.1+1,bBo 7 bs)) (bEA 7 [3,4]) [0,1,2,4,19] 0 0 (0,false) ?_ ?_ ?_
  all_goals first|exact Nat.zero_le _|skip
  all_goals first|((with_reducible show∀_,_);skip)|((repeat' (first|exact j2w|refine ⟨?_,?_⟩|fail));done)
  all_goals rintro ⟨i,b⟩ ki
  all_goals dsimp only at ki
  all_goals rcases Nat.lt_or_ge i L_.length with hi|hi
  all_goals first|(have ag:decide ((i:Int)<(L_.length:Int))=true:=decide_eq_true j3)|(obtain rfl:i=L_.length:=j3;have ag:decide ((L_.length:Int)<(L_.length:Int))=false:=decide_eq_false j3)
  all_goals first|(have _:=hi;have ka:(0:Int)<=(i:Int)/\ (i:Int)<(L_.length:Int):=j3;have yq:=hA i ki;have Da:=oJ (fO s.gets L_ i);have Bc:(fO s.gets L_ i).length<=R.D.length:=wJ yq;have Gk:(fO s.gets L_ i).length<=1099511627776:=j3;have zb:((fO s.gets L_ i).length+1)*24<=140737488355328:=j3;have oa:(iG (cV (fO s.gets L_ i).length (fH (fO s.gets L_ i))) ⟨(bW L_ (Int.toNat (i:Int))).name,(bW L_ (Int.toNat (i:Int))).node⟩=true/\ fO s.gets L_ (i+1)=fO s.gets L_ i) \/(iG (cV (fO s.gets L_ i).length (fH (fO s.gets L_ i))) ⟨(bW L_ (Int.toNat (i:Int))).name,(bW L_ (Int.toNat (i:Int))).node⟩=false/\ fO s.gets L_ (i+1)=fO s.gets L_ i++ [bW L_ (Int.toNat (i:Int))]):=(by rw [sT];by_cases hq:iG (fO s.gets L_ i) (bW L_ i)=true;exact .inl ⟨hq,if_pos hq⟩;exact .inr ⟨Bool.eq_false_iff.2 hq,if_neg hq⟩);rcases oa with ⟨qj,e⟩|⟨qj,e⟩)|skip
  all_goals first|(have _:=(show decide ((L_.length:Int)<(L_.length:Int))=false from ag);cases w_)|skip
  all_goals cases b
  all_goals dsimp only
  all_goals repeat' (first|(with_reducible first|exact ka|exact nx ag)|refine ⟨?_,?_⟩|intro _)
  all_goals first|(conv=>whnf)
  all_goals first|((with_reducible show bM _ _ 165 _ _ _);refine aIy (l:= [(165,⟨[true],aEo⟩)]) ⟨aLr,trivial⟩ ?_)|((with_reducible show aO _ _ (.region 10 _ _) _ _);refine cO aA (l:= [(114,⟨[],(zL M)⟩)]) ⟨(aDq M),trivial⟩ ([.take 0,.take 1,.take 2,.take 3,.take 4,.take 5,.take 6,.take 7,.take 8,.act 9 [5,4,1] [66,61],.take 10,.take 11,.take 12,.act 13 [] [69,63]]) j4 ?_)
  all_goals (repeat' (first|exact trivial|(with_reducible first|exact Da|exact (Nat.le_refl _)|exact (nx (congrArg Bool.not qj)))|refine ⟨?_,?_⟩|intro _));all_goals first|apply qq|conv=>whnf
  all_goals first|((with_reducible show aO _ _ (.region 8 _ _) _ _);refine cO aA (l:= [(114,⟨[],(zL M)⟩)]) ⟨(aDq M),trivial⟩ ([.take 0,.take 1,.take 2,.take 3,.take 4,.take 5,.take 6,.act 7 [5,4,3,2,1,0] [51],.act 8 [0] [50,52],.take 9,.take 10,.take 11,.act 12 [] [56,53]]) j4 ?_)|skip
  all_goals (repeat' (first|exact trivial|(with_reducible first|exact zb|exact (Nat.le_refl _))|refine ⟨?_,?_⟩|intro _));all_goals first|apply qq|conv=>whnf
  all_goals (try dsimp only)
  all_goals (try simp only [e,sT])
  all_goals first|exact j6q|exact j3a|(rw [List.length_append];rfl)|(exact aOt rfl _ j9)
theorem bEB {R:Ro} (hR:R.ok) {E:En} (hE:rP E) {s:Se} (hs:cD R s) {M:Nat} {op n:Int} {x:ByteArray} {kd:DV} {at_:Int} (hc:iK M (aS op n x kd at_)) (ly:kd= .v (.slice none 0 0) \/ ∃k g,kd= .lst 5 k g):bH prog 122 [.c (.own 0 0),.agg [.d (bo E.live),.d (dT E.binds)],.agg [.d (it op),.d (it n),.d (st x),.d kd,.d (it at_)]] (HG R s) (jF (bD R s E M (aS op n x kd at_)).1) (HG R (bD R s E M (aS op n x kd at_)).2):=by
 rcases ly with rfl|⟨k,g,rfl⟩
 . have EM:iK M (aS op n x (.lst 5 0 fun _=> []) at_):=by
    cases M with
    |zero=>exact hc.elim
    |succ M=>
     obtain ⟨_,_,_,_,_,e,h1,h2,h3, -⟩:=hc
     cases e;exact ⟨_,_,_,_,_,rfl,h1,h2,h3,.inr ⟨0,_,rfl,Nat.zero_le _,fun i hi=>absurd hi (Nat.not_lt_zero i)⟩⟩
   have e:dP (eU R E) M (aS op n x (.v (.slice none 0 0)) at_)=dP (eU R E) M (aS op n x (.lst 5 0 fun _=> []) at_):=by cases M<;>rfl
   have e2:bD R s E M (aS op n x (.v (.slice none 0 0)) at_)=bD R s E M (aS op n x (.lst 5 0 fun _=> []) at_):=by unfold bD;rw [e]
   rw [e2];exact (aD9 hR hE hs EM).arg ⟨⟨rfl,rfl⟩,⟨rfl,⟨rfl,rfl,fun _ _=>rfl⟩,trivial⟩,⟨rfl,rfl,rfl,⟨rfl,rfl⟩,rfl,trivial⟩,trivial⟩
 . exact aD9 hR hE hs hc
end Go.Proofs.YtiblbnhknemloaaGreat
