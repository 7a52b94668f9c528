/- What more functions of the layer of values compute. No condition. -/
import Derived.Test.YtiblbnhknemloaaGreatG4
set_option linter.all false
set_option maxHeartbeats 8000000
set_option maxRecDepth 100000
namespace Go.Proofs.YtiblbnhknemloaaGreat
open Tryz
open Go.Sx
namespace Vl
def of (v:Vl):Vl:=⟨v.i.clean,⟨v.t.null,aP v.t.names⟩⟩
def reduce (v:Vl):Vl:=⟨v.of.i.red,v.of.t⟩
def hasInt (v:Vl) (n:Int):Bool:=v.i.s.has n&&v.i.c.has n
def leq (a b:Vl):Bool:=a.of.i.leq b.of.i&&((!a.t.null||b.t.null)&&jU (aP a.t.names) (aP b.t.names))
def rclean (v:Vl):Vl:=⟨v.i.clean,⟨v.t.null,jL v.t.names⟩⟩
def rreduce (v:Vl):Vl:=⟨v.rclean.i.red,v.rclean.t⟩
def exact (a b:Vl):Bool:=(Sp.eq a.i.s b.i.s&&Cg.eq a.i.c b.i.c)&&(a.t.null==b.t.null&&decide (a.t.names=b.t.names))
end Vl
theorem aDV {n i:Nat} {f:Nat->List DV} (h:i<n):aN (gN n f) i=gT (f i):=by
 simp [aN,gN,List.getD_eq_getElem?_getD,h]
theorem aDc {n:Nat} {f:Nat->List DV} (h:n*16<=140737488351232):(aP (gN n f)).length*16<=140737488351232:=by
 have:=dF (gN n f)
 rw [bU] at this;omega
theorem aDx {i:Ig} (h1:i.s.inR) (h2:i.c.inR):i.red.s.inR/\ i.red.c.inR:=by
 have e1:=aL3 (n:=i.s.lo) h2
 have e2:=aL4 (n:=i.s.hi) h2
 unfold Ig.red;split
 . unfold Ig.zero Sp.inR Cg.inR;decide
 . split
   . unfold Ig.zero Sp.inR Cg.inR;decide
   . split
     . refine ⟨?_,Cg.of_inR _ _ j3 j3 e1.1 e1.2⟩
       unfold Sp.of Sp.inR;split
       . dsimp only;omega
       . exact ⟨e1,e1⟩
     . refine ⟨?_,h2⟩
       unfold Sp.of Sp.inR;split
       . dsimp only;omega
       . exact ⟨e1,e2⟩
theorem clean_red {i:Ig}:i.clean.c.red:=by
 unfold Ig.clean;split
 . unfold Ig.zero Cg.red;decide
 . exact Cg.clean_red _
def tL:List Ar->Option Rs
 | [.agg [.d (.v (.bool s0)),.d (.v (.int .i64 l0)),.d (.v (.int .i64 h0)),.d (.v (.bool b0)),.d (.v (.int .i64 m0)),.d (.v (.int .i64 r0)),.d (.v (.bool z0)),.d (.lst 1 n0 f0)]]=>some ⟨((n0*16<=140737488351232/\ ∀i,i<n0->f0 i= [st (gT (f0 i))])/\ Sp.inR ⟨s0,l0,h0⟩/\ Cg.inR ⟨b0,m0,r0⟩),.va (Vl.ar (Vl.of (⟨⟨⟨s0,l0,h0⟩,⟨b0,m0,r0⟩⟩,⟨z0,gN n0 f0⟩⟩:Vl))),[]⟩
 |_=>none
theorem xJ:FC prog 53 tL:=by
 intro xs pre r us h hp;unfold tL at h;split at h
 . rename_i s0 l0 h0 b0 m0 r0 z0 n0 f0
   cases h;have a7:=hp
   refine aU.of_eq (as':= [.agg [.d (.v (.bool s0)),.d (.v (.int .i64 l0)),.d (.v (.int .i64 h0)),.d (.v (.bool b0)),.d (.v (.int .i64 m0)),.d (.v (.int .i64 r0)),.d (.v (.bool z0)),.d (.lst 1 n0 fun i=> [st (gT (f0 i))])]]) ?_ rfl rfl ?_
   . repeat' (first|exact j2t|refine ⟨?_,?_⟩|fail)
     all_goals first|grind
   refine aE aA (l:= [(100,⟨[],aKb⟩),(101,⟨[],aBc⟩)]) ⟨aYr,aFl,trivial⟩ func53 rfl j4 true ?_
   (repeat' (first|exact trivial|refine ⟨?_,?_⟩|intro _));all_goals first|apply qq|conv=>whnf
   all_goals first|exact a7.1.1|exact j3h|rfl
 . cases h
def zC:List Ar->Option Rs
 | [.agg [.d (.v (.bool s0)),.d (.v (.int .i64 l0)),.d (.v (.int .i64 h0)),.d (.v (.bool b0)),.d (.v (.int .i64 m0)),.d (.v (.int .i64 r0)),.d (.v (.bool z0)),.d (.lst 1 n0 f0)]]=>some ⟨((n0*16<=140737488351232/\ ∀i,i<n0->f0 i= [st (gT (f0 i))])/\ Sp.inR ⟨s0,l0,h0⟩/\ Cg.inR ⟨b0,m0,r0⟩),.va (.agg [.d (.v (.bool s0)),.d (.v (.int .i64 l0)),.d (.v (.int .i64 h0)),.d (.v (.bool b0)),.d (.v (.int .i64 m0)),.d (.v (.int .i64 r0)),.d (.v (.bool z0)),.d (.lst 1 n0 fun i=> [st (gT (f0 i))])]),[]⟩
 |_=>none
theorem aDd:FC prog 82 zC:=by
 intro xs pre r us h hp;unfold zC at h;split at h
 . rename_i s0 l0 h0 b0 m0 r0 z0 n0 f0
   cases h;have a7:=hp
   refine aU.of_eq (as':= [.agg [.d (.v (.bool s0)),.d (.v (.int .i64 l0)),.d (.v (.int .i64 h0)),.d (.v (.bool b0)),.d (.v (.int .i64 m0)),.d (.v (.int .i64 r0)),.d (.v (.bool z0)),.d (.lst 1 n0 fun i=> [st (gT (f0 i))])]]) ?_ rfl rfl ?_
   . repeat' (first|exact j2t|refine ⟨?_,?_⟩|fail)
     all_goals first|grind
   refine aE aA (l:= []) trivial func82 rfl j4 false ?_
   repeat' (first|exact trivial|refine ⟨?_,?_⟩|intro _)
   all_goals first|(conv=>whnf)
   all_goals fail
 . cases h
def aDe:List Ar->Option Rs
 | [.agg [.d (.v (.bool s0)),.d (.v (.int .i64 l0)),.d (.v (.int .i64 h0)),.d (.v (.bool b0)),.d (.v (.int .i64 m0)),.d (.v (.int .i64 r0)),.d (.v (.bool z0)),.d (.lst 1 n0 f0)]]=>some ⟨((n0*16<=140737488351232/\ ∀i,i<n0->f0 i= [st (gT (f0 i))])/\ Sp.inR ⟨s0,l0,h0⟩/\ Cg.inR ⟨b0,m0,r0⟩),.va (Vl.ar (Vl.reduce (⟨⟨⟨s0,l0,h0⟩,⟨b0,m0,r0⟩⟩,⟨z0,gN n0 f0⟩⟩:Vl))),[]⟩
 |_=>none
theorem aIQ:FC prog 115 aDe:=by
 intro xs pre r us h hp;unfold aDe at h;split at h
 . rename_i s0 l0 h0 b0 m0 r0 z0 n0 f0
   cases h;have a7:=hp
   refine aU.of_eq (as':= [.agg [.d (.v (.bool s0)),.d (.v (.int .i64 l0)),.d (.v (.int .i64 h0)),.d (.v (.bool b0)),.d (.v (.int .i64 m0)),.d (.v (.int .i64 r0)),.d (.v (.bool z0)),.d (.lst 1 n0 fun i=> [st (gT (f0 i))])]]) ?_ rfl rfl ?_
   . repeat' (first|exact j2t|refine ⟨?_,?_⟩|fail)
     all_goals first|grind
   refine aE aA (l:= [(53,⟨[],tL⟩),(158,⟨[],aL5⟩),(82,⟨[],zC⟩)]) ⟨xJ,bBZ,aDd,trivial⟩ func115 rfl j4 true ?_
   have hc:=Ig.clean_inR (i:=⟨⟨s0,l0,h0⟩,⟨b0,m0,r0⟩⟩) a7.2.1 a7.2.2
   have hr:=aDx hc.1 hc.2
   have hd:=clean_red (i:=⟨⟨s0,l0,h0⟩,⟨b0,m0,r0⟩⟩)
   have hm:=aDc (f:=f0) a7.1.1
   (repeat' (first|exact trivial|refine ⟨?_,?_⟩|intro _));all_goals first|apply qq|conv=>whnf
   all_goals first|exact a7.1.1|exact j3h|rfl|exact j5p|exact hr.1.1.1|exact hr.1.1.2|exact hr.1.2.1|exact hr.1.2.2|exact hr.2.1.1|exact hr.2.1.2|exact hr.2.2.1|exact hr.2.2.2|exact hd.1|exact (hd.2 j9).1|exact (hd.2 j9).2|exact hm
 . cases h
def xK:List Ar->Option Rs
 | [.c (.d (.v (.int .i64 i0)))]=>some ⟨(-9223372036854775808<=i0/\ i0<9223372036854775808),.va (Vl.ar (⟨⟨Sp.of i0 i0,Cg.of 0 i0⟩,⟨false,[]⟩⟩)),[]⟩
 |_=>none
theorem aBt:FC prog 43 xK:=by
 intro xs pre r us h hp;unfold xK at h;split at h
 . rename_i i0
   cases h;have a7:=hp
   refine aE aA (l:= [(83,⟨[],xH⟩),(84,⟨[],uY⟩)]) ⟨aBr,zT,trivial⟩ func43 rfl j4 false ?_
   (repeat' (first|exact trivial|refine ⟨?_,?_⟩|intro _));all_goals first|apply qq|conv=>whnf
   all_goals first|omega|rfl
 . cases h
def aJo:List Ar->Option Rs
 | [.agg [.d (.v (.bool s0)),.d (.v (.int .i64 l0)),.d (.v (.int .i64 h0)),.d (.v (.bool b0)),.d (.v (.int .i64 m0)),.d (.v (.int .i64 r0)),.d (.v (.bool z0)),.d (.lst 1 n0 f0)],.c (.d (.v (.int .i64 i1)))]=>some ⟨((n0*16<=140737488351232/\ ∀i,i<n0->f0 i= [st (gT (f0 i))])/\ Sp.inR ⟨s0,l0,h0⟩/\ Cg.inR ⟨b0,m0,r0⟩)/\ (-9223372036854775808<=i1/\ i1<9223372036854775808),.va (.c (.d (bo (Vl.hasInt (⟨⟨⟨s0,l0,h0⟩,⟨b0,m0,r0⟩⟩,⟨z0,gN n0 f0⟩⟩:Vl) i1)))),[]⟩
 |_=>none
theorem aWH:FC prog 118 aJo:=by
 intro xs pre r us h hp;unfold aJo at h;split at h
 . rename_i s0 l0 h0 b0 m0 r0 z0 n0 f0 i1
   cases h;obtain ⟨a7,a8⟩:=hp
   refine aU.of_eq (as':= [.agg [.d (.v (.bool s0)),.d (.v (.int .i64 l0)),.d (.v (.int .i64 h0)),.d (.v (.bool b0)),.d (.v (.int .i64 m0)),.d (.v (.int .i64 r0)),.d (.v (.bool z0)),.d (.lst 1 n0 fun i=> [st (gT (f0 i))])],.c (.d (.v (.int .i64 i1)))]) ?_ rfl rfl ?_
   . repeat' (first|exact j2t|refine ⟨?_,?_⟩|fail)
     all_goals first|grind
   refine aE aA (l:= [(160,⟨[],aAe⟩),(161,⟨[],aAd⟩)]) ⟨aDT,aDS,trivial⟩ func118 rfl j4 false ?_
   (repeat' (first|exact trivial|refine ⟨?_,?_⟩|intro _));all_goals first|apply qq|conv=>whnf
   all_goals first|exact j3h|exact a8.1|exact a8.2|(unfold Vl.hasInt;simp_all;done)
 . cases h
def aEk:List Ar->Option Rs
 | [.agg [.d (.v (.bool b0)),.d (.lst 1 n0 f0)]]=>some ⟨(n0*16<=140737488351232/\ ∀i,i<n0->f0 i= [st (gT (f0 i))]),.va (Vl.ar (⟨Ig.zero,⟨b0,aP (gN n0 f0)⟩⟩)),[]⟩
 |_=>none
theorem aK8:FC prog 65 aEk:=by
 intro xs pre r us h hp;unfold aEk at h;split at h
 . rename_i b0 n0 f0
   cases h;have a7:=hp
   refine aU.of_eq (as':= [.agg [.d (.v (.bool b0)),.d (.lst 1 n0 fun i=> [st (gT (f0 i))])]]) ?_ rfl rfl ?_
   . repeat' (first|exact j2t|refine ⟨?_,?_⟩|fail)
     all_goals first|exact a7.2
   refine aE aA (l:= [(101,⟨[],aBc⟩)]) ⟨aFl,trivial⟩ func65 rfl j4 true ?_
   (repeat' (first|exact trivial|refine ⟨?_,?_⟩|intro _));all_goals first|apply qq|conv=>whnf
   all_goals first|exact a7.1|rfl
 . cases h
theorem aNz {s:Sp}:s.clean.some= !s.none:=by
 unfold Sp.clean Sp.none;cases h1:s.some<;>by_cases h:s.lo>s.hi<;>simp [h,h1]
theorem aHX {c:Cg}:c.clean.some=c.some:=by
 unfold Cg.clean Cg.of Cg.none;cases h:c.some<;>simp
 split<;>rfl
theorem bB0 {s0 s1:Bool} {l0 l1 h0 h1:Int}:(s0==s1&&(l0==l1&&(h0==h1&&true)))=Sp.eq ⟨s0,l0,h0⟩ ⟨s1,l1,h1⟩:=by simp [Sp.eq]
theorem bB1 {s0 s1:Bool} {l0 l1 h0 h1:Int}:(s0==s1&&(l0==l1&&(h0==h1&&true)))=Cg.eq ⟨s0,l0,h0⟩ ⟨s1,l1,h1⟩:=by simp [Cg.eq]
def aFm:List Ar->Option Rs
 | [.agg [.d (.v (.bool s0)),.d (.v (.int .i64 l0)),.d (.v (.int .i64 h0)),.d (.v (.bool b0)),.d (.v (.int .i64 m0)),.d (.v (.int .i64 r0)),.d (.v (.bool z0)),.d (.lst 1 n0 f0)],.agg [.d (.v (.bool s1)),.d (.v (.int .i64 l1)),.d (.v (.int .i64 h1)),.d (.v (.bool b1)),.d (.v (.int .i64 m1)),.d (.v (.int .i64 r1)),.d (.v (.bool z1)),.d (.lst 1 n1 f1)]]=>some ⟨((n0*16<=140737488351232/\ ∀i,i<n0->f0 i= [st (gT (f0 i))])/\ Sp.inR ⟨s0,l0,h0⟩/\ Cg.inR ⟨b0,m0,r0⟩)/\ ((n1*16<=140737488351232/\ ∀i,i<n1->f1 i= [st (gT (f1 i))])/\ Sp.inR ⟨s1,l1,h1⟩/\ Cg.inR ⟨b1,m1,r1⟩),.va (.c (.d (bo (Vl.exact (⟨⟨⟨s0,l0,h0⟩,⟨b0,m0,r0⟩⟩,⟨z0,gN n0 f0⟩⟩:Vl) (⟨⟨⟨s1,l1,h1⟩,⟨b1,m1,r1⟩⟩,⟨z1,gN n1 f1⟩⟩:Vl))))),[]⟩
 |_=>none
theorem aO3:FC prog 20 aFm:=by
 intro xs pre r us h hp;unfold aFm at h;split at h
 . rename_i s0 l0 h0 b0 m0 r0 z0 n0 f0 s1 l1 h1 b1 m1 r1 z1 n1 f1
   cases h;obtain ⟨a7,a8⟩:=hp
   refine aU.of_eq (as':= [.agg [.d (.v (.bool s0)),.d (.v (.int .i64 l0)),.d (.v (.int .i64 h0)),.d (.v (.bool b0)),.d (.v (.int .i64 m0)),.d (.v (.int .i64 r0)),.d (.v (.bool z0)),.d (.lst 1 n0 fun i=> [st (gT (f0 i))])],.agg [.d (.v (.bool s1)),.d (.v (.int .i64 l1)),.d (.v (.int .i64 h1)),.d (.v (.bool b1)),.d (.v (.int .i64 m1)),.d (.v (.int .i64 r1)),.d (.v (.bool z1)),.d (.lst 1 n1 fun i=> [st (gT (f1 i))])]]) ?_ rfl rfl ?_
   . repeat' (first|exact j2t|refine ⟨?_,?_⟩|fail)
     all_goals first|grind
   refine aE aA (l:= [(46,⟨[],aJ8⟩)]) ⟨aYl,trivial⟩ func20 rfl j4 false ?_
   (repeat' (first|exact trivial|refine ⟨?_,?_⟩|intro _));all_goals first|apply qq|conv=>whnf
   all_goals first|exact a7.1.1|exact a8.1.1|rfl|skip
   all_goals (simp only [bB0 (s0:=s0)] at*;try simp only [bB1 (s0:=b0)] at*)
   all_goals (unfold Vl.exact;dsimp only)
   all_goals first|(simp only [*,eZ,Bool.true_and,Bool.false_and,Bool.and_false];done)|(rw [‹Sp.eq _ _=true›,‹Cg.eq _ _=true›,Bool.true_and,Bool.true_and];rfl)
 . cases h
def aNd (sz:Nat):DV->DV
 | .v (.slice none 0 0)=> .lst sz 0 (fun _=> [])
 |x=>x
def aAx (sz:Nat):Ic->Ic
 | .d x=> .d (aNd sz x)
 |x=>x
def aEw (sz:Nat):Ar->Ar
 | .c x=> .c (aAx sz x)
 | .agg xs=> .agg (xs.map (aAx sz))
 |x=>x
def FN (sz:Nat) (F:List Ar->Option Rs) (qs:List Ar):Option Rs:=
 match dE qs with
 | []=>match F (qs.map (aEw sz)) with
   |some ⟨p,r,[]⟩=>some ⟨p,r,[]⟩
   |_=>none
 |_=>none
theorem aWI (x:DV):tJ x x:=by cases x<;>simp [tJ]
theorem bAi (sz:Nat) (x:DV):tJ x (aNd sz x):=by
 unfold aNd;split
 . exact ⟨rfl,rfl⟩
 . exact aWI x
theorem aRb (sz:Nat) (x:Ic):aM3 x (aAx sz x):=by
 cases x with
 |d x=>exact bAi sz x
 |ow a b c=>exact ⟨rfl,rfl,fun _ _=>rfl⟩
theorem aPW (sz:Nat): ∀xs:List Ic,uR xs (xs.map (aAx sz))
 | []=>trivial
 |x::xs=>⟨aRb sz x,aPW sz xs⟩
theorem bAj (sz:Nat) (x:Ar):aAt x (aEw sz x):=by
 cases x with
 |c x=>exact aRb sz x
 |agg xs=>exact aPW sz xs
 |rp _=>rfl
 |fv _=>rfl
theorem aPX (sz:Nat): ∀xs:List Ar,uS xs (xs.map (aEw sz))
 | []=>trivial
 |x::xs=>⟨bAj sz x,aPX sz xs⟩
theorem aIq (sz:Nat): ∀xs:List Ic,jJ (xs.map (aAx sz))=jJ xs
 | []=>rfl
 | .d x::xs=>by simp only [List.map_cons,aAx,jJ];exact aIq sz xs
 | .ow a b c::xs=>by simp only [List.map_cons,aAx,jJ];rw [aIq sz xs]
theorem aVD (sz:Nat) (x:Ar):pR (aEw sz x)=pR x:=by
 cases x with
 |c x=>cases x<;>rfl
 |agg xs=>exact aIq sz xs
 |rp _=>rfl
 |fv _=>rfl
theorem aNO (sz:Nat): ∀xs:List Ar,dE (xs.map (aEw sz))=dE xs
 | []=>rfl
 |x::xs=>by simp only [List.map_cons,dE];rw [aVD,aNO sz xs]
theorem pS {P:Program} {f:Nat} {F:List Ar->Option Rs} (sz:Nat) (h:FC P f F):FC P f (FN sz F):=by
 intro qs pre r us he hp;unfold FN at he;split at he
 . rename_i h0
   split at he
   . rename_i p r' hF
     cases he;exact aU.of_eq (aPX sz qs) h0 (by rw [aNO];exact h0) (h _ _ _ _ hF hp)
   . cases he
 . cases he
def aEl:List Ar->Option Rs
 | [.agg [.d (.v (.bool s0)),.d (.v (.int .i64 l0)),.d (.v (.int .i64 h0))],.agg [.d (.v (.bool b1)),.d (.v (.int .i64 m1)),.d (.v (.int .i64 r1))]]=>some ⟨(Sp.inR ⟨s0,l0,h0⟩)/\ (Cg.inR ⟨b1,m1,r1⟩),.va (Vl.ar (Vl.reduce ⟨⟨(⟨s0,l0,h0⟩:Sp),(⟨b1,m1,r1⟩:Cg)⟩,⟨false,[]⟩⟩)),[]⟩
 |_=>none
theorem aK9:FC prog 150 aEl:=by
 intro xs pre r us h hp;unfold aEl at h;split at h
 . rename_i s0 l0 h0 b1 m1 r1
   cases h;obtain ⟨a7,a8⟩:=hp
   refine aE aA (l:= [(115,⟨[],FN 1 aDe⟩)]) ⟨pS 1 aIQ,trivial⟩ func150 rfl j4 true ?_
   (repeat' (first|exact trivial|refine ⟨?_,?_⟩|intro _));all_goals first|apply qq|conv=>whnf
   all_goals first|exact a7.1.1|exact a7.1.2|exact j4o|exact a8.1.1|exact a8.1.2|exact j5o|exact Nat.zero_le _|rfl|(exact absurd ‹_<0› (Nat.not_lt_zero _))
 . cases h
theorem bDm {a b:Vl} (h:a.of.i.leq b.of.i=true):Value.bool ((!a.t.null||b.t.null)&&jU (aP a.t.names) (aP b.t.names))=Value.bool (a.leq b):=by unfold Vl.leq;rw [h];rfl
theorem bDn {a b:Vl} (h:a.of.i.leq b.of.i=false):Value.bool false=Value.bool (a.leq b):=by unfold Vl.leq;rw [h];rfl
def aL6:List Ar->Option Rs
 | [.agg [.d (.v (.bool s0)),.d (.v (.int .i64 l0)),.d (.v (.int .i64 h0)),.d (.v (.bool b0)),.d (.v (.int .i64 m0)),.d (.v (.int .i64 r0)),.d (.v (.bool z0)),.d (.lst 1 n0 f0)],.agg [.d (.v (.bool s1)),.d (.v (.int .i64 l1)),.d (.v (.int .i64 h1)),.d (.v (.bool b1)),.d (.v (.int .i64 m1)),.d (.v (.int .i64 r1)),.d (.v (.bool z1)),.d (.lst 1 n1 f1)]]=>some ⟨((n0*16<=140737488351232/\ ∀i,i<n0->f0 i= [st (gT (f0 i))])/\ Sp.inR ⟨s0,l0,h0⟩/\ Cg.inR ⟨b0,m0,r0⟩)/\ ((n1*16<=140737488351232/\ ∀i,i<n1->f1 i= [st (gT (f1 i))])/\ Sp.inR ⟨s1,l1,h1⟩/\ Cg.inR ⟨b1,m1,r1⟩),.va (.c (.d (bo (Vl.leq (⟨⟨⟨s0,l0,h0⟩,⟨b0,m0,r0⟩⟩,⟨z0,gN n0 f0⟩⟩:Vl) (⟨⟨⟨s1,l1,h1⟩,⟨b1,m1,r1⟩⟩,⟨z1,gN n1 f1⟩⟩:Vl))))),[]⟩
 |_=>none
theorem bB2:FC prog 117 aL6:=by
 intro xs pre r us h hp;unfold aL6 at h;split at h
 . rename_i s0 l0 h0 b0 m0 r0 z0 n0 f0 s1 l1 h1 b1 m1 r1 z1 n1 f1
   cases h;obtain ⟨a7,a8⟩:=hp
   refine aU.of_eq (as':= [.agg [.d (.v (.bool s0)),.d (.v (.int .i64 l0)),.d (.v (.int .i64 h0)),.d (.v (.bool b0)),.d (.v (.int .i64 m0)),.d (.v (.int .i64 r0)),.d (.v (.bool z0)),.d (.lst 1 n0 fun i=> [st (gT (f0 i))])],.agg [.d (.v (.bool s1)),.d (.v (.int .i64 l1)),.d (.v (.int .i64 h1)),.d (.v (.bool b1)),.d (.v (.int .i64 m1)),.d (.v (.int .i64 r1)),.d (.v (.bool z1)),.d (.lst 1 n1 fun i=> [st (gT (f1 i))])]]) ?_ rfl rfl ?_
   . repeat' (first|exact j2t|refine ⟨?_,?_⟩|fail)
     all_goals first|grind
   refine aE aA (l:= [(53,⟨[],tL⟩),(159,⟨[],aK6⟩),(139,⟨[],aG0⟩)]) ⟨xJ,bAg,aSe,trivial⟩ func117 rfl j4 true ?_
   have hc:=Ig.clean_inR (i:=⟨⟨s0,l0,h0⟩,⟨b0,m0,r0⟩⟩) a7.2.1 a7.2.2
   have hr:=aDx hc.1 hc.2
   have hd:=clean_red (i:=⟨⟨s0,l0,h0⟩,⟨b0,m0,r0⟩⟩)
   have hm:=aDc (f:=f0) a7.1.1
   have fh:=Ig.clean_inR (i:=⟨⟨s1,l1,h1⟩,⟨b1,m1,r1⟩⟩) a8.2.1 a8.2.2
   have du:=aDx fh.1 fh.2
   have AK:=clean_red (i:=⟨⟨s1,l1,h1⟩,⟨b1,m1,r1⟩⟩)
   have j6:=aDc (f:=f1) a8.1.1
   (repeat' (first|exact trivial|refine ⟨?_,?_⟩|intro _));all_goals first|apply qq|conv=>whnf
   all_goals first|exact a7.1.1|exact a8.1.1|exact j3h|exact a8.2.1.1.1|exact a8.2.1.1.2|exact a8.2.1.2.1|exact a8.2.1.2.2|exact a8.2.2.1.1|exact a8.2.2.1.2|exact a8.2.2.2.1|exact a8.2.2.2.2|exact j5p|exact fh.1.1.1|exact fh.1.1.2|exact fh.1.2.1|exact fh.1.2.2|exact fh.2.1.1|exact fh.2.1.2|exact fh.2.2.1|exact fh.2.2.2|exact hm|exact j6|rfl|exact bDn ‹_›|(rw [bI,bI];exact bDm ‹_›)
 . cases h
theorem aOe {i:Ig} (h:i.clean.s.some=true):i.clean.c.some=true/\ i.clean.s.lo<=i.clean.s.hi:=by
 unfold Ig.clean at*
 split at h
 . simp [Ig.zero] at h
 . rename_i hn
   rw [if_neg hn];rw [aNz] at h;rw [aHX];unfold Ig.none at hn;have hs:i.s.none=false:=w7
   have hcs:i.c.some=true:=by simpa [hs] using hn
   have e:i.s.clean=i.s:=by unfold Sp.clean;rw [hs];rfl
   refine ⟨hcs, ?_⟩
   dsimp only;rw [e];unfold Sp.none at hs;simp at hs
   omega
theorem aVE {i:Ig} (h:i.clean.s.some=false):i.clean=Ig.zero:=by
 unfold Ig.clean at*
 split at h
 . rename_i hn;rw [if_pos hn]
 . rename_i hn
   rw [aNz] at h;unfold Ig.none at hn
   simp_all
theorem aDW {S:Bool} {L H R:Int} (hS:S=true):Sp.has ⟨S,L,H⟩ R=(decide (R≥L)&&decide (R<=H)):=by unfold Sp.has;simp [hS]
theorem aTk {S B:Bool} {L H M R:Int} (hS:S=true) (hl:S=true->B=true/\ L<=H):Ig.none ⟨⟨S,L,H⟩,⟨B,M,R⟩⟩=false:=by
 have:=hl hS
 unfold Ig.none Sp.none;simp_all
theorem bES {S B:Bool} {L H M R:Int} (hS:S=true) (hM:M=0) (h:Sp.has ⟨S,L,H⟩ R=false):Ig.red ⟨⟨S,L,H⟩,⟨B,M,R⟩⟩=Ig.zero:=by
 rw [aDW hS] at h;unfold Ig.red;split
 . rfl
 . rw [if_pos];have h1:=xI (n:=L) (r:=R) (b:=B) hM
   have h2:=xI (n:=H) (r:=R) (b:=B) hM
   rw [h1.2.1,h2.2.2.2,h1.1,h2.2.2.1];simp only [Bool.and_eq_false_iff,decide_eq_false_iff_not] at h;simp;omega
theorem aTR {S B:Bool} {L H M R:Int} (hS:S=true) (hl:S=true->B=true/\ L<=H) (hM:M=0) (h:Sp.has ⟨S,L,H⟩ R=true):Ig.red ⟨⟨S,L,H⟩,⟨B,M,R⟩⟩=⟨Sp.of R R,⟨true,0,R⟩⟩:=by
 rw [aDW hS] at h;unfold Ig.red;have h1:=xI (n:=L) (r:=R) (b:=B) hM
 have h2:=xI (n:=H) (r:=R) (b:=B) hM
 rw [aTk hS hl,h1.2.1,h2.2.2.2,h1.1,h2.2.2.1];simp only [Bool.and_eq_true,decide_eq_true_eq] at h;simp [h.1,h.2,Cg.of,md]
theorem aNe {S B:Bool} {L H M R:Int} (hM: ¬M=0) (h:((!bJ (gR L ⟨B,M,R⟩)|| !bJ (iM H ⟨B,M,R⟩))||decide (cI (gR L ⟨B,M,R⟩)>cI (iM H ⟨B,M,R⟩)))=true):Ig.red ⟨⟨S,L,H⟩,⟨B,M,R⟩⟩=Ig.zero:=by
 unfold Ig.red;have h1:=aBU (n:=L) (r:=R) (b:=B) hM
 have h2:=aBU (n:=H) (r:=R) (b:=B) hM
 rw [h1.2.1,h2.2.2.2,h1.1,h2.2.2.1];rw [if_pos (c:=_=true) h];split<;>rfl
theorem aTS {S B:Bool} {L H M R:Int} (hS:S=true) (hl:S=true->B=true/\ L<=H) (hM: ¬M=0) (h:((!bJ (gR L ⟨B,M,R⟩)|| !bJ (iM H ⟨B,M,R⟩))||decide (cI (gR L ⟨B,M,R⟩)>cI (iM H ⟨B,M,R⟩)))=false):
 Ig.red ⟨⟨S,L,H⟩,⟨B,M,R⟩⟩=if cI (gR L ⟨B,M,R⟩)=cI (iM H ⟨B,M,R⟩) then ⟨Sp.of (cI (gR L ⟨B,M,R⟩)) (cI (gR L ⟨B,M,R⟩)),⟨true,0,cI (gR L ⟨B,M,R⟩)⟩⟩ else ⟨Sp.of (cI (gR L ⟨B,M,R⟩)) (cI (iM H ⟨B,M,R⟩)),⟨B,M,R⟩⟩:=by
 unfold Ig.red;have h1:=aBU (n:=L) (r:=R) (b:=B) hM
 have h2:=aBU (n:=H) (r:=R) (b:=B) hM
 rw [aTk hS hl,h1.2.1,h2.2.2.2,h1.1,h2.2.2.1,h];rw [if_neg j5,if_neg j5];split
 . simp [Cg.of,md]
 . rfl
theorem bDo {S B:Bool} {L H M R:Int} (hM: ¬M=0) (h:(!bJ (gR L ⟨B,M,R⟩))=true):Ig.red ⟨⟨S,L,H⟩,⟨B,M,R⟩⟩=Ig.zero:=aNe hM j1z
theorem bDp {S B:Bool} {L H M R:Int} (hM: ¬M=0) (h:(!bJ (iM H ⟨B,M,R⟩))=true):Ig.red ⟨⟨S,L,H⟩,⟨B,M,R⟩⟩=Ig.zero:=aNe hM (by rw [h];simp)
theorem bDq {S B:Bool} {L H M R:Int} (hM: ¬M=0) (h:decide (cI (gR L ⟨B,M,R⟩)>cI (iM H ⟨B,M,R⟩))=true):Ig.red ⟨⟨S,L,H⟩,⟨B,M,R⟩⟩=Ig.zero:=aNe hM (by rw [h];simp)
open Go.Lib Go.Sort
abbrev kS (s:ByteArray):List UInt8:=s.data.toList
theorem aGq {a b:ByteArray} (h:kS a=kS b):a=b:=by
 have:a.data=b.data:=Array.ext' h
 cases a;cases b;simp_all
theorem aAf (s:ByteArray):s.toList=kS s:=ByteArray.toList_eq s
theorem aSi (a b:ByteArray):slt a b=decide (kS a<kS b):=by unfold slt;rw [bytesLess_eq,aAf,aAf]
theorem aLa (a b:ByteArray):sle a b=(decide (kS a<kS b)||decide (a=b)):=by unfold sle;rw [bytesLess_eq,qW,aAf,aAf]
def lC (l:List ByteArray):Prop:=l.Pairwise fun a b=>kS a<kS b
def rT (x:ByteArray):List ByteArray->List ByteArray
 | []=> [x]
 |y::ys=>if kS x<kS y then x::y::ys else if x=y then y::ys else y::rT x ys
theorem aPY (x:ByteArray) (l:List ByteArray): ∀out,l.foldl (nI x) (out,true)=(out++l,true):=by
 induction l with
 |nil=>intro out;simp
 |cons y ys ih=>intro out;rw [List.foldl_cons,aYg,ih];simp
theorem aWJ (x:ByteArray) (l:List ByteArray): ∀out,(if (l.foldl (nI x) (out,false)).2 then (l.foldl (nI x) (out,false)).1 else (l.foldl (nI x) (out,false)).1++ [x])=out++rT x l:=by
 induction l with
 |nil=>intro out;simp [rT]
 |cons y ys ih=>
  intro out;rw [List.foldl_cons];unfold rT;by_cases h1:kS x<kS y
  . rw [if_pos h1,aYh (by rw [aLa];simp [h1]) (by rw [aSi];simp [h1]),aPY];simp
  . rw [if_neg h1];by_cases h2:x=y
    . rw [if_pos h2,aYi (by rw [aLa];simp [h2]) (by rw [aSi];simp [h1]),aPY];simp
    . rw [if_neg h2,aYj (by rw [aLa];simp [h1,h2]),ih];simp
theorem aYs (l:List ByteArray) (x:ByteArray):aHz l x=rT x l:=by
 have:=aWJ x l []
 rw [List.nil_append] at this;rw [<-this];rfl
theorem aRc {x z:ByteArray} {l:List ByteArray}:z∈rT x l↔z=x \/z∈l:=by
 induction l with
 |nil=>simp [rT]
 |cons y ys ih=>
  unfold rT;split
  . simp
  . split
    . rename_i h;subst h;simp
    . simp only [List.mem_cons,ih];constructor
      . rintro (h|h|h)<;>simp [h]
      . rintro (h|h|h)<;>simp [h]
theorem aDX {a b:ByteArray} (h1: ¬kS a<kS b) (h2: ¬a=b):kS b<kS a:=by
 rcases Decidable.em (kS b<kS a) with h|h
 . exact h
 . exact absurd (aGq (List.le_antisymm (List.not_lt.1 h) (List.not_lt.1 h1))) h2
theorem bAk {x:ByteArray} {l:List ByteArray} (h:lC l):lC (rT x l):=by
 induction l with
 |nil=>simp [rT,lC]
 |cons y ys ih=>
  unfold lC at h ih⊢
  rw [List.pairwise_cons] at h;unfold rT;split
  . rename_i hx
    rw [List.pairwise_cons,List.pairwise_cons];refine ⟨fun a ha=> ?_,h⟩
    rcases List.mem_cons.1 ha with rfl|ha
    . exact hx
    . exact List.lt_trans hx (h.1 a ha)
  . split
    . rw [List.pairwise_cons];exact h
    . rename_i h1 h2
      rw [List.pairwise_cons];refine ⟨fun a ha=> ?_,ih h.2⟩
      rcases aRc.1 ha with rfl|ha
      . exact aDX h1 h2
      . exact h.1 a ha
theorem aNP (l:List ByteArray): ∀s,lC s->lC (l.foldl aHz s)/\ ∀z,z∈l.foldl aHz s↔z∈s \/z∈l:=by
 induction l with
 |nil=>intro s h;exact ⟨h,fun z=>by simp⟩
 |cons x l ih=>
  intro s h;rw [List.foldl_cons,aYs];obtain ⟨h1,h2⟩:=ih _ (bAk (x:=x) h)
  refine ⟨h1,fun z=> ?_⟩
  rw [h2,aRc];simp only [List.mem_cons];constructor
  . rintro ((h|h)|h)<;>simp [h]
  . rintro (h|h|h)<;>simp [h]
theorem aRd:lC []:=by simp [lC]
theorem aCR (l:List ByteArray):lC (jL l):=(aNP l [] aRd).1
theorem aIr {l:List ByteArray} {z:ByteArray}:z∈jL l↔z∈l:=by
 have:=(aNP l [] aRd).2 z
 simpa [jL] using this
theorem aKc: ∀{l m:List ByteArray},lC l->lC m->(∀z,z∈l↔z∈m)->l=m
 | [],[],_,_,_=>rfl
 | [],y::m,_,_,h=>absurd ((h y).2 j8) j8
 |x::l,[],_,_,h=>absurd ((h x).1 j8) j8
 |x::l,y::m,h1,h2,h=>by
  unfold lC at h1 h2;rw [List.pairwise_cons] at h1 h2;have oz:x=y:=by
   rcases List.mem_cons.1 ((h x).1 j8) with e|e
   . exact e
   . rcases List.mem_cons.1 ((h y).2 j8) with e'|e'
     . exact e'.symm
     . exact absurd (List.lt_trans (h1.1 y e') (h2.1 x e)) (List.lt_irrefl _)
  subst oz
  congr 1
  refine aKc h1.2 h2.2 fun z=> ?_
  have hz:=h z
  simp only [List.mem_cons] at hz;constructor
  . intro hl;rcases hz.1 (.inr hl) with e|e
    . subst e;exact absurd (h1.1 z hl) (List.lt_irrefl _)
    . exact e
  . intro hm;rcases hz.2 (.inr hm) with e|e
    . subst e;exact absurd (h2.1 z hm) (List.lt_irrefl _)
    . exact e
theorem aU6 {xs:List (List UInt8)} (hs:xs.Pairwise fun a b=> ¬b<a): ∀n,n<=xs.length->
 ((compactUpTo xs.toArray n).Pairwise fun a b=>a<b)/\ (∀z,z∈compactUpTo xs.toArray n↔z∈xs.take n):=by
 intro n
 induction n with
 |zero=>intro _;simp [compactUpTo]
 |succ n ih=>
  intro hn;obtain ⟨h1,h2⟩:=ih j3
  have hlt:n<xs.length:=j3
  have cu:(xs.toArray)[n]! =xs[n]:=by simp [hlt]
  rw [compactUpTo_succ,cu];have A5: ∀z,z∈xs.take (n+1)↔z∈xs.take n \/z=xs[n]:=by
   intro z;rw [List.take_succ_eq_append_getElem hlt,List.mem_append,List.mem_singleton]
  have hle: ∀z,z∈xs.take n-> ¬xs[n]<z:=by
   intro z hz;obtain ⟨i,hi,rfl⟩:=List.mem_take_iff_getElem.1 hz
   exact List.pairwise_iff_getElem.1 hs i n j3 hlt j3
  by_cases hk:keeps xs.toArray n=true
  . rw [if_pos hk];refine ⟨?_,fun z=> ?_⟩
    . rw [List.pairwise_append];refine ⟨h1,by simp,fun a ha b hb=> ?_⟩
      simp only [List.mem_singleton] at hb;subst hb;have ha:=(h2 a).1 ha
      have h3:=hle a ha
      rcases Decidable.em (a<xs[n]) with h|h
      . exact h
      . exfalso
        have he:a=xs[n]:=List.le_antisymm (List.not_lt.1 h3) (List.not_lt.1 h)
        unfold keeps at hk;rcases Nat.eq_zero_or_pos n with h0|h0
        . subst h0;simp at ha
        . have hp:(xs.toArray)[n-1]! =xs[n-1]'j3:=by
           rw [getElem!_pos _ _ y7];simp
          rw [cu,hp] at hk;have ag: ¬xs[n]=xs[n-1]'j3:=by
           intro e;simp [e] at hk
           omega
          obtain ⟨i,hi,rfl⟩:=List.mem_take_iff_getElem.1 ha
          rcases Nat.lt_or_ge i (n-1) with h4|h4
          . have q1:=List.pairwise_iff_getElem.1 hs i (n-1) j3 j3 j3
            have q2:=List.pairwise_iff_getElem.1 hs (n-1) n j3 hlt j3
            rw [he] at q1;exact ag (List.le_antisymm (List.not_lt.1 q1) (List.not_lt.1 q2))
          . have:i=n-1:=by omega
            subst this;exact ag he.symm
    . rw [List.mem_append,h2,A5];simp
  . rw [if_neg hk,List.append_nil];refine ⟨h1,fun z=> ?_⟩
    rw [h2,A5];constructor
    . exact .inl
    . rintro (h|h)
      . exact h
      . subst h;unfold keeps at hk;rcases Nat.eq_zero_or_pos n with h0|h0
        . subst h0;simp at hk
        . have hp:(xs.toArray)[n-1]! =xs[n-1]'j3:=by
           rw [getElem!_pos _ _ y7];simp
          rw [cu,hp] at hk;have he:xs[n]=xs[n-1]'j3:=by
           simp at hk
           exact hk.2
          rw [he];exact List.mem_take_iff_getElem.2 ⟨n-1,by omega,rfl⟩
theorem aTl (s:ByteArray):bS (kS s)=s:=by unfold bS kS;cases s;rfl
theorem aL7 (l:List UInt8):kS (bS l)=l:=by unfold bS kS;simp
theorem bB3 (l:List (List UInt8)):(l.map bS).map (fun s=>s.data.toList)=l:=by
 rw [List.map_map];have:(fun s:ByteArray=>s.data.toList)∘bS=id:=by funext x;exact aL7 x
 rw [this,List.map_id]
theorem rG (l:List ByteArray):aP l=jL l:=by
 have hs:(nJ l).Pairwise fun a b=> ¬b<a:=by
  have:=List.pairwise_mergeSort (le:=fun x y:List UInt8=> !(ltOf bR) y x) (fun a b c h1 h2=>by
   rw [wQ] at*
   simp only [Bool.not_eq_true',decide_eq_false_iff_not,List.not_lt] at*
   exact List.le_trans h1 h2) (fun a b=>by
   rw [wQ,wQ];simp only [Bool.or_eq_true,Bool.not_eq_true',decide_eq_false_iff_not,List.not_lt];exact List.le_total a b) (l.map fun s=>s.data.toList)
  refine this.imp fun {a b} h=> ?_
  rw [wQ] at h
  simpa using h
 have hc:=aU6 hs (nJ l).length (Nat.le_refl _)
 rw [List.take_length] at hc;have he:oR ((nJ l).map bS)=compactUpTo (nJ l).toArray (nJ l).length:=by
  unfold oR;rw [bB3];rfl
 refine aKc ?_ (aCR l) fun z=> ?_
 . unfold aP lC;rw [List.pairwise_map,he];exact hc.1.imp fun h=>by rw [aL7,aL7];exact h
 . rw [aIr];unfold aP;rw [List.mem_map,he];constructor
   . rintro ⟨x,hx,rfl⟩
     rw [hc.2] at hx;have hx:x∈l.map fun s=>s.data.toList:=List.mem_mergeSort.1 hx
     obtain ⟨s,hs,rfl⟩:=List.mem_map.1 hx
     rw [show bS s.data.toList=s from aTl s];exact hs
   . intro hz;refine ⟨kS z, ?_,aTl z⟩
     rw [hc.2];exact List.mem_mergeSort.2 (List.mem_map.2 ⟨z,hz,rfl⟩)
theorem aVF {l:List ByteArray} (h:lC l):jL l=l:=aKc (aCR l) h fun _=>aIr
theorem yM (l:List ByteArray):jL (jL l)=jL l:=aVF (aCR l)
theorem aYt {l m:List ByteArray}:jU l m=true↔ ∀z,z∈l->z∈m:=by
 unfold jU;rw [List.all_eq_true];exact ⟨fun h z hz=>aAY.1 (h z hz),fun h z hz=>aAY.2 (h z hz)⟩
end Go.Proofs.YtiblbnhknemloaaGreat
namespace Go.Proofs.YtiblbnhknemloaaGreat
open Tryz
open Go.Sx
theorem qS (v:Vl):v.of=v.rclean:=by unfold Vl.of Vl.rclean;rw [rG]
theorem aWK (v:Vl):v.reduce=v.rreduce:=by unfold Vl.reduce Vl.rreduce;rw [qS]
theorem aVG (a:Sp):Sp.eq a a=true:=by simp [Sp.eq]
theorem aVH (a:Cg):Cg.eq a a=true:=by simp [Cg.eq]
theorem aCS (v:Vl):v.exact v=true:=by unfold Vl.exact;simp [aVG,aVH]
def Ig.tidy (i:Ig):Prop:=i=Ig.zero \/((i.s.some=true/\ i.c.some=true)/\ i.s.lo<=i.s.hi/\ i.c.red)
theorem yN (i:Ig):i.clean.tidy:=by
 cases h:i.clean.s.some with
 |false=>exact .inl (aVE h)
 |true=>exact .inr ⟨⟨h,(aOe h).1⟩,(aOe h).2,clean_red⟩
theorem aBu {c:Cg} (h:c.some=true) (hr:c.red):c.clean=c:=by
 obtain ⟨b,m,r⟩:=c
 unfold Cg.clean Cg.of md;unfold Cg.red at hr;dsimp only at*
 subst h;rw [if_pos rfl,if_neg j3];split
 . rfl
 . have:=hr.2 j3
   rw [Int.emod_eq_of_lt this.1 this.2]
theorem tidy_fix {i:Ig} (h:i.tidy):i.clean=i:=by
 rcases h with rfl|⟨⟨h1,h2⟩,h3,h4⟩
 . rfl
 . obtain ⟨⟨s,l,h⟩,c⟩:=i
   dsimp only at*
   subst h1;have hn:Sp.none ⟨true,l,h⟩=false:=by unfold Sp.none;simp;omega
   unfold Ig.clean Ig.none;dsimp only;rw [hn,h2];rw [aBu h2 h4];unfold Sp.clean;rw [hn];rfl
theorem aBV {a b:Int} (h:a<=b):Sp.of a b=⟨true,a,b⟩:=by unfold Sp.of;rw [if_neg j3]
theorem aYu {n m r:Int} (h:0<m):0<=(r-n)%m/\ (r-n)%m<m/\ (n+(r-n)%m-r)%m=0:=by
 refine ⟨Int.emod_nonneg _ j3,Int.emod_lt_of_pos _ h, ?_⟩
 have h1:n+(r-n)%m-r=(r-n)%m-(r-n):=j3
 rw [h1];have h2:=Int.emod_add_mul_ediv (r-n) m
 have h3:(r-n)%m-(r-n)=m*(-((r-n)/m)):=by rw [Int.mul_neg];omega
 rw [h3,Int.mul_emod_right]
theorem aLb {n m r:Int} (hm:0<m) (h0:0<=r) (h1:r<m):md n m=r↔(n-r)%m=0:=by
 unfold md;rw [if_neg j3];have h2:=Int.emod_nonneg n (show m≠0 by omega)
 have h3:=Int.emod_lt_of_pos n hm
 have h4:=Int.emod_add_mul_ediv n m
 have h5:=Int.emod_add_mul_ediv (n-r) m
 have h6:=Int.emod_nonneg (n-r) (show m≠0 by omega)
 have h7:=Int.emod_lt_of_pos (n-r) hm
 constructor
 . intro h;have:n-r=m*(n/m):=by omega
   rw [this,Int.mul_emod_right]
 . intro h;have:n=r+m*((n-r)/m):=by omega
   rw [this,Int.add_mul_emod_self_left,Int.emod_eq_of_lt h0 h1]
def Cg.on (c:Cg) (n:Int):Prop:=md n c.m=c.r
instance (c:Cg) (n:Int):Decidable (c.on n):=inferInstanceAs (Decidable (md n c.m=c.r))
theorem aBv {c:Cg} (h:c.some=true) (hr:c.red) (n:Int):c.has n=decide (c.on n):=by
 unfold Cg.has Cg.on;rw [aBu h hr,h];rfl
theorem wIn {n:Int} (h: -9223372036854775808<=n/\ n<9223372036854775808):cI n=n/\ bJ n=true:=by unfold cI bJ;simp [h]
theorem aTT {n:Int} (h: ¬(-9223372036854775808<=n/\ n<9223372036854775808)):bJ n=false:=by unfold bJ;simp [h]
theorem aTm {a m:Int} (hm:0<m) (ha:0<=a):a%m<=a:=by
 have h4:=Int.emod_add_mul_ediv a m
 have h5:0<=m*(a/m):=Int.mul_nonneg j3 (Int.ediv_nonneg ha j3)
 omega
theorem aNQ {a b m:Int} (h:(a-b)%m=0):a%m=b%m:=by
 have h4:=Int.emod_add_mul_ediv (a-b) m
 rw [h] at h4;have:a=b+m*((a-b)/m):=j3
 rw [this,Int.add_mul_emod_self_left]
theorem aWL {L H M R:Int} (hl:L<=H) (hr:Cg.red ⟨true,M,R⟩) (hs:Sp.inR ⟨true,L,H⟩) (hc:Cg.inR ⟨true,M,R⟩):
 (Ig.red ⟨⟨true,L,H⟩,⟨true,M,R⟩⟩=Ig.zero/\ ∀n, -9223372036854775808<=n->n<9223372036854775808->L<=n->n<=H-> ¬Cg.on ⟨true,M,R⟩ n) \/
 ∃x y,(L<=x/\ x<=y/\ y<=H)/\ (Cg.on ⟨true,M,R⟩ x/\ Cg.on ⟨true,M,R⟩ y)/\ (∀n,L<=n->n<=H->Cg.on ⟨true,M,R⟩ n->x<=n/\ n<=y)/\ (x≠y->0<M)/\
  Ig.red ⟨⟨true,L,H⟩,⟨true,M,R⟩⟩=if x=y then ⟨⟨true,x,x⟩,⟨true,0,x⟩⟩ else ⟨⟨true,x,y⟩,⟨true,M,R⟩⟩:=by
 unfold Sp.inR at hs;dsimp only at hs
 by_cases hM:M=0
 . subst hM;have o5: ∀n,Cg.on ⟨true,0,R⟩ n↔n=R:=by intro n;unfold Cg.on md;simp
   by_cases h:L<=R/\ R<=H
   . refine .inr ⟨R,R,⟨h.1,Int.le_refl _,h.2⟩,⟨(o5 R).2 rfl,(o5 R).2 rfl⟩,fun n _ _ h=> ?_,fun h=>absurd rfl h, ?_⟩
     . rw [o5] at h;omega
     . rw [aTR rfl (fun _=>⟨rfl,hl⟩) rfl (by rw [aDW rfl];simp;omega),if_pos rfl,aBV (Int.le_refl _)]
   . refine .inl ⟨bES rfl rfl (by rw [aDW rfl];simp;omega),fun n _ _ h1 h2 h3=> ?_⟩
     rw [o5] at h3;omega
 . have hm:0<M:=by unfold Cg.red at hr;dsimp only at hr;omega
   have hR:=hr.2 hm
   dsimp only at hR
   have o5: ∀n,Cg.on ⟨true,M,R⟩ n↔(n-R)%M=0:=fun n=>aLb hm hR.1 hR.2
   have u:=aYu (n:=L) (r:=R) hm
   have hx:(gR L ⟨true,M,R⟩-R)%M=0:=u.2.2
   have FP:L<=gR L ⟨true,M,R⟩:=by unfold gR;dsimp only;omega
   have d1:=Int.emod_nonneg (H-R) (show M≠0 by omega)
   have hy:(iM H ⟨true,M,R⟩-R)%M=0:=by
    unfold iM;dsimp only
    have h2:=Int.emod_add_mul_ediv (H-R) M
    have h3:H-(H-R)%M-R=M*((H-R)/M):=j3
    rw [h3,Int.mul_emod_right]
   have FQ:iM H ⟨true,M,R⟩<=H:=by unfold iM;dsimp only;omega
   have nf: ∀n,L<=n->Cg.on ⟨true,M,R⟩ n->gR L ⟨true,M,R⟩<=n:=by
    intro n h1 h2;rw [o5] at h2;have e:=aNQ (a:=R-L) (b:=n-L) (m:=M) (by
     have:R-L-(n-L)= -(n-R):=j3
     rw [this];exact Int.emod_eq_zero_of_dvd (Int.dvd_neg.2 (Int.dvd_of_emod_eq_zero h2)))
    have:=aTm (a:=n-L) hm j3
    unfold gR;dsimp only;omega
   have we: ∀n,n<=H->Cg.on ⟨true,M,R⟩ n->n<=iM H ⟨true,M,R⟩:=by
    intro n h1 h2;rw [o5] at h2;have e:=aNQ (a:=H-R) (b:=H-n) (m:=M) (by
     have:H-R-(H-n)=n-R:=j3
     rw [this,h2])
    have:=aTm (a:=H-n) hm j3
    unfold iM;dsimp only;omega
   generalize hX:gR L ⟨true,M,R⟩=x at*
   generalize hY:iM H ⟨true,M,R⟩=y at*
   by_cases su:x<9223372036854775808
   . by_cases AE: -9223372036854775808<=y
     . have wx:=wIn (n:=x) ⟨by omega,su⟩
       have wy:=wIn (n:=y) ⟨AE,by omega⟩
       by_cases oz:x<=y
       . refine .inr ⟨x,y,⟨FP,oz,FQ⟩,⟨(o5 x).2 hx,(o5 y).2 hy⟩,fun n h1 h2 h3=>⟨nf n h1 h3,we n h2 h3⟩,fun _=>hm, ?_⟩
         rw [aTS rfl (fun _=>⟨rfl,hl⟩) hM (by rw [hX,hY,wx.1,wx.2,wy.1,wy.2];simp;omega),hX,hY,wx.1,wy.1];split
         . rw [aBV (Int.le_refl _)]
         . rw [aBV oz]
       . refine .inl ⟨bDq hM (by rw [hX,hY,wx.1,wy.1];simp;omega),fun n _ _ h1 h2 h3=> ?_⟩
         have:=nf n h1 h3
         have:=we n h2 h3
         omega
     . refine .inl ⟨bDp hM (by rw [hY,aTT j3];rfl),fun n h0 _ h1 h2 h3=> ?_⟩
       have:=we n h2 h3
       omega
   . refine .inl ⟨bDo hM (by rw [hX,aTT j3];rfl),fun n _ h0 h1 h2 h3=> ?_⟩
     have:=nf n h1 h3
     omega
theorem bAl (x:Int):Ig.red ⟨⟨true,x,x⟩,⟨true,0,x⟩⟩=⟨⟨true,x,x⟩,⟨true,0,x⟩⟩:=by
 rw [aTR rfl (fun _=>⟨rfl,Int.le_refl _⟩) rfl (by rw [aDW rfl];simp),aBV (Int.le_refl _)]
theorem aTn {n m r:Int} {b:Bool} (hm:0<m) (hr:Cg.red ⟨b,m,r⟩) (h:Cg.on ⟨b,m,r⟩ n):gR n ⟨b,m,r⟩=n/\ iM n ⟨b,m,r⟩=n:=by
 have hR:=hr.2 hm
 dsimp only at hR
 have h1:(n-r)%m=0:=(aLb hm hR.1 hR.2).1 h
 have h2:(r-n)%m=0:=by
  have:r-n= -(n-r):=j3
  rw [this];exact Int.emod_eq_zero_of_dvd (Int.dvd_neg.2 (Int.dvd_of_emod_eq_zero h1))
 unfold gR iM;dsimp only;rw [h1,h2];omega
theorem bAm {x y M R:Int} (hx: -9223372036854775808<=x) (hy:y<9223372036854775808) (oz:x<y) (hM:0<M) (hr:Cg.red ⟨true,M,R⟩) (h1:Cg.on ⟨true,M,R⟩ x) (h2:Cg.on ⟨true,M,R⟩ y):Ig.red ⟨⟨true,x,y⟩,⟨true,M,R⟩⟩=⟨⟨true,x,y⟩,⟨true,M,R⟩⟩:=by
 have e1:=(aTn hM hr h1).1
 have e2:=(aTn hM hr h2).2
 have wx:=wIn (n:=x) ⟨hx,by omega⟩
 have wy:=wIn (n:=y) ⟨by omega,hy⟩
 rw [aTS rfl (fun _=>⟨rfl,by omega⟩) j3 (by rw [e1,e2,wx.1,wx.2,wy.1,wy.2];simp;omega),e1,e2,wx.1,wy.1,if_neg j3,aBV j3]
theorem aO4:Ig.zero.tidy:= .inl rfl
theorem aKd (x:Int):Cg.red ⟨true,0,x⟩:=by unfold Cg.red;dsimp only;omega
theorem aKe {i:Ig} (ht:i.tidy) (hs:i.s.inR) (hc:i.c.inR):
 i.red.tidy/\ i.red.red=i.red/\ i.red.leq i=true/\ ∀n, -9223372036854775808<=n->n<9223372036854775808->(i.red.s.has n&&i.red.c.has n)=(i.s.has n&&i.c.has n):=by
 rcases ht with rfl|⟨⟨h1,h2⟩,h3,h4⟩
 . exact ⟨aO4,rfl,by decide,fun _ _ _=>rfl⟩
 . obtain ⟨⟨s,L,H⟩,⟨b,M,R⟩⟩:=i
   dsimp only at*
   subst h1;subst h2
   have Bq:=aBu (c:=⟨true,M,R⟩) rfl h4
   have hh: ∀n,(Sp.has ⟨true,L,H⟩ n&&Cg.has ⟨true,M,R⟩ n)=decide ((L<=n/\ n<=H)/\ Cg.on ⟨true,M,R⟩ n):=by
    intro n;rw [aBv rfl h4];unfold Sp.has;simp [Bool.and_assoc]
   rcases aWL h3 h4 hs hc with ⟨e,hn⟩|⟨x,y,⟨k1,k2,k3⟩,⟨o1,o2⟩,hb,hm,e⟩
   . rw [e];refine ⟨aO4,rfl,by unfold Ig.leq;rfl,fun n n0 n1=> ?_⟩
     rw [hh];have: ¬((L<=n/\ n<=H)/\ Cg.on ⟨true,M,R⟩ n):=fun h=>hn n n0 n1 h.1.1 h.1.2 h.2
     rw [decide_eq_false this];rfl
   . unfold Sp.inR at hs;dsimp only at hs
     have A6: ∀a:Int,Sp.has ⟨true,L,H⟩ a=decide (L<=a/\ a<=H):=by intro a;unfold Sp.has;simp
     by_cases oz:x=y
     . rw [if_pos oz] at e;rw [e];refine ⟨.inr ⟨⟨rfl,rfl⟩,Int.le_refl _,aKd x⟩,bAl x, ?_,fun n n0 n1=> ?_⟩
       . unfold Ig.leq Sp.leq Cg.leq;dsimp only;rw [A6,aBu rfl (aKd x),Bq];have h0:Cg.has ⟨true,M,R⟩ x=true:=by rw [aBv rfl h4];exact decide_eq_true o1
         have hf:Cg.factor M 0=true:=by unfold Cg.factor;split<;>simp
         rw [h0,hf];simp;omega
       . rw [hh];have h5:(Sp.has ⟨true,x,x⟩ n&&Cg.has ⟨true,0,x⟩ n)=decide (n=x):=by
          rw [aBv rfl (aKd x)];unfold Sp.has Cg.on md;rw [Bool.eq_iff_iff];simp
          omega
         rw [h5];rw [decide_eq_decide];constructor
         . rintro rfl;exact ⟨⟨k1,by omega⟩,o1⟩
         . rintro ⟨⟨q1,q2⟩,q3⟩
           have:=hb n q1 q2 q3
           omega
     . have hm:=hm oz
       rw [if_neg oz] at e;rw [e];refine ⟨.inr ⟨⟨rfl,rfl⟩,k2,h4⟩,bAm j3 j3 j3 hm h4 o1 o2, ?_,fun n n0 n1=> ?_⟩
       . unfold Ig.leq Sp.leq Cg.leq;dsimp only;rw [A6,A6,Bq];have h0:Cg.has ⟨true,M,R⟩ R=true:=by
          rw [aBv rfl h4];refine decide_eq_true ?_
          unfold Cg.on md;dsimp only;have:=h4.2 hm
          dsimp only at this
          rw [if_neg j3,Int.emod_eq_of_lt this.1 this.2]
         have hf:Cg.factor M M=true:=by unfold Cg.factor;split<;>simp_all
         rw [h0,hf];simp;omega
       . rw [hh];have h5:(Sp.has ⟨true,x,y⟩ n&&Cg.has ⟨true,M,R⟩ n)=decide ((x<=n/\ n<=y)/\ Cg.on ⟨true,M,R⟩ n):=by
          rw [aBv rfl h4];unfold Sp.has;simp [Bool.and_assoc]
         rw [h5,decide_eq_decide];constructor
         . rintro ⟨q,q3⟩;exact ⟨⟨by omega,by omega⟩,q3⟩
         . rintro ⟨⟨q1,q2⟩,q3⟩;exact ⟨hb n q1 q2 q3,q3⟩
theorem aWM {i:Ig} (n:Int):(i.clean.s.has n&&i.clean.c.has n)=(i.s.has n&&i.c.has n):=by
 have FR:i.c.clean.has n=i.c.has n:=by
  unfold Cg.has;cases h:i.c.some with
  |false=>
   have:i.c.clean=Cg.none:=by unfold Cg.clean;simp [h]
   rw [this];rfl
  |true=>rw [aBu (c:=i.c.clean) (by rw [aHX];exact h) (Cg.clean_red _)]
 have sj:i.s.clean.has n=i.s.has n:=by
  unfold Sp.clean;split
  . rename_i h
    unfold Sp.none at h;unfold Sp.has;rw [Bool.eq_iff_iff];simp at h⊢
    intro h1 h2;rcases h with h|h
    . simp [h] at h1
    . omega
  . rfl
 unfold Ig.clean;split
 . rename_i h
   unfold Ig.none Sp.none at h;have:(i.s.has n&&i.c.has n)=false:=by
    cases h1:i.c.some with
    |false=>
     have:i.c.has n=false:=by unfold Cg.has;rw [aHX,h1];rfl
     rw [this];simp
    |true=>
     rw [h1] at h;have:i.s.has n=false:=by
      unfold Sp.has;cases h2:i.s.some with
      |false=>rfl
      |true=>rw [h2] at h;simp at h;simp;omega
     rw [this];rfl
   rw [this];rfl
 . dsimp only;rw [FR,sj]
theorem v1 (v:Vl):v.reduce.exact v.rreduce=true:=by rw [aWK];exact aCS _
theorem v2 {v:Vl} (h1:v.i.s.inR) (h2:v.i.c.inR):v.reduce.reduce.exact v.reduce=true:=by
 have hc:=Ig.clean_inR h1 h2
 have h:=aKe (yN v.i) hc.1 hc.2
 have e:v.reduce.reduce=v.reduce:=by
  unfold Vl.reduce Vl.of;dsimp only;rw [tidy_fix h.1,h.2.1,rG,rG,yM]
 rw [e];exact aCS _
theorem v3 {v:Vl} {n:Int} (h1:v.i.s.inR) (h2:v.i.c.inR) (hn: -9223372036854775808<=n/\ n<9223372036854775808):v.reduce.hasInt n=v.hasInt n:=by
 have hc:=Ig.clean_inR h1 h2
 have h:=aKe (yN v.i) hc.1 hc.2
 unfold Vl.hasInt Vl.reduce Vl.of;dsimp only;rw [h.2.2.2 n hn.1 hn.2,aWM]
theorem v4 {v:Vl} (h1:v.i.s.inR) (h2:v.i.c.inR):v.reduce.leq v=true:=by
 have hc:=Ig.clean_inR h1 h2
 have h:=aKe (yN v.i) hc.1 hc.2
 unfold Vl.leq Vl.reduce Vl.of;dsimp only;rw [tidy_fix h.1,h.2.2.1,rG,rG,yM];have:jU (jL v.t.names) (jL v.t.names)=true:=aYt.2 fun _ h=>h
 rw [this];cases v.t.null<;>rfl
theorem v9 {n:Int} (hn: -9223372036854775808<=n/\ n<9223372036854775808):Vl.hasInt ⟨⟨Sp.of (-9223372036854775808) 9223372036854775807,Cg.of 1 0⟩,⟨false,[]⟩⟩ n=true:=by
 unfold Vl.hasInt;dsimp only;rw [aBV j5];have e:Cg.of 1 0=⟨true,1,0⟩:=rfl
 have hr:Cg.red ⟨true,1,0⟩:=by unfold Cg.red;decide
 rw [e,aBv rfl hr];unfold Sp.has Cg.on md;simp;omega
def aY (v:Vl):Prop:=(v.t.names.length*16<=140737488351232/\ ∀i,i<v.t.names.length-> [st (aN v.t.names i)]= [st (gT [st (aN v.t.names i)])])/\ v.i.s.inR/\ v.i.c.inR
theorem aIR {i:Ig} {z:Bool} {n:Nat} {f:Nat->List DV} (h:n*16<=140737488351232) (h1:i.s.inR) (h2:i.c.inR):aY (Vl.reduce ⟨i,⟨z,gN n f⟩⟩):=by
 have hc:=Ig.clean_inR h1 h2
 exact ⟨⟨aDc h,fun _ _=>rfl⟩,aDx hc.1 hc.2⟩
def rI (n:Int):Prop:= -9223372036854775808<=n/\ n<9223372036854775808
def gI:List DV->Int
 | [.v (.int .i64 n)]=>n
 |_=>0
def bDr (l:List Int) (n:Int):Int:=l.foldl (fun b r=>if r<=n/\ b<r then r else b) (-9223372036854775808)
def over (l:List Int) (n:Int):Int:=l.foldl (fun b r=>if n<=r/\ r<b then r else b) 9223372036854775807
namespace Sp
def widen (a b:Sp) (l:List Int):Sp:=if a.none then b.clean else if leq b a then a else ⟨a.some,if b.lo<a.lo then bDr l b.lo else a.lo,if b.hi>a.hi then over l b.hi else a.hi⟩
theorem of_inR {l h:Int} (h0:rI l) (h1:rI h):(of l h).inR:=by unfold of;split;unfold inR;decide;exact ⟨h0,h1⟩
theorem join_inR {a b:Sp} (ha:a.inR) (hb:b.inR):(join a b).inR:=by
 unfold join;split
 . exact clean_inR hb
 . split
   . exact ha
   . unfold inR at ha hb;exact of_inR j1i j1i
theorem meet_inR {a b:Sp} (ha:a.inR) (hb:b.inR):(meet a b).inR:=by
 unfold meet;split
 . unfold inR;decide
 . unfold inR at ha hb;exact of_inR j1i j1i
end Sp
def aLc:List Ar->Option Rs
 | [.agg [.d (.v (.bool s0)),.d (.v (.int .i64 l0)),.d (.v (.int .i64 h0))],.agg [.d (.v (.bool s1)),.d (.v (.int .i64 l1)),.d (.v (.int .i64 h1))]]=>some ⟨(Sp.inR ⟨s0,l0,h0⟩)/\ (Sp.inR ⟨s1,l1,h1⟩),.va (Sp.ar (Sp.join (⟨s0,l0,h0⟩:Sp) (⟨s1,l1,h1⟩:Sp))),[]⟩
 |_=>none
theorem bAn:FC prog 79 aLc:=by
 intro xs pre r us h hp;unfold aLc at h;split at h
 . rename_i s0 l0 h0 s1 l1 h1
   cases h;obtain ⟨a7,a8⟩:=hp
   refine aE aA (l:= [(102,⟨[],mE⟩),(130,⟨[],aFN⟩),(131,⟨[],lN⟩)]) ⟨oD,aPV,nK,trivial⟩ func79 rfl j4 false ?_
   (repeat' (first|exact trivial|refine ⟨?_,?_⟩|intro _));all_goals first|apply qq|conv=>whnf
   all_goals grind [Sp.join,Sp.clean,Sp.none,Sp.of,Sp.inR]
 . cases h
def aBw:List Ar->Option Rs
 | [.agg [.d (.v (.bool s0)),.d (.v (.int .i64 l0)),.d (.v (.int .i64 h0))],.agg [.d (.v (.bool s1)),.d (.v (.int .i64 l1)),.d (.v (.int .i64 h1))]]=>some ⟨(Sp.inR ⟨s0,l0,h0⟩)/\ (Sp.inR ⟨s1,l1,h1⟩),.va (Sp.ar (Sp.meet (⟨s0,l0,h0⟩:Sp) (⟨s1,l1,h1⟩:Sp))),[]⟩
 |_=>none
theorem aFO:FC prog 191 aBw:=by
 intro xs pre r us h hp;unfold aBw at h;split at h
 . rename_i s0 l0 h0 s1 l1 h1
   cases h;obtain ⟨a7,a8⟩:=hp
   refine aE aA (l:= [(102,⟨[],mE⟩),(131,⟨[],lN⟩)]) ⟨oD,nK,trivial⟩ func191 rfl j4 false ?_
   (repeat' (first|exact trivial|refine ⟨?_,?_⟩|intro _));all_goals first|apply qq|conv=>whnf
   all_goals grind [Sp.meet,Sp.none,Sp.of,Sp.inR]
 . cases h
def gW:List DV->Wd
 | [.v (.int .i64 h),.v (.int .u64 l)]=>⟨h,l⟩
 |_=>⟨0,0⟩
theorem Wd.eta' (w:Wd):(⟨w.hi,w.lo⟩:Wd)=w:=rfl
def aAg:List Ar->Option Rs
 | [.agg [.d (.v (.int .i64 h0)),.d (.v (.int .u64 l0))]]=>some ⟨(Wd.ok ⟨h0,l0⟩),.va (Wd.ar (wd (0-Wd.val (⟨h0,l0⟩:Wd)))),[]⟩
 |_=>none
theorem aDY:FC prog 179 aAg:=by
 intro xs pre r us h hp;unfold aAg at h;split at h
 . rename_i h0 l0
   cases h;have a7:=hp
   refine aE aA (l:= [(176,⟨[],uU⟩)]) ⟨zQ,trivial⟩ func179 rfl j4 false ?_
   (repeat' (first|exact trivial|refine ⟨?_,?_⟩|intro _));all_goals first|apply qq|conv=>whnf
   all_goals first|rfl|decide|exact a7.1.1|exact a7.1.2|exact j4o
 . cases h
def aAh:List Ar->Option Rs
 | [.agg [.d (.v (.int .i64 h0)),.d (.v (.int .u64 l0))],.agg [.d (.v (.int .i64 h1)),.d (.v (.int .u64 l1))]]=>some ⟨(Wd.ok ⟨h0,l0⟩)/\ (Wd.ok ⟨h1,l1⟩),.va (.c (.d (it (mM (Wd.val (⟨h0,l0⟩:Wd)) (Wd.val (⟨h1,l1⟩:Wd)))))),[]⟩
 |_=>none
theorem aDZ:FC prog 257 aAh:=by
 intro xs pre r us h hp;unfold aAh at h;split at h
 . rename_i h0 l0 h1 l1
   cases h;obtain ⟨a7,a8⟩:=hp
   refine aE aA (l:= []) trivial func257 rfl j4 false ?_
   repeat' (first|exact trivial|refine ⟨?_,?_⟩|intro _)
   all_goals first|(conv=>whnf)
   all_goals (simp only [decide_eq_true_eq,decide_eq_false_iff_not,beq_iff_eq,beq_eq_false_iff_ne,ne_eq,Bool.and_true,Bool.and_eq_true,Bool.and_eq_false_imp,Wd.val,Wd.ok] at*;refine congrArg (Value.int .i64) ?_;unfold mM;(repeat' split)<;>omega)
 . cases h
def lO (a x:Wd):Wd:=if mM x.val a.val=1 then x else a
theorem aSj {a x:Wd} {i:Int} (hi:i=1) (h:(mM x.val a.val==i)=true):lO a x=x:=by subst hi;unfold lO;rw [if_pos w7]
theorem aSk {a x:Wd} {i:Int} (hi:i=1) (h:(mM x.val a.val==i)=false):lO a x=a:=by subst hi;unfold lO;rw [if_neg w7]
theorem aFP {a x:Wd} (h:a.ok) (h':x.ok):(lO a x).ok:=by unfold lO;split<;>assumption
def atW (i:Nat) (a x:Wd):Wd:=if i=0 then a else lO a x
def aLd:List Ar->Option Rs
 | [.agg [.d (.v (.int .i64 h0)),.d (.v (.int .u64 l0))],.c (.d (.v (.int .i64 i1))),.c (.d (.lst 2 1 f2))]=>some ⟨(Wd.ok ⟨h0,l0⟩)/\ (-9223372036854775808<=i1/\ i1<9223372036854775808)/\ (f2 0= [it (gW (f2 0)).hi,ut (gW (f2 0)).lo]/\ Wd.ok (gW (f2 0)))/\ (i1=1),.va (Wd.ar (lO (⟨h0,l0⟩:Wd) (gW (f2 0)))),[]⟩
 |_=>none
theorem bAo:FC prog 221 aLd:=by
 intro xs pre r us h hp;unfold aLd at h;split at h
 . rename_i h0 l0 i1 f2
   cases h;obtain ⟨a7,a8,af,di⟩:=hp
   refine aU.of_eq (as':= [.agg [.d (.v (.int .i64 h0)),.d (.v (.int .u64 l0))],.c (.d (.v (.int .i64 i1))),.c (.d (.lst 2 1 fun _=> [it (gW (f2 0)).hi,ut (gW (f2 0)).lo]))]) ?_ rfl rfl ?_
   . repeat' (first|exact j2t|refine ⟨?_,?_⟩|fail)
     all_goals first|grind
   refine aE aA (l:= [(257,⟨[],aAh⟩)]) ⟨aDZ,trivial⟩ func221 rfl j4 false ?_
   repeat' (fail)
   all_goals first|(conv=>whnf)
   refine dM aA (l:= [(257,⟨[],aAh⟩)]) ⟨aDZ,trivial⟩ j4 (X:=Nat)
    (fun x=>⟨[(11,vx (.int .i64 x)),(10,vx (.int .i64 1)),(9,.va (.c (.d (.lst 2 1 fun _=> [it (gW (f2 0)).hi,ut (gW (f2 0)).lo])))),(1,vx (.int .i64 i1)),(3,.va (.c (.own 0 0))),(6,.va (.c (.own 1 0)))],[(0,.cells [.d (it (atW x ⟨h0,l0⟩ (gW (f2 0))).hi),.d (ut (atW x ⟨h0,l0⟩ (gW (f2 0))).lo)]),(1,.cells [.d (it 0),.d (ut 0)])],2,23⟩)
    (fun x=>1-x) (fun x=>x<=1) [] [] (fun x _ _=>x+1) [0,1] [0,1] 0 0 0 (Nat.zero_le _) ?_ ?_
   . repeat' (first|exact j2w|refine ⟨?_,?_⟩|fail)
   . intro i k1;have hc:i=0 \/i=1:=by omega
     rcases hc with rfl|rfl
     . have f0:Wd.ok (atW 0 ⟨h0,l0⟩ (gW (f2 0))):=a7
       (repeat' (first|exact trivial|(with_reducible first|exact af.2|exact f0)|refine ⟨?_,?_⟩|intro _));all_goals first|apply qq|conv=>whnf
       all_goals first|omega|rfl|decide|(exfalso;exact absurd ‹decide _=false› j5)|(exact congrArg (fun w:Wd=>Value.int .i64 w.hi) (aSj di ‹(_==i1)=true›).symm)|(exact congrArg (fun w:Wd=>Value.int .u64 w.lo) (aSj di ‹(_==i1)=true›).symm)|(exact congrArg (fun w:Wd=>Value.int .i64 w.hi) (aSk di ‹(_==i1)=false›).symm)|(exact congrArg (fun w:Wd=>Value.int .u64 w.lo) (aSk di ‹(_==i1)=false›).symm)
     . (repeat' (first|exact trivial|refine ⟨?_,?_⟩|intro _));all_goals first|apply qq|conv=>whnf
       all_goals first|omega|rfl|(exfalso;exact absurd ‹decide _=true› j5)
 . cases h
def aEm:List Ar->Option Rs
 | [.agg [.d (.v (.int .i64 h0)),.d (.v (.int .u64 l0))],.c (.d (.lst 2 1 f1))]=>some ⟨(Wd.ok ⟨h0,l0⟩)/\ (f1 0= [it (gW (f1 0)).hi,ut (gW (f1 0)).lo]/\ Wd.ok (gW (f1 0))),.va (Wd.ar (lO (⟨h0,l0⟩:Wd) (gW (f1 0)))),[]⟩
 |_=>none
theorem aLe:FC prog 178 aEm:=by
 intro xs pre r us h hp;unfold aEm at h;split at h
 . rename_i h0 l0 f1
   cases h;obtain ⟨a7,a8⟩:=hp
   refine aU.of_eq (as':= [.agg [.d (.v (.int .i64 h0)),.d (.v (.int .u64 l0))],.c (.d (.lst 2 1 fun _=> [it (gW (f1 0)).hi,ut (gW (f1 0)).lo]))]) ?_ rfl rfl ?_
   . repeat' (first|exact j2t|refine ⟨?_,?_⟩|fail)
     all_goals first|grind
   refine aE aA (l:= [(221,⟨[],aLd⟩)]) ⟨bAo,trivial⟩ func178 rfl j4 false ?_
   have hq:(-9223372036854775808:Int)<=1/\ (1:Int)<9223372036854775808:=j5
   (repeat' (first|exact trivial|refine ⟨?_,?_⟩|intro _));all_goals first|apply qq|conv=>whnf
   all_goals first|rfl|decide|exact a7.1.1|exact a7.1.2|exact j4o|exact a8.2.1.1|exact a8.2.1.2|exact a8.2.2.1|exact a8.2.2.2
 . cases h
def nE (a b:Int):Int:=if a≥b then a-b else b-a
theorem aWN {a b:Int} (ha: -9223372036854775808<=a/\ a<9223372036854775808) (hb: -9223372036854775808<=b/\ b<9223372036854775808):(lO (wd ((wd a).val-(wd b).val)) (wd (0-(wd ((wd a).val-(wd b).val)).val))).lo=if a≥b then a-b else b-a:=by
 rw [dH (v:=a) j3 j3,dH (v:=b) j3 j3,dH (v:=a-b) j3 j3];unfold lO mM;rw [dH (v:=a-b) j3 j3,dH (v:=0-(a-b)) j3 j3];unfold wd
 (repeat' split)<;>dsimp only<;>omega
def aFQ:List Ar->Option Rs
 | [.c (.d (.v (.int .i64 i0))),.c (.d (.v (.int .i64 i1)))]=>some ⟨(-9223372036854775808<=i0/\ i0<9223372036854775808)/\ (-9223372036854775808<=i1/\ i1<9223372036854775808),.va (.c (.d (ut (nE i0 i1)))),[]⟩
 |_=>none
theorem aPZ:FC prog 134 aFQ:=by
 intro xs pre r us h hp;unfold aFQ at h;split at h
 . rename_i i0 i1
   cases h;obtain ⟨a7,a8⟩:=hp
   refine aE aA (l:= [(177,⟨[],qH⟩),(176,⟨[],uU⟩),(179,⟨[],aAg⟩),(178,⟨[],aEm⟩)]) ⟨sW,zQ,aDY,aLe,trivial⟩ func134 rfl j4 false ?_
   (repeat' (first|exact trivial|(with_reducible exact bL _)|refine ⟨?_,?_⟩|intro _));all_goals first|apply qq|conv=>whnf
   all_goals first|omega|rfl|exact j3o|(exact congrArg (Value.int .u64) (aWN a7 a8))
 . cases h
theorem aP0 {a b:Int} (hb:b≠0) (h0:0<=a) (h1:0<=b):0<=a.tmod b/\ a.tmod b<b/\ Int.gcd b (a.tmod b)=Int.gcd a b:=by
 rw [Int.tmod_eq_emod_of_nonneg h0];refine ⟨Int.emod_nonneg _ hb,Int.emod_lt_of_pos _ j3, ?_⟩
 obtain ⟨x,rfl⟩:=Int.eq_ofNat_of_zero_le h0
 obtain ⟨y,rfl⟩:=Int.eq_ofNat_of_zero_le h1
 rw [<-Int.natCast_emod,Int.gcd_natCast_natCast,Int.gcd_natCast_natCast,Nat.gcd_comm x y,Nat.gcd_rec y x,Nat.gcd_comm]
def aBW:List Ar->Option Rs
 | [.c (.d (.v (.int .u64 u0))),.c (.d (.v (.int .u64 u1)))]=>some ⟨(0<=u0/\ u0<18446744073709551616)/\ (0<=u1/\ u1<18446744073709551616),.va (.c (.d (ut ((Int.gcd u0 u1:Int))))),[]⟩
 |_=>none
theorem aGr:FC prog 133 aBW:=by
 intro xs pre r us h hp;unfold aBW at h;split at h
 . rename_i u0 u1
   cases h;obtain ⟨a7,a8⟩:=hp
   refine aE aA (l:= []) trivial func133 rfl j4 false ?_
   repeat' (fail)
   all_goals first|(conv=>whnf)
   refine aJj aA (ls:= []) trivial j4 0 rfl (X:=Int×Int) (fun x=>⟨[(0,vx (.int .u64 x.1)),(1,vx (.int .u64 x.2))],[],0,12⟩) (fun x=>x.2.toNat)
    (fun x=>(0<=x.1/\ x.1<18446744073709551616)/\ (0<=x.2/\ x.2<18446744073709551616)/\ Int.gcd x.1 x.2=Int.gcd u0 u1) [0,1] [] (fun xs _=>match xs with| [a,b]=>(iT a,iT b)|_=>(0,0)) (fun _ xs _=>match xs with| [a,b]=>(iT a,iT b)|_=>(0,0)) [] [] 0 0 ?_ ?_
   . (repeat' (first|exact trivial|refine ⟨?_,?_⟩|intro _));all_goals first|apply qq|conv=>whnf
     all_goals (try simp only [beq_iff_eq,beq_eq_false_iff_ne,ne_eq,iT] at*)
     all_goals first|exact j3e|(have e:u1=0:=‹u1=0›;rw [e,Int.gcd_zero,Int.natAbs_of_nonneg j3];done)|(have q:=aP0 (a:=u0) (b:=u1) ‹_› j3 j3;first|omega|rfl)
   . rintro ⟨a,b⟩ ⟨k1,k2,k3⟩
     dsimp only at k1 k2 k3
     (repeat' (first|exact trivial|refine ⟨?_,?_⟩|intro _));all_goals first|apply qq|conv=>whnf
     all_goals (try simp only [beq_iff_eq,beq_eq_false_iff_ne,ne_eq,iT] at*)
     all_goals first|exact j3e|(rw [<-k3];have e:b=0:=‹b=0›;rw [e,Int.gcd_zero,Int.natAbs_of_nonneg j3];done)|(have q:=aP0 (a:=a) (b:=b) ‹_› j3 j3;first|omega|rfl)
 . cases h
namespace Cg
def gcdJ (x y:Cg):Int:=(Int.gcd (Int.gcd x.m y.m:Int) (nE x.r y.r):Int)
def join (a b:Cg):Cg:=if !a.clean.some then b.clean else if !b.clean.some then a.clean else if gcdJ a.clean b.clean>9223372036854775807 then Cg.of 1 0 else Cg.of (gcdJ a.clean b.clean) a.clean.r
end Cg
theorem aG1 {a b:Int} (ha:0<=a/\ a<18446744073709551616) (hb:0<=b/\ b<18446744073709551616):0<=(Int.gcd a b:Int)/\ (Int.gcd a b:Int)<18446744073709551616:=by
 refine ⟨by omega, ?_⟩
 rcases Int.lt_or_eq_of_le ha.1 with h|h
 . have:=Int.gcd_le_left (b:=b) h;omega
 . subst h;rw [Int.zero_gcd];omega
theorem aDy {a b:Int} (ha: -9223372036854775808<=a/\ a<9223372036854775808) (hb: -9223372036854775808<=b/\ b<9223372036854775808):0<=nE a b/\ nE a b<18446744073709551616:=by unfold nE;split<;>omega
theorem aSl {x y:Cg} (hx:x.inR) (hy:y.inR) (h0:0<=x.m) (h1:0<=y.m):0<=Cg.gcdJ x y/\ Cg.gcdJ x y<18446744073709551616:=by
 unfold Cg.inR at hx hy;exact aG1 (aG1 j3 j3) (aDy hx.2 hy.2)
theorem bB4 {a b:Cg} (h:(!a.clean.some)=true):Cg.join a b=b.clean:=by unfold Cg.join;rw [if_pos h]
theorem bB5 {a b:Cg} (h:(!a.clean.some)=false) (h2:(!b.clean.some)=true):Cg.join a b=a.clean:=by unfold Cg.join;rw [if_neg w5,if_pos h2]
theorem bB6 {a b:Cg} (h:(!a.clean.some)=false) (h2:(!b.clean.some)=false) (h3:decide (Cg.gcdJ a.clean b.clean>9223372036854775807)=true):Cg.join a b=Cg.of 1 0:=by unfold Cg.join;rw [if_neg w5,if_neg x9,if_pos j2o]
theorem bB7 {a b:Cg} (h:(!a.clean.some)=false) (h2:(!b.clean.some)=false) (h3:decide (Cg.gcdJ a.clean b.clean>9223372036854775807)=false) (h0:0<=Cg.gcdJ a.clean b.clean):Cg.join a b=Cg.of (IntKind.wrap .i64 (Cg.gcdJ a.clean b.clean)) a.clean.r:=by
 unfold Cg.join;rw [if_neg w5,if_neg x9,if_neg j2o,aR _ j3 (by have:=of_decide_eq_false h3;omega)]
theorem aTo {g:Int} (h0:0<=g) (h3:decide (g>9223372036854775807)=false): -9223372036854775808<=IntKind.wrap .i64 g/\ IntKind.wrap .i64 g<9223372036854775808:=by
 have:=of_decide_eq_false h3
 rw [aR _ j3 j3];omega
def aLf:List Ar->Option Rs
 | [.agg [.d (.v (.bool b0)),.d (.v (.int .i64 m0)),.d (.v (.int .i64 r0))],.agg [.d (.v (.bool b1)),.d (.v (.int .i64 m1)),.d (.v (.int .i64 r1))]]=>some ⟨(Cg.inR ⟨b0,m0,r0⟩)/\ (Cg.inR ⟨b1,m1,r1⟩),.va (Cg.ar (Cg.join (⟨b0,m0,r0⟩:Cg) (⟨b1,m1,r1⟩:Cg))),[]⟩
 |_=>none
theorem bAp:FC prog 80 aLf:=by
 intro xs pre r us h hp;unfold aLf at h;split at h
 . rename_i b0 m0 r0 b1 m1 r1
   cases h;obtain ⟨a7,a8⟩:=hp
   refine aE aA (l:= [(132,⟨[],uG⟩),(103,⟨[],rF⟩),(133,⟨[],aBW⟩),(134,⟨[],aFQ⟩),(135,⟨[],uZ⟩),(136,⟨[],rS⟩)]) ⟨yV,uF,aGr,aPZ,zU,uX,trivial⟩ func80 rfl j4 false ?_
   have hx:=Cg.clean_inR a7
   have hy:=Cg.clean_inR a8
   have gb:=hx
   have jd:=hy
   unfold Cg.inR at gb jd;have sw:=Cg.clean_nn ⟨b0,m0,r0⟩
   have sx:=Cg.clean_nn ⟨b1,m1,r1⟩
   have ux:=fQ (Cg.clean ⟨b0,m0,r0⟩).m sw (by have:=hx.1.2;omega)
   have uy:=fQ (Cg.clean ⟨b1,m1,r1⟩).m sx (by have:=hy.1.2;omega)
   have vx:0<=(Cg.clean ⟨b0,m0,r0⟩).m/\ (Cg.clean ⟨b0,m0,r0⟩).m<18446744073709551616:=⟨sw,by have:=hx.1.2;omega⟩
   have vy:0<=(Cg.clean ⟨b1,m1,r1⟩).m/\ (Cg.clean ⟨b1,m1,r1⟩).m<18446744073709551616:=⟨sx,by have:=hy.1.2;omega⟩
   have g1:=aG1 vx vy
   have g2:=aDy hx.2 hy.2
   have g3:=aSl hx hy sw sx
   (repeat' (first|exact trivial|(with_reducible first|assumption|exact g2)|refine ⟨?_,?_⟩|intro _));all_goals first|apply qq|conv=>whnf
   all_goals (try rw [ux] at*)
   all_goals (try rw [uy] at*)
   all_goals first|(with_reducible first|exact vx.1|exact vx.2|exact vy.1|exact vy.2|exact gb.2.1|exact gb.2.2|exact jd.2.1|exact jd.2.2|exact g1.1|exact g1.2)|exact (aTo g3.1 ‹decide (_>_)=false›).1|exact (aTo g3.1 ‹decide (_>_)=false›).2|(have e:=bB4 (a:=⟨b0,m0,r0⟩) (b:=⟨b1,m1,r1⟩) ‹_›;first|exact j2s)|(have e:=bB5 (a:=⟨b0,m0,r0⟩) (b:=⟨b1,m1,r1⟩) ‹_› ‹_›;first|exact j2s)|(have e:=bB6 (a:=⟨b0,m0,r0⟩) (b:=⟨b1,m1,r1⟩) ‹_› ‹_› ‹_›;first|exact j2s)|(have e:=bB7 (a:=⟨b0,m0,r0⟩) (b:=⟨b1,m1,r1⟩) ‹_› ‹_› ‹_› g3.1;first|exact j2s)
 . cases h
def sF:List DV->Nat
 | [.lst _ n _]=>n
 |_=>0
def gLf:List DV->Nat->List DV
 | [.lst _ _ f]=>f
 |_=>fun _=> []
abbrev cLL (l:List DV):List DV:= [.lst 1 (sF l) fun j=> [st (gT (gLf l j))]]
def rLL (l:List DV):Prop:=l=cLL l
def gLL (l:List DV):List ByteArray:=gN (sF l) (gLf l)
def fM (f:Nat->List DV):Nat->List ByteArray
 |0=> []
 |1=>gLL (f 0)
 |_=>gLL (f 0)++gLL (f 1)
def xW:aB->Nat
 | .row _ n _=>n
 | .fzr _ n _=>n
 |_=>0
theorem bB8 {f:Nat->List DV} {p:Prop} (h:(rLL (f 0)/\ rLL (f 1))/\ p) (i:Nat) (hi:i<2):f i=cLL (f i):=by
 have hc:i=0 \/i=1:=j3
 rcases hc with rfl|rfl
 . exact h.1.1
 . exact h.1.2
theorem aYv (f:Nat->List DV):(fM f 0).length=0/\ (fM f 1).length=sF (f 0)/\ (fM f 2).length=sF (f 0)+sF (f 1):=by simp [fM,gLL,bU]
theorem aOf {l:List ByteArray} {m len:Nat} (hl:l.length=len) {F g:Nat->List DV} (hF: ∀j,j<len->F j= [st (aN l j)]) (hg: ∀j,j<m->g j= [st (gT (g j))]) (i:Nat) (hi:i<len+m):dG len F g i= [st (aN (l++gN m g) i)]:=by
 unfold dG;by_cases h:i<len
 . rw [if_pos h,hF i h];simp [aN,List.getD_eq_getElem?_getD,List.getElem?_append_left (show i<l.length by omega)]
 . rw [if_neg h,hg _ j3];have h2:i-len<m:=by omega
   have h3:(gN m g)[i-len]? =some (gT (g (i-len))):=by simp [gN,h2]
   simp only [aN,List.getD_eq_getElem?_getD,List.getElem?_append_right (show l.length<=i by omega),hl,h3,Option.getD_some]
theorem aP1 {f0:Nat->List DV} {f:Nat->List DV} {i:Nat} (hi:i<2) (k3: ∀j,j<(fM f0 i).length->f j= [st (aN (fM f0 i) j)]) (j:Nat) (hj:j<(fM f0 (i+1)).length):
 dG (fM f0 i).length f (fun j=> [st (gT (gLf (f0 i) j))]) j= [st (aN (fM f0 (i+1)) j)]:=by
 have hc:i=0 \/i=1:=j3
 rcases hc with rfl|rfl
 . exact aOf (l:=fM f0 0) rfl k3 (fun _ _=>rfl) j (by simpa [fM,gLL,bU] using hj)
 . exact aOf (l:=fM f0 1) rfl k3 (fun _ _=>rfl) j (by simpa [fM,gLL,bU] using hj)
def aJp:List Ar->Option Rs
 | [.c (.d (.lst 1 2 f0))]=>some ⟨((rLL (f0 0)/\ rLL (f0 1))/\ ((sF (f0 0))+(sF (f0 1)))*16<=140737488351232),.va (.c (.d (lst (fM f0 2)))),[]⟩
 |_=>none
theorem aWO:FC prog 138 aJp:=by
 intro xs pre r us h hp;unfold aJp at h;split at h
 . rename_i f0
   cases h;have a7:=hp
   refine aU.of_eq (as':= [.c (.d (.lst 1 2 fun i=>cLL (f0 i)))]) ?_ rfl rfl ?_
   . repeat' (first|exact j2t|refine ⟨?_,?_⟩|fail)
     all_goals first|(intro i hi;exact bB8 a7 i hi)
   refine aE aA (l:= []) trivial func138 rfl j4 true ?_
   have hl:=aYv f0
   have lh:=a7.2
   repeat' (fail)
   all_goals first|(conv=>whnf)
   refine dM aA (l:= []) trivial j4 (X:=Nat)
    (fun x=>⟨[(11,vx (.int .i64 x)),(10,vx (.int .i64 2)),(9,.va (.c (.d (.lst 1 2 fun i=>cLL (f0 i))))),(0,.va (.c (.d (.lst 1 2 fun i=>cLL (f0 i))))),(3,vx (.int .i64 ((fM f0 x).length:Int)))],[],0,36⟩)
    (fun x=>2-x) (fun x=>x<=2) [] [] (fun x _ _=>x+1) [] [] 0 0 0 (Nat.zero_le _) ?_ ?_
   . repeat' (first|exact j2w|refine ⟨?_,?_⟩|fail)
   . intro i k1;have hc:i=0 \/i=1 \/i=2:=by omega
     rcases hc with rfl|rfl|rfl
     . (repeat' (first|exact trivial|refine ⟨?_,?_⟩|intro _));all_goals first|apply qq|conv=>whnf
       all_goals (try simp only [Int.toNat_natCast,hl.1,hl.2.1,hl.2.2,decide_eq_true_eq,decide_eq_false_iff_not] at*)
       all_goals first|exact j3e|rfl|(rw [aR _ j3 j3] at*;omega)|(rw [aR _ j3 j3];first|(congr 1;omega))
     . (repeat' (first|exact trivial|refine ⟨?_,?_⟩|intro _));all_goals first|apply qq|conv=>whnf
       all_goals (try simp only [Int.toNat_natCast,hl.1,hl.2.1,hl.2.2,decide_eq_true_eq,decide_eq_false_iff_not] at*)
       all_goals first|exact j3e|rfl|(rw [aR _ j3 j3] at*;omega)|(rw [aR _ j3 j3];first|rfl)
     . (repeat' (first|exact trivial|refine ⟨?_,?_⟩|intro _));all_goals first|apply qq|conv=>whnf
       all_goals first|(exact absurd ‹decide _=true› j5)|skip
       all_goals first|((with_reducible show bM _ _ _ _ _ _);refine inl aA (l:= []) trivial func185 rfl j4 j4 rfl ?_;(conv=>whnf))|skip
       all_goals (repeat' (first|refine ⟨?_,?_⟩|intro _));all_goals first|apply qq|conv=>whnf
       all_goals first|((with_reducible show aO _ _ _ _ _);skip)|skip
       all_goals (have hw:IntKind.wrap .i64 (((fM f0 2).length:Int)-IntKind.wrap .i64 (((0:Nat):Int)-((0:Nat):Int)))=((sF (f0 0)+sF (f0 1):Nat):Int):=by rw [hl.2.2];simp only [Int.sub_self];rw [aR 0 j3 j3,aR _ j3 j3];omega)
       all_goals first|omega|(exfalso;rw [hl.2.2] at*;simp only [decide_eq_true_eq] at*;omega)|skip
       . refine dM aA (l:= []) trivial j4 (X:=Nat×Nat×(Nat->List DV))
          (fun x=>⟨[(27,vx (.int .i64 x.1)),(26,vx (.int .i64 2)),(25,.va (.c (.d (.lst 1 2 fun i=>cLL (f0 i))))),(6,.va (.c (.osl 0 1 0 (fM f0 x.1).length)))],[(0,.row 1 x.2.1 x.2.2)],1,36⟩)
          (fun x=>2-x.1) (fun x=>x.1<=2/\ (fM f0 x.1).length<=x.2.1/\ ∀j,j<(fM f0 x.1).length->x.2.2 j= [st (aN (fM f0 x.1) j)]) [] [1] (fun x _ bs=>match bs with| [b]=>(x.1+1,xW b,xU b)|_=>x) [1] [0] 0 0 (0,sF (f0 0)+sF (f0 1),fun _=> [st ByteArray.empty]) ?_ ?_ ?_
         . exact ⟨Nat.zero_le _,by simp [fM],fun j hj=>absurd hj (by simp [fM])⟩
         . repeat' (first|exact j2w|refine ⟨?_,?_⟩|fail)
           all_goals first|(rw [hw];rfl)
         . rintro ⟨i,n,f⟩ ⟨k1,k2,k3⟩
           dsimp only at k1 k2 k3
           have hs:=fun h=>aP1 (f0:=f0) (f:=f) (i:=i) h k3
           have hc:i=0 \/i=1 \/i=2:=j3
           rcases hc with rfl|rfl|rfl
           . (repeat' (first|exact trivial|refine ⟨?_,?_⟩|intro _));all_goals first|apply qq|conv=>whnf
             all_goals (try dsimp only [xW,xU] at*)
             all_goals (try simp only [Int.toNat_natCast,Nat.zero_add,Nat.reduceAdd,decide_eq_true_eq,decide_eq_false_iff_not] at*)
             all_goals first|exact j3e|rfl|(exact hs j5 _ ‹_›)
           . (repeat' (first|exact trivial|refine ⟨?_,?_⟩|intro _));all_goals first|apply qq|conv=>whnf
             all_goals (try dsimp only [xW,xU] at*)
             all_goals (try simp only [Int.toNat_natCast,Nat.zero_add,Nat.reduceAdd,decide_eq_true_eq,decide_eq_false_iff_not] at*)
             all_goals first|exact j3e|rfl|(exact hs j5 _ ‹_›)
           . (repeat' (first|exact trivial|refine ⟨?_,?_⟩|intro _));all_goals first|apply qq|conv=>whnf
             all_goals (try dsimp only [xW,xU] at*)
             all_goals (try simp only [Int.toNat_natCast,Nat.zero_add,Nat.reduceAdd,decide_eq_true_eq,decide_eq_false_iff_not] at*)
             all_goals first|omega|(exact k3 _ ‹_›)
       . refine dM aA (l:= []) trivial j4 (X:=Nat×Nat×(Nat->List DV))
          (fun x=>⟨[(27,vx (.int .i64 x.1)),(26,vx (.int .i64 2)),(25,.va (.c (.d (.lst 1 2 fun i=>cLL (f0 i))))),(6,.va (.c (.osl 0 1 0 (fM f0 x.1).length)))],[(0,.row 1 x.2.1 x.2.2)],1,36⟩)
          (fun x=>2-x.1) (fun x=>x.1<=2/\ (fM f0 x.1).length<=x.2.1/\ ∀j,j<(fM f0 x.1).length->x.2.2 j= [st (aN (fM f0 x.1) j)]) [] [1] (fun x _ bs=>match bs with| [b]=>(x.1+1,xW b,xU b)|_=>x) [1] [] 0 1 (0,0,fun _=> []) ?_ ?_ ?_
         . exact ⟨Nat.zero_le _,by simp [fM],fun j hj=>absurd hj (by simp [fM])⟩
         . repeat' (first|exact j2w|refine ⟨?_,?_⟩|fail)
           all_goals first|(simp;done)
         . rintro ⟨i,n,f⟩ ⟨k1,k2,k3⟩
           dsimp only at k1 k2 k3
           have hs:=fun h=>aP1 (f0:=f0) (f:=f) (i:=i) h k3
           have hc:i=0 \/i=1 \/i=2:=j3
           rcases hc with rfl|rfl|rfl
           . (repeat' (first|exact trivial|refine ⟨?_,?_⟩|intro _));all_goals first|apply qq|conv=>whnf
             all_goals (try dsimp only [xW,xU] at*)
             all_goals (try simp only [Int.toNat_natCast,Nat.zero_add,Nat.reduceAdd,decide_eq_true_eq,decide_eq_false_iff_not] at*)
             all_goals first|exact j3e|rfl
           . (repeat' (first|exact trivial|refine ⟨?_,?_⟩|intro _));all_goals first|apply qq|conv=>whnf
             all_goals (try dsimp only [xW,xU] at*)
             all_goals (try simp only [Int.toNat_natCast,Nat.zero_add,Nat.reduceAdd,decide_eq_true_eq,decide_eq_false_iff_not] at*)
             all_goals first|exact j3e|rfl
           . (repeat' (first|exact trivial|refine ⟨?_,?_⟩|intro _));all_goals first|apply qq|conv=>whnf
             all_goals (try dsimp only [xW,xU] at*)
             all_goals (try simp only [Int.toNat_natCast,Nat.zero_add,Nat.reduceAdd,decide_eq_true_eq,decide_eq_false_iff_not] at*)
             all_goals first|omega
 . cases h
def fF (l m:List ByteArray):List ByteArray:=l.filter fun x=>iI x m
theorem aP2 (i:Nat) (f:Nat->List DV) (m:List ByteArray):fF (gN (i+1) f) m=if iI (gT (f i)) m=true then fF (gN i f) m++ [gT (f i)] else fF (gN i f) m:=by
 unfold fF;rw [bBM,List.filter_append]
 split<;>rename_i h<;>simp [h]
theorem aYw (n:Nat) (f:Nat->List DV) (m:List ByteArray):(fF (gN n f) m).length<=n:=by
 have:=List.length_filter_le (fun x=>iI x m) (gN n f)
 rw [bU] at this;exact this
theorem aYx {b0:Bool} {n:Nat} {f:Nat->List DV} (h:(!b0)=true):Value.bool ((n:Int)==0)=Value.bool (!b0&&decide (gN n f= [])):=by
 rw [h,Bool.true_and];refine congrArg Value.bool (Bool.eq_iff_iff.2 ?_)
 rw [beq_iff_eq,decide_eq_true_eq, <-List.length_eq_zero_iff,bU];omega
def aLg:List Ar->Option Rs
 | [.agg [.d (.v (.bool b0)),.d (.lst 1 n0 f0)],.agg [.d (.v (.bool b1)),.d (.lst 1 n1 f1)]]=>some ⟨(n0*16<=140737488351232/\ ∀i,i<n0->f0 i= [st (gT (f0 i))])/\ (n1*16<=140737488351232/\ ∀i,i<n1->f1 i= [st (gT (f1 i))])/\ ((n0+n1)*16<=140737488351232),.va (Ns.ar (⟨b0||b1,aP (gN n0 f0++gN n1 f1)⟩)),[]⟩
 |_=>none
theorem bAq:FC prog 81 aLg:=by
 intro xs pre r us h hp;unfold aLg at h;split at h
 . rename_i b0 n0 f0 b1 n1 f1
   cases h;obtain ⟨a7,a8,af⟩:=hp
   refine aU.of_eq (as':= [.agg [.d (.v (.bool b0)),.d (.lst 1 n0 fun i=> [st (gT (f0 i))])],.agg [.d (.v (.bool b1)),.d (.lst 1 n1 fun i=> [st (gT (f1 i))])]]) ?_ rfl rfl ?_
   . repeat' (first|exact j2t|refine ⟨?_,?_⟩|fail)
     all_goals first|exact j5s
   refine aE aA (l:= [(138,⟨[],aJp⟩),(137,⟨[],rR⟩)]) ⟨aWO,uW,trivial⟩ func81 rfl j4 true ?_
   (repeat' (first|exact trivial|refine ⟨?_,?_⟩|intro _));all_goals first|apply qq|conv=>whnf
   all_goals first|rfl|skip
   all_goals (try subst ‹b0=_›)
   all_goals (try simp only [bI] at*)
   all_goals first|rfl|(exact af)|(show ((gN n0 f0++gN n1 f1).length)*16<=_;rw [List.length_append,bU,bU];exact af)
 . cases h
def aLh:List Ar->Option Rs
 | [.agg [.d (.v (.bool b0)),.d (.lst 1 n0 f0)],.agg [.d (.v (.bool b1)),.d (.lst 1 n1 f1)]]=>some ⟨(n0*16<=140737488351232/\ ∀i,i<n0->f0 i= [st (gT (f0 i))])/\ (n1*16<=140737488351232/\ ∀i,i<n1->f1 i= [st (gT (f1 i))]),.va (.c (.d (bo (((!b0||b1)&&jU (gN n0 f0) (gN n1 f1))&&((!b1||b0)&&jU (gN n1 f1) (gN n0 f0)))))),[]⟩
 |_=>none
theorem bAr:FC prog 85 aLh:=by
 intro xs pre r us h hp;unfold aLh at h;split at h
 . rename_i b0 n0 f0 b1 n1 f1
   cases h;obtain ⟨a7,a8⟩:=hp
   refine aU.of_eq (as':= [.agg [.d (.v (.bool b0)),.d (.lst 1 n0 fun i=> [st (gT (f0 i))])],.agg [.d (.v (.bool b1)),.d (.lst 1 n1 fun i=> [st (gT (f1 i))])]]) ?_ rfl rfl ?_
   . repeat' (first|exact j2t|refine ⟨?_,?_⟩|fail)
     all_goals first|exact j5s
   refine aE aA (l:= [(139,⟨[],aG0⟩)]) ⟨aSe,trivial⟩ func85 rfl j4 false ?_
   (repeat' (first|exact trivial|refine ⟨?_,?_⟩|intro _));all_goals first|apply qq|conv=>whnf
   all_goals first|rfl|exact j4q|skip
   all_goals (try simp only [eZ] at*)
   all_goals first|(simp only [*,Bool.true_and,Bool.false_and,Bool.and_true,Bool.and_false];done)
 . cases h
def aBx:List Ar->Option Rs
 | [.agg [.d (.v (.bool b0)),.d (.lst 1 n0 f0)]]=>some ⟨(n0*16<=140737488351232/\ ∀i,i<n0->f0 i= [st (gT (f0 i))]),.va (.c (.d (bo (!b0&&decide (gN n0 f0= []))))),[]⟩
 |_=>none
theorem aFR:FC prog 55 aBx:=by
 intro xs pre r us h hp;unfold aBx at h;split at h
 . rename_i b0 n0 f0
   cases h;have a7:=hp
   refine aU.of_eq (as':= [.agg [.d (.v (.bool b0)),.d (.lst 1 n0 fun i=> [st (gT (f0 i))])]]) ?_ rfl rfl ?_
   . repeat' (first|exact j2t|refine ⟨?_,?_⟩|fail)
     all_goals first|exact a7.2
   refine aE aA (l:= []) trivial func55 rfl j4 false ?_
   repeat' (first|exact trivial|refine ⟨?_,?_⟩|intro _)
   all_goals first|(conv=>whnf)
   all_goals first|(exact aYx ‹_›)|(rw [‹(!b0)=false›];rfl)
 . cases h
def aD0:List Ar->Option Rs
 | [.agg [.d (.v (.bool b0)),.d (.lst 1 n0 f0)],.agg [.d (.v (.bool b1)),.d (.lst 1 n1 f1)]]=>some ⟨(n0*16<=140737488351232/\ ∀i,i<n0->f0 i= [st (gT (f0 i))])/\ (n1*16<=140737488351232/\ ∀i,i<n1->f1 i= [st (gT (f1 i))]),.va (Ns.ar (⟨b0&&b1,aP (fF (gN n0 f0) (gN n1 f1))⟩)),[]⟩
 |_=>none
theorem aKf:FC prog 170 aD0:=by
 intro xs pre r us h hp;unfold aD0 at h;split at h
 . rename_i b0 n0 f0 b1 n1 f1
   cases h;obtain ⟨a7,a8⟩:=hp
   refine aU.of_eq (as':= [.agg [.d (.v (.bool b0)),.d (.lst 1 n0 fun i=> [st (gT (f0 i))])],.agg [.d (.v (.bool b1)),.d (.lst 1 n1 fun i=> [st (gT (f1 i))])]]) ?_ rfl rfl ?_
   . repeat' (first|exact j2t|refine ⟨?_,?_⟩|fail)
     all_goals first|exact j5s
   refine aE aA (l:= [(166,⟨[],wD⟩),(137,⟨[],rR⟩)]) ⟨aAK,uW,trivial⟩ func170 rfl j4 true ?_
   repeat' (fail)
   all_goals first|(conv=>whnf)
   refine yU aA (l:= [(166,⟨[],wD⟩),(137,⟨[],rR⟩)]) ⟨aAK,uW,trivial⟩ j4 (X:=Nat×List ByteArray)
    (fun x=>⟨[(11,vx (.int .i64 x.1)),(10,vx (.int .i64 n0)),(9,.va (.c (.d (.lst 1 n0 fun i=> [st (gT (f0 i))])))),(5,.va (.c (.osl 3 1 0 x.2.length))),(2,.va (.c (.own 0 0))),(3,.va (.c (.own 1 0))),(4,.va (.c (.own 2 0)))],
     [(3,.row 1 x.2.length fun j=> [st (aN x.2 j)]),(0,.cells [.d (bo b0),.d (.lst 1 n0 fun i=> [st (gT (f0 i))])]),(1,.cells [.d (bo b1),.d (.lst 1 n1 fun i=> [st (gT (f1 i))])]),(2,.cells [.d (bo false),.d (.v (.slice none 0 0))])],4,32⟩)
    (fun x=>n0-x.1) (fun x=>x.1<=n0/\ x.2=fF (gN x.1 f0) (gN n1 f1)) [5] []
    (fun x _ _=>(x.1+1,fF (gN (x.1+1) f0) (gN n1 f1))) (fun xs=>match xs with| [t]=> [0,1,2,oI t]|_=> []) [0,1,2] 0 1 (0,[]) ?_ ?_ ?_
   . exact ⟨Nat.zero_le _,rfl⟩
   . repeat' (first|exact j2w|refine ⟨?_,?_⟩|fail)
     all_goals decide
   . rintro ⟨i,l⟩ ⟨k1,k2⟩
     dsimp only at k1 k2
     have k3:=aYw i f0 (gN n1 f1)
     rw [<-k2] at k3
     (repeat' (first|exact trivial|refine ⟨?_,?_⟩|intro _));all_goals first|apply qq|conv=>whnf
     all_goals (try simp only [Int.toNat_natCast,decide_eq_true_eq,decide_eq_false_iff_not,qW,eZ] at*)
     all_goals first|exact j3v|rfl|skip
     all_goals first|(rw [aP2,if_pos ‹iI _ _=true›, <-k2];first|(simp;done)|(exact aU5 rfl (fun _ _=>rfl) rfl _ ‹_›))|(rw [aP2,if_neg (by rw [‹iI _ _=false›];decide), <-k2];done)|skip
     all_goals (have hi:i=n0:=by omega)
     all_goals (subst hi;try simp only [Nat.zero_add,bI])
     all_goals first|(rw [k2];done)|(rw [‹b0=true›];rfl)|(rw [‹b0=false›];rfl)
 . cases h
end Go.Proofs.YtiblbnhknemloaaGreat
