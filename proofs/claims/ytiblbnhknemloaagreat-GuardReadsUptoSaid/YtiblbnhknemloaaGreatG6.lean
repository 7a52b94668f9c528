/- What joins and widenings of values are. No condition. -/
import Derived.Test.YtiblbnhknemloaaGreatG5
set_option linter.all false
set_option maxHeartbeats 8000000
set_option maxRecDepth 100000
namespace Go.Proofs.YtiblbnhknemloaaGreat
open Tryz
open Go.Sx
theorem bAs {x y:Cg} (h: ¬Cg.gcdJ x y>9223372036854775807):Cg.gcdJ x y<9223372036854775808:=j3
theorem Cg.join_inR {a b:Cg} (ha:a.inR) (hb:b.inR):(Cg.join a b).inR:=by
 have h1:=Cg.clean_inR ha
 have h2:=Cg.clean_inR hb
 unfold Cg.join;split
 . exact h2
 . split
   . exact h1
   . split
     . unfold Cg.of Cg.inR md;decide
     . rename_i h
       exact Cg.of_inR _ _ (by
        have:0<=Cg.gcdJ a.clean b.clean:=by unfold Cg.gcdJ;omega
        omega) (bAs h) h1.2.1 h1.2.2
namespace Vl
def join (a b:Vl):Vl:=⟨⟨a.of.i.s.join b.of.i.s,a.of.i.c.join b.of.i.c⟩,⟨a.t.null||b.t.null,aP (aP a.t.names++aP b.t.names)⟩⟩
def widen (a b:Vl) (l:List Int):Vl:=⟨⟨a.of.i.s.widen b.of.i.s l,a.of.i.c.join b.of.i.c⟩,⟨a.t.null||b.t.null,aP (aP a.t.names++aP b.t.names)⟩⟩
def none (v:Vl):Bool:=v.of.i.none&&(!v.t.null&&decide (aP v.t.names= []))
def zero:Vl:=⟨Ig.zero,⟨false,[]⟩⟩
def narrow (a b:Vl):Vl:=if !leq b a then a.of else if none b then zero else ⟨Ig.clean ⟨a.of.i.s.narrow b.of.i.s,if Cg.eq a.of.i.c (Cg.of 1 0) then b.of.i.c else a.of.i.c⟩,a.of.t⟩
def same (a b:Vl):Bool:=(Sp.eq a.of.i.s b.of.i.s&&Cg.eq a.of.i.c b.of.i.c)&&(((!a.t.null||b.t.null)&&jU (aP a.t.names) (aP b.t.names))&&((!b.t.null||a.t.null)&&jU (aP b.t.names) (aP a.t.names)))
def rjoin (a b:Vl):Vl:=⟨⟨a.rclean.i.s.join b.rclean.i.s,a.rclean.i.c.join b.rclean.i.c⟩,⟨a.t.null||b.t.null,jL (jL a.t.names++jL b.t.names)⟩⟩
def rwiden (a b:Vl) (l:List Int):Vl:=⟨⟨a.rclean.i.s.widen b.rclean.i.s l,(rjoin a.rclean b.rclean).i.c⟩,(rjoin a.rclean b.rclean).t⟩
def rleq (a b:Vl):Bool:=(a.rclean.i.s.leq b.rclean.i.s&&a.rclean.i.c.leq b.rclean.i.c)&&((!a.t.null||b.t.null)&&jU (jL a.t.names) (jL b.t.names))
def rnone (v:Vl):Bool:= !v.rclean.i.s.some&&decide (((jL (jL v.t.names)).length:Int)+(if v.t.null then 1 else 0)=0)
def rnarrow (a b:Vl):Vl:=if !rleq b.rclean a.rclean then a.rclean else if rnone b.rclean then zero else rclean ⟨⟨a.rclean.i.s.narrow b.rclean.i.s,if a.rclean.i.c.m=1 then b.rclean.i.c else a.rclean.i.c⟩,a.rclean.t⟩
end Vl
theorem bB9 {v:Vl} (h:v.of.i.none=true):Value.bool (!v.t.null&&decide (aP v.t.names= []))=Value.bool v.none:=by unfold Vl.none;rw [h];rfl
theorem bCa {v:Vl} (h:v.of.i.none=false):Value.bool false=Value.bool v.none:=by unfold Vl.none;rw [h];rfl
theorem aSm {a b:Vl}:((a.of.i.s.some==b.of.i.s.some&&(a.of.i.s.lo==b.of.i.s.lo&&(a.of.i.s.hi==b.of.i.s.hi&&true)))&&((a.of.i.c.some==b.of.i.c.some&&(a.of.i.c.m==b.of.i.c.m&&(a.of.i.c.r==b.of.i.c.r&&true)))&&true))=(Sp.eq a.of.i.s b.of.i.s&&Cg.eq a.of.i.c b.of.i.c):=by simp [Sp.eq,Cg.eq]
theorem bCb {a b:Vl} (h:((a.of.i.s.some==b.of.i.s.some&&(a.of.i.s.lo==b.of.i.s.lo&&(a.of.i.s.hi==b.of.i.s.hi&&true)))&&((a.of.i.c.some==b.of.i.c.some&&(a.of.i.c.m==b.of.i.c.m&&(a.of.i.c.r==b.of.i.c.r&&true)))&&true))=true):Value.bool (((!a.of.t.null||b.of.t.null)&&jU a.of.t.names b.of.t.names)&&((!b.of.t.null||a.of.t.null)&&jU b.of.t.names a.of.t.names))=Value.bool (Vl.same a b):=by
 rw [aSm] at h;unfold Vl.same;rw [h];rfl
theorem bCc {a b:Vl} (h:((a.of.i.s.some==b.of.i.s.some&&(a.of.i.s.lo==b.of.i.s.lo&&(a.of.i.s.hi==b.of.i.s.hi&&true)))&&((a.of.i.c.some==b.of.i.c.some&&(a.of.i.c.m==b.of.i.c.m&&(a.of.i.c.r==b.of.i.c.r&&true)))&&true))=false):Value.bool false=Value.bool (Vl.same a b):=by
 rw [aSm] at h;unfold Vl.same;rw [h];rfl
theorem cX {v:Vl} (h:aY v):aY v.of:=by
 have h1:=Ig.clean_inR h.2.1 h.2.2
 have h2:=dF v.t.names
 exact ⟨⟨by show (aP v.t.names).length*16<=140737488351232;have:=h.1.1;omega,fun _ _=>rfl⟩,h1⟩
def xA:List Ar->Option Rs
 | [.agg [.d (.v (.bool s0)),.d (.v (.int .i64 l0)),.d (.v (.int .i64 h0)),.d (.v (.bool b0)),.d (.v (.int .i64 m0)),.d (.v (.int .i64 r0)),.d (.v (.bool z0)),.d (.lst 1 n0 f0)],.agg [.d (.v (.bool s1)),.d (.v (.int .i64 l1)),.d (.v (.int .i64 h1)),.d (.v (.bool b1)),.d (.v (.int .i64 m1)),.d (.v (.int .i64 r1)),.d (.v (.bool z1)),.d (.lst 1 n1 f1)]]=>some ⟨((n0*16<=140737488351232/\ ∀i,i<n0->f0 i= [st (gT (f0 i))])/\ Sp.inR ⟨s0,l0,h0⟩/\ Cg.inR ⟨b0,m0,r0⟩)/\ ((n1*16<=140737488351232/\ ∀i,i<n1->f1 i= [st (gT (f1 i))])/\ Sp.inR ⟨s1,l1,h1⟩/\ Cg.inR ⟨b1,m1,r1⟩)/\ ((n0+n1)*16<=140737488351232),.va (Vl.ar (Vl.join (⟨⟨⟨s0,l0,h0⟩,⟨b0,m0,r0⟩⟩,⟨z0,gN n0 f0⟩⟩:Vl) (⟨⟨⟨s1,l1,h1⟩,⟨b1,m1,r1⟩⟩,⟨z1,gN n1 f1⟩⟩:Vl))),[]⟩
 |_=>none
theorem aDz:FC prog 42 xA:=by
 intro xs pre r us h hp;unfold xA at h;split at h
 . rename_i s0 l0 h0 b0 m0 r0 z0 n0 f0 s1 l1 h1 b1 m1 r1 z1 n1 f1
   cases h;obtain ⟨a7,a8,af⟩:=hp
   refine aU.of_eq (as':= [.agg [.d (.v (.bool s0)),.d (.v (.int .i64 l0)),.d (.v (.int .i64 h0)),.d (.v (.bool b0)),.d (.v (.int .i64 m0)),.d (.v (.int .i64 r0)),.d (.v (.bool z0)),.d (.lst 1 n0 fun i=> [st (gT (f0 i))])],.agg [.d (.v (.bool s1)),.d (.v (.int .i64 l1)),.d (.v (.int .i64 h1)),.d (.v (.bool b1)),.d (.v (.int .i64 m1)),.d (.v (.int .i64 r1)),.d (.v (.bool z1)),.d (.lst 1 n1 fun i=> [st (gT (f1 i))])]]) ?_ rfl rfl ?_
   . repeat' (first|exact j2t|refine ⟨?_,?_⟩|fail)
     all_goals first|grind
   refine aE aA (l:= [(53,⟨[],tL⟩),(79,⟨[],aLc⟩),(80,⟨[],aLf⟩),(81,⟨[],aLg⟩),(82,⟨[],zC⟩)]) ⟨xJ,bAn,bAp,bAq,aDd,trivial⟩ func42 rfl j4 true ?_
   have ik:aY (⟨⟨⟨s0,l0,h0⟩,⟨b0,m0,r0⟩⟩,⟨z0,gN n0 fun i=> [st (gT (f0 i))]⟩⟩:Vl):=⟨⟨u5,fun _ _=>rfl⟩,a7.2⟩
   have bj:aY (⟨⟨⟨s1,l1,h1⟩,⟨b1,m1,r1⟩⟩,⟨z1,gN n1 fun i=> [st (gT (f1 i))]⟩⟩:Vl):=⟨⟨y5,fun _ _=>rfl⟩,a8.2⟩
   have dh:=cX ik
   have dw:=cX bj
   have l6:=cX dh
   have sy:=cX dw
   have jw:(Vl.of (⟨⟨⟨s0,l0,h0⟩,⟨b0,m0,r0⟩⟩,⟨z0,gN n0 fun i=> [st (gT (f0 i))]⟩⟩:Vl)).t.names.length<=n0:=j0b
   have mi:(Vl.of (⟨⟨⟨s1,l1,h1⟩,⟨b1,m1,r1⟩⟩,⟨z1,gN n1 fun i=> [st (gT (f1 i))]⟩⟩:Vl)).t.names.length<=n1:=j0a
   have D7:=Sp.join_inR dh.2.1 dw.2.1
   have D8:=Cg.join_inR dh.2.2 dw.2.2
   have Bi:((Vl.of (⟨⟨⟨s0,l0,h0⟩,⟨b0,m0,r0⟩⟩,⟨z0,gN n0 fun i=> [st (gT (f0 i))]⟩⟩:Vl)).t.names.length+(Vl.of (⟨⟨⟨s1,l1,h1⟩,⟨b1,m1,r1⟩⟩,⟨z1,gN n1 fun i=> [st (gT (f1 i))]⟩⟩:Vl)).t.names.length)*16<=140737488351232:=by have:=af;omega
   have AB:(aP ((Vl.of (⟨⟨⟨s0,l0,h0⟩,⟨b0,m0,r0⟩⟩,⟨z0,gN n0 fun i=> [st (gT (f0 i))]⟩⟩:Vl)).t.names++(Vl.of (⟨⟨⟨s1,l1,h1⟩,⟨b1,m1,r1⟩⟩,⟨z1,gN n1 fun i=> [st (gT (f1 i))]⟩⟩:Vl)).t.names)).length*16<=140737488351232:=by have:=dF ((Vl.of (⟨⟨⟨s0,l0,h0⟩,⟨b0,m0,r0⟩⟩,⟨z0,gN n0 fun i=> [st (gT (f0 i))]⟩⟩:Vl)).t.names++(Vl.of (⟨⟨⟨s1,l1,h1⟩,⟨b1,m1,r1⟩⟩,⟨z1,gN n1 fun i=> [st (gT (f1 i))]⟩⟩:Vl)).t.names);rw [List.length_append] at this;omega
   unfold aY at dh dw l6 sy
   (repeat' (first|exact trivial|(with_reducible first|assumption|exact j5y)|refine ⟨?_,?_⟩|intro _));all_goals first|apply qq|conv=>whnf
   all_goals (try simp only [bI] at*)
   all_goals first|exact j5x|exact Bi|exact AB
 . cases h
def aGs:List Ar->Option Rs
 | [.agg [.d (.v (.bool s0)),.d (.v (.int .i64 l0)),.d (.v (.int .i64 h0)),.d (.v (.bool b0)),.d (.v (.int .i64 m0)),.d (.v (.int .i64 r0)),.d (.v (.bool z0)),.d (.lst 1 n0 f0)],.agg [.d (.v (.bool s1)),.d (.v (.int .i64 l1)),.d (.v (.int .i64 h1)),.d (.v (.bool b1)),.d (.v (.int .i64 m1)),.d (.v (.int .i64 r1)),.d (.v (.bool z1)),.d (.lst 1 n1 f1)]]=>some ⟨((n0*16<=140737488351232/\ ∀i,i<n0->f0 i= [st (gT (f0 i))])/\ Sp.inR ⟨s0,l0,h0⟩/\ Cg.inR ⟨b0,m0,r0⟩)/\ ((n1*16<=140737488351232/\ ∀i,i<n1->f1 i= [st (gT (f1 i))])/\ Sp.inR ⟨s1,l1,h1⟩/\ Cg.inR ⟨b1,m1,r1⟩),.va (.c (.d (bo (Vl.same (⟨⟨⟨s0,l0,h0⟩,⟨b0,m0,r0⟩⟩,⟨z0,gN n0 f0⟩⟩:Vl) (⟨⟨⟨s1,l1,h1⟩,⟨b1,m1,r1⟩⟩,⟨z1,gN n1 f1⟩⟩:Vl))))),[]⟩
 |_=>none
theorem aRe:FC prog 44 aGs:=by
 intro xs pre r us h hp;unfold aGs at h;split at h
 . rename_i s0 l0 h0 b0 m0 r0 z0 n0 f0 s1 l1 h1 b1 m1 r1 z1 n1 f1
   cases h;obtain ⟨a7,a8⟩:=hp
   refine aU.of_eq (as':= [.agg [.d (.v (.bool s0)),.d (.v (.int .i64 l0)),.d (.v (.int .i64 h0)),.d (.v (.bool b0)),.d (.v (.int .i64 m0)),.d (.v (.int .i64 r0)),.d (.v (.bool z0)),.d (.lst 1 n0 fun i=> [st (gT (f0 i))])],.agg [.d (.v (.bool s1)),.d (.v (.int .i64 l1)),.d (.v (.int .i64 h1)),.d (.v (.bool b1)),.d (.v (.int .i64 m1)),.d (.v (.int .i64 r1)),.d (.v (.bool z1)),.d (.lst 1 n1 fun i=> [st (gT (f1 i))])]]) ?_ rfl rfl ?_
   . repeat' (first|exact j2t|refine ⟨?_,?_⟩|fail)
     all_goals first|grind
   refine aE aA (l:= [(53,⟨[],tL⟩),(85,⟨[],aLh⟩)]) ⟨xJ,bAr,trivial⟩ func44 rfl j4 true ?_
   have ik:aY (⟨⟨⟨s0,l0,h0⟩,⟨b0,m0,r0⟩⟩,⟨z0,gN n0 fun i=> [st (gT (f0 i))]⟩⟩:Vl):=⟨⟨u5,fun _ _=>rfl⟩,a7.2⟩
   have bj:aY (⟨⟨⟨s1,l1,h1⟩,⟨b1,m1,r1⟩⟩,⟨z1,gN n1 fun i=> [st (gT (f1 i))]⟩⟩:Vl):=⟨⟨y5,fun _ _=>rfl⟩,a8.2⟩
   have dh:=cX ik
   have dw:=cX bj
   have l6:=cX dh
   have sy:=cX dw
   have jw:(Vl.of (⟨⟨⟨s0,l0,h0⟩,⟨b0,m0,r0⟩⟩,⟨z0,gN n0 fun i=> [st (gT (f0 i))]⟩⟩:Vl)).t.names.length<=n0:=j0b
   have mi:(Vl.of (⟨⟨⟨s1,l1,h1⟩,⟨b1,m1,r1⟩⟩,⟨z1,gN n1 fun i=> [st (gT (f1 i))]⟩⟩:Vl)).t.names.length<=n1:=j0a
   have D7:=Sp.join_inR dh.2.1 dw.2.1
   have D8:=Cg.join_inR dh.2.2 dw.2.2
   unfold aY at dh dw l6 sy
   (repeat' (first|exact trivial|(with_reducible first|exact dh.1|exact dw.1|exact j4o|exact j5o)|refine ⟨?_,?_⟩|intro _));all_goals first|apply qq|conv=>whnf
   all_goals (try simp only [bI] at*)
   all_goals first|exact j5x|exact bCb (a:=(⟨⟨⟨s0,l0,h0⟩,⟨b0,m0,r0⟩⟩,⟨z0,gN n0 fun i=> [st (gT (f0 i))]⟩⟩:Vl)) (b:=(⟨⟨⟨s1,l1,h1⟩,⟨b1,m1,r1⟩⟩,⟨z1,gN n1 fun i=> [st (gT (f1 i))]⟩⟩:Vl)) ‹_›|exact bCc (a:=(⟨⟨⟨s0,l0,h0⟩,⟨b0,m0,r0⟩⟩,⟨z0,gN n0 fun i=> [st (gT (f0 i))]⟩⟩:Vl)) (b:=(⟨⟨⟨s1,l1,h1⟩,⟨b1,m1,r1⟩⟩,⟨z1,gN n1 fun i=> [st (gT (f1 i))]⟩⟩:Vl)) ‹_›
 . cases h
def aFS:List Ar->Option Rs
 | [.agg [.d (.v (.bool s0)),.d (.v (.int .i64 l0)),.d (.v (.int .i64 h0)),.d (.v (.bool b0)),.d (.v (.int .i64 m0)),.d (.v (.int .i64 r0)),.d (.v (.bool z0)),.d (.lst 1 n0 f0)]]=>some ⟨((n0*16<=140737488351232/\ ∀i,i<n0->f0 i= [st (gT (f0 i))])/\ Sp.inR ⟨s0,l0,h0⟩/\ Cg.inR ⟨b0,m0,r0⟩),.va (.c (.d (bo (Vl.none (⟨⟨⟨s0,l0,h0⟩,⟨b0,m0,r0⟩⟩,⟨z0,gN n0 f0⟩⟩:Vl))))),[]⟩
 |_=>none
theorem aP3:FC prog 28 aFS:=by
 intro xs pre r us h hp;unfold aFS at h;split at h
 . rename_i s0 l0 h0 b0 m0 r0 z0 n0 f0
   cases h;have a7:=hp
   refine aU.of_eq (as':= [.agg [.d (.v (.bool s0)),.d (.v (.int .i64 l0)),.d (.v (.int .i64 h0)),.d (.v (.bool b0)),.d (.v (.int .i64 m0)),.d (.v (.int .i64 r0)),.d (.v (.bool z0)),.d (.lst 1 n0 fun i=> [st (gT (f0 i))])]]) ?_ rfl rfl ?_
   . repeat' (first|exact j2t|refine ⟨?_,?_⟩|fail)
     all_goals first|grind
   refine aE aA (l:= [(53,⟨[],tL⟩),(54,⟨[],aDU⟩),(55,⟨[],aBx⟩)]) ⟨xJ,aKa,aFR,trivial⟩ func28 rfl j4 true ?_
   have ik:aY (⟨⟨⟨s0,l0,h0⟩,⟨b0,m0,r0⟩⟩,⟨z0,gN n0 fun i=> [st (gT (f0 i))]⟩⟩:Vl):=⟨⟨u5,fun _ _=>rfl⟩,a7.2⟩
   have dh:=cX ik
   unfold aY at dh
   (repeat' (first|exact trivial|(with_reducible first|exact dh.1|exact dh.2.1|exact dh.2.2|exact a7.2)|refine ⟨?_,?_⟩|intro _));all_goals first|apply qq|conv=>whnf
   all_goals (try simp only [bI] at*)
   all_goals first|rfl|exact bB9 ‹_›|exact bCa ‹_›|(with_reducible exact a7.1.1)
 . cases h
theorem aWP (i:Ig):i.clean.clean=i.clean:=tidy_fix (yN i)
theorem aDA (v:Vl):v.rclean.rclean=v.rclean:=by
 unfold Vl.rclean;rw [aWP,yM]
theorem aYy (a b:Vl) (l:List Int):Vl.widen a b l=Vl.rwiden a b l:=by
 unfold Vl.widen Vl.rwiden Vl.rjoin;rw [aDA,aDA,qS,qS];simp only [Vl.rclean,rG,yM]
theorem bCd (a b:Vl):Vl.leq a b=Vl.rleq a.rclean b.rclean:=by
 unfold Vl.leq Vl.rleq Ig.leq;rw [aDA,aDA,qS,qS];simp only [Vl.rclean,rG,yM]
theorem aWQ {i:Ig} (h:i.tidy):i.none= !i.s.some:=by
 unfold Ig.none Sp.none;rcases h with rfl|⟨⟨h1,h2⟩,h3,_⟩
 . rfl
 . rw [h1,h2];simp;omega
theorem bAt (b:Vl):Vl.none b=Vl.rnone b.rclean:=by
 unfold Vl.none Vl.rnone;rw [aDA,qS,aWQ (i:=b.rclean.i) (yN b.i)]
 congr 1
 simp only [Vl.rclean,rG,yM];have key: ∀(x:Bool) (l:List ByteArray),(!x&&decide (l= []))=decide ((l.length:Int)+(if x=true then 1 else 0)=0):=by
  intro x l;cases x
  . simp
  . simp;omega
 exact key _ _
theorem aYz {i:Ig} (h:i.tidy):Cg.eq i.c (Cg.of 1 0)=decide (i.c.m=1):=by
 have e:Cg.of 1 0=⟨true,1,0⟩:=rfl
 rw [e];unfold Cg.eq
 rcases h with rfl|⟨⟨h1,h2⟩,h3,h4⟩
 . rfl
 . rw [h2,Bool.eq_iff_iff];simp only [Bool.and_eq_true,beq_iff_eq,decide_eq_true_eq,true_and];constructor
   . exact fun h=>h.1
   . intro h;have:=h4.2 j3
     omega
theorem aWR (a b:Vl):Vl.narrow a b=Vl.rnarrow a b:=by
 unfold Vl.narrow Vl.rnarrow;rw [bCd,bAt,qS,qS,aYz (i:=a.rclean.i) (yN a.i)];split
 . rfl
 . split
   . rfl
   . simp only [decide_eq_true_eq];unfold Vl.rclean;simp only [yM]
theorem w1 (a b:Vl) (l:List Int):Vl.exact (Vl.widen a b l) (Vl.rwiden a b l)=true:=by rw [aYy];exact aCS _
theorem w2 (a b:Vl):Vl.exact (Vl.narrow a b) (Vl.rnarrow a b)=true:=by rw [aWR];exact aCS _
inductive cS:DV->DV->Prop
 |refl (x:DV):cS x x
 |nil {sz:Nat} {f:Nat->List DV}:cS (.v (.slice none 0 0)) (.lst sz 0 f)
 |lst {sz n:Nat} {f g:Nat->List DV}:(∀i,i<n->(f i).length=(g i).length)->(∀(i j:Nat) (x y:DV),i<n->(f i)[j]? =some x->(g i)[j]? =some y->cS x y)->cS (.lst sz n f) (.lst sz n g)
theorem cS.rep {S:Nat->Prop} {w:World} {x y:DV} (h:cS x y): ∀{v:Value},aZ S w x v->aZ S w y v:=by
 induction h with
 |refl x=>exact fun h=>h
 |nil=>intro v hx;cases hx;exact .nil
 | @lst sz n f g hl hr ih=>
   intro v hx;cases hx with
   |nil=>exact .nil
   |lst c h1 h2 h3 h4 h5=>
    refine .lst c h1 (fun i hi=>by rw [<-hl i hi];exact h2 i hi) h3 (fun i j hi hj=> ?_) h5
    have e1:j<(f i).length:=by rw [h2 i hi];exact hj
    have e2:j<(g i).length:=by rw [<-hl i hi];exact e1
    have h:=h4 i j hi hj
    rw [List.getD_eq_getElem?_getD,List.getElem?_eq_getElem e1] at h;rw [List.getD_eq_getElem?_getD,List.getElem?_eq_getElem e2];exact ih i j _ _ hi (List.getElem?_eq_getElem e1) (List.getElem?_eq_getElem e2) h
def qI (x y:List DV):Prop:=x.length=y.length/\ ∀(j:Nat) a b,x[j]? =some a->y[j]? =some b->cS a b
theorem cS.rows {sz n:Nat} {f g:Nat->List DV} (h: ∀i,i<n->qI (f i) (g i)):cS (.lst sz n f) (.lst sz n g):= .lst (fun i hi=>(h i hi).1) fun i j x y hi=>(h i hi).2 j x y
def icE:Ic->Ic->Prop
 | .d x,.d y=>cS x y
 | .ow sz n f,.ow cd n' g=>sz=cd/\ n=n'/\ ∀i,i<n->qI (f i) (g i)
 |_,_=>False
def nQ:List Ic->List Ic->Prop
 | [],[]=>True
 |x::xs,y::ys=>icE x y/\ nQ xs ys
 |_,_=>False
def arE:Ar->Ar->Prop
 | .c x,.c y=>icE x y
 | .agg xs,.agg ys=>nQ xs ys
 | .rp cs,.rp ib=>cs=ib
 | .fv g,.fv g'=>g=g'
 |_,_=>False
def xX:List Ar->List Ar->Prop
 | [],[]=>True
 |x::xs,y::ys=>arE x y/\ xX xs ys
 |_,_=>False
theorem gV.deep {S:Nat->Prop} {w:World} {sz n:Nat} {f g:Nat->List DV} {l:Go.Sx.Loc} (h: ∀i,i<n->qI (f i) (g i)) (hr:gV S w sz n f l):gV S w sz n g l:=by
 cases l with
 |virt=>exact hr
 | «at» b m=>
   obtain ⟨arr,e,h1,h2,h3,h4,h5⟩:=hr
   refine ⟨arr,e,h1,h2,h3,fun i hi=>by rw [<-(h i hi).1];exact h4 i hi,fun i j hi hj=> ?_⟩
   have e1:j<(f i).length:=by rw [h4 i hi];exact hj
   have e2:j<(g i).length:=by rw [<-(h i hi).1];exact e1
   have h6:=h5 i j hi hj
   rw [List.getD_eq_getElem?_getD,List.getElem?_eq_getElem e1] at h6;rw [List.getD_eq_getElem?_getD,List.getElem?_eq_getElem e2];exact ((h i hi).2 j _ _ (List.getElem?_eq_getElem e1) (List.getElem?_eq_getElem e2)).rep h6
theorem nQ.rep {S:Nat->Prop} {w:World}: ∀{xs ys:List Ic} {vs:List Value} {ls:List Go.Sx.Loc},nQ xs ys->bC S w xs vs ls->bC S w ys vs ls
 | [],[],vs,ls,_,h=>h
 | .d x::xs,.d y::ys,[],ls,_,h=>by simp [bC] at h
 | .d x::xs,.d y::ys,v::vs,ls,h,h'=>by
   simp only [bC] at h'⊢
   exact ⟨cS.rep h.1 h'.1,nQ.rep h.2 h'.2⟩
 | .ow _ _ _::xs,.ow _ _ _::ys,[],_,_,h=>by simp [bC] at h
 | .ow _ _ _::xs,.ow _ _ _::ys,_::_,[],_,h=>by simp [bC] at h
 | .ow sz n f::xs,.ow cd n' g::ys,v::vs,l::ls,h,h'=>by
   simp only [bC] at h'⊢
   obtain ⟨⟨rfl,rfl,h1⟩,h2⟩:=h
   exact ⟨h'.1,gV.deep h1 h'.2.1,nQ.rep h2 h'.2.2⟩
 | [],_::_,_,_,h,_=>h.elim
 |_::_,[],_,_,h,_=>h.elim
 | .d _::_,.ow _ _ _::_,_,_,h,_=>h.1.elim
 | .ow _ _ _::_,.d _::_,_,_,h,_=>h.1.elim
theorem arE.rep {P:Program} {S:Nat->Prop} {w:World} {x y:Ar} {v:Value} {ls:List Go.Sx.Loc} (h:arE x y) (h':kE P S w x v ls):kE P S w y v ls:=by
 cases x<;>cases y<;>first|exact h.elim|skip
 . exact nQ.rep (xs:= [_]) (ys:= [_]) ⟨h,trivial⟩ h'
 . obtain ⟨arr,e,h'⟩:=h';exact ⟨arr,e,nQ.rep h h'⟩
 . have:_=_:=h;subst this;exact h'
 . have:_=_:=h;subst this;exact h'
theorem xX.rep {P:Program} {S:Nat->Prop} {w:World}: ∀{xs ys:List Ar} {vs:List Value} {ls:List Go.Sx.Loc},xX xs ys->cC P S w xs vs ls->cC P S w ys vs ls
 | [],[],_,_,_,h=>h
 | [],_::_,_,_,h,_=>h.elim
 |_::_,[],_,_,h,_=>h.elim
 |x::xs,y::ys,[],_,_,h=>by simp [cC] at h
 |x::xs,y::ys,v::vs,ls,h,h'=>by
  obtain ⟨l1,l2,e,h1,h2⟩:=h'
  exact ⟨l1,l2,e,arE.rep h.1 h1,xX.rep h.2 h2⟩
theorem nQ.rows: ∀{xs ys:List Ic},nQ xs ys->jJ xs=jJ ys
 | [],[],_=>rfl
 | .d _::xs,.d _::ys,h=>nQ.rows (xs:=xs) (ys:=ys) h.2
 | .ow _ _ _::xs,.ow _ _ _::ys,h=>by obtain ⟨⟨rfl,rfl,_⟩,h2⟩:=h;simp only [jJ,nQ.rows h2]
 | [],_::_,h=>h.elim
 |_::_,[],h=>h.elim
 | .d _::_,.ow _ _ _::_,h=>h.1.elim
 | .ow _ _ _::_,.d _::_,h=>h.1.elim
theorem xX.rows: ∀{xs ys:List Ar},xX xs ys->dE xs=dE ys
 | [],[],_=>rfl
 | [],_::_,h=>h.elim
 |_::_,[],h=>h.elim
 |x::xs,y::ys,h=>by
  have e1:pR x=pR y:=by
   have h1:=h.1
   cases x<;>cases y<;>first|exact h1.elim|rfl|skip
   . exact nQ.rows (xs:= [_]) (ys:= [_]) ⟨h1,trivial⟩
   . exact nQ.rows h1
  simp only [dE,e1,xX.rows h.2]
theorem aU.deep {P:Program} {f:Nat} {xs ys:List Ar} {r:Rt} {us:List (Option (Nat->List DV))} (he:xX xs ys) (h:aU P f ys r us):aU P f xs r us:=by
 intro S w ak ls hS hr gf;have:=h S w ak ls hS (he.rep hr) gf
 rw [<-he.rows] at this;exact this
def unr (P:Program) (τ:bF) (Γ:dQ) (calls:Nat->List Va->St->(Tm->St->Prop)->Prop) (base:Nat) (c:Code) (Q:Exit->St->Prop):Nat->St->Prop
 |0,_=>False
 |n+1,st=>vc P τ Γ calls base c st fun e st'=>match e with
  | .normal=>unr P τ Γ calls base c Q n st'
  | .exit i=>Q (.exit i) st'
  | .goto i=>Q (.goto i) st'
  | .ret=>Q .ret st'
  |_=>False
theorem aJq {P:Program} {t:TT} (ht:t.ok P) {l:List (Nat×Sm)} (hl:gX P l) (b7:P.follows .mixedOrders=true) {base:Nat} {c:Code} {Q:Exit->St->Prop} {st:St} (n:Nat)
 (h:unr P t.get (cJ l) (jK P (cJ l) base) base c Q n st):aO P base (.loop c) st Q:=by
 refine ⟨fun ψ S w a hr=> ?_⟩
 refine aIp (P:=P) (fun k a' w'=> ∃st aa S',unr P t.get (cJ l) (jK P (cJ l) base) base c Q k st/\ aC P base aa S' w' st a'/\ aI base ψ S w aa S' w') ?_ ⟨st,ψ,S,h,hr,aI.refl _ _ _ _⟩
 rintro k a1 w1 ⟨st1,fm,S1,hk,du,fo⟩
 cases k with
 |zero=>exact hk.elim
 |succ k=>
  refine wp_mono ((kT (TT.tysOk ht) (TT.zeros ht) (gC hl) b7 (nX (gC hl) base) c _ _ hk).run fm S1 w1 a1 du) ?_
  rintro e a2 w2 ⟨st2,az,S2,hq,c9,bp⟩
  cases e with
  |normal=>exact ⟨k,Nat.lt_succ_self k,st2,az,S2,hq,c9,fo.trans bp⟩
  |exit id=>exact ⟨st2,az,S2,hq,c9,fo.trans bp⟩
  |goto l=>exact ⟨st2,az,S2,hq,c9,fo.trans bp⟩
  |ret=>exact ⟨st2,az,S2,hq,c9,fo.trans bp⟩
  |panic ch=>exact hq.elim
  |outgrown=>exact hq.elim
structure Bd where
 name:ByteArray
 v:Vl
instance:Inhabited Bd:=⟨⟨ByteArray.empty,Vl.zero⟩⟩
abbrev aT (b:Bd):List DV:= [st b.name,bo b.v.i.s.some,it b.v.i.s.lo,it b.v.i.s.hi,bo b.v.i.c.some,it b.v.i.c.m,it b.v.i.c.r,bo b.v.t.null,lst b.v.t.names]
def aM (l:List Bd) (i:Nat):Bd:=l.getD i default
abbrev aW (l:List Bd):Nat->List DV:=fun i=>aT (aM l i)
abbrev dT (l:List Bd):DV:= .lst 9 l.length (aW l)
structure En where
 live:Bool
 binds:List Bd
abbrev En.ar (e:En):Ar:= .agg [.d (bo e.live),.d (dT e.binds)]
def gS9 (l:List DV):ByteArray:=match l[(0:Nat)]? with
 |some (.v (.string s))=>s
 |_=>ByteArray.empty
def lT (l:List DV) (j:Nat):Bool:=match l[j]? with
 |some (.v (.bool b))=>b
 |_=>false
def iW (l:List DV) (j:Nat):Int:=match l[j]? with
 |some (.v (.int _ n))=>n
 |_=>0
def lD (l:List DV):Nat:=match l[(8:Nat)]? with
 |some (.lst _ n _)=>n
 |_=>0
def qN (l:List DV):Nat->List DV:=match l[(8:Nat)]? with
 |some (.lst _ _ f)=>f
 |_=>fun _=> []
def gB (l:List DV):Bd:=⟨gS9 l,⟨⟨⟨lT l 1,iW l 2,iW l 3⟩,⟨lT l 4,iW l 5,iW l 6⟩⟩,⟨lT l 7,gN (lD l) (qN l)⟩⟩⟩
abbrev aL8 (l:List DV):List DV:= [st (gS9 l),bo (lT l 1),it (iW l 2),it (iW l 3),bo (lT l 4),it (iW l 5),it (iW l 6),bo (lT l 7),.lst 1 (lD l) (qN l)]
def okB (b:Bd):Prop:=aY b.v
abbrev aL9 (l:List DV):List DV:= [st (gS9 l),bo (lT l 1),it (iW l 2),it (iW l 3),bo (lT l 4),it (iW l 5),it (iW l 6),bo (lT l 7),.v (.slice none 0 0)]
def zV (l:List DV):Prop:=(l=aL8 l \/l=aL9 l)/\ (∀i,i<lD l->qN l i= [st (gT (qN l i))])/\ okB (gB l)
theorem aLi (b:Bd):gB (aT b)=b:=by
 obtain ⟨n,⟨⟨⟨a1,a2,a3⟩,⟨c1,c2,c3⟩⟩,⟨z,l⟩⟩⟩:=b
 show Bd.mk n ⟨⟨⟨a1,a2,a3⟩,⟨c1,c2,c3⟩⟩,⟨z,gN l.length (fun i=> [st (aN l i)])⟩⟩=_
 rw [bI]
theorem aVI {b:Bd} (h:okB b):zV (aT b):=⟨.inl rfl,fun _ _=>rfl,by rw [aLi];exact h⟩
def jC (l:List DV):Prop:=(l=aL8 l \/l=aL9 l)/\ ∀i,i<lD l->qN l i= [st (gT (qN l i))]
theorem yQ (b:Bd):jC (aT b):=⟨.inl rfl,fun _ _=>rfl⟩
theorem aRf {l:List DV} (h:jC l):qI l (aT (gB l)):=by
 obtain ⟨h1,h2⟩:=h
 have key: ∀y,cS y (.lst 1 (gN (lD l) (qN l)).length fun i=> [st (aN (gN (lD l) (qN l)) i)])->qI [st (gS9 l),bo (lT l 1),it (iW l 2),it (iW l 3),bo (lT l 4),it (iW l 5),it (iW l 6),bo (lT l 7),y] (aT (gB l)):=by
  intro y hy;refine ⟨rfl, ?_⟩
  intro j a b ha hb
  match j with
  |0=>cases ha;cases hb;exact .refl _
  |1=>cases ha;cases hb;exact .refl _
  |2=>cases ha;cases hb;exact .refl _
  |3=>cases ha;cases hb;exact .refl _
  |4=>cases ha;cases hb;exact .refl _
  |5=>cases ha;cases hb;exact .refl _
  |6=>cases ha;cases hb;exact .refl _
  |7=>cases ha;cases hb;exact .refl _
  |8=>cases ha;cases hb;exact hy
  |j+9=>simp at ha
 rcases h1 with h1|h1
 . have e:qI (aL8 l) (aT (gB l)):=key (.lst 1 (lD l) (qN l)) (by
    rw [bU];refine .rows fun i hi=> ?_
    rw [h2 i hi,aDV hi];exact ⟨rfl,fun j a b ha hb=>by rw [ha] at hb;cases hb;exact .refl _⟩)
   rw [<-h1] at e;exact e
 . have h0:lD l=0:=by rw [h1];rfl
   have e:qI (aL9 l) (aT (gB l)):=key _ (by rw [bU,h0];exact .nil)
   rw [<-h1] at e;exact e
theorem aRg {l:List DV} (h:zV l):qI l (aT (gB l)):=aRf ⟨h.1,h.2.1⟩
def aH (n:Nat) (f:Nat->List DV):List Bd:=(List.range n).map fun i=>gB (f i)
theorem eD (n:Nat) (f:Nat->List DV):(aH n f).length=n:=by simp [aH]
theorem aDB {n i:Nat} {f:Nat->List DV} (h:i<n):aM (aH n f) i=gB (f i):=by
 simp [aM,aH,List.getD_eq_getElem?_getD,h]
theorem dJ (l:List Bd):aH l.length (aW l)=l:=by
 unfold aH;apply List.ext_getElem
 . simp
 . intro i h1 h2;simp [aLi,aM,List.getD_eq_getElem?_getD,h2]
theorem gY {n:Nat} {f:Nat->List DV} (h: ∀i,i<n->zV (f i)):cS (.lst 9 n f) (.lst 9 n (aW (aH n f))):=
 .rows fun i hi=>by show qI (f i) (aT (aM (aH n f) i));rw [aDB hi];exact aRg (h i hi)
theorem bAu {n:Nat} {f:Nat->List DV} (h: ∀i,i<n->zV (f i)):icE (.ow 9 n f) (.ow 9 n (aW (aH n f))):=
 ⟨rfl,rfl,fun i hi=>by show qI (f i) (aT (aM (aH n f) i));rw [aDB hi];exact aRg (h i hi)⟩
theorem bCe {n:Nat} {f:Nat->List DV} (h: ∀i,i<n->zV (f i)) (i:Nat) (hi:i<n):okB (aM (aH n f) i):=by rw [aDB hi];exact (h i hi).2.2
theorem aFT {α:Type} {p:List α->Prop} (h0:p []) (h1: ∀l x,p l->p (l++ [x])) (l:List α):p l:=by
 have: ∀m:List α,p m.reverse:=by
  intro m
  induction m with
  |nil=>exact h0
  |cons x m ih=>rw [List.reverse_cons];exact h1 _ _ ih
 have:=this l.reverse
 rwa [List.reverse_reverse] at this
structure Wk {α:Type} (lt:α->α->Bool):Prop where
 asymm: ∀a b,lt a b=true->lt b a=false
 trans: ∀a b c,lt b a=false->lt c b=false->lt c a=false
section
variable {α:Type} [Inhabited α] {lt:α→α→Bool}
def mg (lt:α->α->Bool) (l r:List α):List α:=l.merge r fun a b=> !lt b a
theorem oG (r:List α):mg lt [] r=r:=List.nil_merge r
theorem pJ (l:List α):mg lt l []=l:=List.merge_right l
theorem fI (a b:α) (l r:List α):mg lt (a::l) (b::r)=if lt b a=true then b::mg lt (a::l) r else a::mg lt l (b::r):=by
 unfold mg;rw [List.cons_merge_cons];cases lt b a<;>rfl
theorem aC4 (l r:List α):(mg lt l r).length=l.length+r.length:=List.length_merge _ l r
theorem bCf {l r:List α} {x:α}:x∈mg lt l r↔x∈l \/x∈r:=List.mem_merge
theorem aFn (h:Wk lt): ∀(a b c:List α),mg lt (mg lt a b) c=mg lt a (mg lt b c)
 | [],b,c=>by rw [oG,oG]
 |x::a,[],c=>by rw [pJ,oG]
 |x::a,y::b,[]=>by rw [pJ,pJ]
 |x::a,y::b,z::c=>by
  have i1:=aFn h a (y::b) (z::c)
  have i2:=aFn h (x::a) b (z::c)
  have i3:=aFn h (x::a) (y::b) c
  cases wg:lt y x with
  |false=>
   have e1:mg lt (x::a) (y::b)=x::mg lt a (y::b):=by rw [fI,if_neg (by simp [wg])]
   cases pv:lt z x with
   |false=>
    cases o6:lt z y with
    |false=>
     rw [e1,fI,if_neg (by simp [pv]),i1];have e2:mg lt (y::b) (z::c)=y::mg lt b (z::c):=by rw [fI,if_neg (by simp [o6])]
     rw [e2,fI,if_neg (by simp [wg])]
    |true=>
     rw [e1,fI,if_neg (by simp [pv]),i1];have e2:mg lt (y::b) (z::c)=z::mg lt (y::b) c:=by rw [fI,if_pos o6]
     rw [e2,fI,if_neg (by simp [pv])]
   |true=>
    have o6:lt z y=true:=by
     cases o6:lt z y with
     |true=>rfl
     |false=>have:=h.trans x y z wg o6;rw [this] at pv;cases pv
    have e2:mg lt (y::b) (z::c)=z::mg lt (y::b) c:=by rw [fI,if_pos o6]
    rw [e1,fI,if_pos pv,e2,fI,if_pos pv, <-i3,e1]
  |true=>
   have e1:mg lt (x::a) (y::b)=y::mg lt (x::a) b:=by rw [fI,if_pos wg]
   cases o6:lt z y with
   |false=>
    have e2:mg lt (y::b) (z::c)=y::mg lt b (z::c):=by rw [fI,if_neg (by simp [o6])]
    rw [e1,fI,if_neg (by simp [o6]),i2,e2,fI,if_pos wg]
   |true=>
    have pv:lt z x=true:=by
     cases pv:lt z x with
     |true=>rfl
     |false=>
      have h1:=h.asymm z y o6
      have h3:=h.trans x z y pv h1
      rw [h3] at wg;cases wg
    have e2:mg lt (y::b) (z::c)=z::mg lt (y::b) c:=by rw [fI,if_pos o6]
    rw [e1,fI,if_pos o6,e2,fI,if_pos pv, <-i3,e1]
termination_by a b c=>a.length+b.length+c.length
theorem aDf: ∀(l1 r1 l2 r2:List α),(∀x∈l1, ∀y∈r2,lt y x=false)->(∀y∈r1, ∀x∈l2,lt y x=true)->mg lt (l1++l2) (r1++r2)=mg lt l1 r1++mg lt l2 r2
 | [],[],l2,r2,_,_=>by simp [oG]
 |x::l1,[],l2,r2,h1,h2=>by
  have ih:=aDf l1 [] l2 r2 (fun x hx=>h1 x j0n) h2
  rw [pJ] at ih⊢;cases r2 with
  |nil=>simp [pJ]
  |cons y r2=>
   have:=h1 x j8 y j8
   simp only [List.cons_append,List.nil_append] at ih⊢
   rw [fI,if_neg (by simp [this]),ih]
 | [],y::r1,l2,r2,h1,h2=>by
   have ih:=aDf [] r1 l2 r2 h1 (fun y hy=>h2 y j0z)
   rw [oG] at ih⊢;cases l2 with
   |nil=>simp [oG]
   |cons x l2=>
    have:=h2 y j8 x j8
    simp only [List.cons_append,List.nil_append] at ih⊢
    rw [fI,if_pos this,ih]
 |x::l1,y::r1,l2,r2,h1,h2=>by
  have i1:=aDf l1 (y::r1) l2 r2 (fun x hx=>h1 x j0n) h2
  have i2:=aDf (x::l1) r1 l2 r2 h1 (fun y hy=>h2 y j0z)
  simp only [List.cons_append] at i1 i2⊢
  rw [fI,fI];split
  . rw [i2];rfl
  . rw [i1];rfl
termination_by l1 r1=>l1.length+r1.length
def cK (lt:α->α->Bool) (l:List α):Prop:=l.Pairwise fun a b=>lt b a=false
theorem bCg (h:Wk lt) {l r:List α} (h1:cK lt l) (h2:cK lt r):cK lt (mg lt l r):=by
 have:=List.pairwise_merge (le:=fun a b=> !lt b a) (fun a b c h1 h2=>by have:=h.trans a b c j0i j1q;simp [this]) (fun a b=>by
  cases mw:lt b a with
  |false=>simp
  |true=>have:=h.asymm b a mw;simp [this]) l r (h1.imp j8) (h2.imp j8)
 exact this.imp j8
def bO (lt:α->α->Bool) (l:List α):List α:=l.foldl (fun s x=>mg lt s [x]) []
theorem yW (l:List α) (x:α):bO lt (l++ [x])=mg lt (bO lt l) [x]:=by unfold bO;rw [List.foldl_append];rfl
theorem wE (l:List α):(bO lt l).length=l.length:=by
 refine aFT (p:=fun l=>(bO lt l).length=l.length) rfl (fun l x ih=> ?_) l
 rw [yW,aC4,ih,List.length_append]
theorem zD (h:Wk lt) (l:List α):cK lt (bO lt l):=by
 refine aFT (p:=fun l=>cK lt (bO lt l)) List.Pairwise.nil (fun l x ih=> ?_) l
 rw [yW];exact bCg h ih (List.pairwise_singleton _ _)
theorem aVJ (h:Wk lt) (l r:List α):bO lt (l++r)=mg lt (bO lt l) (bO lt r):=by
 refine aFT (p:=fun r=>bO lt (l++r)=mg lt (bO lt l) (bO lt r)) ?_ (fun r x ih=> ?_) r
 . rw [List.append_nil];exact (pJ _).symm
 . rw [<-List.append_assoc,yW,ih,yW,aFn h]
theorem aFU {l:List α} {x:α}:x∈bO lt l↔x∈l:=by
 refine aFT (p:=fun l=>x∈bO lt l↔x∈l) ?_ (fun l y ih=> ?_) l
 . simp [bO]
 . rw [yW,bCf,ih,List.mem_append]
theorem bAv (p:List α) (y x:α) (h:lt x y=true):mg lt (p++ [y]) [x]=mg lt p [x]++ [y]:=by
 induction p with
 |nil=>rw [List.nil_append,fI,if_pos h,oG,pJ];rfl
 |cons z p ih=>
  rw [List.cons_append,fI,fI];split
  . rw [pJ,pJ];rfl
  . rw [ih];rfl
theorem bCh (p:List α) (x:α) (h: ∀y∈p,lt x y=false):mg lt p [x]=p++ [x]:=by
 induction p with
 |nil=>rw [oG];rfl
 |cons z p ih=>
  rw [fI,if_neg (by simp [h z j8]),ih fun y hy=>h y j0z];rfl
theorem aU7 (h:Wk lt) {p:List α} {y x:α} (hp:cK lt (p++ [y])) (hx:lt x y=false): ∀z∈p++ [y],lt x z=false:=by
 intro z hz;rcases List.mem_append.1 hz with hz|hz
 . have:=(List.pairwise_append.1 hp).2.2 z hz y j8
   exact h.trans z y x this hx
 . simp at hz;subst hz;exact hx
theorem aSn (x:α): ∀(r1 r2:List α),(∀y∈r1,lt y x=true)->(∀y∈r2,lt y x=false)->mg lt [x] (r1++r2)=r1++x::r2
 | [],r2,_,h2=>by
   cases r2 with
   |nil=>rw [List.nil_append,pJ];rfl
   |cons y r2=>rw [List.nil_append,fI,if_neg (by simp [h2 y j8]),oG];rfl
 |y::r1,r2,h1,h2=>by
  rw [List.cons_append,fI,if_pos (h1 y j8),aSn x r1 r2 (fun y hy=>h1 y j0z) h2];rfl
theorem aRh (y:α): ∀(l1 l2:List α),(∀x∈l1,lt y x=false)->(∀x∈l2,lt y x=true)->mg lt (l1++l2) [y]=l1++y::l2
 | [],l2,_,h2=>by
   cases l2 with
   |nil=>rw [List.nil_append,oG];rfl
   |cons x l2=>rw [List.nil_append,fI,if_pos (h2 x j8),pJ];rfl
 |x::l1,l2,h1,h2=>by
  rw [List.cons_append,fI,if_neg (by simp [h1 x j8]),aRh y l1 l2 (fun x hx=>h1 x j0n) h2];rfl
def put (g:Nat->α) (a:Nat) (l:List α):Nat->α:=fun k=>if a<=k/\ k<a+l.length then l.getD (k-a) default else g k
def aD (g:Nat->α) (a b:Nat):List α:=(List.range' a (b-a)).map g
theorem dD (g:Nat->α) (a b:Nat):(aD g a b).length=b-a:=by simp [aD]
theorem mZ {g:Nat->α} {a b k:Nat} (h:k<b-a):(aD g a b)[k]? =some (g (a+k)):=by
 simp [aD,List.getElem?_map,h]
theorem aFo {g:Nat->α} {a b k:Nat} (h:k<b-a):(aD g a b).getD k default=g (a+k):=by
 rw [List.getD_eq_getElem?_getD,mZ h];rfl
theorem pT {g g':Nat->α} {a b:Nat} (h: ∀k,a<=k->k<b->g k=g' k):aD g a b=aD g' a b:=by
 unfold aD;refine List.map_congr_left fun k hk=> ?_
 simp at hk
 exact h k hk.1 j3
theorem zE (g:Nat->α) {a b:Nat} (h:b<=a):aD g a b= []:=by
 apply List.eq_nil_of_length_eq_zero;rw [dD];omega
theorem uH (g:Nat->α) {a m b:Nat} (h1:a<=m) (h2:m<=b):aD g a b=aD g a m++aD g m b:=by
 apply List.ext_getElem?
 intro k;by_cases hk:k<m-a
 . rw [mZ j3,List.getElem?_append_left (by rw [dD];exact hk),mZ hk]
 . rw [List.getElem?_append_right x6,dD];by_cases hb:k<b-a
   . rw [mZ hb,mZ j3];congr 2;omega
   . rw [List.getElem?_eq_none x6,List.getElem?_eq_none x6]
theorem aBd (g:Nat->α) (a:Nat):aD g a (a+1)= [g a]:=by simp [aD]
theorem wR (g:Nat->α) {a b:Nat} (h:a<=b):aD g a (b+1)=aD g a b++ [g b]:=by rw [uH g h (Nat.le_succ b),aBd]
theorem aJr (g:Nat->α) {a b:Nat} (h:a<b):aD g a b=g a::aD g (a+1) b:=by rw [uH g (Nat.le_succ a) h,aBd];rfl
theorem sS {g:Nat->α} {a b:Nat} {x:α}:x∈aD g a b↔ ∃k,a<=k/\ k<b/\ g k=x:=by
 simp only [aD,List.mem_map,List.mem_range'];constructor
 . rintro ⟨k,⟨i,hi,rfl⟩,rfl⟩;exact ⟨a+1*i,by omega,by omega,rfl⟩
 . rintro ⟨k,h1,h2,rfl⟩;exact ⟨k,⟨k-a,by omega,by omega⟩,rfl⟩
theorem aG2 {g:Nat->α} {a:Nat} {l:List α} {k:Nat} (h:k<l.length):put g a l (a+k)=l.getD k default:=by
 unfold put;rw [if_pos j3];congr 1;omega
theorem zF (g:Nat->α) (a:Nat) (p:List α) (x:α) (q:List α):put g a (p++x::q) (a+p.length)=x:=by
 rw [aG2 j8];simp [List.getD_eq_getElem?_getD]
theorem pP {g:Nat->α} {a:Nat} {l:List α} {k:Nat} (h:k<a \/a+l.length<=k):put g a l k=g k:=by
 unfold put;rw [if_neg j3]
theorem aKg (g:Nat->α) (a b:Nat) (l:List α) (h:l.length=b-a) (mw:a<=b):aD (put g a l) a b=l:=by
 apply List.ext_getElem?
 intro k;by_cases hk:k<b-a
 . rw [mZ hk,aG2 j3,List.getD_eq_getElem?_getD,List.getElem?_eq_getElem j3];rfl
 . rw [List.getElem?_eq_none x6,List.getElem?_eq_none j3]
theorem aBe (g:Nat->α) (a b:Nat):put g a (aD g a b)=g:=by
 funext k
 unfold put;split
 . rename_i h
   rw [dD] at h;rw [aFo j3];congr 1;omega
 . rfl
theorem aYA (g:Nat->α) (a:Nat) (l:List α):put g a l=put g a (l++ [g (a+l.length)]):=by
 funext k
 unfold put;rw [List.length_append,List.length_singleton];by_cases h:a<=k/\ k<a+l.length
 . rw [if_pos h,if_pos j3];simp [List.getD_eq_getElem?_getD,List.getElem?_append_left (show k-a<l.length by omega)]
 . rw [if_neg h];by_cases h2:k=a+l.length
   . subst h2;rw [if_pos j3];simp [List.getD_eq_getElem?_getD]
   . rw [if_neg j3]
def pB (g:Nat->α) (i j:Nat):Nat->α:=fun k=>if k=j then g i else if k=i then g j else g k
theorem aKh (g:Nat->α) (a:Nat) (p:List α) (x y:α) (q:List α):pB (put g a (p++x::y::q)) (a+p.length) (a+p.length+1)=put g a (p++y::x::q):=by
 have e1:=zF g a p x (y::q)
 have e2:=zF g a (p++ [x]) y q
 rw [List.append_assoc,List.length_append,List.length_singleton] at e2;have e3:=zF g a p y (x::q)
 have e4:=zF g a (p++ [y]) x q
 rw [List.append_assoc,List.length_append,List.length_singleton] at e4
 funext k
 unfold pB;split
 . rename_i h;subst h;rw [e1];exact e4.symm
 . split
   . rename_i h;subst h;exact e2.trans e3.symm
   . unfold put;simp only [List.length_append,List.length_cons];split
     . rename_i h1 h2 h3
       simp only [List.getD_eq_getElem?_getD];by_cases hk:k-a<p.length
       . rw [List.getElem?_append_left hk,List.getElem?_append_left hk]
       . rw [List.getElem?_append_right j3,List.getElem?_append_right j3];obtain ⟨d,hd⟩: ∃d,k-a-p.length=d+2:=⟨k-a-p.length-2,by omega⟩
         rw [hd];rfl
     . rfl
theorem aP4 (g:Nat->α) (i j:Nat):pB g i j=pB g j i:=by
 funext k
 unfold pB;split<;>split<;>first|rfl|(subst_vars;rfl)
def lE (g:Nat->α) (a b n:Nat):Nat->α:=fun k=>if a<=k/\ k<a+n then g (b+(k-a)) else if b<=k/\ k<b+n then g (a+(k-b)) else g k
theorem aYB (g:Nat->α) (a b:Nat):lE g a b 0=g:=by
 funext k;unfold lE;rw [if_neg j3,if_neg j3]
theorem aYC (g:Nat->α) {a b n:Nat} (h:a+n<b):pB (lE g a b n) (a+n) (b+n)=lE g a b (n+1):=by
 funext k
 unfold pB lE
 repeat' split
 all_goals first|exact j6b
def eX (g:Nat->α) (a m b:Nat):Nat->α:=fun k=>if a<=k/\ k<a+(b-m) then g (m+(k-a)) else if a+(b-m)<=k/\ k<b then g (a+(k-(a+(b-m)))) else g k
theorem bCi (g:Nat->α) {m i:Nat} (h:i<=m):eX g (m-i) m (m+i)=lE g (m-i) m i:=by
 funext k
 unfold eX lE
 repeat' split
 all_goals first|exact j6b
theorem bCj (g:Nat->α) {m i j:Nat} (h:i<=m) (cy:j<i):eX (lE g (m-i) m j) (m-(i-j)) m (m+j)=eX g (m-i) m (m+j):=by
 funext k
 unfold eX lE
 repeat' split
 all_goals first|exact j6b
theorem bCk (g:Nat->α) {m i j:Nat} (h:i<=m) (cy:i<j):eX (lE g (m-i) (m+j-i) i) (m-i) m (m+(j-i))=eX g (m-i) m (m+j):=by
 funext k
 unfold eX lE
 repeat' split
 all_goals first|exact j6b
theorem aYD (g:Nat->α) {a m b:Nat} (h1:a<=m) (h2:m<=b):aD (eX g a m b) a (a+(b-m))=aD g m b:=by
 apply List.ext_getElem?
 intro k;by_cases hk:k<b-m
 . rw [mZ j3,mZ hk];congr 1;unfold eX;rw [if_pos j3];congr 1;omega
 . rw [List.getElem?_eq_none x6,List.getElem?_eq_none x6]
theorem aYE (g:Nat->α) {a m b:Nat} (h1:a<=m) (h2:m<=b):aD (eX g a m b) (a+(b-m)) b=aD g a m:=by
 apply List.ext_getElem?
 intro k;by_cases hk:k<m-a
 . rw [mZ j3,mZ hk];congr 1;unfold eX;rw [if_neg j3,if_pos j3];congr 1;omega
 . rw [List.getElem?_eq_none x6,List.getElem?_eq_none x6]
theorem aKi (g:Nat->α) {a m b k:Nat} (h1:a<=m) (h2:m<=b) (hk:k<a \/b<=k):eX g a m b k=g k:=by
 unfold eX;rw [if_neg j3,if_neg j3]
end
def aQ (a b:Bd):Bool:=decide (bR a.name.data.toList b.name.data.toList<0)
theorem cN:Wk aQ where
 asymm a b h:=by
  unfold aQ at*
  rw [decide_eq_true_eq,zS] at h;rw [decide_eq_false_iff_not,zS];exact List.lt_asymm h
 trans a b c h1 h2:=by
  unfold aQ at*
  rw [decide_eq_false_iff_not,zS] at*
  intro h3;have h1:=List.not_lt.1 h1
  have h2:=List.not_lt.1 h2
  exact List.not_lt.2 (List.le_trans h1 h2) h3
end Go.Proofs.YtiblbnhknemloaaGreat
namespace Go.Sx
section
variable {P:Program} {τ:bF} {Γ:dQ} {base:Nat} {ψ aa:aJ} {S S':Nat→Prop} {w w':World} {a:Act} {st:St}
end
def pZ (k:Nat):List Nat->List Nat->Option Nat
 |i::l,j::js=>match Nat.beq i k with
  |true=>some j
  |false=>pZ k l js
 |_,_=>none
def aFV (js ids:List Nat):List (Nat×Nat)->Option (List (Nat×Nat))
 | []=>some []
 |(k,o)::l=>match pZ k ids js,aFV js ids l with
  |some j,some r=>some ((j,o)::r)
  |_,_=>none
def nR (js ids:List Nat) (x:aL):aL:=match x with
 | .own k off=>match pZ k ids js with
   |some j=> .own j off
   |none=> .top
 | .osl k sz o len=>match pZ k ids js with
   |some j=> .osl j sz o len
   |none=> .top
 | .ep k sz i off=>match pZ k ids js with
   |some j=> .ep j sz i off
   |none=> .top
 | .fn f aq=>match aFV js ids aq with
   |some r=> .fn f r
   |none=> .top
 | .mp k=>match pZ k ids js with
   |some j=> .mp j
   |none=> .top
 | .fb f k off=>match pZ k ids js with
   |some j=> .fb f j off
   |none=> .top
 | .osc .. => .top
 | .ap .. => .top
 |x=>x
def aBX (js ids:List Nat) (x:Va):Va:=match x with
 | .c x=> .c (nR js ids x)
 | .agg xs=> .agg (xs.map (nR js ids))
def aTU (js ids:List Nat) (x:Tm):Tm:=match x with
 | .va x=> .va (aBX js ids x)
 | .tup _=>iS
def aTV (js ids:List Nat) (b:aB):aB:=match b with
 | .cells cs=> .cells (cs.map (nR js ids))
 | .map es bc=> .map (es.map fun p=>(p.1,aBX js ids p.2)) bc
 |b=>b
def xL (js ids:List Nat) (ts:List (Nat×Tm)) (l:List Nat):List (Nat×Tm):=l.map fun t=>(t,aTU js ids (aV ts t))
def aAi (js ids:List Nat) (h:List (Nat×aB)):List Nat->List Nat->List (Nat×aB)
 |k::l,j::l'=>(j,aTV js ids (aF h k))::aAi js ids h l l'
 |_,_=> []
theorem aOg {k:Nat}: ∀{l js:List Nat} {i j:Nat},pZ k l js=some j->(∀q,q<js.length->js[q]? =some (i+q))->i<=j/\ l[j-i]? =some k
 | [],_,_,_,h,_=>by simp [pZ] at h
 |_::_,[],_,_,h,_=>by simp [pZ] at h
 |x::l,y::js,i,j,h,hj=>by
  simp only [pZ] at h;have hy:y=i:=by simpa using hj 0 j8
  split at h
  . rename_i e;cases h;subst hy;exact ⟨Nat.le_refl _,by simp [Nat.eq_of_beq_eq_true e]⟩
  . obtain ⟨h1,h2⟩:=aOg (i:=i+1) h (fun q hq=>by
     have:=hj (q+1) y7
     rw [List.getElem?_cons_succ] at this;rw [this];congr 1;omega)
    exact ⟨by omega,by rw [show j-i=(j-(i+1))+1 by omega,List.getElem?_cons_succ];exact h2⟩
def qO (js:List Nat):Prop:= ∀q,q<js.length->js[q]? =some q
theorem aBy {k j:Nat} {js ids:List Nat} (hj:qO js) (h:pZ k ids js=some j):ids[j]? =some k:=by simpa using (aOg (i:=0) h (by simpa [qO] using hj)).2
theorem aOh {js ids:List Nat} (hj:qO js): ∀{l r:List (Nat×Nat)},aFV js ids l=some r->aGk ids l r
 | [],r,h=>by cases h;trivial
 |(k,o)::l,r,h=>by
  simp only [aFV] at h;split at h
  . rename_i j r' h1 h2;cases h;exact ⟨⟨aBy hj h1,rfl⟩,aOh hj h2⟩
  . cases h
theorem wF {ids:List Nat} {nv:Nat} (x:aL):zO ids nv x .top:=by cases x<;>trivial
theorem aRi {js:List Nat} (hj:qO js) (ids:List Nat) (x:aL):zO ids 0 x (nR js ids x):=by
 cases x with
 |own k off=>simp only [nR];split;exact ⟨aBy hj ‹_›,rfl⟩;exact wF _
 |osl k sz o len=>simp only [nR];split;exact ⟨aBy hj ‹_›,rfl,rfl,rfl⟩;exact wF _
 |ep k sz i off=>simp only [nR];split;exact ⟨aBy hj ‹_›,rfl,rfl,rfl⟩;exact wF _
 |fn f aq=>simp only [nR];split;exact ⟨rfl,aOh hj ‹_›⟩;exact wF _
 |mp k=>simp only [nR];split;exact aBy hj ‹_›;exact wF _
 |fb f k off=>simp only [nR];split;exact ⟨aBy hj ‹_›,rfl,rfl⟩;exact wF _
 |osc=>exact wF _
 |ap=>exact wF _
 |top=>trivial
 |und=>trivial
 |kb b=>exact rfl
 |d x=>cases x<;>simp [nR,zO,tJ]
 |rp cs=>exact rfl
 |fv g=>exact rfl
theorem aJs {js:List Nat} (hj:qO js) (ids:List Nat): ∀(xs:List aL),aDv ids 0 xs (xs.map (nR js ids))
 | []=>trivial
 |x::xs=>⟨aRi hj ids x,aJs hj ids xs⟩
theorem aP5 {js:List Nat} (hj:qO js) (ids:List Nat) (x:Va):aAu ids 0 x (aBX js ids x):=by
 cases x with
 |c x=>
  have h:=aRi hj ids x
  show aAu ids 0 (.c x) (.c (nR js ids x))
  cases hx:nR js ids x<;>rw [hx] at h<;>first|trivial
 |agg xs=>exact aJs hj ids xs
theorem bAw {js:List Nat} (hj:qO js) (ids:List Nat) (x:Tm):vN ids 0 x (aTU js ids x):=by
 cases x with
 |va x=>
  have h:=aP5 hj ids x
  show vN ids 0 (.va x) (.va (aBX js ids x))
  cases hx:aBX js ids x with
  |c y=>rw [hx] at h;cases y<;>first|trivial
  |agg ys=>rw [hx] at h;exact h
 |tup xs=>trivial
theorem aP6 {js:List Nat} (hj:qO js) (ids:List Nat) (ts:List (Nat×Tm)): ∀(l:List Nat),aGm ids 0 ts (xL js ids ts l)
 | []=>trivial
 |t::l=>⟨bAw hj ids _,aP6 hj ids ts l⟩
theorem aP7 {js:List Nat} (hj:qO js) (ids:List Nat): ∀(es:List (List Value×Va)),aGl ids 0 es (es.map fun p=>(p.1,aBX js ids p.2))
 | []=>trivial
 |_::es=>⟨⟨rfl,aP5 hj ids _⟩,aP7 hj ids es⟩
theorem bAx {js:List Nat} (hj:qO js) (ids:List Nat) (b:aB):aAb ids 0 b (aTV js ids b):=by
 cases b with
 |cells cs=>exact aJs hj ids cs
 |row=>exact ⟨rfl,rfl,fun _ _=>rfl⟩
 |fz=>exact rfl
 |fzr=>exact ⟨rfl,rfl,fun _ _=>rfl⟩
 |it=>exact ⟨rfl,rfl⟩
 |map es bc=>exact ⟨rfl,aP7 hj ids es⟩
 |gone=>trivial
theorem aP8 {js:List Nat} (hj:qO js) (ids:List Nat) (h:List (Nat×aB)): ∀(l l':List Nat) (j:Nat),(∀i,l[i]? =ids[j+i]?)->(∀q,q<l'.length->l'[q]? =some (j+q))->zP ids 0 h (aAi js ids h l l')
 | [],_,_,_,_=>trivial
 |_::_,[],_,_,_=>trivial
 |k::l,y::l',j,hl,hq=>by
  have h0:=hl 0
  simp only [List.getElem?_cons_zero,Nat.add_zero] at h0;have hy:y=j:=by simpa using hq 0 j8
  subst hy;refine ⟨?_,aP8 hj ids h l l' (y+1) (fun i=> ?_) (fun q Hc=> ?_)⟩
  . rw [<-h0];exact bAx hj ids _
  . have:=hl (i+1)
    rw [List.getElem?_cons_succ] at this;rw [this];congr 1;omega
  . have:=hq (q+1) y7
    rw [List.getElem?_cons_succ] at this;rw [this];congr 1;omega
def fmC (ρ:Nat->Nat):aL->aL
 | .own k off=> .own (ρ k) off
 | .osl k sz o len=> .osl (ρ k) sz o len
 | .osc k sz o len c=> .osc (ρ k) sz o len c
 | .ep k sz i off=> .ep (ρ k) sz i off
 | .ap k b n i=> .ap (ρ k) b n i
 | .fn f aq=> .fn f (aq.map fun p=>(ρ p.1,p.2))
 | .mp k=> .mp (ρ k)
 | .fb f k off=> .fb f (ρ k) off
 |c=>c
def aCs (ρ:Nat->Nat):Va->Va
 | .c x=> .c (fmC ρ x)
 | .agg cs=> .agg (cs.map (fmC ρ))
def yF (ρ:Nat->Nat):Tm->Tm
 | .va x=> .va (aCs ρ x)
 | .tup xs=> .tup (xs.map (aCs ρ))
def tR (ρ:Nat->Nat):aB->aB
 | .cells cs=> .cells (cs.map (fmC ρ))
 | .map es bc=> .map (es.map fun p=>(p.1,aCs ρ p.2)) bc
 |b=>b
def jD (ids:List Nat) (b n j:Nat):Nat:=match Nat.blt j b with
 |true=>ids.getD j 0
 |false=>n+(j-b)
def qA (ρ:Nat->Nat) (h1:List (Nat×aB)) (ids:List Nat) (h:List (Nat×aB)):List (Nat×aB):=h1.map (fun p=>(ρ p.1,tR ρ p.2))++(ids.map (fun k=>(k,aB.gone))++h)
def aBY (ids:List Nat) (nv:Nat):List Va->List Va->Prop
 | [],[]=>True
 |x::xs,y::ys=>aAu ids nv x y/\ aBY ids nv xs ys
 |_,_=>False
def bDs:aB->Bool
 | .cells _=>true
 | .row _ _ _=>true
 | .it _ _=>true
 | .map _ _=>true
 |_=>false
def aAj:aB->Bool
 | .fz _=>true
 | .fzr _ _ _=>true
 |b=>bDs b
theorem aKj {ρ:Nat->Nat} {b:aB} (h:(tR ρ b).live):b.live:=by cases b<;>exact h
section
variable {P:Program} {ψ fm az:aJ} {S S':Nat→Prop} {w w':World} {ρ:Nat→Nat}
theorem aIS {ids:List Nat} {nv:Nat}: ∀{xs ys:List Va} {vs:List Value},aBY ids nv xs ys->aG (bB P ψ S w) xs vs->aG (bB P (gE ψ ids nv) S w) ys vs
 | [],[],[],_,_=>trivial
 | [],[],_::_,_,h=>h.elim
 | [],_::_,_,h,_=>h.elim
 |_::_,[],_,h,_=>h.elim
 |_::_,_::_,[],_,h=>h.elim
 |_::_,_::_,_::_,⟨h1,h2⟩,⟨g1,g2⟩=>⟨aJi h1 g1,aIS h2 g2⟩
theorem aKk (gg: ∀j l,fm j=some l->az (ρ j)=some l) {c:aL} {x:Value} (h:kI P fm S w c x):kI P az S w (fmC ρ c) x:=by
 cases c with
 |own k off=>obtain ⟨b,m,h1,h2⟩:=h;exact ⟨b,m,gg _ _ h1,h2⟩
 |osl k sz o len=>
  rcases h with ⟨h1,h2⟩|⟨b,m,c,off,h1,h2⟩
  . exact .inl ⟨gg _ _ h1,h2⟩
  . exact .inr ⟨b,m,c,off,gg _ _ h1,h2⟩
 |osc k sz o len c=>
  rcases h with ⟨h1,h2⟩|⟨b,m,off,h1,h2⟩
  . exact .inl ⟨gg _ _ h1,h2⟩
  . exact .inr ⟨b,m,off,gg _ _ h1,h2⟩
 |ep k sz i off=>obtain ⟨b,m,h1,h2⟩:=h;exact ⟨b,m,gg _ _ h1,h2⟩
 |ap k base n i=>obtain ⟨b,m,h1,h2⟩:=h;exact ⟨b,m,gg _ _ h1,h2⟩
 |mp k=>obtain ⟨b,m,h1,h2⟩:=h;exact ⟨b,m,gg _ _ h1,h2⟩
 |fb f k off=>obtain ⟨b,m,h1,h2⟩:=h;exact ⟨b,m,gg _ _ h1,h2⟩
 |fn f aq=>
  obtain ⟨vs,h1,h2⟩:=h
  exact ⟨vs,h1,aG.map_left (fun p:Nat×Nat=>(ρ p.1,p.2)) (fun p y ⟨b,m,a,c⟩=>⟨b,m,gg _ _ a,c⟩) h2⟩
 |top=>exact h
 |und=>exact h
 |kb b=>exact h
 |d y=>exact h
 |rp cs=>exact h
 |fv g=>exact h
theorem aJt (gg: ∀j l,fm j=some l->az (ρ j)=some l) {c:Va} {x:Value} (h:bB P fm S w c x):bB P az S w (aCs ρ c) x:=by
 cases c with
 |c x=>exact aKk gg h
 |agg cs=>obtain ⟨arr,h1,h2⟩:=h;exact ⟨arr,h1,aG.map_left (fmC ρ) (fun c y g=>⟨aKk gg g.1,g.2⟩) h2⟩
theorem aRj (gg: ∀j l,fm j=some l->az (ρ j)=some l) {c:Tm} {x:Value} (h:dL P fm S w c x):dL P az S w (yF ρ c) x:=by
 cases c with
 |va x=>exact aJt gg h
 |tup cs=>obtain ⟨arr,h1,h2⟩:=h;exact ⟨arr,h1,aG.map_left (aCs ρ) (fun c y g=>aJt gg g) h2⟩
theorem bAy (gg: ∀j l,fm j=some l->az (ρ j)=some l) {b:aB} {l:Loc} (h:fE P fm S w b l):fE P az S w (tR ρ b) l:=by
 cases b with
 |cells cs=>
  cases l with
  |virt=>exact h.elim
  | «at» b m=>obtain ⟨arr,e,h1,h2⟩:=h;exact ⟨arr,e,h1,aG.map_left (fmC ρ) (fun c y g=>⟨aKk gg g.1,g.2⟩) h2⟩
 |row sz n f=>cases l<;>exact h
 |fz cs=>cases l<;>exact h
 |fzr sz n f=>cases l<;>exact h
 |it s p=>cases l<;>exact h
 |map es bc=>
  cases l with
  |virt=>exact h.elim
  | «at» b m=>obtain ⟨arr,c,h1,h0,h2⟩:=h;exact ⟨arr,c,h1,h0,aG.map_left (fun p:List Value×Va=>(p.1,aCs ρ p.2)) (fun p e g=>⟨g.1,aJt gg g.2⟩) h2⟩
 |gone=>cases l<;>trivial
theorem aO5 {k:Nat} {c:List (Nat×aB)}: ∀{a:List (Nat×aB)},(a.any fun p=>Nat.beq p.1 k)=true->aF (a++c) k=aF a k
 | [],h=>by cases h
 |(i,b)::a,h=>by
  simp only [List.cons_append,aF];cases hb:Nat.beq i k with
  |true=>rfl
  |false=>
   simp only [List.any_cons,hb,Bool.false_or] at h;exact aO5 h
theorem aIs {k:Nat} {c:List (Nat×aB)}: ∀{a:List (Nat×aB)},(a.any fun p=>Nat.beq p.1 k)=false->aF (a++c) k=aF c k
 | [],_=>rfl
 |(i,b)::a,h=>by
  simp only [List.any_cons,Bool.or_eq_false_iff] at h;simp only [List.cons_append,aF,h.1];exact aIs h.2
theorem aP9 (hi: ∀i j,ρ i=ρ j->i=j) (j:Nat): ∀{a:List (Nat×aB)},aF (a.map fun p=>(ρ p.1,tR ρ p.2)) (ρ j)=tR ρ (aF a j)
 | []=>rfl
 |(i,b)::a=>by
  simp only [List.map_cons,aF];cases hb:Nat.beq i j with
  |true=>have:=Nat.eq_of_beq_eq_true hb;subst this;rw [Nat.beq_refl]
  |false=>
   have:Nat.beq (ρ i) (ρ j)=false:=by
    cases h2:Nat.beq (ρ i) (ρ j) with
    |false=>rfl
    |true=>have:=hi i j (Nat.eq_of_beq_eq_true h2);subst this;rw [Nat.beq_refl] at hb;cases hb
   rw [this];exact aP9 hi j
theorem aLj {k:Nat}: ∀{a:List (Nat×aB)},((a.map fun p=>(ρ p.1,tR ρ p.2)).any fun p=>Nat.beq p.1 k)=true-> ∃j,k=ρ j
 | [],h=>by cases h
 |(i,b)::a,h=>by
  simp only [List.map_cons,List.any_cons,Bool.or_eq_true] at h;rcases h with h|h
  . exact ⟨i,(Nat.eq_of_beq_eq_true h).symm⟩
  . exact aLj h
theorem aCT {k:Nat} {h:List (Nat×aB)}: ∀{ids:List Nat},k∈ids->aF (ids.map (fun k=>(k,aB.gone))++h) k= .gone
 | [],h=>by cases h
 |i::ids,hk=>by
  simp only [List.map_cons,List.cons_append,aF];cases hb:Nat.beq i k with
  |true=>rfl
  |false=>
   rcases List.mem_cons.1 hk with e|e
   . subst e;rw [Nat.beq_refl] at hb;cases hb
   . exact aCT e
theorem aAP {k:Nat} {h:List (Nat×aB)}: ∀{ids:List Nat},k∉ids->aF (ids.map (fun k=>(k,aB.gone))++h) k=aF h k
 | [],_=>rfl
 |i::ids,hk=>by
  rw [List.mem_cons,not_or] at hk;simp only [List.map_cons,List.cons_append,aF];cases hb:Nat.beq i k with
  |true=>exact absurd (Nat.eq_of_beq_eq_true hb).symm hk.1
  |false=>exact aAP hk.2
end
theorem aOi {P:Program} {base b n m nv l1 og:Nat} {ids:List Nat} {ts l7:List (Nat×Tm)} {h jn:List (Nat×aB)} {ψ fm:aJ} {S S':Nat->Prop} {w w':World} {a a1:Act} (a6:aC P base ψ S w ⟨ts,h,n,m⟩ a)
 (hi:gJ 0 ids=true) (hb:b<=ids.length) (hid:lW h n=true) (hlt:(ids.all fun k=>Nat.blt k n)=true) (bf:(ids.all fun k=>aAj (aF h k))=true)
 (cg:aC P b fm S' w' ⟨l7,jn,og,l1⟩ a1) (he:aI b (gE ψ ids nv) S w fm S' w'):
 ∃az,iV P az S' w' (qA (jD ids b n) jn ids h) (n+(og-b))/\ cH ψ az/\ (∀j l,fm j=some l->az (jD ids b n j)=some l)/\ aI base ψ S w az S' w':=by
 obtain ⟨_,_,i3⟩:=aOb hi
 have A2: ∀k l,ψ k=some l->k<n:=fun k l hk=>by
  rcases Nat.lt_or_ge k n with h1|h1
  . exact h1
  . have:=a6.sim.dom k h1
    rw [hk] at this;cases this
 have E0: ∀k,k∈ids->k<n:=fun k hk=>by have:=List.all_eq_true.1 hlt k hk;simpa [Nat.blt_eq] using this
 have qk: ∀k,k∈ids-> ∀b0 m0,ψ k=some (.at b0 m0)->(aF h k).live \/S b0:=fun k hk b0 m0 e=>by
  have h0:=List.all_eq_true.1 bf k hk
  have il:=a6.sim.blk k _ e
  simp only at il
  cases hq:aF h k with
  |gone=>rw [hq] at h0;cases h0
  |fz cs=>rw [hq] at il;exact .inr il.1
  |fzr sz n f=>rw [hq] at il;exact .inr il.1
  |_=>exact .inl trivial
 obtain ⟨ρ,gg⟩: ∃ρ,ρ=jD ids b n:=⟨_,rfl⟩
 have r1: ∀j,j<b->ids[j]? =some (ρ j):=fun j hj=>by
  have h2:Nat.blt j b=true:=by rw [Nat.blt_eq];exact hj
  rw [gg];unfold jD;rw [h2,List.getD_eq_getElem?_getD,List.getElem?_eq_getElem j3];rfl
 have r2: ∀j,b<=j->ρ j=n+(j-b):=fun j hj=>by
  have h2:Nat.blt j b=false:=by
   cases hq:Nat.blt j b with
   |false=>rfl
   |true=>rw [Nat.blt_eq] at hq;omega
  rw [gg];unfold jD;rw [h2]
 have r3: ∀j,j<b->ρ j<n:=fun j hj=>E0 _ (List.mem_of_getElem? (r1 j hj))
 have E1: ∀i j,ρ i=ρ j->i=j:=fun i j e=>by
  rcases Nat.lt_or_ge i b with h1|h1
  . rcases Nat.lt_or_ge j b with h2|h2
    . exact i3 i j _ (r1 i h1) (e▸r1 j h2)
    . have:=r3 i h1;have:=r2 j h2;omega
  . rcases Nat.lt_or_ge j b with h2|h2
    . have:=r3 j h2;have:=r2 i h1;omega
    . have:=r2 i h1;have:=r2 j h2;omega
 obtain ⟨az,Br⟩: ∃az:aJ,az=fun k=>if k<n then ψ k else fm (b+(k-n)):=⟨_,rfl⟩
 have p1: ∀k,k<n->az k=ψ k:=fun k hk=>by rw [Br];exact if_pos hk
 have p2: ∀k,n<=k->az k=fm (b+(k-n)):=fun k hk=>by rw [Br];exact if_neg j3
 have xw: ∀j,az (ρ j)=fm j:=fun j=>by
  rcases Nat.lt_or_ge j b with h1|h1
  . rw [p1 _ (r3 j h1),he.agr j h1,tY (r1 j h1)]
  . rw [r2 j h1,p2 _ j3];congr 1;omega
 have sub:cH ψ az:=fun k l hk=>by rw [p1 k (A2 k l hk)];exact hk
 have A7: ∀j l,fm j=some l->az (ρ j)=some l:=fun j l hj=>by rw [xw];exact hj
 have xe: ∀k1 b0 m0,gE ψ ids nv k1=some (.at b0 m0)-> ∃k2,ids[k1]? =some k2/\ ψ k2=some (.at b0 m0):=fun k1 b0 m0 hk=>by
  unfold gE at hk;split at hk
  . rename_i k2 e;exact ⟨k2,e,hk⟩
  . split at hk<;>cases hk
 have alias: ∀k b0 m0,k∉ids->ψ k=some (.at b0 m0)->(aF h k).live-> ∀k1 m1,gE ψ ids nv k1≠some (.at b0 m1):=fun k b0 m0 hn hk hl k1 m1 h1=>by
  obtain ⟨k2,e,h2⟩:=xe _ _ _ h1
  have hm:=List.mem_of_getElem? e
  rcases qk _ hm _ _ h2 with g|g
  . have:=a6.sim.inj k k2 b0 m0 m1 hk h2 hl g
    exact hn (this▸hm)
  . exact a6.sim.dis k b0 m0 hk hl g
 have cls: ∀k,(∃j,k=ρ j/\ aF (qA ρ jn ids h) k=tR ρ (aF jn j)) \/aF (qA ρ jn ids h) k= .gone \/(k<n/\ k∉ids/\ aF (qA ρ jn ids h) k=aF h k):=fun k=>by
  unfold qA;cases ha:((jn.map fun p=>(ρ p.1,tR ρ p.2)).any fun p=>Nat.beq p.1 k) with
  |true=>
   obtain ⟨j,rfl⟩:=aLj ha
   exact .inl ⟨j,rfl,by rw [aO5 ha,aP9 E1]⟩
  |false=>
   rw [aIs ha];by_cases hm:k∈ids
   . exact .inr (.inl (aCT hm))
   . rw [aAP hm];rcases Nat.lt_or_ge k n with h1|h1
     . exact .inr (.inr ⟨h1,hm,rfl⟩)
     . exact .inr (.inl (aHW hid h1))
 have keep: ∀k b0 m0,k∉ids->ψ k=some (.at b0 m0)->(aF h k).live->w'.heap[b0]? =w.heap[b0]? :=fun k b0 m0 hn hk hl=>he.old b0 (a6.sim.pdom k b0 m0 hk) (alias k b0 m0 hn hk hl)
 have uj:iV P az S' w' (qA ρ jn ids h) (n+(og-b)):=by
  refine ⟨fun k hk=> ?_,fun k l hk=> ?_,fun k k' b0 m0 m1 e1 e2 l1 l2=> ?_,fun k b0 m0 e1 l1=> ?_,fun k b0 m0 e1=> ?_,cg.sim.sdom⟩
  . rw [p2 k j3];exact cg.sim.dom _ (by show og<=_;omega)
  . rcases cls k with ⟨j,rfl,g⟩|g|⟨g1,g2,g⟩
    . rw [g];rw [xw] at hk
      exact bAy A7 (cg.sim.blk j l hk)
    . rw [g];cases l<;>trivial
    . rw [g];rw [p1 k g1] at hk
      have il:=a6.sim.blk k l hk
      cases fw:aF h k with
      |gone=>cases l<;>trivial
      |cells cs=>rw [fw] at il;exact il.later sub he.later fun b0 m0 e=>by subst e;exact keep k b0 m0 g2 hk j2e
      |row sz n f=>rw [fw] at il;exact il.later sub he.later fun b0 m0 e=>by subst e;exact keep k b0 m0 g2 hk j2e
      |it s p=>rw [fw] at il;exact il.later sub he.later fun b0 m0 e=>by subst e;exact keep k b0 m0 g2 hk j2e
      |map es bc=>rw [fw] at il;exact il.later sub he.later fun b0 m0 e=>by subst e;exact keep k b0 m0 g2 hk j2e
      |fz cs=>rw [fw] at il;exact il.later sub he.later fun b0 m0 e=>by subst e;exact he.later.2 _ il.1
      |fzr sz n f=>rw [fw] at il;exact il.later sub he.later fun b0 m0 e=>by subst e;exact he.later.2 _ il.1
  . rcases cls k with ⟨j,rfl,g⟩|g|⟨g1,g2,g⟩
    . rw [g] at l1;rw [xw] at e1
      rcases cls k' with ⟨j',rfl,g'⟩|g'|⟨A0,xh,g'⟩
      . rw [g'] at l2;rw [xw] at e2
        rw [cg.sim.inj j j' b0 m0 m1 e1 e2 (aKj l1) (aKj l2)]
      . rw [g'] at l2;exact l2.elim
      . rw [g'] at l2;rw [p1 _ A0] at e2
        rcases he.newP j b0 m0 e1 with ⟨k1,m2,h2⟩|h2
        . exact absurd h2 (alias k' b0 m1 xh e2 l2 k1 m2)
        . have:=a6.sim.pdom k' b0 m1 e2;omega
    . rw [g] at l1;exact l1.elim
    . rw [g] at l1;rw [p1 _ g1] at e1
      rcases cls k' with ⟨j',rfl,g'⟩|g'|⟨A0,xh,g'⟩
      . rw [xw] at e2;rcases he.newP j' b0 m1 e2 with ⟨k1,m2,h2⟩|h2
        . exact absurd h2 (alias k b0 m0 g2 e1 l1 k1 m2)
        . have:=a6.sim.pdom k b0 m0 e1;omega
      . rw [g'] at l2;exact l2.elim
      . rw [g'] at l2;rw [p1 _ A0] at e2
        exact a6.sim.inj k k' b0 m0 m1 e1 e2 l1 l2
  . rcases cls k with ⟨j,rfl,g⟩|g|⟨g1,g2,g⟩
    . rw [g] at l1;rw [xw] at e1
      exact cg.sim.dis j b0 m0 e1 (aKj l1)
    . rw [g] at l1;exact l1.elim
    . rw [g] at l1;rw [p1 _ g1] at e1
      intro hS;rcases he.newS b0 hS with h2|⟨k1,m2,h2⟩|h2
      . exact a6.sim.dis k b0 m0 e1 l1 h2
      . exact alias k b0 m0 g2 e1 l1 k1 m2 h2
      . have:=a6.sim.pdom k b0 m0 e1;omega
  . rcases Nat.lt_or_ge k n with h2|h2
    . rw [p1 k h2] at e1;exact Nat.lt_of_lt_of_le (a6.sim.pdom k b0 m0 e1) he.grow
    . rw [p2 k h2] at e1;exact cg.sim.pdom _ b0 m0 e1
 rw [gg] at uj A7;refine ⟨az,uj,sub,A7, ?_⟩
 refine ⟨he.os,he.tape,he.output,he.grow,fun b0 l5 hn=>he.old b0 l5 fun k m0 h2=> ?_,he.later,fun b0 hS=> ?_,fun k b0 m0 h2=> ?_,fun k hk=>p1 k (Nat.lt_of_lt_of_le hk a6.bas)⟩
 . obtain ⟨k2,_,h3⟩:=xe _ _ _ h2
   exact hn k2 m0 h3
 . rcases he.newS b0 hS with h2|⟨k1,m2,h2⟩|h2
   . exact .inl h2
   . obtain ⟨k2,_,h3⟩:=xe _ _ _ h2
     exact .inr (.inl ⟨k2,m2,h3⟩)
   . exact .inr (.inr h2)
 . rcases Nat.lt_or_ge k n with h3|h3
   . rw [p1 k h3] at h2;exact .inl ⟨k,m0,h2⟩
   . rw [p2 k h3] at h2;rcases he.newP _ b0 m0 h2 with ⟨k1,m2,h4⟩|h4
     . obtain ⟨k2,_,h5⟩:=xe _ _ _ h4
       exact .inl ⟨k2,m2,h5⟩
     . exact .inr h4
theorem bM.frame {P:Program} {base f b n m nv:Nat} {bk jm:List Va} (ids:List Nat) {ts:List (Nat×Tm)} {h h1:List (Nat×aB)} {K K1:Tm->St->Prop}
 (hi:gJ 0 ids=true) (hh:zP ids nv h h1) (hv:aBY ids nv bk jm) (hb:Nat.ble b ids.length=true) (hid:lW h n=true) (hlt:(ids.all fun k=>Nat.blt k n)=true) (bf:(ids.all fun k=>aAj (aF h k))=true)
 (hk:bM P b f jm ⟨[],h1,ids.length+nv,0⟩ K1)
 (hK: ∀r l7 jn og l1,K1 r ⟨l7,jn,og,l1⟩->K (yF (jD ids b n) r) ⟨ts,qA (jD ids b n) jn ids h,n+(og-b),m⟩):bM P base f bk ⟨ts,h,n,m⟩ K:=by
 refine ⟨fun ψ S w a ak a6 cr=> ?_⟩
 have hb:=Nat.le_of_ble_eq_true hb
 have wh:aC P 0 ψ S w ⟨[],h,n,0⟩ {tmps:= #[],defers:= []}:=⟨Nat.zero_le _,a6.sim,rfl,rfl,fun t=>trivial⟩
 have hle:mL 0 ids nv ⟨[],h,n,0⟩ ⟨[],h1,ids.length+nv,0⟩:=⟨rfl,rfl,hi,trivial,hh⟩
 obtain ⟨du,_⟩:=aC.le hle wh
 have A8:aC P b (gE ψ ids nv) S w ⟨[],h1,ids.length+nv,0⟩ {tmps:= #[],defers:= []}:=⟨by show b<=ids.length+nv;omega,du.sim,du.lim,du.defers,du.tmps⟩
 refine (hk.run _ S w _ ak A8 (aIS hv cr)).mono ?_
 rintro e w' ⟨r,⟨l7,jn,og,l1⟩,v,fm,S',rfl,C6,cg,rl,he⟩
 obtain ⟨az,q1,q2,q3,q4⟩:=aOi a6 hi hb hid hlt bf cg he
 exact ⟨yF _ r,⟨ts,_,_,m⟩,v,az,S',rfl,hK _ _ _ _ _ C6,⟨Nat.le_trans a6.bas (Nat.le_add_right _ _),q1,a6.lim,a6.defers,fun t=>(a6.tmps t).later q2 he.later⟩,aRj q3 rl,q4⟩
end Go.Sx
