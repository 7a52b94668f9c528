/- What the layer of envs computes: what is found. No condition. -/
import Derived.Test.YtiblbnhknemloaaGreatG8
set_option linter.all false
set_option maxHeartbeats 8000000
set_option maxRecDepth 100000
namespace Go.Proofs.YtiblbnhknemloaaGreat
open Tryz
open Go.Sx
theorem aGA: ∀(x y:List UInt8),(bR x y=0)↔x=y
 | [],[]=>by simp [bR,Lib.compareBytes]
 | [],_::_=>by simp [bR,Lib.compareBytes]
 |_::_,[]=>by simp [bR,Lib.compareBytes]
 |a::x,b::y=>by
  have ih:=aGA x y
  unfold bR at ih⊢
  rw [Lib.compareBytes];split
  . rename_i h
    constructor
    . intro h;omega
    . intro h;cases h;exact absurd h (UInt8.lt_irrefl _)
  . split
    . rename_i h
      constructor
      . intro h;omega
      . intro h;cases h;exact absurd h (UInt8.lt_irrefl _)
    . rename_i h1 h2
      have:a=b:=UInt8.le_antisymm (UInt8.not_lt.1 h2) (UInt8.not_lt.1 h1)
      subst this;rw [ih];simp
theorem aKt (L:List Bd):aD (aM L) 0 L.length=L:=by
 apply List.ext_getElem
 . rw [dD];omega
 . intro i h1 h2;have:=aFo (g:=aM L) (a:=0) (b:=L.length) (k:=i) j3
   rw [List.getD_eq_getElem?_getD,List.getElem?_eq_getElem h1,Nat.zero_add] at this;unfold aM at this;rw [List.getD_eq_getElem?_getD,List.getElem?_eq_getElem h2] at this;exact this
def cF (L:List Bd) (s:ByteArray):Nat:=L.countP fun b=>aQ b ⟨s,Vl.zero⟩
def iE (L:List Bd) (s:ByteArray):Bool:=decide (cF L s<L.length)&&(bR (aM L (cF L s)).name.data.toList s.data.toList==0)
theorem aSu {L:List Bd} {s:ByteArray} {i:Nat} (hi:i<=L.length) (h1: ∀k,k<i->aQ (aM L k) ⟨s,Vl.zero⟩=true) (h2: ∀k,i<=k->k<L.length->aQ (aM L k) ⟨s,Vl.zero⟩=false):cF L s=i:=by
 unfold cF
 conv=>lhs;rw [<-aKt L,uH (aM L) (Nat.zero_le i) hi,List.countP_append]
 rw [List.countP_eq_length.2,List.countP_eq_zero.2,dD]
 . omega
 . intro x hx;obtain ⟨k,k1,k2,rfl⟩:=sS.1 hx
   rw [h2 k k1 k2];exact Bool.false_ne_true
 . intro x hx;obtain ⟨k,k1,k2,rfl⟩:=sS.1 hx
   exact h1 k k2
def aBC:List Ar->Option Rs
 | [.agg [.d (.v (.string x0)),.d (.v (.bool _)),.d (.v (.int .i64 _)),.d (.v (.int .i64 _)),.d (.v (.bool _)),.d (.v (.int .i64 _)),.d (.v (.int .i64 _)),.d (.v (.bool _)),.d (.lst 1 _ _)],.c (.d (.v (.string x1)))]=>some ⟨True,.va (.c (.d (it (bR x0.data.toList x1.data.toList)))),[]⟩
 |_=>none
theorem aKu:FC prog 87 aBC:=by
 intro xs pre r us h hp;unfold aBC at h;split at h
 . rename_i x0 s0 l0 h0 b0 m0 r0 z0 n0 f0 x1
   cases h;refine aE aA (l:= [(75,⟨[],aDD⟩)]) ⟨aJw,trivial⟩ func87 rfl j4 false ?_
   repeat' (first|exact trivial|refine ⟨?_,?_⟩|intro _)
   all_goals first|(conv=>whnf)
   all_goals grind
 . cases h
abbrev aG6:List Cv->Option Gs:=nO (cJ [(87,⟨[],aBC⟩)]) 87 []
def aJy:List Ar->Option Rs
 | [.c (.d (.lst 9 n0 f0)),.c (.d (.v (.string x1))),.fv g2]=>some ⟨(n0<=1099511627776/\ dN n0 f0)/\ (cK aQ (aH n0 f0)/\ g2=aG6),.tup [.c (.d (it (cF (aH n0 f0) x1:Nat))),.c (.d (bo (iE (aH n0 f0) x1)))],[]⟩
 |_=>none
theorem aWY:FC prog 86 aJy:=by
 intro xs pre r us h hp;unfold aJy at h;split at h
 . rename_i n0 f0 x1 g2
   cases h;obtain ⟨a7,a8⟩:=hp
   refine aU.deep (ys:= [.c (.d (.lst 9 n0 (aW (aH n0 f0)))),.c (.d (.v (.string x1))),.fv g2]) ?_ ?_
   . repeat' (first|exact j3z|refine ⟨?_,?_⟩|fail)
     all_goals first|exact gY a7.2.h
   refine aE aA (l:= []) trivial func86 rfl j4 false ?_
   obtain ⟨hs,rfl⟩:=a8
   have hn:=a7.1
   have hlen:=eD n0 f0
   generalize aH n0 f0=L at*
   clear a7;subst hlen;rw [<-aKt L] at hs;have Al: ∀k,aQ (aM L k) ⟨x1,Vl.zero⟩=decide (bR (aM L k).name.data.toList x1.data.toList<0):=fun _=>rfl
   generalize hp:(fun k=>aQ (aM L k) ⟨x1,Vl.zero⟩)=p
   have Bx: ∀k,p k=decide (bR (aM L k).name.data.toList x1.data.toList<0):=fun k=>by rw [<-hp];rfl
   have hm: ∀k q,k<=q->q<L.length->p q=true->p k=true:=fun k q h1 h2 h3=>by
    rw [<-hp] at h3⊢;exact cN.lt1 (jA cN hs (Nat.zero_le _) h1 h2) h3
   have lu: ∀k q,q<=k->k<L.length->p q=false->p k=false:=fun k q h1 h2 h3=>by
    rw [<-hp] at h3⊢;exact cN.le1 (jA cN hs (Nat.zero_le _) h1 h2) h3
   have nf: ∀i,i<=L.length->(∀k,k<i->p k=true)->(∀k,i<=k->k<L.length->p k=false)->cF L x1=i:=fun i h1 h2 h3=>by
    rw [<-hp] at h2 h3;exact aSu h1 h2 h3
   clear hp Al
   repeat' (fail)
   all_goals first|(conv=>whnf)
   refine dM aA (l:= []) trivial j4 (X:=Nat×Nat)
    (fun x=>⟨[(9,vx (.int .i64 x.1)),(10,vx (.int .i64 x.2)),(0,.va (.c (.d (.lst 9 L.length (aW L))))),(1,vx (.string x1)),(2,.va (.c (.fv aG6))),(8,vx (.int .i64 L.length))],[],0,49⟩)
    (fun x=>x.2-x.1) (fun x=>x.1<=x.2/\ x.2<=L.length/\ (∀k,k<x.1->p k=true)/\ (∀k,x.2<=k->k<L.length->p k=false)) [] []
    (fun x _ _=>if p ((x.1+x.2)/2)=true then ((x.1+x.2)/2+1,x.2) else (x.1,(x.1+x.2)/2)) [] [] 0 0 (0,L.length) ?_ ?_ ?_
   . exact ⟨Nat.zero_le _,Nat.le_refl _,fun k h=>absurd h (Nat.not_lt_zero k),fun k h1 h2=>absurd h1 (Nat.not_le_of_lt h2)⟩
   . repeat' (first|exact j2w|refine ⟨?_,?_⟩|fail)
   . rintro ⟨i,j⟩ ⟨k2,k3,k4,k5⟩
     dsimp only at k2 k3 k4 k5
     rcases Nat.lt_or_ge i j with cy|cy
     . have ag:decide ((i:Int)<(j:Int))=true:=decide_eq_true j3
       have hh:IntKind.wrap .i64 ((IntKind.wrap .u64 (IntKind.wrap .i64 ((i:Int)+(j:Int)))).fdiv (2^min (Int.toNat 1) (IntKind.bits .u64)))=(((i+j)/2:Nat):Int):=yJ j3
       have qx:i<=(i+j)/2:=j3
       have ji:(i+j)/2<j:=j3
       generalize hq:(i+j)/2=q at*
       cases hc:p q with
       |true=>
        (repeat' (first|exact trivial|refine ⟨?_,?_⟩|intro _));all_goals first|apply qq|conv=>whnf
        all_goals first|exact j2v|skip
        all_goals first|exact j4x|skip
        all_goals (try simp only [hh,hq,hc,if_true,Int.toNat_natCast,Nat.zero_add])
        all_goals first|exact j4w
       |false=>
        (repeat' (first|exact trivial|refine ⟨?_,?_⟩|intro _));all_goals first|apply qq|conv=>whnf
        all_goals first|exact j2v|skip
        all_goals first|exact j4z|skip
        all_goals (try simp only [hh,hq,hc,if_false,Bool.false_eq_true,Int.toNat_natCast,Nat.zero_add])
        all_goals first|exact j4b
     . have ag:decide ((i:Int)<(j:Int))=false:=decide_eq_false j3
       obtain rfl:i=j:=j3
       have hl:=nf i k3 k4 k5
       (repeat' (first|exact trivial|refine ⟨?_,?_⟩|intro _));all_goals first|apply qq|conv=>whnf
       all_goals first|exact j3d|skip
       all_goals (try dsimp only)
       all_goals (try simp only [Int.toNat_natCast,Nat.zero_add])
       all_goals (try unfold iE)
       all_goals (try rw [hl])
       all_goals first|exact j3m
 . cases h
def aE2:List Ar->Option Rs
 | [.c (.ow 9 n0 f0),.c (.d (.v (.string x1))),.fv g2]=>some ⟨(n0<=1099511627776/\ dN n0 f0)/\ (cK aQ (aH n0 f0)/\ g2=aG6),.tup [.c (.d (it (cF (aH n0 f0) x1:Nat))),.c (.d (bo (iE (aH n0 f0) x1)))],[some (aW (aH n0 f0))]⟩
 |_=>none
theorem aOj:FC prog 86 aE2:=by
 intro xs pre r us h hp;unfold aE2 at h;split at h
 . rename_i n0 f0 x1 g2
   cases h;obtain ⟨a7,a8⟩:=hp
   refine aU.deep (ys:= [.c (.ow 9 n0 (aW (aH n0 f0))),.c (.d (.v (.string x1))),.fv g2]) ?_ ?_
   . repeat' (first|exact j3z|refine ⟨?_,?_⟩|fail)
     all_goals first|first|exact (bAu a7.2.h).2.2
   refine aE aA (l:= []) trivial func86 rfl j4 false ?_
   obtain ⟨hs,rfl⟩:=a8
   have hn:=a7.1
   have hlen:=eD n0 f0
   generalize aH n0 f0=L at*
   clear a7;subst hlen;rw [<-aKt L] at hs;have Al: ∀k,aQ (aM L k) ⟨x1,Vl.zero⟩=decide (bR (aM L k).name.data.toList x1.data.toList<0):=fun _=>rfl
   generalize hp:(fun k=>aQ (aM L k) ⟨x1,Vl.zero⟩)=p
   have Bx: ∀k,p k=decide (bR (aM L k).name.data.toList x1.data.toList<0):=fun k=>by rw [<-hp];rfl
   have hm: ∀k q,k<=q->q<L.length->p q=true->p k=true:=fun k q h1 h2 h3=>by
    rw [<-hp] at h3⊢;exact cN.lt1 (jA cN hs (Nat.zero_le _) h1 h2) h3
   have lu: ∀k q,q<=k->k<L.length->p q=false->p k=false:=fun k q h1 h2 h3=>by
    rw [<-hp] at h3⊢;exact cN.le1 (jA cN hs (Nat.zero_le _) h1 h2) h3
   have nf: ∀i,i<=L.length->(∀k,k<i->p k=true)->(∀k,i<=k->k<L.length->p k=false)->cF L x1=i:=fun i h1 h2 h3=>by
    rw [<-hp] at h2 h3;exact aSu h1 h2 h3
   clear hp Al
   repeat' (fail)
   all_goals first|(conv=>whnf)
   refine dM aA (l:= []) trivial j4 (X:=Nat×Nat)
    (fun x=>⟨[(9,vx (.int .i64 x.1)),(10,vx (.int .i64 x.2)),(0,.va (.c (.osl 0 9 0 L.length))),(1,vx (.string x1)),(2,.va (.c (.fv aG6))),(8,vx (.int .i64 L.length))],[(0,.row 9 L.length (aW L))],1,49⟩)
    (fun x=>x.2-x.1) (fun x=>x.1<=x.2/\ x.2<=L.length/\ (∀k,k<x.1->p k=true)/\ (∀k,x.2<=k->k<L.length->p k=false)) [] []
    (fun x _ _=>if p ((x.1+x.2)/2)=true then ((x.1+x.2)/2+1,x.2) else (x.1,(x.1+x.2)/2)) [0] [0] 0 0 (0,L.length) ?_ ?_ ?_
   . exact ⟨Nat.zero_le _,Nat.le_refl _,fun k h=>absurd h (Nat.not_lt_zero k),fun k h1 h2=>absurd h1 (Nat.not_le_of_lt h2)⟩
   . repeat' (first|exact j2w|refine ⟨?_,?_⟩|fail)
   . rintro ⟨i,j⟩ ⟨k2,k3,k4,k5⟩
     dsimp only at k2 k3 k4 k5
     rcases Nat.lt_or_ge i j with cy|cy
     . have ag:decide ((i:Int)<(j:Int))=true:=decide_eq_true j3
       have hh:IntKind.wrap .i64 ((IntKind.wrap .u64 (IntKind.wrap .i64 ((i:Int)+(j:Int)))).fdiv (2^min (Int.toNat 1) (IntKind.bits .u64)))=(((i+j)/2:Nat):Int):=yJ j3
       have qx:i<=(i+j)/2:=j3
       have ji:(i+j)/2<j:=j3
       generalize hq:(i+j)/2=q at*
       cases hc:p q with
       |true=>
        (repeat' (first|exact trivial|refine ⟨?_,?_⟩|intro _));all_goals first|apply qq|conv=>whnf
        all_goals first|exact j2v|skip
        all_goals first|exact j4x|skip
        all_goals (try simp only [hh,hq,hc,if_true,Int.toNat_natCast,Nat.zero_add])
        all_goals first|exact j4w
       |false=>
        (repeat' (first|exact trivial|refine ⟨?_,?_⟩|intro _));all_goals first|apply qq|conv=>whnf
        all_goals first|exact j2v|skip
        all_goals first|exact j4z|skip
        all_goals (try simp only [hh,hq,hc,if_false,Bool.false_eq_true,Int.toNat_natCast,Nat.zero_add])
        all_goals first|exact j4b
     . have ag:decide ((i:Int)<(j:Int))=false:=decide_eq_false j3
       obtain rfl:i=j:=j3
       have hl:=nf i k3 k4 k5
       (repeat' (first|exact trivial|refine ⟨?_,?_⟩|intro _));all_goals first|apply qq|conv=>whnf
       all_goals first|exact j3d|skip
       all_goals (try dsimp only)
       all_goals (try simp only [Int.toNat_natCast,Nat.zero_add])
       all_goals (try unfold iE)
       all_goals (try rw [hl])
       all_goals first|exact j3m
 . cases h
def aLp:List Ar->Option Rs
 | [.agg [.d (.v (.bool _)),.d (.lst 9 n0 f0)],.c (.d (.v (.string x1)))]=>some ⟨(n0<=1099511627776/\ dN n0 f0)/\ (cK aQ (aH n0 f0)),.tup [.c (.d (it (cF (aH n0 f0) x1:Nat))),.c (.d (bo (iE (aH n0 f0) x1)))],[]⟩
 |_=>none
theorem bAE:FC prog 47 aLp:=by
 intro xs pre r us h hp;unfold aLp at h;split at h
 . rename_i e0 n0 f0 x1
   cases h;obtain ⟨a7,a8⟩:=hp
   refine aU.deep (ys:= [.agg [.d (.v (.bool e0)),.d (.lst 9 n0 (aW (aH n0 f0)))],.c (.d (.v (.string x1)))]) ?_ ?_
   . repeat' (first|exact j3s|refine ⟨?_,?_⟩|fail)
     all_goals first|exact gY a7.2.h
   refine aE aA (l:= [(86,⟨[],aJy⟩),(87,⟨[],aBC⟩)]) ⟨aWY,aKu,trivial⟩ func47 rfl j4 false ?_
   have hn:=a7.1
   have hL:=iD a7.2
   have hlen:=eD n0 f0
   generalize aH n0 f0=L at*
   clear a7;subst hlen;have b8:=dV hL
   have hb:=dJ L
   (repeat' (first|exact trivial|(with_reducible exact b8)|refine ⟨?_,?_⟩|intro _));all_goals first|apply qq|conv=>whnf
   all_goals (try simp only [hb])
   all_goals first|exact hn|exact a8|rfl
 . cases h
theorem aQL:aP []= []:=List.eq_nil_of_length_eq_zero (Nat.le_zero.1 (dF []))
namespace Vl
end Vl
theorem bCu {l:List Bd} (h:cK aQ l):cK aQ (dd l):=by
 have hA: ∀(r:List Bd) (p:Bd),cK aQ (p::r)->cK aQ (p::jV p r):=by
  intro r
  induction r with
  |nil=>intro p h;exact h
  |cons y r ih=>
   intro p h;have h1:=List.pairwise_cons.1 h
   have h2:=List.pairwise_cons.1 h1.2
   rw [jV];split
   . have:=List.pairwise_cons.1 (ih y h1.2)
     exact List.pairwise_cons.2 ⟨fun x hx=>h1.1 x (List.mem_cons_of_mem _ (aKr _ _ hx)),this.2⟩
   . have h3:=ih y h1.2
     refine List.pairwise_cons.2 ⟨fun x hx=> ?_,h3⟩
     rcases List.mem_cons.1 hx with rfl|hx
     . exact h1.1 _ List.mem_cons_self
     . exact h1.1 x (List.mem_cons_of_mem _ (aKr _ _ hx))
 cases l with
 |nil=>exact h
 |cons p r=>exact hA r p h
theorem bCv {l:List Bd} (h:cK aQ l):cK aQ (l.map fun b=>⟨b.name,b.v.of⟩):=by
 unfold cK;rw [List.pairwise_map];exact h
theorem aE3 (e:En):cK aQ e.clean.binds:=by
 unfold En.clean;split
 . exact bCv (bCu (zD cN _))
 . exact List.Pairwise.nil
theorem aDi {L:List Bd} {s:ByteArray} (h:iE L s=true):cF L s<L.length:=by
 unfold iE at h;rw [Bool.and_eq_true] at h;exact of_decide_eq_true h.1
namespace En
def get (e:En) (s:ByteArray):Vl:=if iE e.clean.binds s=true then (aM e.clean.binds (cF e.clean.binds s)).v else Vl.zero
end En
def aB1:List Ar->Option Rs
 | [.agg [.d (.v (.bool e0)),.d (.lst 9 n0 f0)],.c (.d (.v (.string x1)))]=>some ⟨(n0<=1099511627776/\ dN n0 f0),.va (Vl.ar (En.get (⟨e0,aH n0 f0⟩:En) x1)),[]⟩
 |_=>none
theorem aGB:FC prog 21 aB1:=by
 intro xs pre r us h hp;unfold aB1 at h;split at h
 . rename_i e0 n0 f0 x1
   cases h;have a7:=hp
   refine aU.deep (ys:= [.agg [.d (.v (.bool e0)),.d (.lst 9 n0 (aW (aH n0 f0)))],.c (.d (.v (.string x1)))]) ?_ ?_
   . repeat' (first|exact j3s|refine ⟨?_,?_⟩|fail)
     all_goals first|exact gY a7.2.h
   refine aE aA (l:= [(39,⟨[],aDE⟩),(47,⟨[],aLp⟩)]) ⟨aJx,bAE,trivial⟩ func21 rfl j4 true ?_
   have hn:=a7.1
   have hL:=iD a7.2
   have hlen:=eD n0 f0
   generalize aH n0 f0=L at*
   clear a7;subst hlen;have b8:=dV hL
   have hb:=dJ L
   have hc:=aA1 (e:=⟨e0,L⟩) hL
   have za:=dV hc
   have fk:=aE1 ⟨e0,L⟩
   have hcs:=aE3 ⟨e0,L⟩
   have xr:(En.clean ⟨e0,L⟩).binds.length<=1099511627776:=Nat.le_trans fk hn
   (repeat' (first|exact trivial|refine ⟨?_,?_⟩|intro _));all_goals first|apply qq|conv=>whnf
   all_goals (try simp only [dJ,Bool.not_eq_true',Bool.not_eq_false',Int.toNat_natCast,Nat.zero_add] at*)
   all_goals first|exact b8|exact za|exact hn|exact xr|exact hcs|(have hd:=‹iE _ _=true›;have hlt:=aDi hd;first|omega|(unfold En.get;rw [if_pos hd];done))|(have hd:=‹iE _ _=false›;unfold En.get;rw [if_neg (by rw [hd];exact Bool.false_ne_true)];rfl)
 . cases h
open Go.RowKit Go.Lib Go.Sort
structure Gl where
 name:ByteArray
 ptr:Bool
 size:Int
 at_:Int
instance:Inhabited Gl:=⟨⟨ByteArray.empty,false,0,0⟩⟩
abbrev Gl.ar (x:Gl):Ar:= .agg [.d (st x.name),.d (bo x.ptr),.d (it x.size),.d (it x.at_)]
abbrev glC (x:Gl):List DV:= [st x.name,bo x.ptr,it x.size,it x.at_]
def Gl.ok (x:Gl):Prop:=rI x.size/\ rI x.at_
def vW (l:List DV):Gl:=match l with
 | [.v (.string s),.v (.bool b),.v (.int .i64 i),.v (.int .i64 j)]=>⟨s,b,i,j⟩
 |_=>default
def gO (l:List Gl) (i:Nat):Gl:=l.getD i default
abbrev dC (l:List Gl):Nat->List DV:=fun i=>glC (gO l i)
abbrev xZ (l:List Gl):DV:= .lst 4 l.length (dC l)
def bN (n:Nat) (f:Nat->List DV):List Gl:=(List.range n).map fun i=>vW (f i)
theorem qQ (n:Nat) (f:Nat->List DV):(bN n f).length=n:=by simp [bN]
theorem aRq {n i:Nat} {f:Nat->List DV} (h:i<n):gO (bN n f) i=vW (f i):=by simp [gO,bN,List.getD_eq_getElem?_getD,h]
theorem gS (l:List Gl):bN l.length (dC l)=l:=by
 unfold bN;apply List.ext_getElem
 . simp
 . intro i h1 h2;simp [vW,gO,List.getD_eq_getElem?_getD,h2]
structure nL (n:Nat) (f:Nat->List DV):Prop where
 h: ∀i,i<n->f i=glC (vW (f i))/\ (vW (f i)).ok
theorem aDF {n:Nat} {f:Nat->List DV} (h:nL n f): ∀i,i<n->f i=dC (bN n f) i:=fun i hi=>by
 show f i=glC (gO (bN n f) i)
 rw [aRq hi];exact (h.h i hi).1
def okG (l:List Gl):Prop:= ∀i,i<l.length->(gO l i).ok
theorem yX {n:Nat} {f:Nat->List DV} (h:nL n f):okG (bN n f):=fun i hi=>by
 rw [qQ] at hi;rw [aRq hi];exact (h.h i hi).2
theorem pL {l:List Gl} (h:okG l):nL l.length (dC l):=⟨fun i hi=>⟨rfl,h i hi⟩⟩
def mS (G:List Gl) (s:ByteArray):Int:=match G.findIdx? (fun x=>x.name.toList==s.toList) with
 |some i=>i
 |none=> -1
theorem bAF {l:List Gl} {x:Gl} (h:x∈l): ∃i,i<l.length/\ gO l i=x:=by
 obtain ⟨i,hi,e⟩:=List.mem_iff_getElem.1 h
 exact ⟨i,hi,by unfold gO;rw [List.getD_eq_getElem?_getD,List.getElem?_eq_getElem hi];exact e⟩
theorem aYR {s:ByteArray} {L:List Gl} {i:Nat} (hi:i<L.length) (h1: ∀k,k<i->((gO L k).name.toList==s.toList)=false) (h2:((gO L i).name.toList==s.toList)=true):mS L s=i:=by
 have hA: ∀k (h:k<L.length),gO L k=L[k]:=fun k h=>by unfold gO;rw [List.getD_eq_getElem?_getD,List.getElem?_eq_getElem h];rfl
 unfold mS;have:L.findIdx? (fun x=>x.name.toList==s.toList)=some i:=by
  rw [List.findIdx?_eq_some_iff_getElem];refine ⟨hi,by rw [<-hA i hi];exact h2,fun j hj=> ?_⟩
  rw [<-hA j j3,h1 j hj];exact Bool.false_ne_true
 rw [this]
theorem aYS {s:ByteArray} {L:List Gl} (h1: ∀k,k<L.length->((gO L k).name.toList==s.toList)=false):mS L s= -1:=by
 unfold mS;have:L.findIdx? (fun x=>x.name.toList==s.toList)=none:=by
  rw [List.findIdx?_eq_none_iff];intro x hx;obtain ⟨k,hk,rfl⟩:=bAF hx
  exact h1 k hk
 rw [this]
theorem aSv (L:List Gl) (s:ByteArray): -1<=mS L s/\ mS L s<L.length:=by
 unfold mS;split
 . rename_i i h
   rw [List.findIdx?_eq_some_iff_getElem] at h;have:=h.1;omega
 . omega
def jG (G:List Gl) (s:ByteArray):Bool:= !decide (mS G s<0)
def pC (G:List Gl) (s:ByteArray):Gl:=if mS G s<0 then ⟨⟨#[]⟩,false,0,0⟩ else gO G (mS G s).toNat
def aGC:List Ar->Option Rs
 | [.agg [.d (.v (.string x0)),.d (.v (.bool _)),.d (.v (.int .i64 _)),.d (.v (.int .i64 _))],.rp [.v (.string x1)]]=>some ⟨True,.va (.c (.d (bo (x0.toList==x1.toList)))),[]⟩
 |_=>none
theorem bAG:FC prog 190 aGC:=by
 intro xs pre r us h hp;unfold aGC at h;split at h
 . rename_i x0 b0 i0 j0 x1
   cases h;refine aE aA (l:= []) trivial func190 rfl j4 false ?_
   repeat' (first|exact trivial|refine ⟨?_,?_⟩|fail)
   all_goals first|(conv=>whnf)
   all_goals fail
 . cases h
abbrev aMb (nm:ByteArray):List Cv->Option Gs:=nO (cJ [(190,⟨[],aGC⟩)]) 190 [.rp [.v (.string nm)]]
def aNf (nm:ByteArray):List Ar->Option Rs
 | [.c (.d (.lst 4 n0 f0)),.fv g1]=>some ⟨(n0<=1099511627776/\ nL n0 f0)/\ (g1=aMb nm/\ True),.va (.c (.d (it (mS (bN n0 f0) nm)))),[]⟩
 |_=>none
theorem bDv (nm:ByteArray):FC prog 104 (aNf nm):=by
 intro xs pre r us h hp;unfold aNf at h;split at h
 . rename_i n0 f0 g1
   cases h;obtain ⟨a7,a8⟩:=hp
   refine aU.of_eq (as':= [.c (.d (.lst 4 n0 (dC (bN n0 f0)))),.fv g1]) ?_ rfl rfl ?_
   . repeat' (first|exact j2t|refine ⟨?_,?_⟩|fail)
     all_goals first|exact aDF a7.2
   refine aE aA (l:= []) trivial func104 rfl j4 false ?_
   obtain ⟨rfl,_⟩:=a8
   have hn:=a7.1
   have hL:=yX a7.2
   have hlen:=qQ n0 f0
   generalize bN n0 f0=L at*
   clear a7;subst hlen
   repeat' (fail)
   all_goals first|(conv=>whnf)
   refine dM aA (l:= []) trivial j4 (X:=Nat)
    (fun i=>⟨[(8,vx (.int .i64 i)),(0,.va (.c (.d (xZ L)))),(1,.va (.c (.fv (aMb nm)))),(7,vx (.int .i64 L.length))],[],0,19⟩)
    (fun i=>L.length-i) (fun i=>i<=L.length/\ ∀k,k<i->((gO L k).name.toList==nm.toList)=false) [] []
    (fun i _ _=>i+1) [] [] 0 0 0 ?_ ?_ ?_
   . exact ⟨Nat.zero_le _,fun k h=>absurd h (Nat.not_lt_zero k)⟩
   . repeat' (first|exact j2w|refine ⟨?_,?_⟩|fail)
   . rintro i ⟨k1,k2⟩
     rcases Nat.lt_or_ge i L.length with hi|hi
     . have ag:decide ((i:Int)<(L.length:Int))=true:=decide_eq_true j3
       have ka:(0:Int)<=(i:Int)/\ (i:Int)<(L.length:Int):=j3
       cases hq:((gO L (Int.toNat (i:Int))).name.toList==nm.toList) with
       |true=>
        have hv:mS L nm=i:=aYR hi k2 (by rw [Int.toNat_natCast] at hq;exact hq)
        repeat' (first|exact j6o|refine ⟨?_,?_⟩|intro _)
        all_goals first|(conv=>whnf)
        all_goals first|(rw [hv];done)
       |false=>
        have hk: ∀k,k<i+1->((gO L k).name.toList==nm.toList)=false:=fun k h=>by
         rcases Nat.lt_or_ge k i with h1|h1
         . exact k2 k h1
         . rw [show k=i by omega];rw [Int.toNat_natCast] at hq;exact hq
        (repeat' (first|exact j6o|refine ⟨?_,?_⟩|intro _));all_goals first|apply qq|conv=>whnf
        all_goals (try dsimp only)
        all_goals first|omega|exact hk _ ‹_›|rfl|exact j3a
     . have ag:decide ((i:Int)<(L.length:Int))=false:=decide_eq_false j3
       obtain rfl:i=L.length:=j3
       have hv:mS L nm= -1:=aYS k2
       repeat' (first|exact j3i|refine ⟨?_,?_⟩|intro _)
       all_goals first|(conv=>whnf)
       all_goals first|(rw [hv];done)
 . cases h
def sX:List Ar->Option Rs
 | [.agg [.d (.lst 4 n0 f0),.d (.lst 5 _ _)],.c (.d (.v (.string x1)))]=>some ⟨(n0<=1099511627776/\ nL n0 f0),.tup [Gl.ar (pC (bN n0 f0) x1),.c (.d (bo (jG (bN n0 f0) x1)))],[]⟩
 |_=>none
theorem xB:FC prog 149 sX:=by
 intro xs pre r us h hp;unfold sX at h;split at h
 . rename_i n0 f0 c0 d0 x1
   cases h;have a7:=hp
   refine aU.of_eq (as':= [.agg [.d (.lst 4 n0 (dC (bN n0 f0))),.d (.lst 5 c0 d0)],.c (.d (.v (.string x1)))]) ?_ rfl rfl ?_
   . repeat' (first|exact j2t|refine ⟨?_,?_⟩|fail)
     all_goals first|exact aDF a7.2|(intro _ _;rfl)
   refine aE aA (l:= [(104,⟨[],(aNf x1)⟩),(190,⟨[],aGC⟩)]) ⟨(bDv x1),bAG,trivial⟩ func149 rfl j4 true ?_
   have hn:=a7.1
   have hL:=yX a7.2
   have hlen:=qQ n0 f0
   generalize bN n0 f0=L at*
   clear a7;subst hlen;have AD:=pL hL
   have ve:=aSv L x1
   (repeat' (first|exact j4p|refine ⟨?_,?_⟩|intro _));all_goals first|apply qq|conv=>whnf
   all_goals (try simp only [gS] at*)
   all_goals first|((with_reducible show _=aMb _);rfl)|(simp only [decide_eq_true_eq,decide_eq_false_iff_not] at*;omega)|(have hd:=of_decide_eq_true ‹decide (mS L x1<0)=true›;first|(unfold pC;rw [if_pos hd];done)|(unfold jG;rw [decide_eq_true hd];rfl))|(have hd:=of_decide_eq_false ‹decide (mS L x1<0)=false›;first|(unfold pC;rw [if_neg hd];done)|(unfold jG;rw [decide_eq_false hd];rfl))
 . cases h
def fK (op:Int):Int:=if op=1 \/op=2 \/op=4 \/op=18 \/op=19 then 0 else if op=3 \/op=20 \/op=5 \/op=6 then 1 else if 7<=op/\ op<=17 then 2 else-1
def uL:List Ar->Option Rs
 | [.c (.d (.v (.int .i64 i0)))]=>some ⟨(-9223372036854775808<=i0/\ i0<9223372036854775808),.va (.c (.d (it (fK i0)))),[]⟩
 |_=>none
theorem zG:FC prog 198 uL:=by
 intro xs pre r us h hp;unfold uL at h;split at h
 . rename_i i0
   cases h;have a7:=hp
   refine aE aA (l:= []) trivial func198 rfl j4 false ?_
   repeat' (first|exact trivial|refine ⟨?_,?_⟩|intro _)
   all_goals first|(conv=>whnf)
   all_goals (simp only [beq_iff_eq,beq_eq_false_iff_ne,decide_eq_true_eq,decide_eq_false_iff_not,ne_eq] at*)
   all_goals first|(refine congrArg (Value.int .i64) ?_;unfold fK;(repeat' split)<;>omega)
 . cases h
end Go.Proofs.YtiblbnhknemloaaGreat
namespace Go.Proofs.YtiblbnhknemloaaGreat
open Tryz
open Go.Sx
open Go.RowKit Go.Lib Go.Sort
structure Sv where
 e:En
 v:Vl
abbrev Sv.ar (s:Sv):Ar:= .agg [.d (bo s.e.live),.d (dT s.e.binds),.d (bo s.v.i.s.some),.d (it s.v.i.s.lo),.d (it s.v.i.s.hi),.d (bo s.v.i.c.some),.d (it s.v.i.c.m),.d (it s.v.i.c.r),.d (bo s.v.t.null),.d (lst s.v.t.names)]
structure Ky where
 name:ByteArray
 node:Int
structure Sd where
 k:Ky
 s:Sv
instance:Inhabited Ky:=⟨⟨ByteArray.empty,0⟩⟩
theorem Ky.ext_iff' {a b:Ky}:a=b↔a.name=b.name/\ a.node=b.node:=by
 cases a;cases b;simp
instance:DecidableEq Ky:=fun a b=>decidable_of_iff (a.name=b.name/\ a.node=b.node) Ky.ext_iff'.symm
def eK (l:List Sd) (i:Nat):Sd:=l.getD i ⟨⟨ByteArray.empty,0⟩,⟨⟨false,[]⟩,Vl.zero⟩⟩
def Sv.zero:Sv:=⟨⟨false,[]⟩,Vl.zero⟩
abbrev sdC (x:Sd):List DV:= [st x.k.name,it x.k.node,bo x.s.e.live,dT x.s.e.binds,bo x.s.v.i.s.some,it x.s.v.i.s.lo,it x.s.v.i.s.hi,bo x.s.v.i.c.some,it x.s.v.i.c.m,it x.s.v.i.c.r,bo x.s.v.t.null,lst x.s.v.t.names]
instance:Inhabited Sd:=⟨⟨default,Sv.zero⟩⟩
abbrev iC (l:List Sd):Nat->List DV:=fun i=>sdC (eK l i)
abbrev aEx (l:List Sd):DV:= .lst 12 l.length (iC l)
def gSx (l:List DV) (j:Nat):ByteArray:=match l[j]? with
 |some (.v (.string s))=>s
 |_=>ByteArray.empty
def gBb (l:List DV) (j:Nat):List Bd:=match l[j]? with
 |some (.lst _ n f)=>aH n f
 |_=> []
def gNn (l:List DV) (j:Nat):List ByteArray:=match l[j]? with
 |some (.lst _ n f)=>gN n f
 |_=> []
def gSd (l:List DV):Sd:=⟨⟨gSx l 0,iW l 1⟩,⟨⟨lT l 2,gBb l 3⟩,⟨⟨⟨lT l 4,iW l 5,iW l 6⟩,⟨lT l 7,iW l 8,iW l 9⟩⟩,⟨lT l 10,gNn l 11⟩⟩⟩⟩
theorem aKv (x:Sd):gSd (sdC x)=x:=by
 obtain ⟨⟨n,j⟩,⟨⟨e,b⟩,⟨⟨⟨a1,a2,a3⟩,⟨c1,c2,c3⟩⟩,⟨z,l⟩⟩⟩⟩:=x
 show Sd.mk ⟨n,j⟩ ⟨⟨e,aH b.length (aW b)⟩,⟨⟨⟨a1,a2,a3⟩,⟨c1,c2,c3⟩⟩,⟨z,gN l.length (fun i=> [st (aN l i)])⟩⟩⟩=_
 rw [bI,dJ]
def gD (n:Nat) (f:Nat->List DV):List Sd:=(List.range n).map fun i=>gSd (f i)
theorem uB (n:Nat) (f:Nat->List DV):(gD n f).length=n:=by simp [gD]
theorem aLq {n i:Nat} {f:Nat->List DV} (h:i<n):eK (gD n f) i=gSd (f i):=by
 simp [eK,gD,List.getD_eq_getElem?_getD,h]
theorem aD1 (l:List Sd):gD l.length (iC l)=l:=by
 unfold gD;apply List.ext_getElem
 . simp
 . intro i h1 h2;simp [aKv,eK,List.getD_eq_getElem?_getD,h2]
structure Sd.ok (x:Sd):Prop where
 n:rI x.k.node
 l:iO x.s.e.binds
 v:aY x.s.v
 s:x.s.e.binds.length<=1099511627776
structure aD2 (l:List DV):Prop where
 e:qI l (sdC (gSd l))
 o:(gSd l).ok
theorem aVR {x:Sd} (h:x.ok):aD2 (sdC x):=⟨by rw [aKv];exact ⟨rfl,fun j a b ha hb=>by rw [ha] at hb;cases hb;exact .refl _⟩,by rw [aKv];exact h⟩
structure aAl (n:Nat) (f:Nat->List DV):Prop where
 h: ∀i,i<n->aD2 (f i)
theorem aGD {n:Nat} {f:Nat->List DV} (h: ∀i,i<n->aD2 (f i)):cS (.lst 12 n f) (.lst 12 n (iC (gD n f))):=
 .rows fun i hi=>by show qI (f i) (sdC (eK (gD n f) i));rw [aLq hi];exact (h i hi).e
def okD (l:List Sd):Prop:= ∀x,x∈l->x.ok
theorem aKw {l:List Sd} {x:Sd} (h:x∈l): ∃i,i<l.length/\ eK l i=x:=by
 obtain ⟨i,hi,e⟩:=List.mem_iff_getElem.1 h
 exact ⟨i,hi,by unfold eK;rw [List.getD_eq_getElem?_getD,List.getElem?_eq_getElem hi];exact e⟩
theorem aRr {l:List Sd} {i:Nat} (h:i<l.length):eK l i∈l:=by
 unfold eK;rw [List.getD_eq_getElem?_getD,List.getElem?_eq_getElem h];exact List.getElem_mem h
theorem aFs {n:Nat} {f:Nat->List DV} (h:aAl n f):okD (gD n f):=by
 intro x hx;obtain ⟨i,hi,rfl⟩:=aKw hx
 rw [uB] at hi;rw [aLq hi];exact (h.h i hi).o
theorem aDG {l:List Sd} (h:okD l):aAl l.length (iC l):=⟨fun i hi=>aVR (h _ (aRr hi))⟩
abbrev kyC (k:Ky):List DV:= [st k.name,it k.node]
def gKy (l:List DV):Ky:=match l with
 | [.v (.string s),.v (.int .i64 i)]=>⟨s,i⟩
 |_=>default
def bW (l:List Ky) (i:Nat):Ky:=l.getD i default
abbrev fH (l:List Ky):Nat->List DV:=fun i=>kyC (bW l i)
abbrev yA (l:List Ky):DV:= .lst 2 l.length (fH l)
def cV (n:Nat) (f:Nat->List DV):List Ky:=(List.range n).map fun i=>gKy (f i)
theorem yO (n:Nat) (f:Nat->List DV):(cV n f).length=n:=by simp [cV]
theorem bAH {n i:Nat} {f:Nat->List DV} (h:i<n):bW (cV n f) i=gKy (f i):=by simp [bW,cV,List.getD_eq_getElem?_getD,h]
theorem sT (l:List Ky):cV l.length (fH l)=l:=by
 unfold cV;apply List.ext_getElem
 . simp
 . intro i h1 h2;simp [gKy,bW,List.getD_eq_getElem?_getD,h2]
structure sY (n:Nat) (f:Nat->List DV):Prop where
 h: ∀i,i<n->f i=kyC (gKy (f i))
theorem aBg {n:Nat} {f:Nat->List DV} (h:sY n f): ∀i,i<n->f i=fH (cV n f) i:=fun i hi=>by
 show f i=kyC (bW (cV n f) i)
 rw [bAH hi];exact h.h i hi
theorem aRs {n:Nat} {f:Nat->List DV} (h:sY n f):icE (.ow 2 n f) (.ow 2 n (fH (cV n f))):=
 ⟨rfl,rfl,fun i hi=>by rw [aBg h i hi];exact ⟨rfl,fun j a b ha hb=>by rw [ha] at hb;cases hb;exact .refl _⟩⟩
theorem oJ (l:List Ky):sY l.length (fH l):=⟨fun i hi=>rfl⟩
abbrev dA (a b:Ky):Bool:=a.name.toList==b.name.toList&&(a.node==b.node&&true)
theorem wV {a b:Ky}:dA a b=true↔a=b:=by
 unfold dA;rw [Bool.and_true,Bool.and_eq_true,qW,decide_eq_true_eq,beq_iff_eq,Ky.ext_iff']
def iG (l:List Ky) (k:Ky):Bool:=decide (k∈l)
theorem aKx {l:List Ky} {x:Ky} (h:x∈l): ∃i,i<l.length/\ bW l i=x:=by
 obtain ⟨i,hi,e⟩:=List.mem_iff_getElem.1 h
 exact ⟨i,hi,by unfold bW;rw [List.getD_eq_getElem?_getD,List.getElem?_eq_getElem hi];exact e⟩
theorem aRt {l:List Ky} {i:Nat} (h:i<l.length):bW l i∈l:=by
 unfold bW;rw [List.getD_eq_getElem?_getD,List.getElem?_eq_getElem h];exact List.getElem_mem h
def vX (l:List Ky) (k:Ky):Int:=match l.findIdx? (fun x=>dA k x) with
 |some i=>i
 |none=> -1
theorem aYT {k:Ky} {L:List Ky} {i:Nat} (hi:i<L.length) (h1: ∀j,j<i->dA k (bW L j)=false) (h2:dA k (bW L i)=true):vX L k=i:=by
 have hA: ∀k (h:k<L.length),bW L k=L[k]:=fun k h=>by unfold bW;rw [List.getD_eq_getElem?_getD,List.getElem?_eq_getElem h];rfl
 unfold vX;have:L.findIdx? (fun x=>dA k x)=some i:=by
  rw [List.findIdx?_eq_some_iff_getElem];refine ⟨hi,by rw [<-hA i hi];exact h2,fun j hj=> ?_⟩
  rw [<-hA j j3,h1 j hj];exact Bool.false_ne_true
 rw [this]
theorem aYU {k:Ky} {L:List Ky} (h1: ∀j,j<L.length->dA k (bW L j)=false):vX L k= -1:=by
 unfold vX;have:L.findIdx? (fun x=>dA k x)=none:=by
  rw [List.findIdx?_eq_none_iff];intro x hx;obtain ⟨j,hj,rfl⟩:=aKx hx
  exact h1 j hj
 rw [this]
theorem bCw (L:List Ky) (k:Ky):decide (vX L k≥0)=iG L k:=by
 unfold vX iG;cases h:L.findIdx? (fun x=>dA k x) with
 |some i=>
  rw [List.findIdx?_eq_some_iff_getElem] at h;obtain ⟨h1,h2,_⟩:=h
  have e:=wV.1 h2
  show decide ((i:Int)≥0)=_
  rw [decide_eq_true j3,e,decide_eq_true (List.getElem_mem h1)]
 |none=>
  rw [List.findIdx?_eq_none_iff] at h;have:k∉L:=fun hm=>by
   have:=h k hm
   rw [wV.2 rfl] at this;cases this
  rw [decide_eq_false j5,decide_eq_false this]
def aNg:List Ar->Option Rs
 | [.c (.ow 2 n0 f0),.agg [.d (.v (.string x1)),.d (.v (.int .i64 i1))]]=>some ⟨(n0<=1099511627776/\ sY n0 f0),.va (.c (.d (it (vX (cV n0 f0) (⟨x1,i1⟩:Ky))))),[some (fH (cV n0 f0))]⟩
 |_=>none
theorem bDw:FC prog 205 aNg:=by
 intro xs pre r us h hp;unfold aNg at h;split at h
 . rename_i n0 f0 x1 i1
   cases h;have a7:=hp
   refine aU.deep (ys:= [.c (.ow 2 n0 (fH (cV n0 f0))),.agg [.d (.v (.string x1)),.d (.v (.int .i64 i1))]]) ?_ ?_
   . repeat' (first|exact j3z|refine ⟨?_,?_⟩|fail)
     all_goals first|exact (aRs a7.2).2.2
   refine aE aA (l:= []) trivial func205 rfl j4 false ?_
   have hn:=a7.1
   have hlen:=yO n0 f0
   generalize cV n0 f0=L at*
   clear a7;subst hlen
   repeat' (fail)
   all_goals first|(conv=>whnf)
   refine dM aA (l:= []) trivial j4 (X:=Nat)
    (fun i=>⟨[(8,vx (.int .i64 i)),(0,.va (.c (.osl 0 2 0 L.length))),(3,.va (.c (.own 1 0))),(7,vx (.int .i64 L.length))],[(1,.cells [.d (st x1),.d (it i1)]),(0,.row 2 L.length (fH L))],2,19⟩)
    (fun i=>L.length-i) (fun i=>i<=L.length/\ ∀k,k<i->dA ⟨x1,i1⟩ (bW L k)=false) [] []
    (fun i _ _=>i+1) [0,1] [0,1] 0 0 0 ?_ ?_ ?_
   . exact ⟨Nat.zero_le _,fun k h=>absurd h (Nat.not_lt_zero k)⟩
   . repeat' (first|exact j2w|refine ⟨?_,?_⟩|fail)
   . rintro i ⟨k1,k2⟩
     rcases Nat.lt_or_ge i L.length with hi|hi
     . have ag:decide ((i:Int)<(L.length:Int))=true:=decide_eq_true j3
       have ka:(0:Int)<=(i:Int)/\ (i:Int)<(L.length:Int):=j3
       cases hq:dA ⟨x1,i1⟩ (bW L i) with
       |true=>
        have hv:vX L ⟨x1,i1⟩=i:=aYT hi k2 hq
        (repeat' (first|exact j3b|refine ⟨?_,?_⟩|intro _));all_goals first|apply qq|conv=>whnf
        all_goals (try simp only [Int.toNat_natCast,Nat.zero_add] at*)
        all_goals first|exact j3u
       |false=>
        have hk: ∀k,k<i+1->dA ⟨x1,i1⟩ (bW L k)=false:=fun k h=>by
         rcases Nat.lt_or_ge k i with h1|h1
         . exact k2 k h1
         . rw [show k=i by omega];exact hq
        (repeat' (first|exact j3b|refine ⟨?_,?_⟩|intro _));all_goals first|apply qq|conv=>whnf
        all_goals (try dsimp only)
        all_goals (try simp only [Int.toNat_natCast,Nat.zero_add] at*)
        all_goals first|exact j3k
     . have ag:decide ((i:Int)<(L.length:Int))=false:=decide_eq_false j3
       obtain rfl:i=L.length:=j3
       have hv:vX L ⟨x1,i1⟩= -1:=aYU k2
       (repeat' (first|exact j3i|refine ⟨?_,?_⟩|intro _));all_goals first|apply qq|conv=>whnf
       all_goals first|omega|(rw [hv];done)
 . cases h
def aEo:List Ar->Option Rs
 | [.c (.ow 2 n0 f0),.agg [.d (.v (.string x1)),.d (.v (.int .i64 i1))]]=>some ⟨(n0<=1099511627776/\ sY n0 f0),.va (.c (.d (bo (iG (cV n0 f0) (⟨x1,i1⟩:Ky))))),[some (fH (cV n0 f0))]⟩
 |_=>none
theorem aLr:FC prog 165 aEo:=by
 intro xs pre r us h hp;unfold aEo at h;split at h
 . rename_i n0 f0 x1 i1
   cases h;have a7:=hp
   refine aU.deep (ys:= [.c (.ow 2 n0 (fH (cV n0 f0))),.agg [.d (.v (.string x1)),.d (.v (.int .i64 i1))]]) ?_ ?_
   . repeat' (first|exact j3z|refine ⟨?_,?_⟩|fail)
     all_goals first|exact (aRs a7.2).2.2
   refine aE aA (l:= [(205,⟨[true],aNg⟩)]) ⟨bDw,trivial⟩ func165 rfl j4 false ?_
   have hn:=a7.1
   have hlen:=yO n0 f0
   generalize cV n0 f0=L at*
   clear a7;subst hlen;have ve:=bCw L ⟨x1,i1⟩
   have gr:=oJ L
   (repeat' (first|exact j4p|refine ⟨?_,?_⟩|intro _));all_goals first|apply qq|conv=>whnf
   all_goals (try simp only [sT] at*)
   all_goals first|(rw [ve];done)|omega
 . cases h
def aD3:List Ar->Option Rs
 | [.agg [.d (.v (.string x0)),.d (.v (.bool _)),.d (.v (.int .i64 _)),.d (.v (.int .i64 _)),.d (.v (.bool _)),.d (.v (.int .i64 _)),.d (.v (.int .i64 _)),.d (.v (.bool _)),.d (.lst 1 _ _)],.rp [.v (.string x1)]]=>some ⟨True,.va (.c (.d (bo (x0.toList==x1.toList)))),[]⟩
 |_=>none
theorem aRu:FC prog 229 aD3:=by
 intro xs pre r us h hp;unfold aD3 at h;split at h
 . rename_i x0 s0 l0 h0 b0 m0 r0 z0 n0 f0 x1
   cases h;refine aE aA (l:= []) trivial func229 rfl j4 false ?_
   repeat' (first|exact trivial|refine ⟨?_,?_⟩|fail)
   all_goals first|(conv=>whnf)
   all_goals fail
 . cases h
abbrev gBn (nm:ByteArray):List Cv->Option Gs:=nO (cJ [(229,⟨[],aD3⟩)]) 229 [.rp [.v (.string nm)]]
end Go.Proofs.YtiblbnhknemloaaGreat
namespace Go.Proofs.YtiblbnhknemloaaGreat
open Tryz
open Go.Sx
open Go.RowKit Go.Lib Go.Sort
def tU (L:List Bd) (s:ByteArray):Int:=match L.findIdx? (fun x=>x.name.toList==s.toList) with
 |some i=>i
 |none=> -1
def eP (L:List Bd) (s:ByteArray):Bool:=decide (tU L s≥0)
theorem aQh {s:ByteArray} {L:List Bd} {i:Nat} (hi:i<L.length) (h1: ∀k,k<i->((aM L k).name.toList==s.toList)=false) (h2:((aM L i).name.toList==s.toList)=true):tU L s=i:=by
 have hA: ∀k (h:k<L.length),aM L k=L[k]:=fun k h=>by unfold aM;rw [List.getD_eq_getElem?_getD,List.getElem?_eq_getElem h];rfl
 unfold tU;have:L.findIdx? (fun x=>x.name.toList==s.toList)=some i:=by
  rw [List.findIdx?_eq_some_iff_getElem];refine ⟨hi,by rw [<-hA i hi];exact h2,fun j hj=> ?_⟩
  rw [<-hA j j3,h1 j hj];exact Bool.false_ne_true
 rw [this]
theorem aQi {s:ByteArray} {L:List Bd} (h1: ∀k,k<L.length->((aM L k).name.toList==s.toList)=false):tU L s= -1:=by
 unfold tU;have:L.findIdx? (fun x=>x.name.toList==s.toList)=none:=by
  rw [List.findIdx?_eq_none_iff];intro x hx;obtain ⟨k,hk,rfl⟩:=aF0 hx
  exact h1 k hk
 rw [this]
def lU (L:List Sd) (k:Ky):Option Sv:=(L.find? fun x=>dA x.k k).map (·.s)
def mT (L:List Sd) (k:Ky):Sv:=(lU L k).getD ⟨⟨false,[]⟩,⟨⟨⟨false,0,0⟩,⟨false,0,0⟩⟩,⟨false,[]⟩⟩⟩
def iX (L:List Sd) (k:Ky):Bool:=(lU L k).isSome
theorem aYV {L:List Sd} {k:Ky} {i:Nat} (hi:i<L.length) (h1: ∀j,j<i->dA (eK L j).k k=false) (h2:dA (eK L i).k k=true):lU L k=some (eK L i).s:=by
 have hA: ∀k (h:k<L.length),eK L k=L[k]:=fun k h=>by unfold eK;rw [List.getD_eq_getElem?_getD,List.getElem?_eq_getElem h];rfl
 unfold lU;have:L.find? (fun x=>dA x.k k)=some (eK L i):=by
  rw [List.find?_eq_some_iff_getElem];refine ⟨h2,i,hi,(hA i hi).symm,fun j hj=> ?_⟩
  rw [<-hA j j3,h1 j hj];rfl
 rw [this];rfl
theorem aYW {L:List Sd} {k:Ky} (h1: ∀j,j<L.length->dA (eK L j).k k=false):lU L k=none:=by
 unfold lU;have:L.find? (fun x=>dA x.k k)=none:=by
  rw [List.find?_eq_none];intro x hx;obtain ⟨j,hj,rfl⟩:=aKw hx
  rw [h1 j hj];exact Bool.false_ne_true
 rw [this];rfl
def aNh (nm:ByteArray):List Ar->Option Rs
 | [.c (.d (.lst 9 n0 f0)),.fv g1]=>some ⟨(n0<=1099511627776/\ dN n0 f0)/\ (g1=gBn nm/\ True),.va (.c (.d (it (tU (aH n0 f0) nm)))),[]⟩
 |_=>none
theorem bDx (nm:ByteArray):FC prog 186 (aNh nm):=by
 intro xs pre r us h hp;unfold aNh at h;split at h
 . rename_i n0 f0 g1
   cases h;obtain ⟨a7,a8⟩:=hp
   refine aU.deep (ys:= [.c (.d (.lst 9 n0 (aW (aH n0 f0)))),.fv g1]) ?_ ?_
   . repeat' (first|exact j2t|refine ⟨?_,?_⟩|fail)
     all_goals first|exact gY a7.2.h
   refine aE aA (l:= []) trivial func186 rfl j4 false ?_
   obtain ⟨rfl,_⟩:=a8
   have hn:=a7.1
   have hL:=iD a7.2
   have hlen:=eD n0 f0
   generalize aH n0 f0=L at*
   clear a7;subst hlen;have b8:=dV hL
   repeat' (fail)
   all_goals first|(conv=>whnf)
   refine dM aA (l:= []) trivial j4 (X:=Nat)
    (fun i=>⟨[(8,vx (.int .i64 i)),(0,.va (.c (.d (dT L)))),(1,.va (.c (.fv (gBn nm)))),(7,vx (.int .i64 L.length))],[],0,19⟩)
    (fun i=>L.length-i) (fun i=>i<=L.length/\ ∀k,k<i->((aM L k).name.toList==nm.toList)=false) [] []
    (fun i _ _=>i+1) [] [] 0 0 0 ?_ ?_ ?_
   . exact ⟨Nat.zero_le _,fun k h=>absurd h (Nat.not_lt_zero k)⟩
   . repeat' (first|exact j2w|refine ⟨?_,?_⟩|fail)
   . rintro i ⟨k1,k2⟩
     rcases Nat.lt_or_ge i L.length with hi|hi
     . have ag:decide ((i:Int)<(L.length:Int))=true:=decide_eq_true j3
       have ka:(0:Int)<=(i:Int)/\ (i:Int)<(L.length:Int):=j3
       cases hq:((aM L i).name.toList==nm.toList) with
       |true=>
        have hv:=aQh hi k2 hq
        (repeat' (first|exact j3b|refine ⟨?_,?_⟩|intro _));all_goals first|apply qq|conv=>whnf
        all_goals (try simp only [Int.toNat_natCast,Nat.zero_add] at*)
        all_goals first|exact j3u
       |false=>
        have hk: ∀k,k<i+1->((aM L k).name.toList==nm.toList)=false:=fun k h=>by
         rcases Nat.lt_or_ge k i with h1|h1
         . exact k2 k h1
         . rw [show k=i by omega];exact hq
        (repeat' (first|exact j3b|refine ⟨?_,?_⟩|intro _));all_goals first|apply qq|conv=>whnf
        all_goals (try dsimp only)
        all_goals (try simp only [Int.toNat_natCast,Nat.zero_add] at*)
        all_goals first|exact j3k
     . have ag:decide ((i:Int)<(L.length:Int))=false:=decide_eq_false j3
       obtain rfl:i=L.length:=j3
       have hv:=aQi k2
       repeat' (first|exact j3i|refine ⟨?_,?_⟩|intro _)
       all_goals first|(conv=>whnf)
       all_goals first|(rw [hv];done)
 . cases h
def aGE (nm:ByteArray):List Ar->Option Rs
 | [.c (.d (.lst 9 n0 f0)),.fv g1]=>some ⟨(n0<=1099511627776/\ dN n0 f0)/\ (g1=gBn nm/\ True),.va (.c (.d (bo (eP (aH n0 f0) nm)))),[]⟩
 |_=>none
theorem aRv (nm:ByteArray):FC prog 144 (aGE nm):=by
 intro xs pre r us h hp;unfold aGE at h;split at h
 . rename_i n0 f0 g1
   cases h;obtain ⟨a7,a8⟩:=hp
   refine aU.deep (ys:= [.c (.d (.lst 9 n0 (aW (aH n0 f0)))),.fv g1]) ?_ ?_
   . repeat' (first|exact j2t|refine ⟨?_,?_⟩|fail)
     all_goals first|exact gY a7.2.h
   refine aE aA (l:= [(186,⟨[],(aNh nm)⟩)]) ⟨(bDx nm),trivial⟩ func144 rfl j4 false ?_
   obtain ⟨rfl,_⟩:=a8
   have hn:=a7.1
   have hL:=iD a7.2
   have hlen:=eD n0 f0
   generalize aH n0 f0=L at*
   clear a7;subst hlen;have b8:=dV hL
   repeat' (first|exact j4p|refine ⟨?_,?_⟩|intro _)
   all_goals first|(conv=>whnf)
   all_goals (try simp only [dJ] at*)
   all_goals first|rfl
 . cases h
def aGF:List Ar->Option Rs
 | [.c (.d (.lst 12 n0 f0)),.agg [.d (.v (.string x1)),.d (.v (.int .i64 i1))]]=>some ⟨(n0<=1099511627776/\ aAl n0 f0),.tup [Sv.ar (mT (gD n0 f0) (⟨x1,i1⟩:Ky)),.c (.d (bo (iX (gD n0 f0) (⟨x1,i1⟩:Ky))))],[]⟩
 |_=>none
theorem aRw:FC prog 34 aGF:=by
 intro xs pre r us h hp;unfold aGF at h;split at h
 . rename_i n0 f0 x1 i1
   cases h;have a7:=hp
   refine aU.deep (ys:= [.c (.d (.lst 12 n0 (iC (gD n0 f0)))),.agg [.d (.v (.string x1)),.d (.v (.int .i64 i1))]]) ?_ ?_
   . repeat' (first|exact j3s|refine ⟨?_,?_⟩|fail)
     all_goals first|exact aGD a7.2.h
   refine aE aA (l:= []) trivial func34 rfl j4 true ?_
   have hn:=a7.1
   have hL:=aFs a7.2
   have hlen:=uB n0 f0
   generalize gD n0 f0=L at*
   clear a7;subst hlen
   repeat' (fail)
   all_goals first|(conv=>whnf)
   refine dM aA (l:= []) trivial j4 (X:=Nat)
    (fun i=>⟨[(9,vx (.int .i64 i)),(0,.va (.c (.d (aEx L)))),(3,.va (.c (.own 0 0))),(4,.va (.c (.own 1 0))),(5,vx (.bool false)),(8,vx (.int .i64 L.length))],[(1,.cells [.d (bo false),.d (.v (.slice none 0 0)),.d (bo false),.d (it 0),.d (it 0),.d (bo false),.d (it 0),.d (it 0),.d (bo false),.d (.v (.slice none 0 0))]),(0,.cells [.d (st x1),.d (it i1)])],2,26⟩)
    (fun i=>L.length-i) (fun i=>i<=L.length/\ ∀k,k<i->dA (eK L k).k ⟨x1,i1⟩=false) [] []
    (fun i _ _=>i+1) [0,1] [0,1] 0 0 0 ?_ ?_ ?_
   . exact ⟨Nat.zero_le _,fun k h=>absurd h (Nat.not_lt_zero k)⟩
   . repeat' (first|exact j2w|refine ⟨?_,?_⟩|fail)
   . rintro i ⟨k1,k2⟩
     rcases Nat.lt_or_ge i L.length with hi|hi
     . have ag:decide ((i:Int)<(L.length:Int))=true:=decide_eq_true j3
       have ka:(0:Int)<=(i:Int)/\ (i:Int)<(L.length:Int):=j3
       cases hq:dA (eK L i).k ⟨x1,i1⟩ with
       |true=>
        have hv:=aYV (k:=⟨x1,i1⟩) hi k2 hq
        (repeat' (first|exact j3b|refine ⟨?_,?_⟩|intro _));all_goals first|apply qq|conv=>whnf
        all_goals (try simp only [Int.toNat_natCast,Nat.zero_add] at*)
        all_goals first|omega|exact absurd (hq.symm.trans ‹_=false›) j5|(unfold mT;rw [hv];rfl)|(unfold iX;rw [hv];rfl)
       |false=>
        have hk: ∀k,k<i+1->dA (eK L k).k ⟨x1,i1⟩=false:=fun k h=>by
         rcases Nat.lt_or_ge k i with h1|h1
         . exact k2 k h1
         . rw [show k=i by omega];exact hq
        (repeat' (first|exact j3b|refine ⟨?_,?_⟩|intro _));all_goals first|apply qq|conv=>whnf
        all_goals (try dsimp only)
        all_goals (try simp only [Int.toNat_natCast,Nat.zero_add] at*)
        all_goals first|exact j3k
     . have ag:decide ((i:Int)<(L.length:Int))=false:=decide_eq_false j3
       obtain rfl:i=L.length:=j3
       have hv:=aYW (k:=⟨x1,i1⟩) k2
       repeat' (first|exact j3i|refine ⟨?_,?_⟩|intro _)
       all_goals first|(conv=>whnf)
       all_goals first|(unfold mT;rw [hv];rfl)|(unfold iX;rw [hv];rfl)
 . cases h
end Go.Proofs.YtiblbnhknemloaaGreat
namespace Go.Proofs.YtiblbnhknemloaaGreat
open Tryz
open Go.Sx
theorem aMc (n:Int):n.fdiv (2^min (Int.toNat 32) IntKind.u64.bits)=n/4294967296:=by
 have e:(2^min (Int.toNat 32) IntKind.u64.bits:Int)=4294967296:=j5
 rw [e,Int.fdiv_eq_ediv_of_nonneg _ j5]
theorem aTq (n:Int):((BitVec.ofInt IntKind.u64.bits n&&&BitVec.ofInt IntKind.u64.bits 4294967295).toNat:Int)=n%4294967296:=by
 have e:(BitVec.ofInt IntKind.u64.bits 4294967295).toNat=2^32-1:=j5
 have e2:((BitVec.ofInt IntKind.u64.bits n).toNat:Int)=n%18446744073709551616:=by
  rw [BitVec.toNat_ofInt];have:(0:Int)<=n%((2^IntKind.u64.bits:Nat):Int):=Int.emod_nonneg _ j5
  rw [Int.toNat_of_nonneg this];rfl
 rw [BitVec.toNat_and,e,Nat.and_two_pow_sub_one_eq_mod];omega
theorem bDy (n:Int):n%4294967296%18446744073709551616=n%4294967296:=j3
theorem aFt {a b:Int} (ha:0<=a/\ a<4294967296) (hb:0<=b/\ b<4294967296):0<=a*b/\ a*b<=18446744065119617025:=
 ⟨Int.mul_nonneg ha.1 hb.1,by have:=Int.mul_le_mul (show a<=4294967295 by omega) (show b<=4294967295 by omega) hb.1 j5;omega⟩
theorem aWZ (x1 x0 y1 y0:Int):(x1*4294967296+x0)*(y1*4294967296+y0)=(x1*y1)*18446744073709551616+(x1*y0+x0*y1)*4294967296+x0*y0:=by grind
theorem aW0 {u v:Int} (hu:0<=u/\ u<18446744073709551616) (hv:0<=v/\ v<18446744073709551616):
 ((u/4294967296*(v/4294967296)+(u/4294967296*(v%4294967296)+u%4294967296*(v%4294967296)/4294967296)/4294967296)+((u/4294967296*(v%4294967296)+u%4294967296*(v%4294967296)/4294967296)%4294967296+u%4294967296*(v/4294967296))/4294967296)=u*v/18446744073709551616
 /\ (0<=u/4294967296*(v/4294967296)/\ u/4294967296*(v/4294967296)<=18446744065119617025)/\ (0<=u/4294967296*(v%4294967296)/\ u/4294967296*(v%4294967296)<=18446744065119617025)/\ (0<=u%4294967296*(v/4294967296)/\ u%4294967296*(v/4294967296)<=18446744065119617025)/\ (0<=u%4294967296*(v%4294967296)/\ u%4294967296*(v%4294967296)<=18446744065119617025)/\ u*v/18446744073709551616<18446744073709551616:=by
 have e:=aWZ (u/4294967296) (u%4294967296) (v/4294967296) (v%4294967296)
 have eu:u/4294967296*4294967296+u%4294967296=u:=j3
 have ev:v/4294967296*4294967296+v%4294967296=v:=j3
 rw [eu,ev] at e;have b1:=aFt (a:=u/4294967296) (b:=v/4294967296) j3 j3
 have b2:=aFt (a:=u/4294967296) (b:=v%4294967296) j3 j3
 have b3:=aFt (a:=u%4294967296) (b:=v/4294967296) j3 j3
 have b4:=aFt (a:=u%4294967296) (b:=v%4294967296) j3 j3
 refine ⟨?_,b1,b2,b3,b4, ?_⟩
 . rw [e]
   generalize u/4294967296*(v/4294967296)=d at*
   generalize u/4294967296*(v%4294967296)=b at*
   generalize u%4294967296*(v/4294967296)=c at*
   generalize u%4294967296*(v%4294967296)=a at*
   clear e eu ev hu hv;omega
 . rw [e]
   generalize u/4294967296*(v/4294967296)=d at*
   generalize u/4294967296*(v%4294967296)=b at*
   generalize u%4294967296*(v/4294967296)=c at*
   generalize u%4294967296*(v%4294967296)=a at*
   clear e eu ev hu hv;omega
def aGG:List Ar->Option Rs
 | [.c (.d (.v (.int .u64 u0))),.c (.d (.v (.int .u64 u1)))]=>some ⟨(0<=u0/\ u0<18446744073709551616)/\ (0<=u1/\ u1<18446744073709551616),.tup [.c (.d (ut (u0*u1/18446744073709551616))),.c (.d (ut (u0*u1%18446744073709551616)))],[]⟩
 |_=>none
theorem aRx:FC prog 270 aGG:=by
 intro xs pre r us h hp;unfold aGG at h;split at h
 . rename_i u0 u1
   cases h;obtain ⟨a7,a8⟩:=hp
   refine aE aA (l:= []) trivial func270 rfl j4 false ?_
   repeat' (first|exact trivial|refine ⟨?_,?_⟩|fail)
   all_goals first|(conv=>whnf)
   all_goals refine congrArg (Value.int .u64) ?_
   all_goals simp only [aMc,aTq,wU,bDy]
   obtain ⟨e,b1,b2,b3,b4,b5⟩:=aW0 a7 a8
   rw [<-e] at b5⊢
   generalize u0/4294967296*(u1/4294967296)=d at*
   generalize u0/4294967296*(u1%4294967296)=b at*
   generalize u0%4294967296*(u1/4294967296)=c at*
   generalize u0%4294967296*(u1%4294967296)=a at*
   omega
 . cases h
def tN (x:Int):Int:=if x=0 then 0 else ((x.toNat.log2+1:Nat):Int)
theorem bAI {a l x:Nat} (h0:2^l<=x/2^a) (h1:x/2^a<2^(l+1)):x≠0/\ x.log2=a+l:=by
 have p:=Nat.two_pow_pos a
 have q:=Nat.two_pow_pos l
 have k0:2^l*2^a<=x:=(Nat.le_div_iff_mul_le p).1 h0
 have k1:x<2^(l+1)*2^a:=(Nat.div_lt_iff_lt_mul p).1 h1
 have hx:x≠0:=by
  intro e;subst e;have:=Nat.mul_pos q p;omega
 refine ⟨hx,(Nat.log2_eq_iff hx).2 ⟨?_,?_⟩⟩
 . rw [Nat.add_comm,Nat.pow_add];exact k0
 . rw [show a+l+1=(l+1)+a by omega,Nat.pow_add];exact k1
theorem bCx {x:Int} (h:0<=x/\ x<18446744073709551616):0<=tN x/\ tN x<=64:=by
 unfold tN;split
 . omega
 . have:=(Nat.log2_lt (n:=x.toNat) (k:=64) j3).2 j3
   omega
theorem u8r (e:Int):0<=IntKind.u8.wrap e/\ IntKind.u8.wrap e<256:=j1j
theorem u8i {e:Int} (h0:0<=e) (h1:e<256):IntKind.u8.wrap e=e:=j1j
theorem bCy {t:ByteArray} (h:t.size=256) (e:Int):IntKind.u8.wrap e<(t.size:Int):=by rw [h];exact (u8r e).2
theorem bEV (n:Int):n.fdiv (2^min (Int.toNat 8) IntKind.u64.bits)=n/256:=by
 have e:(2^min (Int.toNat 8) IntKind.u64.bits:Int)=256:=j5
 rw [e,Int.fdiv_eq_ediv_of_nonneg _ j5]
theorem bDz (n:Int):n.fdiv (2^min (Int.toNat 16) IntKind.u64.bits)=n/65536:=by
 have e:(2^min (Int.toNat 16) IntKind.u64.bits:Int)=65536:=j5
 rw [e,Int.fdiv_eq_ediv_of_nonneg _ j5]
theorem wW {t:ByteArray} (ht:((List.range 256).all fun x=>aBi t x==tN x)=true) (a P:Nat) (hP:2^a=P) {u E N:Int} (hN:N=a) (ha:a<=56) (h0:0<=u) (hE:E=u/P) (h1:E<256) (h2:a=0 \/0<E):IntKind.i64.wrap (N+IntKind.i64.wrap (aBi t (IntKind.u8.wrap E).toNat))=tN u:=by
 obtain ⟨n,rfl⟩:=Int.eq_ofNat_of_zero_le h0
 subst hP hN;rw [<-Int.natCast_ediv] at hE;subst hE;have hb:n/2^a<256:=Int.ofNat_lt.1 h1
 rw [u8i (Int.natCast_nonneg _) h1,Int.toNat_natCast];have h3:=List.all_eq_true.1 ht (n/2^a) (List.mem_range.2 hb)
 rw [eq_of_beq h3];unfold tN;by_cases hz:n/2^a=0
 . have ea:a=0:=by omega
   subst ea;have:n=0:=j3
   subst this;rfl
 . have q1:=Nat.log2_self_le hz
   have q2:n/2^a<2^((n/2^a).log2+1):=Nat.lt_log2_self
   have q3:=bAI q1 q2
   have q4:(n/2^a).log2<8:=(Nat.log2_lt hz).2 hb
   rw [if_neg j3,if_neg j3,Int.toNat_natCast,Int.toNat_natCast,q3.2]
   generalize (n/2^a).log2=l at*
   rw [aR ((l+1:Nat):Int) j3 j3,aR _ j3 j3];omega
def aLs:List Ar->Option Rs
 | [.c (.d (.v (.int .u64 u0)))]=>some ⟨(0<=u0/\ u0<18446744073709551616),.va (.c (.d (it (tN u0)))),[]⟩
 |_=>none
theorem bAJ:FC prog 267 aLs:=by
 intro xs pre r us h hp;unfold aLs at h;split at h
 . rename_i u0
   cases h;have a7:=hp
   refine aE aA (l:= []) trivial func267 rfl j4 false ?_
   (repeat' (first|exact trivial|refine ⟨?_,?_⟩|intro _));all_goals first|apply qq|conv=>whnf
   all_goals (try simp only [decide_eq_true_eq,decide_eq_false_iff_not,bEV,bDz,aMc] at*)
   all_goals first|exact (u8r _).1|exact bCy j4 _|skip
   all_goals first|exact congrArg (Value.int .i64) (wW j4 0 1 j5 j5 j5 a7.1 j3 j3 j3)|exact congrArg (Value.int .i64) (wW j4 8 256 j5 j5 j5 a7.1 j3 j3 j3)|exact congrArg (Value.int .i64) (wW j4 16 65536 j5 j5 j5 a7.1 j3 j3 j3)|exact congrArg (Value.int .i64) (wW j4 24 16777216 j5 j5 j5 a7.1 j3 j3 j3)|exact congrArg (Value.int .i64) (wW j4 32 4294967296 j5 j5 j5 a7.1 j3 j3 j3)|exact congrArg (Value.int .i64) (wW j4 40 1099511627776 j5 j5 j5 a7.1 j3 j3 j3)|exact congrArg (Value.int .i64) (wW j4 48 281474976710656 j5 j5 j5 a7.1 j3 j3 j3)|exact congrArg (Value.int .i64) (wW j4 56 72057594037927936 j5 j5 j5 a7.1 j3 j3 j3)
 . cases h
def aMd:List Ar->Option Rs
 | [.c (.d (.v (.int .u64 u0)))]=>some ⟨(0<=u0/\ u0<18446744073709551616),.va (.c (.d (it (64-tN u0)))),[]⟩
 |_=>none
theorem bCz:FC prog 308 aMd:=by
 intro xs pre r us h hp;unfold aMd at h;split at h
 . rename_i u0
   cases h;have a7:=hp
   refine aE aA (l:= [(267,⟨[],aLs⟩)]) ⟨bAJ,trivial⟩ func308 rfl j4 false ?_
   (repeat' (first|exact trivial|refine ⟨?_,?_⟩|intro _));all_goals first|apply qq|conv=>whnf
   all_goals first|exact a7.1|exact a7.2|(refine congrArg (Value.int .i64) (aR _ ?_ ?_)<;>(have:=bCx a7;omega))
 . cases h
theorem aG7 (q a c:Nat):q*(a*4294967296+c)=(q*a)*4294967296+q*c:=by
 rw [Nat.mul_add, <-Nat.mul_assoc]
structure Gq (a c u d q r:Nat):Prop where
 eq:q*a+r=u
 ge:u*4294967296+d<(q+1)*(a*4294967296+c)
 le:q<=4294967297
section
variable {a c u d q r:Nat} (ha:2147483648≤a) (Ee:a<4294967296) (hc:c<4294967296) (hu:u<a*4294967296+c) (hd:d<4294967296)
include ha Ee hc hu hd
theorem aQj:Gq a c u d (u/a) (u%a):=by
 have h1:=Nat.div_add_mod u a
 have h2:=Nat.mod_lt u (show 0<a by omega)
 have h3:u/a*a+u%a=u:=by rw [Nat.mul_comm];exact h1
 refine ⟨h3, ?_,?_⟩
 . rw [aG7,Nat.add_mul,Nat.one_mul];have h4:0<=(u/a+1)*c:=Nat.zero_le _
   generalize u/a*a=p at*
   omega
 . rcases Nat.lt_or_ge 4294967297 (u/a) with h|h
   . have h4:4294967298*a<=u/a*a:=Nat.mul_le_mul_right a h
     omega
   . exact h
theorem bCA (g:Gq a c u d q r) (h:4294967296<=q \/4294967296*r+d<q*c):u*4294967296+d<q*(a*4294967296+c):=by
 have h1:=g.eq
 rcases h with h|h
 . have h2:4294967296*(a*4294967296+c)<=q*(a*4294967296+c):=Nat.mul_le_mul_right _ h
   omega
 . rw [aG7];omega
theorem aRy (g:Gq a c u d q r) (h:4294967296<=q \/4294967296*r+d<q*c):1<=q/\ Gq a c u d (q-1) (r+a):=by
 have h1:=bCA ha Ee hc hu hd g h
 have hq:1<=q:=by
  rcases Nat.eq_zero_or_pos q with h0|h0
  . subst h0;rw [Nat.zero_mul] at h1;omega
  . exact h0
 refine ⟨hq, ?_,?_,?_⟩
 . have h2:=g.eq
   have h3:(q-1)*a=q*a-a:=by rw [Nat.sub_mul,Nat.one_mul]
   have h4:a<=q*a:=Nat.le_mul_of_pos_left a hq
   rw [h3];omega
 . rw [Nat.sub_add_cancel hq];exact h1
 . have:=g.le;omega
theorem bAK (g:Gq a c u d q r) (h1:q<4294967296) (h2:q*c<=4294967296*r+d):(u*4294967296+d)/(a*4294967296+c)=q:=by
 refine Nat.div_eq_of_lt_le ?_ g.ge
 rw [aG7];have:=g.eq
 omega
theorem bCB (g:Gq a c u d q r) (h1:q<=4294967296) (h2:4294967296<=r):(u*4294967296+d)/(a*4294967296+c)=q:=by
 refine Nat.div_eq_of_lt_le ?_ g.ge
 rw [aG7];have h3:=g.eq
 have h4:q*c<=4294967296*c:=Nat.mul_le_mul_right c h1
 omega
theorem aQk:(u*4294967296+d)/(a*4294967296+c)<4294967296:=by
 rw [Nat.div_lt_iff_lt_mul j3];have:4294967296*(a*4294967296+c)≥4294967296*(u+1):=Nat.mul_le_mul_left _ hu
 omega
end
theorem bCC (u d e y:Nat):((u*4294967296+d)%y*4294967296+e)%y=((u*4294967296+d)*4294967296+e)%y:=by
 rw [Nat.add_mod,Nat.mul_mod,Nat.mod_mod, <-Nat.mul_mod, <-Nat.add_mod]
theorem aYX (n e y:Nat) (hy:0<y):n/y*4294967296+(n%y*4294967296+e)/y=(n*4294967296+e)/y:=by
 have h:=Nat.div_add_mod n y
 have e1:n*4294967296+e=y*(n/y*4294967296)+(n%y*4294967296+e):=by
  have:n*4294967296=(y*(n/y)+n%y)*4294967296:=by rw [h]
  rw [this,Nat.add_mul,Nat.mul_assoc];omega
 rw [e1,Nat.mul_add_div hy]
theorem aVS (u d e y:Nat) (hy:0<y):(u*4294967296+d)/y*4294967296+((u*4294967296+d)%y*4294967296+e)/y=((u*4294967296+d)*4294967296+e)/y:=aYX _ e y hy
theorem aW1 (v y s:Nat):(v*2^s)%(y*2^s)=(v%y)*2^s:=by
 rw [Nat.mul_comm v,Nat.mul_comm y,Nat.mul_mod_mul_left,Nat.mul_comm]
theorem aW2 (v y s:Nat):(v*2^s)/(y*2^s)=v/y:=Nat.mul_div_mul_right _ _ (Nat.two_pow_pos s)
theorem aTY {u a:Nat} (ha:0<a) (hu:u<18446744073709551616):IntKind.u64.wrap ((u:Int).tdiv (a:Int))=((u/a:Nat):Int):=by
 have h:=Nat.div_le_self u a
 rw [Int.tdiv_eq_ediv_of_nonneg (Int.natCast_nonneg _), <-Int.natCast_ediv]
 generalize u/a=m at*
 rw [wU];omega
theorem aTZ {u a:Nat} (ha:0<a) (hu:u<18446744073709551616):IntKind.u64.wrap ((u:Int)-IntKind.u64.wrap (((u/a:Nat):Int)*(a:Int)))=((u%a:Nat):Int):=by
 have h:=Nat.div_add_mod u a
 rw [<-Int.natCast_mul,Nat.mul_comm (u/a)]
 generalize a*(u/a)=p at*
 generalize u%a=m at*
 rw [wU,wU];omega
theorem aG8 {q c r d:Nat} (hq:q<=4294967297) (hc:c<4294967296) (hr:r<4294967296) (hd:d<4294967296):IntKind.u64.wrap ((q:Int)*(c:Int))=((q*c:Nat):Int)/\ IntKind.u64.wrap (IntKind.u64.wrap (4294967296*(r:Int))+(d:Int))=((4294967296*r+d:Nat):Int):=by
 have h:q*c<=4294967297*4294967295:=Nat.mul_le_mul hq j3
 rw [<-Int.natCast_mul]
 generalize q*c=p at*
 rw [wU,wU,wU];omega
theorem aT0 {q u d y:Nat} (hq:q=(u*4294967296+d)/y) (hd:d<4294967296) (hy:0<y) (hY:y<18446744073709551616):IntKind.u64.wrap (IntKind.u64.wrap (IntKind.u64.wrap ((u:Int)*4294967296)+(d:Int))-IntKind.u64.wrap ((q:Int)*(y:Int)))=(((u*4294967296+d)%y:Nat):Int):=by
 have h:=Nat.div_add_mod (u*4294967296+d) y
 have h2:=Nat.mod_lt (u*4294967296+d) hy
 subst hq;rw [<-Int.natCast_mul,Nat.mul_comm _ y]
 generalize (u*4294967296+d)%y=m at*
 generalize y*((u*4294967296+d)/y)=p at*
 rw [wU,wU,wU,wU];omega
theorem aG9 {q:Nat} (h:1<=q) (h2:q<18446744073709551616):IntKind.u64.wrap ((q:Int)-1)=((q-1:Nat):Int):=j1a
theorem tM {r a:Nat} (h:r+a<18446744073709551616):IntKind.u64.wrap ((r:Int)+(a:Int))=((r+a:Nat):Int):=j1a
theorem aTr {A C U D q r:Nat} (rA:2147483648<=A) (gh:A<4294967296) (rC:C<4294967296) (rU:U<A*4294967296+C) (rD:D<4294967296) (g:Gq A C U D q r) (_:r<4294967296) (h:decide ((q:Int)≥4294967296)=true):1<=q/\ Gq A C U D (q-1) (r+A):=aRy rA gh rC rU rD g (.inl (by have:=of_decide_eq_true h;omega))
theorem aTs {A C U D q r:Nat} (rA:2147483648<=A) (gh:A<4294967296) (rC:C<4294967296) (rU:U<A*4294967296+C) (rD:D<4294967296) (g:Gq A C U D q r) (rr:r<4294967296) (h:decide (IntKind.u64.wrap ((q:Int)*(C:Int))>IntKind.u64.wrap (IntKind.u64.wrap (4294967296*(r:Int))+(D:Int)))=true):1<=q/\ Gq A C U D (q-1) (r+A):=by
 have h:=of_decide_eq_true h
 rw [(aG8 g.le rC rr rD).1,(aG8 g.le rC rr rD).2] at h;exact aRy rA gh rC rU rD g (.inr j3)
theorem aRz {A C U D q r:Nat} (rA:2147483648<=A) (gh:A<4294967296) (rC:C<4294967296) (rU:U<A*4294967296+C) (rD:D<4294967296) (g:Gq A C U D q r) (rr:r<4294967296) (h0:decide ((q:Int)≥4294967296)=false) (h:decide (IntKind.u64.wrap ((q:Int)*(C:Int))>IntKind.u64.wrap (IntKind.u64.wrap (4294967296*(r:Int))+(D:Int)))=false):q=(U*4294967296+D)/(A*4294967296+C):=by
 have h:=of_decide_eq_false h
 have h0:=of_decide_eq_false h0
 rw [(aG8 g.le rC rr rD).1,(aG8 g.le rC rr rD).2] at h;exact (bAK rA gh rC rU rD g j3 j3).symm
theorem aRA {A C U D q r:Nat} (rA:2147483648<=A) (gh:A<4294967296) (rC:C<4294967296) (rU:U<A*4294967296+C) (rD:D<4294967296) (g:1<=q/\ Gq A C U D (q-1) (r+A)) (rr:r<4294967296) (hl:q<=4294967297) (h:decide (IntKind.u64.wrap ((r:Int)+(A:Int))≥4294967296)=true):q-1=(U*4294967296+D)/(A*4294967296+C):=by
 have h:=of_decide_eq_true h
 rw [tM j3] at h;exact (bCB rA gh rC rU rD g.2 j3 j3).symm
theorem aSw {A r:Nat} (gh:A<4294967296) (rr:r<4294967296) (h:decide (IntKind.u64.wrap ((r:Int)+(A:Int))≥4294967296)=false):r+A<4294967296:=by
 have h:=of_decide_eq_false h
 rw [tM j3] at h;omega
theorem aNi {a k:Nat} (hk:k<=63):IntKind.u64.wrap ((a:Int)*2^min (k:Int).toNat IntKind.u64.bits)=((a*2^k%18446744073709551616:Nat):Int):=by
 have e:min (k:Int).toNat IntKind.u64.bits=k:=j1g
 have e2:(a:Int)*2^k=((a*2^k:Nat):Int):=by rw [Int.natCast_mul,Int.natCast_pow];rfl
 rw [e,e2,wU];omega
theorem aT1 {a k:Nat} (hk:k<=64):(a:Int).fdiv (2^min (k:Int).toNat IntKind.u64.bits)=((a/2^k:Nat):Int):=by
 have e:min (k:Int).toNat IntKind.u64.bits=k:=j1g
 have e2:(2:Int)^k=((2^k:Nat):Int):=by rw [Int.natCast_pow];rfl
 rw [e,e2,Int.fdiv_eq_ediv_of_nonneg _ (Int.natCast_nonneg _)];rfl
theorem aSx (a:Nat):(a:Int).fdiv (2^min (Int.toNat 32) IntKind.u64.bits)=((a/4294967296:Nat):Int):=by rw [aMc];omega
theorem aSy (a:Nat):IntKind.u64.wrap ((BitVec.ofInt IntKind.u64.bits (a:Int)&&&BitVec.ofInt IntKind.u64.bits 4294967295).toNat:Int)=((a%4294967296:Nat):Int):=by rw [aTq,wU];omega
theorem aSz {a:Nat} (h:a<18446744073709551616):(BitVec.ofInt IntKind.u64.bits (a:Int)).toNat=a:=by
 rw [BitVec.toNat_ofInt];have e:((2^IntKind.u64.bits:Nat):Int)=18446744073709551616:=j5
 rw [e];omega
theorem orN {a b k:Nat} (hb:b<2^k) (h:2^k*a+b<18446744073709551616):IntKind.u64.wrap ((BitVec.ofInt IntKind.u64.bits ((2^k*a:Nat):Int)|||BitVec.ofInt IntKind.u64.bits (b:Int)).toNat:Int)=((2^k*a+b:Nat):Int):=by
 rw [BitVec.toNat_or,aSz j3,aSz j3, <-Nat.two_pow_add_eq_or_of_lt hb,wU];omega
theorem aW3 {h l y k:Nat} (hl:l<18446744073709551616) (hy:h<y) (hk:k<=63) (hY:y*2^k<18446744073709551616):(h*2^k<18446744073709551616/\ l/2^(64-k)<2^k)/\ 2^k*h+l/2^(64-k)<y*2^k/\ (2^k*h+l/2^(64-k))*18446744073709551616+l*2^k%18446744073709551616=(h*18446744073709551616+l)*2^k:=by
 have e:18446744073709551616=2^(64-k)*2^k:=by rw [<-Nat.pow_add,show 64-k+k=64 by omega]
 have p:=Nat.two_pow_pos k
 have p2:=Nat.two_pow_pos (64-k)
 have h1:l*2^k/18446744073709551616=l/2^(64-k):=by rw [e];exact Nat.mul_div_mul_right _ _ p
 have h2:=Nat.div_add_mod (l*2^k) 18446744073709551616
 have h3:l/2^(64-k)<2^k:=by rw [Nat.div_lt_iff_lt_mul p2,Nat.mul_comm, <-e];exact hl
 have h4:(h+1)*2^k<=y*2^k:=Nat.mul_le_mul_right _ hy
 rw [Nat.add_mul,Nat.one_mul] at h4;have h5:(h*18446744073709551616+l)*2^k=h*2^k*18446744073709551616+l*2^k:=by rw [Nat.add_mul,Nat.mul_right_comm]
 rw [h5,Nat.mul_comm (2^k) h];rw [h1] at h2
 generalize h*2^k=a at*
 generalize l/2^(64-k)=b at*
 generalize l*2^k%18446744073709551616=c at*
 refine ⟨⟨by omega,h3⟩,by omega,by omega⟩
theorem bAL {y:Nat} (h0:0<y) (h:y<18446744073709551616): ∃k:Nat,IntKind.u64.wrap (64-tN (y:Int))=(k:Int)/\ IntKind.u64.wrap (64-(k:Int))=((64-k:Nat):Int)/\ k<=63/\ 9223372036854775808<=y*2^k/\ y*2^k<18446744073709551616:=by
 have hz:y≠0:=j3
 have q1:=Nat.log2_self_le hz
 have q2:y<2^(y.log2+1):=Nat.lt_log2_self
 have q3:y.log2<64:=(Nat.log2_lt hz).2 h
 refine ⟨63-y.log2, ?_,?_,by omega, ?_,?_⟩
 . unfold tN;rw [if_neg j3,Int.toNat_natCast,wU];omega
 . rw [wU];omega
 . have:=Nat.mul_le_mul_right (2^(63-y.log2)) q1
   rw [<-Nat.pow_add,show y.log2+(63-y.log2)=63 by omega] at this;exact this
 . have:=(Nat.mul_lt_mul_right (Nat.two_pow_pos (63-y.log2))).2 q2
   rw [<-Nat.pow_add,show y.log2+1+(63-y.log2)=64 by omega] at this;exact this
theorem bDA {Y A C:Nat} (h1:A=Y/4294967296) (h2:C=Y%4294967296):A*4294967296+C=Y:=j3
theorem hvv {U X D E V:Nat} (h1:D=X/4294967296) (h2:E=X%4294967296) (h:U*18446744073709551616+X=V):(U*4294967296+D)*4294967296+E=V:=by
 have e:X=D*4294967296+E:=j3
 have e2:U*4294967296*4294967296=U*18446744073709551616:=Nat.mul_assoc U 4294967296 4294967296
 rw [Nat.add_mul,e2,Nat.add_assoc, <-e];exact h
theorem aRB {h l y k U D E W Y q1 q0:Nat} (hy:0<y) (hY:Y=y*2^k) (hV:(U*4294967296+D)*4294967296+E=(h*18446744073709551616+l)*2^k) (hW:W=(U*4294967296+D)%Y) (h1:q1=(U*4294967296+D)/Y) (h0:q0=(W*4294967296+E)/Y):q1*4294967296+q0=(h*18446744073709551616+l)/y/\ (W*4294967296+E)%Y/2^k=(h*18446744073709551616+l)%y:=by
 have p:=Nat.two_pow_pos k
 have pY:0<Y:=by rw [hY];exact Nat.mul_pos hy p
 subst hW h1 h0;rw [aVS U D E Y pY,bCC U D E Y,hV,hY,aW2,aW1];exact ⟨rfl,Nat.mul_div_cancel _ p⟩
theorem aSA {h l y:Nat}:((h:Int)*18446744073709551616+(l:Int))/(y:Int)=(((h*18446744073709551616+l)/y:Nat):Int):=by rw [Int.natCast_ediv,Int.natCast_add,Int.natCast_mul];rfl
theorem aSB {h l y:Nat}:((h:Int)*18446744073709551616+(l:Int))%(y:Int)=(((h*18446744073709551616+l)%y:Nat):Int):=by rw [Int.natCast_emod,Int.natCast_add,Int.natCast_mul];rfl
theorem bDB {h l y k U D E W Y q1 q0:Nat} (hy:0<y) (hY:Y=y*2^k) (hV:(U*4294967296+D)*4294967296+E=(h*18446744073709551616+l)*2^k) (hW:W=(U*4294967296+D)%Y) (h1:q1=(U*4294967296+D)/Y) (h0:q0=(W*4294967296+E)/Y) (b1:q1<4294967296) (b0:q0<4294967296):IntKind.u64.wrap (IntKind.u64.wrap ((q1:Int)*4294967296)+(q0:Int))=((h:Int)*18446744073709551616+(l:Int))/(y:Int):=by
 have:=(aRB hy hY hV hW h1 h0).1
 rw [aSA, <-this,wU,wU];omega
theorem bDC {h l y k U D E W Y q1 q0:Nat} (hy:0<y) (hY:Y=y*2^k) (hV:(U*4294967296+D)*4294967296+E=(h*18446744073709551616+l)*2^k) (hW:W=(U*4294967296+D)%Y) (h1:q1=(U*4294967296+D)/Y) (h0:q0=(W*4294967296+E)/Y) (rE:E<4294967296) (pY:0<Y) (rY:Y<18446744073709551616) (hk:k<=63):(IntKind.u64.wrap (IntKind.u64.wrap (IntKind.u64.wrap ((W:Int)*4294967296)+(E:Int))-IntKind.u64.wrap ((q0:Int)*(Y:Int)))).fdiv (2^min (k:Int).toNat IntKind.u64.bits)=((h:Int)*18446744073709551616+(l:Int))%(y:Int):=by
 have:=(aRB hy hY hV hW h1 h0).2
 rw [aT0 h0 rE pY rY,aT1 j3,aSB, <-this]
theorem bCD {l y:Nat} (hl:l<18446744073709551616):IntKind.u64.wrap ((l:Int).tdiv (y:Int))=(((0:Nat):Int)*18446744073709551616+(l:Int))/(y:Int):=by
 have h:=Nat.div_le_self l y
 rw [aSA,Int.tdiv_eq_ediv_of_nonneg (Int.natCast_nonneg _), <-Int.natCast_ediv,Nat.zero_mul,Nat.zero_add]
 generalize l/y=m at*
 rw [wU];omega
theorem bCE {l y:Nat}:(l:Int).tmod (y:Int)=(((0:Nat):Int)*18446744073709551616+(l:Int))%(y:Int):=by
 rw [aSB,Int.tmod_eq_emod_of_nonneg (Int.natCast_nonneg _), <-Int.natCast_emod,Nat.zero_mul,Nat.zero_add]
theorem bAM {P:Program} {t:TypeId} {xo yo:Operand} {k k':IntKind} {a b:Int} (h:0<=b):dY P (do eqGuard .shl t xo yo (.int k a) (.int k' b);binOp .shl t (.int k a) (.int k' b))=some (.int k (k.wrap (a*2^min b.toNat k.bits))):=by
 show dY P (Op.shift .shl k a k' b)=_
 unfold Op.shift;rw [if_neg j3];rfl
theorem bAN {P:Program} {t:TypeId} {xo yo:Operand} {k k':IntKind} {a b:Int} (h:0<=b):dY P (do eqGuard .shr t xo yo (.int k a) (.int k' b);binOp .shr t (.int k a) (.int k' b))=some (.int k (a.fdiv (2^min b.toNat k.bits))):=by
 show dY P (Op.shift .shr k a k' b)=_
 unfold Op.shift;rw [if_neg j3];rfl
def aGH:List Ar->Option Rs
 | [.c (.d (.v (.int .u64 u0))),.c (.d (.v (.int .u64 u1))),.c (.d (.v (.int .u64 u2)))]=>some ⟨(0<=u0/\ u0<18446744073709551616)/\ (0<=u1/\ u1<18446744073709551616)/\ (0<=u2/\ u2<18446744073709551616)/\ (u0<u2),.tup [.c (.d (ut ((u0*18446744073709551616+u1)/u2))),.c (.d (ut ((u0*18446744073709551616+u1)%u2)))],[]⟩
 |_=>none
abbrev aHA:List (Nat×Sm):= [(308,⟨[],aMd⟩)]
theorem aNj:gX prog aHA:=⟨bCz,trivial⟩
theorem aRC:FC prog 304 aGH:=by
 intro xs pre r us h hp;unfold aGH at h;split at h
 . rename_i u0 u1 u2
   cases h;obtain ⟨a7,a8,af,di⟩:=hp
   refine aE aA (l:=aHA) aNj func304 rfl j4 false ?_
   obtain ⟨h,rfl⟩:=Int.eq_ofNat_of_zero_le a7.1
   obtain ⟨l,rfl⟩:=Int.eq_ofNat_of_zero_le a8.1
   obtain ⟨y,rfl⟩:=Int.eq_ofNat_of_zero_le af.1
   obtain ⟨k,e1,e2,hk,G1,hY⟩:=bAL (y:=y) j3 j3
   obtain ⟨⟨hh,hb⟩,G2,hV⟩:=aW3 (h:=h) (l:=l) j3 j3 hk hY
   obtain ⟨Y,xz⟩: ∃Y,Y=y*2^k:=⟨_,rfl⟩
   have eY:y*2^k%18446744073709551616=Y:=by rw [xz];exact Nat.mod_eq_of_lt hY
   have eH:h*2^k%18446744073709551616=2^k*h:=by rw [Nat.mod_eq_of_lt hh,Nat.mul_comm]
   have hU:2^k*h+l/2^(64-k)<18446744073709551616:=j3
   obtain ⟨U,CK⟩: ∃U,U=2^k*h+l/2^(64-k):=⟨_,rfl⟩
   have He:9223372036854775808<=Y:=by rw [xz];exact G1
   have qY:Y<18446744073709551616:=by rw [xz];exact hY
   have qU:U<Y:=by rw [xz,CK];exact G2
   obtain ⟨A,Ef⟩: ∃A,A=Y/4294967296:=⟨_,rfl⟩
   obtain ⟨C,Eg⟩: ∃C,C=Y%4294967296:=⟨_,rfl⟩
   obtain ⟨X,CL⟩: ∃X,X=l*2^k%18446744073709551616:=⟨_,rfl⟩
   obtain ⟨D,Eh⟩: ∃D,D=X/4294967296:=⟨_,rfl⟩
   obtain ⟨E,Ei⟩: ∃E,E=X%4294967296:=⟨_,rfl⟩
   have rX:X<18446744073709551616:=by rw [CL];omega
   have Am:A*4294967296+C=Y:=bDA Ef Eg
   have rA:2147483648<=A:=j3
   have gh:A<4294967296:=j3
   have rC:C<4294967296:=j3
   have rD:D<4294967296:=j3
   have rE:E<4294967296:=j3
   have Ej:(U*4294967296+D)*4294967296+E=(h*18446744073709551616+l)*2^k:=by rw [<-CK, <-CL] at hV;exact hvv Eh Ei hV
   have rU:U<A*4294967296+C:=j3
   have eQ:=aTY (u:=U) (a:=A) j3 j3
   have eR:=aTZ (u:=U) (a:=A) j3 j3
   (repeat' (first|exact trivial|refine ⟨?_,?_⟩|intro _));all_goals first|apply qq|conv=>whnf
   all_goals first|(with_reducible show Value.int _ _=Value.int _ _)|exact j5w|skip
   all_goals first|(with_reducible show Value.int _ _=Value.int _ _)|(rw [e1,bAM (Int.natCast_nonneg k),aNi hk,eY])
   repeat' (fail)
   all_goals first|(conv=>whnf)
   all_goals first|(with_reducible show Value.int _ _=Value.int _ _)|skip
   all_goals first|(with_reducible show Value.int _ _=Value.int _ _)|(rw [aSx,aSy, <-Ef, <-Eg,aNi hk,eH,e2,bAN (Int.natCast_nonneg (64-k)),aT1 j3])
   repeat' (first|refine ⟨?_,?_⟩|intro _)
   all_goals first|(conv=>whnf)
   all_goals first|(with_reducible show Value.int _ _=Value.int _ _)|exact j5w|skip
   all_goals first|(with_reducible show Value.int _ _=Value.int _ _)|(rw [orN hb hU, <-CK,aNi hk, <-CL,aSx,aSy, <-Eh, <-Ei,eQ,eR])
   all_goals first|(have hz:h=0:=(by have:=‹((h:Int)==0)=true›;rw [beq_iff_eq] at this;omega);subst hz;refine congrArg (Value.int .u64) ?_;first|exact bCE|exact bCD j3)|skip
   refine dM aA (l:=aHA) aNj j4 (X:=Nat×Nat) (fun x=>⟨[(15,vx (.int .u64 x.1)),(16,vx (.int .u64 x.2)),(2,vx (.int .u64 Y)),(8,vx (.int .u64 k)),(9,vx (.int .u64 A)),(10,vx (.int .u64 C)),(11,vx (.int .u64 U)),(13,vx (.int .u64 D)),(14,vx (.int .u64 E))],[],0,135⟩) (fun x=>x.1)
    (fun x=>Gq A C U D x.1 x.2/\ x.2<4294967296) [15,16] [] (fun x _ _=>(x.1-1,x.2+A)) [] [] 0 0 (U/A,U%A) ?_ ?_ ?_
   . exact ⟨aQj rA gh rC rU rD,by have:=Nat.mod_lt U (show 0<A by omega);omega⟩
   . repeat' (first|exact j2t|refine ⟨?_,?_⟩|fail)
   . rintro ⟨q,r⟩ ⟨g,rr⟩
     change Gq A C U D q r at g
     change r<4294967296 at rr
     have gl:=g.le
     (repeat' (first|exact trivial|refine ⟨?_,?_⟩|intro _));all_goals first|apply qq|conv=>whnf
     all_goals first|(with_reducible show aO _ _ _ _ _)|rfl|(exfalso;have q0:=‹(_:Int)=0›;omega)|skip
     all_goals first|(have gn:=aTr rA gh rC rU rD g rr ‹_›)|(have gn:=aTs rA gh rC rU rD g rr ‹decide (_>_)=true›)|(have ge:=aRz rA gh rC rU rD g rr ‹_› ‹decide (_>_)=false›)
     all_goals first|(have go:=aRA rA gh rC rU rD gn rr gl ‹decide (IntKind.u64.wrap (_+_)≥_)=true›)|(have gi:=aSw gh rr ‹decide (IntKind.u64.wrap (_+_)≥_)=false›)|skip
     all_goals first|exact j5l|skip
     all_goals (with_reducible show aO _ _ _ _ _)
     all_goals first|(obtain ⟨q1,qx⟩: ∃q1,q1=q-1:=⟨_,rfl⟩;rw [aG9 gn.1 j3];rw [<-qx] at go⊢;have gq:=go)|(obtain ⟨q1,qx⟩: ∃q1,q1=q:=⟨_,rfl⟩;rw [<-qx] at ge⊢;have gq:=ge)
     all_goals (rw [Am] at gq;obtain ⟨W,B6⟩: ∃W,W=(U*4294967296+D)%Y:=⟨_,rfl⟩;have rW:W<A*4294967296+C:=by rw [Am,B6];exact Nat.mod_lt _ j3)
     all_goals (rw [aT0 gq rD j3 qY, <-B6,aTY (u:=W) (a:=A) j3 j3,aTZ (u:=W) (a:=A) j3 j3])
     all_goals
      refine dM aA (l:=aHA) aNj j4 (X:=Nat×Nat) (fun x=>⟨[(18,vx (.int .u64 x.1)),(16,vx (.int .u64 x.2)),(2,vx (.int .u64 Y)),(8,vx (.int .u64 k)),(9,vx (.int .u64 A)),(10,vx (.int .u64 C)),(15,vx (.int .u64 q1)),(17,vx (.int .u64 W)),(14,vx (.int .u64 E))],[],0,135⟩) (fun x=>x.1)
       (fun x=>Gq A C W E x.1 x.2/\ x.2<4294967296) [18,16] [] (fun x _ _=>(x.1-1,x.2+A)) [] [] 0 0 (W/A,W%A) ?_ ?_ ?_
      . exact ⟨aQj rA gh rC rW rE,by have:=Nat.mod_lt W (show 0<A by omega);omega⟩
      . repeat' (first|exact j2t|refine ⟨?_,?_⟩|fail)
      . rintro ⟨q,r⟩ ⟨g,rr⟩
        change Gq A C W E q r at g
        change r<4294967296 at rr
        have gl:=g.le
        (repeat' (first|exact trivial|refine ⟨?_,?_⟩|intro _));all_goals first|apply qq|conv=>whnf
        all_goals first|rfl|skip
        all_goals first|(have gn:=aTr rA gh rC rW rE g rr ‹_›)|(have gn:=aTs rA gh rC rW rE g rr ‹decide (_>_)=true›)|(have ge:=aRz rA gh rC rW rE g rr ‹_› ‹decide (_>_)=false›)
        all_goals first|(have go:=aRA rA gh rC rW rE gn rr gl ‹decide (IntKind.u64.wrap (_+_)≥_)=true›)|(have gi:=aSw gh rr ‹decide (IntKind.u64.wrap (_+_)≥_)=false›)|skip
        all_goals first|exact j5l|skip
        all_goals first|(rw [aG9 gn.1 j3];obtain ⟨q0,mf⟩: ∃q0,q0=q-1:=⟨_,rfl⟩;rw [<-mf] at go⊢;have An:=go)|(obtain ⟨q0,mf⟩: ∃q0,q0=q:=⟨_,rfl⟩;rw [<-mf] at ge⊢;have An:=ge)
        all_goals rw [Am] at An
        all_goals refine congrArg (Value.int .u64) ?_
        all_goals first|exact bDC j3 xz Ej B6 gq An rE j3 qY hk|exact bDB j3 xz Ej B6 gq An (by rw [gq, <-Am];exact aQk rA gh rC rU rD) (by rw [An, <-Am];exact aQk rA gh rC rW rE)
 . cases h
def aX (n:Int):Int:=if n<0 then-n else n
theorem aF1 {n:Int} (h: -9223372036854775808<=n/\ n<9223372036854775808):0<=aX n/\ aX n<=9223372036854775808:=j0w
theorem aSC {n:Int} (h: -9223372036854775808<=n/\ n<9223372036854775808) (h2:decide (n<0)=true):IntKind.u64.wrap (0-IntKind.u64.wrap n)=aX n:=by
 have:=of_decide_eq_true h2
 unfold aX;rw [if_pos this,wU,wU];omega
theorem aSD {n:Int} (h: -9223372036854775808<=n/\ n<9223372036854775808) (h2:decide (n<0)=false):IntKind.u64.wrap n=aX n:=by
 have:=of_decide_eq_false h2
 unfold aX;rw [if_neg this,wU];omega
theorem aYY {a b:Int} (ha: -9223372036854775808<=a/\ a<9223372036854775808) (hb: -9223372036854775808<=b/\ b<9223372036854775808):(0<=aX a*aX b/\ aX a*aX b<=85070591730234615865843651857942052864)/\ ((decide (a<0) !=decide (b<0))=true->aX a*aX b= -(a*b))/\ ((decide (a<0) !=decide (b<0))=false->aX a*aX b=a*b):=by
 have h1:=aF1 ha
 have h2:=aF1 hb
 refine ⟨⟨Int.mul_nonneg h1.1 h2.1,by have:=Int.mul_le_mul h1.2 h2.2 h2.1 j5;omega⟩, ?_,?_⟩
 . intro h;unfold aX;by_cases h3:a<0<;>by_cases h4:b<0<;>simp [h3,h4,Int.neg_mul,Int.mul_neg] at h⊢
 . intro h;unfold aX;by_cases h3:a<0<;>by_cases h4:b<0<;>simp [h3,h4,Int.neg_mul,Int.mul_neg] at h⊢
theorem aYZ {p:Int} (h:0<=p/\ p<=85070591730234615865843651857942052864):(⟨IntKind.wrap .i64 (p/18446744073709551616),p%18446744073709551616⟩:Wd)=wd p:=by
 rw [wI];unfold wd;congr 1
theorem bDD {p q:Int} (h:0<=p/\ p<=85070591730234615865843651857942052864) (e:p= -q):wd (0-(wd p).val)=wd q:=by
 rw [dH (v:=p) j3 j3];congr 1;omega
theorem bAO {p:Int} (h:0<=p/\ p<=85070591730234615865843651857942052864):(0<=p/18446744073709551616/\ p/18446744073709551616<18446744073709551616)/\ 0<=p%18446744073709551616/\ p%18446744073709551616<18446744073709551616:=j3
def aLt:List Ar->Option Rs
 | [.c (.d (.v (.int .i64 i0)))]=>some ⟨(-9223372036854775808<=i0/\ i0<9223372036854775808),.va (.c (.d (ut (aX i0)))),[]⟩
 |_=>none
theorem bAP:FC prog 271 aLt:=by
 intro xs pre r us h hp;unfold aLt at h;split at h
 . rename_i i0
   cases h;have a7:=hp
   refine aE aA (l:= []) trivial func271 rfl j4 false ?_
   repeat' (first|exact trivial|refine ⟨?_,?_⟩|intro _)
   all_goals first|(conv=>whnf)
   all_goals first|exact j5z
 . cases h
def aB2:List Ar->Option Rs
 | [.c (.d (.v (.int .i64 i0))),.c (.d (.v (.int .i64 i1)))]=>some ⟨(-9223372036854775808<=i0/\ i0<9223372036854775808)/\ (-9223372036854775808<=i1/\ i1<9223372036854775808),.va (Wd.ar (wd (i0*i1))),[]⟩
 |_=>none
theorem aGI:FC prog 227 aB2:=by
 intro xs pre r us h hp;unfold aB2 at h;split at h
 . rename_i i0 i1
   cases h;obtain ⟨a7,a8⟩:=hp
   refine aE aA (l:= [(271,⟨[],aLt⟩),(270,⟨[],aGG⟩),(179,⟨[],aAg⟩)]) ⟨bAP,aRx,aDY,trivial⟩ func227 rfl j4 false ?_
   have s0:=aF1 a7
   have s1:=aF1 a8
   have z0:0<=aX i0/\ aX i0<18446744073709551616:=j3
   have z1:0<=aX i1/\ aX i1<18446744073709551616:=j3
   obtain ⟨mr,m1,m2⟩:=aYY a7 a8
   have B7:=bAO mr
   have ew:=aYZ mr
   have eh:IntKind.wrap .i64 (aX i0*aX i1/18446744073709551616)=(wd (aX i0*aX i1)).hi:=congrArg Wd.hi ew
   have el:aX i0*aX i1%18446744073709551616=(wd (aX i0*aX i1)).lo:=congrArg Wd.lo ew
   have ok:=bL (aX i0*aX i1)
   unfold Wd.ok at ok
   (repeat' (first|exact trivial|(with_reducible first|assumption|exact z0|exact z1)|refine ⟨?_,?_⟩|intro _));all_goals first|apply qq|conv=>whnf
   all_goals first|(rw [eh,m2 ‹_›];done)|(rw [el,m2 ‹_›];done)|(rw [ew,bDD mr (m1 ‹_›)];done)|(rw [eh];first|exact ok.1.1|exact ok.1.2)|exact B7.2.1|exact B7.2.2
 . cases h
theorem bDE {a b m:Int} (ha:0<=a/\ a<m) (hb:0<=b/\ b<18446744073709551616):a*b/18446744073709551616<m:=by
 have h:a*b<=(m-1)*b:=Int.mul_le_mul_of_nonneg_right j3 hb.1
 have h2:(m-1)*b<=(m-1)*(18446744073709551616-1):=Int.mul_le_mul_of_nonneg_left j3 j3
 generalize a*b=p at*
 generalize (m-1)*b=q at*
 omega
theorem bDF {a b:Int} (ha:0<=a/\ a<18446744073709551616) (hb:0<=b/\ b<18446744073709551616):(0<=a*b/18446744073709551616/\ a*b/18446744073709551616<18446744073709551616)/\ (0<=a*b%18446744073709551616/\ a*b%18446744073709551616<18446744073709551616)/\ a*b/18446744073709551616*18446744073709551616+a*b%18446744073709551616=a*b:=by
 have h:=Int.mul_nonneg ha.1 hb.1
 have h1:a*b<=(18446744073709551616-1)*(18446744073709551616-1):=Int.mul_le_mul j3 j3 hb.1 j5
 generalize a*b=p at*
 omega
def aDH:List Ar->Option Rs
 | [.c (.d (.v (.int .u64 u0))),.c (.d (.v (.int .u64 u1))),.c (.d (.v (.int .u64 u2)))]=>some ⟨(0<=u0/\ u0<18446744073709551616)/\ (0<=u1/\ u1<18446744073709551616)/\ (0<=u2/\ u2<18446744073709551616)/\ (u0<u2),.va (.c (.d (ut (u0*u1%u2)))),[]⟩
 |_=>none
theorem aJz:FC prog 272 aDH:=by
 intro xs pre r us h hp;unfold aDH at h;split at h
 . rename_i u0 u1 u2
   cases h;obtain ⟨a7,a8,af,di⟩:=hp
   refine aE aA (l:= [(270,⟨[],aGG⟩),(304,⟨[],aGH⟩)]) ⟨aRx,aRC,trivial⟩ func272 rfl j4 false ?_
   have hh:=bDE (a:=u0) (b:=u1) (m:=u2) j3 a8
   obtain ⟨mr,G3,B7⟩:=bDF a7 a8
   repeat' (first|exact trivial|(with_reducible first|assumption|exact mr|exact G3)|refine ⟨?_,?_⟩|intro _)
   all_goals first|(conv=>whnf)
   all_goals first|(rw [B7];done)
 . cases h
namespace Sp
end Sp
def Cg.tidy (c:Cg):Prop:=c=Cg.none \/(c.some=true/\ c.red)
theorem Cg.tidy_fix {c:Cg} (h:c.tidy):c.clean=c:=by
 rcases h with rfl|⟨h1,h2⟩
 . rfl
 . exact aBu h1 h2
theorem bDG {c:Cg} (h:c.tidy) (hs:c.some=true) (n:Int):c.has n=decide (md n c.m=c.r):=by
 unfold Cg.has;rw [Cg.tidy_fix h,hs];rfl
theorem aW4 {l:List ByteArray} (h:lC l):l.Nodup:=by
 unfold lC at h;exact h.imp fun {a b} mw e=>by subst e;exact absurd mw (List.lt_irrefl _)
theorem aGJ {i:Ig} (h:i.tidy):i.c.tidy:=by
 rcases h with rfl|⟨⟨_,h2⟩,_,h4⟩
 . exact .inl rfl
 . exact .inr ⟨h2,h4⟩
namespace Sp
end Sp
theorem bDH {n m r:Int} (h0:0<=m) (h:0<m->0<=r/\ r<m):md n m=r↔m∣n-r:=by
 rcases Int.lt_or_eq_of_le h0 with hm|hm
 . obtain ⟨h1,h2⟩:=h hm
   rw [aLb hm h1 h2];exact (Int.dvd_iff_emod_eq_zero).symm
 . subst hm;unfold md;rw [if_pos (Int.le_refl _),Int.zero_dvd];omega
namespace Cg
end Cg
structure Vl.tidy (v:Vl):Prop where
 i:v.i.tidy
 t:lC v.t.names
theorem Vl.of_tidy (v:Vl):v.of.tidy:=⟨by rw [qS];exact yN v.i,by rw [qS];exact aCR _⟩
theorem oE {l:List ByteArray} {z:ByteArray}:z∈aP l↔z∈l:=by rw [rG,aIr]
theorem lX (v:Vl):v.of.t.names=aP v.t.names:=by rw [qS,rG];rfl
def Vl.inR (v:Vl):Prop:=v.i.s.inR/\ v.i.c.inR
theorem Vl.of_inR {v:Vl} (h:v.inR):v.of.inR:=Ig.clean_inR h.1 h.2
end Go.Proofs.YtiblbnhknemloaaGreat
