/- What the layer of envs computes: two envs, name by name. No condition. -/
import Derived.Test.YtiblbnhknemloaaGreatG15
set_option linter.all false
set_option maxHeartbeats 8000000
set_option maxRecDepth 100000
namespace Go.Proofs.YtiblbnhknemloaaGreat
open Tryz
open Go.Sx
def eJ (op:Vl->Vl->Vl):List Bd->List Bd->List Bd
 | [],[]=> []
 | [],y::b=>⟨y.name,op Vl.zero y.v⟩::eJ op [] b
 |x::a,[]=>⟨x.name,op x.v Vl.zero⟩::eJ op a []
 |x::a,y::b=>if aQ x y=true then ⟨x.name,op x.v Vl.zero⟩::eJ op a (y::b) else if aQ y x=true then ⟨y.name,op Vl.zero y.v⟩::eJ op (x::a) b else ⟨x.name,op x.v y.v⟩::eJ op a b
termination_by a b=>a.length+b.length
def mQ (op:Vl->Vl->Vl) (A B:List Bd) (x:Nat×Nat×List Bd):Nat×Nat×List Bd:=
 if x.1<A.length then
  if x.2.1<B.length then
   if aQ (aM A x.1) (aM B x.2.1)=true then (x.1+1,x.2.1,x.2.2++ [⟨(aM A x.1).name,op (aM A x.1).v Vl.zero⟩])
   else if aQ (aM B x.2.1) (aM A x.1)=true then (x.1,x.2.1+1,x.2.2++ [⟨(aM B x.2.1).name,op Vl.zero (aM B x.2.1).v⟩])
   else (x.1+1,x.2.1+1,x.2.2++ [⟨(aM A x.1).name,op (aM A x.1).v (aM B x.2.1).v⟩])
  else (x.1+1,x.2.1,x.2.2++ [⟨(aM A x.1).name,op (aM A x.1).v Vl.zero⟩])
 else (x.1,x.2.1+1,x.2.2++ [⟨(aM B x.2.1).name,op Vl.zero (aM B x.2.1).v⟩])
theorem aA9 {A:List Bd} {i:Nat} (h:i<A.length):A.drop i=aM A i::A.drop (i+1):=by
 rw [List.drop_eq_getElem_cons h]
 congr 1
 unfold aM;rw [List.getD_eq_getElem?_getD,List.getElem?_eq_getElem h];rfl
theorem bBr {op:Vl->Vl->Vl} {A B:List Bd} {i j:Nat} {out:List Bd} (h:i<A.length \/j<B.length):
 (mQ op A B (i,j,out)).2.2++eJ op (A.drop (mQ op A B (i,j,out)).1) (B.drop (mQ op A B (i,j,out)).2.1)=out++eJ op (A.drop i) (B.drop j):=by
 unfold mQ;dsimp only;by_cases c1:i<A.length
 . rw [if_pos c1];by_cases c2:j<B.length
   . rw [if_pos c2]
     conv=>rhs;rw [aA9 c1,aA9 c2,eJ]
     split
     . dsimp only;rw [aA9 c2]<;>simp
     . split
       . dsimp only;rw [aA9 c1];simp
       . dsimp only;simp
   . rw [if_neg c2];have e:B.drop j= []:=List.drop_eq_nil_of_le j3
     conv=>rhs;rw [aA9 c1,e,eJ]
     dsimp only;rw [e];simp
 . rw [if_neg c1];have c2:j<B.length:=h.resolve_left c1
   have e:A.drop i= []:=List.drop_eq_nil_of_le j3
   conv=>rhs;rw [aA9 c2,e,eJ]
   dsimp only;rw [e];simp
theorem aXK (L:List Bd) (x:Bd) (k:Nat) (h:k<L.length+1):aM (L++ [x]) k=if k<L.length then aM L k else x:=by
 unfold aM;simp only [List.getD_eq_getElem?_getD];split
 . rename_i h1;rw [List.getElem?_append_left h1]
 . rename_i h1;rw [show k=L.length by omega,List.getElem?_append_right (Nat.le_refl _),Nat.sub_self];rfl
theorem aC9 {L:List Bd} {x:Bd} {g:Nat->List DV} {k:Nat} (hg:g 0=aT x) (hk:k<L.length+1):dG L.length (aW L) g k=aW (L++ [x]) k:=by
 show _=aT (aM (L++ [x]) k)
 rw [aXK L x k hk];unfold dG;split
 . rfl
 . rw [show k-L.length=0 by omega,hg]
theorem aXL {a b:ByteArray} (h:a=b):(if (!Op.bytesLess a.toList b.toList)=true then a else b)=a:=by subst h;exact ite_self _
abbrev sD (v:Vl):List DV:= [bo v.i.s.some,it v.i.s.lo,it v.i.s.hi,bo v.i.c.some,it v.i.c.m,it v.i.c.r,bo v.t.null,lst v.t.names]
abbrev vlZ:List DV:= [bo false,it 0,it 0,bo false,it 0,it 0,bo false,.v (.slice none 0 0)]
def gIs (gz:List Cv->Option Gs) (a b:List DV) (z:Vl):Prop:= ∃p:Prop,gz [.agg a,.agg b]=some ⟨p,.va (.agg (sD z))⟩/\ p
structure GOk (gz:List Cv->Option Gs) (Op:Vl->Vl->Vl) (Q:Vl->Vl->Prop):Prop where
 both: ∀x y,aY x->aY y->Q x y->gIs gz (sD x) (sD y) (Op x y)
 left: ∀x,aY x->Q x Vl.zero->gIs gz (sD x) vlZ (Op x Vl.zero)
 right: ∀y,aY y->Q Vl.zero y->gIs gz vlZ (sD y) (Op Vl.zero y)
structure QOk (Q:Vl->Vl->Prop) (A B:List Bd):Prop where
 both: ∀x∈A, ∀y∈B,Q x.v y.v
 left: ∀x∈A,Q x.v Vl.zero
 right: ∀y∈B,Q Vl.zero y.v
theorem aC1 (a:ByteArray):(if (!Op.bytesLess a.toList (ByteArray.mk #[]).toList)=true then a else ByteArray.mk #[])=a:=by
 have:(ByteArray.mk #[]).toList= []:=by rw [aAf]
 rw [this];cases a.toList<;>rfl
theorem aCN (a:ByteArray):(if (!Op.bytesLess (ByteArray.mk #[]).toList a.toList)=true then ByteArray.mk #[] else a)=a:=by
 have:(ByteArray.mk #[]).toList= []:=by rw [aAf]
 rw [this];cases h:a.toList with
 |nil=>
  rw [aAf] at h;have:a=ByteArray.mk #[]:=aGq (h.trans rfl)
  rw [this];rfl
 |cons x r=>rfl
theorem aS7 {x y:Bd} (h:aQ x y=true):bR x.name.data.toList y.name.data.toList<0:=of_decide_eq_true h
theorem aS8 {x y:Bd} (h:aQ y x=true):bR x.name.data.toList y.name.data.toList>0:=by
 have h1:=aA8.1 h
 have h2: ¬kS x.name<kS y.name:=List.lt_asymm h1
 have h3: ¬bR x.name.data.toList y.name.data.toList<0:=fun h=>h2 ((zS _ _).1 h)
 have h4: ¬bR x.name.data.toList y.name.data.toList=0:=fun h=>by
  have e:=aGq ((aGA _ _).1 h)
  rw [e] at h1;exact List.lt_irrefl _ h1
 omega
theorem aEc {x y:Bd} (h1:aQ x y=false) (h2:aQ y x=false):bR x.name.data.toList y.name.data.toList=0/\ x.name=y.name:=by
 have e:x.name=y.name:=Decidable.byContradiction fun hn=>aC8.1 h2 (aDX (aC8.1 h1) hn)
 exact ⟨(aGA _ _).2 (by rw [e]),e⟩
def aLN:List Ar->Option Rs
 | [.agg [.d (.v (.string x0)),.d (.v (.bool _)),.d (.v (.int .i64 _)),.d (.v (.int .i64 _)),.d (.v (.bool _)),.d (.v (.int .i64 _)),.d (.v (.int .i64 _)),.d (.v (.bool _)),.d (.lst 1 _ _)]]=>some ⟨True,.va (.c (.d (st x0))),[]⟩
 |_=>none
theorem bBs:FC prog 163 aLN:=by
 intro xs pre r us h hp;unfold aLN at h;split at h
 . rename_i x0 s0 l0 h0 b0 m0 r0 z0 n0 f0
   cases h;refine aE aA (l:= []) trivial func163 rfl j4 false ?_
   repeat' (first|exact trivial|refine ⟨?_,?_⟩|fail)
   all_goals first|(conv=>whnf)
   all_goals grind
 . cases h
def aLO (Op:Vl->Vl->Vl) (Q:Vl->Vl->Prop) (gz:List Cv->Option Gs):List Ar->Option Rs
 | [.agg [.d (.v (.bool _)),.d (.lst 9 n0 f0)],.agg [.d (.v (.bool _)),.d (.lst 9 n1 f1)],.fv g2]=>some ⟨(n0<=1099511627776/\ dN n0 f0)/\ (n1<=1099511627776/\ dN n1 f1)/\ (g2=gz/\ GOk gz Op Q/\ QOk Q (aH n0 f0) (aH n1 f1)/\ n0+n1<=1099511627776),.va (En.ar (⟨true,eJ Op (aH n0 f0) (aH n1 f1)⟩)),[]⟩
 |_=>none
abbrev jE:List (Nat×Sm):= [(163,⟨[],aLN⟩),(75,⟨[],aDD⟩)]
theorem jT:gX prog jE:=⟨bBs,aJw,trivial⟩
theorem bBt (Op:Vl->Vl->Vl) (Q:Vl->Vl->Prop) (gz:List Cv->Option Gs):FC prog 120 (aLO Op Q gz):=by
 intro xs pre r us h hp;unfold aLO at h;split at h
 . rename_i e0 n0 f0 e1 n1 f1 g2
   cases h;obtain ⟨a7,a8,af⟩:=hp
   refine aU.deep (ys:= [.agg [.d (.v (.bool e0)),.d (.lst 9 n0 (aW (aH n0 f0)))],.agg [.d (.v (.bool e1)),.d (.lst 9 n1 (aW (aH n1 f1)))],.fv g2]) ?_ ?_
   . repeat' (first|exact j3z|refine ⟨?_,?_⟩|fail)
     all_goals first|first|exact j5d
   refine aE aA (l:=jE) jT func120 rfl j4 true ?_
   obtain ⟨rfl,zc,zf,qw⟩:=af
   have hn:=a7.1
   have hL:=iD a7.2
   have hlen:=eD n0 f0
   generalize aH n0 f0=L at*
   clear a7;subst hlen;have b8:=dV hL
   have hb:=dJ L
   have hm:=a8.1
   have hM:=iD a8.2
   have kh:=eD n1 f1
   generalize aH n1 f1=M at*
   clear a8;subst kh;have zg:=dV hM
   have au:=dJ M
   repeat' (fail)
   all_goals first|(conv=>whnf)
   all_goals first|((with_reducible show bM _ _ _ _ _ _);refine inl aA (l:=jE) jT func162 rfl j4 j4 rfl ?_)
   all_goals repeat' (fail)
   all_goals first|(conv=>whnf)
   refine yU aA (l:=jE) jT j4 (X:=Nat×Nat×List Bd)
    (fun x=>⟨[(9,.va (.c (.osl 5 9 0 x.2.2.length))),(10,.va (.c (.own 4 0))),(0,.va (.c (.d (.lst 9 (L.length-x.1) fun k=>aW L (x.1+k))))),(1,.va (.c (.d (.lst 9 (M.length-x.2.1) fun k=>aW M (x.2.1+k))))),(2,.va (.c (.fn 163 []))),(3,.va (.c (.fn 164 [(2,0)])))],
     [(2,.cells [.fv g2]),(3,.cells [.d (bo false),.d (.v (.slice none 0 0))]),(4,.cells [.d (.v (.string ⟨#[]⟩)),.d (bo false),.d (it 0),.d (it 0),.d (bo false),.d (it 0),.d (it 0),.d (bo false),.d (.v (.slice none 0 0))]),(5,.row 9 x.2.2.length (aW x.2.2))],6,65⟩)
    (fun x=>(L.length-x.1)+(M.length-x.2.1)) (fun x=>x.1<=L.length/\ x.2.1<=M.length/\ x.2.2.length<=x.1+x.2.1/\ x.2.2++eJ Op (L.drop x.1) (M.drop x.2.1)=eJ Op L M) [63] []
    (fun x _ _=>mQ Op L M x) (fun xs=>match xs with| [t]=> [0,1,2,3,4,oI t]|_=> []) [0,1,2,3,4] 0 1 (0,0,[]) ?_ ?_ ?_
   . exact ⟨Nat.zero_le _,Nat.zero_le _,Nat.le_refl _,rfl⟩
   . repeat' (first|exact j2t|refine ⟨?_,?_⟩|fail)
     all_goals first|(simp;done)
   . rintro ⟨i,j,out⟩ ⟨k1,k2,k3,k4⟩
     dsimp only at k1 k2 k3 k4
     by_cases Bh:i<L.length \/j<M.length
     . have fp:=(bBr (op:=Op) (out:=out) Bh).trans k4
       rcases Nat.lt_or_ge i L.length with ci|ci
       . rcases Nat.lt_or_ge j M.length with cj|cj
         . cases hlt:aQ (aM L i) (aM M j) with
           |true=>
            have jg:decide (((L.length-i:Nat):Int)>0)=true:=decide_eq_true j3
            have fq:(((L.length-i:Nat):Int)==0)=false:=beq_eq_false_iff_ne.2 j3
            have ku:(((M.length-j:Nat):Int)==0)=false:=beq_eq_false_iff_ne.2 j3
            have r5:decide (((M.length-j:Nat):Int)>0)=true:=decide_eq_true j3
            have ng:decide (bR (aM L (i+Int.toNat 0)).name.data.toList (aM M (j+Int.toNat 0)).name.data.toList<=0)=true:=decide_eq_true (Int.le_of_lt (aS7 hlt))
            have oy:decide (bR (aM L (i+Int.toNat 0)).name.data.toList (aM M (j+Int.toNat 0)).name.data.toList≥0)=false:=decide_eq_false (Int.not_le.2 (aS7 hlt))
            have s9:Int.toNat 0=0:=rfl
            have e1:mQ Op L M (i,j,out)=(i+1,j,out++ [⟨(aM L i).name,Op (aM L i).v Vl.zero⟩]):=by
             unfold mQ;dsimp only;rw [if_pos ci,if_pos cj,if_pos hlt]
            rw [e1] at fp;obtain ⟨gp,hg,ya⟩:=zc.left _ (oH hL ci) (zf.left _ (uI ci))
            simp only [sD,vlZ] at hg;dsimp only at fp
            (repeat' (first|exact trivial|exact j4e|refine ⟨?_,?_⟩|intro _));all_goals first|apply qq|conv=>whnf
            all_goals first|((with_reducible show aO _ _ (.region 10 _ _) _ _);refine cO aA (l:=jE) jT ([.take 0,.take 1,.news [2,3],.act 4 [1] [12,41],.act 5 [] [13,42]]) j4 ?_)|skip
            all_goals (try rw [jg])
            all_goals (try rw [fq])
            all_goals (try rw [ku])
            all_goals (repeat' (first|(with_reducible exact nx ng)|refine ⟨?_,?_⟩|intro _));all_goals first|apply qq|conv=>whnf
            all_goals first|((with_reducible show aO _ _ (.region 12 _ _) _ _);refine cO aA (l:=jE) jT ([.take 0,.take 1,.take 2,.take 3,.take 4,.act 5 [4,3] [12,47],.act 6 [] [49]]) j4 ?_)|skip
            all_goals (try rw [ng])
            all_goals (repeat' (first|(with_reducible exact nx oy)|refine ⟨?_,?_⟩|intro _));all_goals first|apply qq|conv=>whnf
            all_goals first|((with_reducible show bM _ _ _ _ _ _);refine inl aA (l:=jE) jT func164 rfl j4 j4 rfl ?_)|skip
            all_goals (repeat' (fail));all_goals first|apply qq|conv=>whnf
            all_goals (try simp only [s9,Nat.add_zero,hg])
            all_goals (repeat' (first|exact j5b|refine ⟨?_,?_⟩|intro _));all_goals first|apply qq|conv=>whnf
            all_goals (try simp only [aC1,aCN,e1])
            all_goals first|(first|exact Nat.le_refl _|omega|(simp only [List.length_append,List.length_cons,List.length_nil];omega)|rfl|(simp;done)|(rw [show (Int.toNat 1:Nat)=1 from rfl];congr 1;omega)|(exact aC9 rfl ‹_›))
           |false=>
            cases fg:aQ (aM M j) (aM L i) with
            |true=>
             have jg:decide (((L.length-i:Nat):Int)>0)=true:=decide_eq_true j3
             have fq:(((L.length-i:Nat):Int)==0)=false:=beq_eq_false_iff_ne.2 j3
             have ku:(((M.length-j:Nat):Int)==0)=false:=beq_eq_false_iff_ne.2 j3
             have r5:decide (((M.length-j:Nat):Int)>0)=true:=decide_eq_true j3
             have ng:decide (bR (aM L (i+Int.toNat 0)).name.data.toList (aM M (j+Int.toNat 0)).name.data.toList<=0)=false:=decide_eq_false (Int.not_le.2 (aS8 fg))
             have oy:decide (bR (aM L (i+Int.toNat 0)).name.data.toList (aM M (j+Int.toNat 0)).name.data.toList≥0)=true:=decide_eq_true (Int.le_of_lt (aS8 fg))
             have s9:Int.toNat 0=0:=rfl
             have e1:mQ Op L M (i,j,out)=(i,j+1,out++ [⟨(aM M j).name,Op Vl.zero (aM M j).v⟩]):=by
              unfold mQ;dsimp only;rw [if_pos ci,if_pos cj,if_neg (by rw [hlt];exact Bool.false_ne_true),if_pos fg]
             rw [e1] at fp;obtain ⟨gp,hg,ya⟩:=zc.right _ (oH hM cj) (zf.right _ (uI cj))
             simp only [sD,vlZ] at hg;dsimp only at fp
             (repeat' (first|exact trivial|exact j4e|refine ⟨?_,?_⟩|intro _));all_goals first|apply qq|conv=>whnf
             all_goals first|((with_reducible show aO _ _ (.region 10 _ _) _ _);refine cO aA (l:=jE) jT ([.take 0,.take 1,.news [2,3],.act 4 [1] [12,41],.act 5 [] [13,42]]) j4 ?_)|skip
             all_goals (try rw [jg])
             all_goals (try rw [fq])
             all_goals (try rw [ku])
             all_goals (repeat' (first|(with_reducible first|exact nx ng|exact nx oy)|refine ⟨?_,?_⟩|intro _));all_goals first|apply qq|conv=>whnf
             all_goals first|((with_reducible show aO _ _ (.region 14 _ _) _ _);refine cO aA (l:=jE) jT ([.take 0,.take 1,.take 2,.take 3,.take 4,.act 5 [4,3] [13,54],.act 6 [] [56]]) j4 ?_)|skip
             all_goals (try rw [ng])
             all_goals (try rw [oy])
             all_goals (repeat' (first|refine ⟨?_,?_⟩|intro _));all_goals first|apply qq|conv=>whnf
             all_goals first|((with_reducible show bM _ _ _ _ _ _);refine inl aA (l:=jE) jT func164 rfl j4 j4 rfl ?_)|skip
             all_goals (repeat' (fail));all_goals first|apply qq|conv=>whnf
             all_goals (try simp only [s9,Nat.add_zero,hg])
             all_goals (repeat' (first|exact j5b|refine ⟨?_,?_⟩|intro _));all_goals first|apply qq|conv=>whnf
             all_goals (try simp only [aC1,aCN,e1])
             all_goals first|(first|exact Nat.le_refl _|omega|(simp only [List.length_append,List.length_cons,List.length_nil];omega)|rfl|(simp;done)|(rw [show (Int.toNat 1:Nat)=1 from rfl];congr 1;omega)|(exact aC9 rfl ‹_›))
            |false=>
             have jg:decide (((L.length-i:Nat):Int)>0)=true:=decide_eq_true j3
             have fq:(((L.length-i:Nat):Int)==0)=false:=beq_eq_false_iff_ne.2 j3
             have ku:(((M.length-j:Nat):Int)==0)=false:=beq_eq_false_iff_ne.2 j3
             have r5:decide (((M.length-j:Nat):Int)>0)=true:=decide_eq_true j3
             have ng:decide (bR (aM L (i+Int.toNat 0)).name.data.toList (aM M (j+Int.toNat 0)).name.data.toList<=0)=true:=decide_eq_true (Int.le_of_eq (aEc hlt fg).1)
             have oy:decide (bR (aM L (i+Int.toNat 0)).name.data.toList (aM M (j+Int.toNat 0)).name.data.toList≥0)=true:=decide_eq_true (Int.le_of_eq (aEc hlt fg).1.symm)
             have s9:Int.toNat 0=0:=rfl
             have e1:mQ Op L M (i,j,out)=(i+1,j+1,out++ [⟨(aM L i).name,Op (aM L i).v (aM M j).v⟩]):=by
              unfold mQ;dsimp only;rw [if_pos ci,if_pos cj,if_neg (by rw [hlt];exact Bool.false_ne_true),if_neg (by rw [fg];exact Bool.false_ne_true)]
             rw [e1] at fp;obtain ⟨gp,hg,ya⟩:=zc.both _ _ (oH hL ci) (oH hM cj) (zf.both _ (uI ci) _ (uI cj))
             simp only [sD,vlZ] at hg;dsimp only at fp
             (repeat' (first|exact trivial|exact j4e|refine ⟨?_,?_⟩|intro _));all_goals first|apply qq|conv=>whnf
             all_goals first|((with_reducible show aO _ _ (.region 10 _ _) _ _);refine cO aA (l:=jE) jT ([.take 0,.take 1,.news [2,3],.act 4 [1] [12,41],.act 5 [] [13,42]]) j4 ?_)|skip
             all_goals (try rw [jg])
             all_goals (try rw [fq])
             all_goals (try rw [ku])
             all_goals (repeat' (first|(with_reducible exact nx ng)|refine ⟨?_,?_⟩|intro _));all_goals first|apply qq|conv=>whnf
             all_goals first|((with_reducible show aO _ _ (.region 12 _ _) _ _);refine cO aA (l:=jE) jT ([.take 0,.take 1,.take 2,.take 3,.take 4,.act 5 [4,3] [12,47],.act 6 [] [49]]) j4 ?_)|skip
             all_goals (try rw [ng])
             all_goals (repeat' (first|(with_reducible exact nx oy)|refine ⟨?_,?_⟩|intro _));all_goals first|apply qq|conv=>whnf
             all_goals first|((with_reducible show aO _ _ (.region 14 _ _) _ _);refine cO aA (l:=jE) jT ([.take 0,.take 1,.take 2,.take 3,.take 4,.act 5 [4,3] [13,54],.act 6 [] [56]]) j4 ?_)|skip
             all_goals (try rw [oy])
             all_goals (repeat' (first|refine ⟨?_,?_⟩|intro _));all_goals first|apply qq|conv=>whnf
             all_goals first|((with_reducible show bM _ _ _ _ _ _);refine inl aA (l:=jE) jT func164 rfl j4 j4 rfl ?_)|skip
             all_goals (repeat' (fail));all_goals first|apply qq|conv=>whnf
             all_goals (try simp only [s9,Nat.add_zero,hg])
             all_goals (repeat' (first|exact j5b|refine ⟨?_,?_⟩|intro _));all_goals first|apply qq|conv=>whnf
             all_goals (try simp only [aC1,aCN,aXL (aEc hlt fg).2,e1])
             all_goals first|(first|exact Nat.le_refl _|omega|(simp only [List.length_append,List.length_cons,List.length_nil];omega)|rfl|(simp;done)|(rw [show (Int.toNat 1:Nat)=1 from rfl];congr 1;omega)|(exact aC9 rfl ‹_›))
         . have jg:decide (((L.length-i:Nat):Int)>0)=true:=decide_eq_true j3
           have fq:(((L.length-i:Nat):Int)==0)=false:=beq_eq_false_iff_ne.2 j3
           have ku:(((M.length-j:Nat):Int)==0)=true:=beq_iff_eq.2 j3
           have r5:decide (((M.length-j:Nat):Int)>0)=false:=decide_eq_false j3
           have s9:Int.toNat 0=0:=rfl
           have e1:mQ Op L M (i,j,out)=(i+1,j,out++ [⟨(aM L i).name,Op (aM L i).v Vl.zero⟩]):=by
            unfold mQ;dsimp only;rw [if_pos ci,if_neg j3]
           rw [e1] at fp;obtain ⟨gp,hg,ya⟩:=zc.left _ (oH hL ci) (zf.left _ (uI ci))
           simp only [sD,vlZ] at hg;dsimp only at fp
           repeat' (first|exact j4e|refine ⟨?_,?_⟩|intro _)
           all_goals first|(conv=>whnf)
           all_goals first|((with_reducible show aO _ _ (.region 10 _ _) _ _);refine cO aA (l:=jE) jT ([.take 0,.take 1,.news [2,3],.act 4 [1] [12,41],.act 5 [] [13,42]]) j4 ?_)
           all_goals (try rw [jg])
           all_goals (try rw [fq])
           all_goals (try rw [ku])
           all_goals repeat' (first|(with_reducible exact (fun h=>absurd (h:decide ((-1:Int)<=0)=false) j5))|refine ⟨?_,?_⟩|intro _)
           all_goals first|(conv=>whnf)
           all_goals first|((with_reducible show aO _ _ (.region 12 _ _) _ _);refine cO aA (l:=jE) jT ([.take 0,.take 1,.take 2,.take 3,.take 4,.act 5 [4,3] [12,47],.act 6 [] [49]]) j4 ?_)|skip
           all_goals (repeat' (first|(with_reducible exact (fun h=>absurd (h:decide ((-1:Int)≥0)=true) j5))|refine ⟨?_,?_⟩|intro _));all_goals first|apply qq|conv=>whnf
           all_goals first|((with_reducible show bM _ _ _ _ _ _);refine inl aA (l:=jE) jT func164 rfl j4 j4 rfl ?_)|skip
           all_goals (repeat' (fail));all_goals first|apply qq|conv=>whnf
           all_goals (try simp only [s9,Nat.add_zero,hg])
           all_goals (repeat' (first|exact j5b|refine ⟨?_,?_⟩|intro _));all_goals first|apply qq|conv=>whnf
           all_goals (try simp only [aC1,aCN,e1])
           all_goals first|(first|exact Nat.le_refl _|omega|(simp only [List.length_append,List.length_cons,List.length_nil];omega)|rfl|(simp;done)|(rw [show (Int.toNat 1:Nat)=1 from rfl];congr 1;omega)|(exact aC9 rfl ‹_›))
       . have cj:j<M.length:=Bh.resolve_left j3
         have jg:decide (((L.length-i:Nat):Int)>0)=false:=decide_eq_false j3
         have fq:(((L.length-i:Nat):Int)==0)=true:=beq_iff_eq.2 j3
         have ku:(((M.length-j:Nat):Int)==0)=false:=beq_eq_false_iff_ne.2 j3
         have r5:decide (((M.length-j:Nat):Int)>0)=true:=decide_eq_true j3
         have s9:Int.toNat 0=0:=rfl
         have e1:mQ Op L M (i,j,out)=(i,j+1,out++ [⟨(aM M j).name,Op Vl.zero (aM M j).v⟩]):=by
          unfold mQ;dsimp only;rw [if_neg j3]
         rw [e1] at fp;obtain ⟨gp,hg,ya⟩:=zc.right _ (oH hM cj) (zf.right _ (uI cj))
         simp only [sD,vlZ] at hg;dsimp only at fp
         repeat' (first|(with_reducible first|exact nx jg|exact nx fq|exact nx r5)|refine ⟨?_,?_⟩|intro _)
         all_goals first|(conv=>whnf)
         all_goals first|((with_reducible show aO _ _ (.region 10 _ _) _ _);refine cO aA (l:=jE) jT ([.take 0,.take 1,.news [2,3],.act 4 [1] [12,41],.act 5 [] [13,42]]) j4 ?_)
         all_goals (try rw [jg])
         all_goals (try rw [fq])
         all_goals (try rw [r5])
         all_goals repeat' (first|(with_reducible first|exact (fun h=>absurd (h:decide ((1:Int)<=0)=true) j5)|exact (fun h=>absurd (h:decide ((1:Int)≥0)=false) j5))|refine ⟨?_,?_⟩|intro _)
         all_goals first|(conv=>whnf)
         all_goals first|((with_reducible show aO _ _ (.region 14 _ _) _ _);refine cO aA (l:=jE) jT ([.take 0,.take 1,.take 2,.take 3,.take 4,.act 5 [4,3] [13,54],.act 6 [] [56]]) j4 ?_)|skip
         all_goals (repeat' (first|refine ⟨?_,?_⟩|intro _));all_goals first|apply qq|conv=>whnf
         all_goals first|((with_reducible show bM _ _ _ _ _ _);refine inl aA (l:=jE) jT func164 rfl j4 j4 rfl ?_)|skip
         all_goals (repeat' (fail));all_goals first|apply qq|conv=>whnf
         all_goals (try simp only [s9,Nat.add_zero,hg])
         all_goals (repeat' (first|exact j5b|refine ⟨?_,?_⟩|intro _));all_goals first|apply qq|conv=>whnf
         all_goals (try simp only [aC1,aCN,e1])
         all_goals first|(first|exact Nat.le_refl _|omega|(simp only [List.length_append,List.length_cons,List.length_nil];omega)|rfl|(simp;done)|(rw [show (Int.toNat 1:Nat)=1 from rfl];congr 1;omega)|(exact aC9 rfl ‹_›))
     . obtain rfl:i=L.length:=by omega
       obtain rfl:j=M.length:=j3
       have C3:decide (((L.length-L.length:Nat):Int)>0)=false:=decide_eq_false j3
       have C4:decide (((M.length-M.length:Nat):Int)>0)=false:=decide_eq_false j3
       have si:out=eJ Op L M:=by
        rw [List.drop_length,List.drop_length,eJ,List.append_nil] at k4;exact k4
       subst si
       (repeat' (first|exact trivial|(with_reducible first|exact nx C3|exact nx C4)|refine ⟨?_,?_⟩|intro _));all_goals first|apply qq|conv=>whnf
       all_goals first|(simp;done)
 . cases h
namespace En
def join (a b:En):En:=if a.clean.live=true then (if b.clean.live=true then ⟨true,eJ Vl.join a.clean.binds b.clean.binds⟩ else a.clean) else b.clean
end En
abbrev QJ (x y:Vl):Prop:=(x.t.names.length+y.t.names.length)*16<=140737488351232
theorem aGf (v:Vl):(⟨⟨⟨v.i.s.some,v.i.s.lo,v.i.s.hi⟩,⟨v.i.c.some,v.i.c.m,v.i.c.r⟩⟩,⟨v.t.null,gN v.t.names.length fun i=> [st (aN v.t.names i)]⟩⟩:Vl)=v:=by rw [bI]
theorem aR3:(⟨⟨⟨false,0,0⟩,⟨false,0,0⟩⟩,⟨false,gN 0 fun _=> []⟩⟩:Vl)=Vl.zero:=rfl
theorem aPv:aY Vl.zero:=⟨⟨Nat.zero_le _,fun i h=>absurd h (Nat.not_lt_zero i)⟩,by unfold Vl.zero Ig.zero Sp.inR;decide,by unfold Vl.zero Ig.zero Cg.inR;decide⟩
abbrev aLP:List Cv->Option Gs:=nO (cJ [(42,⟨[],FN 1 xA⟩)]) 42 []
theorem aLQ {gz:List Cv->Option Gs} {a b:List DV} {p:Prop} {z z':Vl} (h:gz [.agg a,.agg b]=some ⟨p,.va (.agg (sD z'))⟩) (hz:z'=z) (hp:p):gIs gz a b z:=by subst hz;exact ⟨p,h,hp⟩
theorem aXM:GOk aLP Vl.join QJ where
 both x y hx hy hq:=aLQ rfl (by rw [aGf,aGf]) (by unfold aY at hx hy;exact ⟨⟨⟨hx.1.1,fun _ _=>rfl⟩,hx.2⟩,⟨⟨hy.1.1,fun _ _=>rfl⟩,hy.2⟩,hq⟩)
 left x hx hq:=aLQ rfl (by rw [aGf,aR3]) (by unfold aY at hx;exact ⟨⟨⟨hx.1.1,fun _ _=>rfl⟩,hx.2⟩,⟨⟨Nat.zero_le _,fun i h=>absurd h (Nat.not_lt_zero i)⟩,aPv.2⟩,hq⟩)
 right y hy hq:=aLQ rfl (by rw [aGf,aR3]) (by unfold aY at hy;exact ⟨⟨⟨Nat.zero_le _,fun i h=>absurd h (Nat.not_lt_zero i)⟩,aPv.2⟩,⟨⟨hy.1.1,fun _ _=>rfl⟩,hy.2⟩,hq⟩)
def xS (A B:List Bd):Prop:=QOk QJ A B
theorem aZN {A A' B B':List Bd} (h:xS A B) (ha: ∀x∈A', ∃y∈A,x.v.t.names.length<=y.v.t.names.length) (hb: ∀x∈B', ∃y∈B,x.v.t.names.length<=y.v.t.names.length):xS A' B' where
 both x hx y hy:=by
  obtain ⟨u,hu,e⟩:=ha x hx
  obtain ⟨w,hw,e'⟩:=hb y hy
  have:=h.both u hu w hw
  unfold QJ at*;omega
 left x hx:=by obtain ⟨u,hu,e⟩:=ha x hx;have:=h.left u hu;unfold QJ at*;omega
 right y hy:=by obtain ⟨w,hw,e'⟩:=hb y hy;have:=h.right w hw;unfold QJ at*;omega
theorem aOG (e:En): ∀x∈e.clean.binds, ∃y∈e.binds,x.v.t.names.length<=y.v.t.names.length:=by
 intro x hx;unfold En.clean at hx;split at hx
 . obtain ⟨b,hb,rfl⟩:=List.mem_map.1 hx
   refine ⟨b,aFU.1 (aGz hb), ?_⟩
   show (Vl.of b.v).t.names.length<=_
   rw [lX];exact dF _
 . cases hx
theorem aVl {a b:En} (h:xS a.binds b.binds):xS a.clean.binds b.clean.binds:=aZN h (aOG a) (aOG b)
def aKZ:List Ar->Option Rs
 | [.agg [.d (.v (.bool e0)),.d (.lst 9 n0 f0)],.agg [.d (.v (.bool e1)),.d (.lst 9 n1 f1)]]=>some ⟨(n0<=1099511627776/\ dN n0 f0)/\ (n1<=1099511627776/\ dN n1 f1)/\ (xS (aH n0 f0) (aH n1 f1)/\ n0+n1<=1099511627776),.va (En.ar (En.join (⟨e0,aH n0 f0⟩:En) (⟨e1,aH n1 f1⟩:En))),[]⟩
 |_=>none
theorem aZO:FC prog 70 aKZ:=by
 intro xs pre r us h hp;unfold aKZ at h;split at h
 . rename_i e0 n0 f0 e1 n1 f1
   cases h;obtain ⟨a7,a8,af⟩:=hp
   refine aU.deep (ys:= [.agg [.d (.v (.bool e0)),.d (.lst 9 n0 (aW (aH n0 f0)))],.agg [.d (.v (.bool e1)),.d (.lst 9 n1 (aW (aH n1 f1)))]]) ?_ ?_
   . repeat' (first|exact j3s|refine ⟨?_,?_⟩|fail)
     all_goals first|first|exact j5d
   refine aE aA (l:= [(39,⟨[],aDE⟩),(120,⟨[],(aLO Vl.join QJ aLP)⟩),(42,⟨[],FN 1 xA⟩)]) ⟨aJx,(bBt Vl.join QJ aLP),pS 1 aDz,trivial⟩ func70 rfl j4 true ?_
   have hn:=a7.1
   have hL:=iD a7.2
   have hlen:=eD n0 f0
   generalize aH n0 f0=L at*
   clear a7;subst hlen;have b8:=dV hL
   have hb:=dJ L
   have hc:=aA1 (e:=⟨e0,L⟩) hL
   have za:=dV hc
   have fk:=aE1 ⟨e0,L⟩
   have hcs:=aE3 ⟨e0,L⟩
   have xr:(En.clean ⟨e0,L⟩).binds.length<=1099511627776:=Nat.le_trans fk hn
   have hm:=a8.1
   have hM:=iD a8.2
   have kh:=eD n1 f1
   generalize aH n1 f1=M at*
   clear a8;subst kh;have zg:=dV hM
   have au:=dJ M
   have hd:=aA1 (e:=⟨e1,M⟩) hM
   have ES:=dV hd
   have ob:=aE1 ⟨e1,M⟩
   have qg:=aE3 ⟨e1,M⟩
   have BW:(En.clean ⟨e1,M⟩).binds.length<=1099511627776:=Nat.le_trans ob hm
   obtain ⟨im,Bi⟩:=af
   have AO:=aVl (a:=⟨e0,L⟩) (b:=⟨e1,M⟩) im
   have qw:(En.clean ⟨e0,L⟩).binds.length+(En.clean ⟨e1,M⟩).binds.length<=1099511627776:=by
    have h1:(En.clean ⟨e0,L⟩).binds.length<=L.length:=fk
    have h2:(En.clean ⟨e1,M⟩).binds.length<=M.length:=ob
    omega
   (repeat' (first|exact trivial|refine ⟨?_,?_⟩|intro _));all_goals first|apply qq|conv=>whnf
   all_goals (try simp only [dJ,Bool.not_eq_true',Bool.not_eq_false'] at*)
   all_goals first|exact b8|exact zg|exact hn|exact hm|exact za|exact ES|exact xr|exact BW|exact aXM|exact AO|exact qw|rfl|skip
   all_goals (have dz:En.join ⟨e0,L⟩ ⟨e1,M⟩=if (En.clean ⟨e0,L⟩).live=true then (if (En.clean ⟨e1,M⟩).live=true then ⟨true,eJ Vl.join (En.clean ⟨e0,L⟩).binds (En.clean ⟨e1,M⟩).binds⟩ else En.clean ⟨e0,L⟩) else En.clean ⟨e1,M⟩:=rfl)
   all_goals (generalize En.join ⟨e0,L⟩ ⟨e1,M⟩=R at*;generalize En.clean ⟨e0,L⟩=A at*;generalize En.clean ⟨e1,M⟩=B at*)
   all_goals first|(have hl:=‹A.live=false›;rw [hl,if_neg Bool.false_ne_true] at dz;subst dz;rfl)|(have hl:=‹A.live=true›;have ic:=‹B.live=false›;rw [hl,if_pos rfl,ic,if_neg Bool.false_ne_true] at dz;subst dz;rfl)|(have hl:=‹A.live=true›;have ic:=‹B.live=true›;rw [hl,if_pos rfl,ic,if_pos rfl] at dz;subst dz;rfl)
 . cases h
open Go.RowKit Go.Lib Go.Sort
theorem aIK {D:List Bd} (h:SS D) (s:ByteArray):(∀b∈D.take (cF D s),kS b.name<kS s)/\ ∀b∈D.drop (cF D s), ¬kS b.name<kS s:=by
 induction D with
 |nil=>exact ⟨fun b hb=>by simp at hb,fun b hb=>by simp at hb⟩
 |cons x r ih=>
  have h1:=List.pairwise_cons.1 h
  obtain ⟨i1,i2⟩:=ih h1.2
  cases hc:aQ x ⟨s,Vl.zero⟩ with
  |true=>
   have e:cF (x::r) s=cF r s+1:=by unfold cF;rw [List.countP_cons_of_pos (by exact hc)]
   rw [e,List.take_succ_cons,List.drop_succ_cons];refine ⟨fun b hb=> ?_,i2⟩
   rcases List.mem_cons.1 hb with rfl|hb
   . exact aA8.1 hc
   . exact i1 b hb
  |false=>
   have hx: ¬kS x.name<kS s:=aC8.1 hc
   have hr: ∀b∈r, ¬kS b.name<kS s:=fun b hb hlt=>hx (List.lt_trans (h1.1 b hb) hlt)
   have e:cF (x::r) s=0:=by
    unfold cF;rw [List.countP_eq_zero];intro b hb;rcases List.mem_cons.1 hb with rfl|hb
    . rw [hc];exact Bool.false_ne_true
    . have:=(aC8 (a:=b) (b:=⟨s,Vl.zero⟩)).2 (hr b hb)
      rw [this];exact Bool.false_ne_true
   rw [e];refine ⟨fun b hb=>by simp at hb,fun b hb=> ?_⟩
   rcases List.mem_cons.1 hb with rfl|hb
   . exact hx
   . exact hr b hb
theorem aC2 {D:List Bd} {s:ByteArray}:iE D s=true↔cF D s<D.length/\ (aM D (cF D s)).name=s:=by
 unfold iE;rw [Bool.and_eq_true,decide_eq_true_eq,beq_iff_eq,aGA];constructor
 . rintro ⟨h1,h2⟩;exact ⟨h1,aGq h2⟩
 . rintro ⟨h1,h2⟩;exact ⟨h1,by rw [h2]⟩
theorem aFh {D:List Bd} {i:Nat} (h:i<D.length):D=D.take i++aM D i::D.drop (i+1):=by
 have hd:D.drop i=aM D i::D.drop (i+1):=by
  rw [List.drop_eq_getElem_cons h]
  congr 1
  unfold aM;rw [List.getD_eq_getElem?_getD,List.getElem?_eq_getElem h];rfl
 rw [<-hd,List.take_append_drop]
theorem aJ0 {D:List Bd} (h:SS D) (s:ByteArray):lk (D.take (cF D s)) s=none:=
 aJZ fun b hb e=>by have:=(aIK h s).1 b hb;rw [e] at this;exact List.lt_irrefl _ this
theorem aXN {D:List Bd} (h:SS D) (s:ByteArray):lk D s=if iE D s=true then some (aM D (cF D s)).v else none:=by
 conv=>lhs;rw [<-List.take_append_drop (cF D s) D,aC0,aJ0 h]
 rw [Option.none_or];split
 . rename_i hf
   obtain ⟨h1,h2⟩:=aC2.1 hf
   have e:=aFh h1
   have hd:D.drop (cF D s)=aM D (cF D s)::D.drop (cF D s+1):=by
    have:=congrArg (List.drop (cF D s)) e
    rw [List.drop_append_of_le_length u4] at this;rw [this,List.drop_eq_nil_of_le u4];rfl
   rw [hd,iQ,if_pos h2]
 . rename_i hf
   by_cases h1:cF D s<D.length
   . have e:=aFh h1
     have hd:D.drop (cF D s)=aM D (cF D s)::D.drop (cF D s+1):=by
      have:=congrArg (List.drop (cF D s)) e
      rw [List.drop_append_of_le_length u4] at this;rw [this,List.drop_eq_nil_of_le u4];rfl
     have ag:(aM D (cF D s)).name≠s:=fun h2=>hf (aC2.2 ⟨h1,h2⟩)
     have fg: ¬kS (aM D (cF D s)).name<kS s:=(aIK h s).2 _ (by rw [hd];exact List.mem_cons_self)
     have hlt:kS s<kS (aM D (cF D s)).name:=aDX fg ag
     have Dw:SS (D.drop (cF D s)):=List.Pairwise.sublist (List.drop_sublist _ _) h
     rw [hd] at Dw⊢;rw [iQ,if_neg ag,aZL Dw (List.lt_asymm hlt)]
   . rw [List.drop_eq_nil_of_le j3];rfl
theorem aXO {D E:List Bd} (h:D.map (·.name)=E.map (·.name)) (hs:SS D):SS E:=by
 have h1:(D.map (·.name)).Pairwise fun a b=>kS a<kS b:=by rw [List.pairwise_map];exact hs
 rw [h,List.pairwise_map] at h1;exact h1
theorem aNU {D:List Bd} (s:ByteArray) (w:Vl) (hf:iE D s=true):lL D s w=D.take (cF D s)++⟨s,w⟩::D.drop (cF D s+1):=by
 obtain ⟨h1,h2⟩:=aC2.1 hf
 unfold lL;rw [if_pos hf,h2];exact List.set_eq_take_append_cons_drop .. |>.trans (if_pos h1)
theorem aQZ {D:List Bd} (h:SS D) (s:ByteArray) (w:Vl):SS (lL D s w):=by
 by_cases hf:iE D s=true
 . obtain ⟨h1,h2⟩:=aC2.1 hf
   rw [aNU s w hf];refine aXO ?_ h
   conv=>lhs;rw [aFh h1]
   simp [h2]
 . unfold lL;rw [if_neg hf];obtain ⟨l1,l2⟩:=aIK h s
   have h0:=h
   rw [<-List.take_append_drop (cF D s) D] at h0;obtain ⟨p1,p2,p3⟩:=List.pairwise_append.1 h0
   have ag: ∀b∈D.drop (cF D s),b.name≠s:=by
    intro b hb e;have hk:=aXN h s
    rw [if_neg hf] at hk;have:=aIJ h (List.mem_of_mem_drop hb)
    rw [e,hk] at this;cases this
   refine List.pairwise_append.2 ⟨p1,List.pairwise_cons.2 ⟨fun b hb=>aDX (l2 b hb) (ag b hb),p2⟩,fun a ha b hb=> ?_⟩
   rcases List.mem_cons.1 hb with rfl|hb
   . exact l1 a ha
   . exact p3 a ha b hb
theorem aZP {D:List Bd} (h:SS D) (s:ByteArray) (w:Vl) (t:ByteArray):lk (lL D s w) t=if s=t then some w else lk D t:=by
 by_cases hf:iE D s=true
 . obtain ⟨h1,h2⟩:=aC2.1 hf
   rw [aNU s w hf,aC0,iQ];by_cases e:s=t
   . subst e;rw [if_pos rfl,if_pos rfl,aJ0 h];rfl
   . rw [if_neg e,if_neg e]
     conv=>rhs;rw [aFh h1,aC0,iQ,if_neg (by rw [h2];exact e)]
 . unfold lL;rw [if_neg hf,aC0,iQ];by_cases e:s=t
   . subst e;rw [if_pos rfl,if_pos rfl,aJ0 h];rfl
   . rw [if_neg e,if_neg e, <-aC0,List.take_append_drop]
def aTO (op:Vl->Vl->Vl):Option Vl->Option Vl->Option Vl
 |none,none=>none
 |some x,none=>some (op x Vl.zero)
 |none,some y=>some (op Vl.zero y)
 |some x,some y=>some (op x y)
theorem aS9 {x y:Bd} {r:List Bd} {s:ByteArray} (h:SS (y::r)) (oz:aQ x y=true) (e:x.name=s):lk (y::r) s=none:=by
 subst e;have hlt:=aA8.1 oz
 refine aJZ fun b hb e=> ?_
 rcases List.mem_cons.1 hb with rfl|hb
 . rw [e] at hlt;exact List.lt_irrefl _ hlt
 . have:=List.lt_trans hlt ((List.pairwise_cons.1 h).1 b hb)
   rw [e] at this;exact List.lt_irrefl _ this
theorem aBo {op:Vl->Vl->Vl}: ∀{A B:List Bd},SS A->SS B-> ∀s,lk (eJ op A B) s=aTO op (lk A s) (lk B s)
 | [],[],_,_,s=>by rw [eJ];rfl
 | [],y::b,hA,hB,s=>by
   rw [eJ,iQ,iQ,aGe,aBo hA (List.pairwise_cons.1 hB).2];split
   . rfl
   . rw [aGe]
 |x::a,[],hA,hB,s=>by
  rw [eJ,iQ,iQ,aGe,aBo (List.pairwise_cons.1 hA).2 hB];split
  . rfl
  . rw [aGe]
 |x::a,y::b,hA,hB,s=>by
  have Dx:=(List.pairwise_cons.1 hA).2
  have Dy:=(List.pairwise_cons.1 hB).2
  rw [eJ];split
  . rename_i h1
    rw [iQ,aBo Dx hB,iQ x];by_cases e:x.name=s
    . rw [if_pos e,if_pos e,aS9 hB h1 e];rfl
    . rw [if_neg e,if_neg e]
  . split
    . rename_i h1 h2
      rw [iQ,aBo hA Dy,iQ y];by_cases e:y.name=s
      . rw [if_pos e,if_pos e,aS9 hA h2 e];rfl
      . rw [if_neg e,if_neg e]
    . rename_i h1 h2
      have e0:=(aEc j0i j1q).2
      rw [iQ,aBo Dx Dy,iQ x,iQ y, <-e0];by_cases e:x.name=s
      . rw [if_pos e,if_pos e,if_pos e];rfl
      . rw [if_neg e,if_neg e,if_neg e]
termination_by A B=>A.length+B.length
theorem qR {op:Vl->Vl->Vl}: ∀{A B:List Bd} {b:Bd},b∈eJ op A B->(∃x∈A,x.name=b.name) \/ ∃y∈B,y.name=b.name
 | [],[],b,h=>by rw [eJ] at h;cases h
 | [],y::r,b,h=>by
   rw [eJ] at h;rcases List.mem_cons.1 h with rfl|h
   . exact .inr ⟨y,List.mem_cons_self,rfl⟩
   . rcases qR h with h|⟨z,hz,e⟩
     . exact .inl h
     . exact .inr ⟨z,List.mem_cons_of_mem _ hz,e⟩
 |x::r,[],b,h=>by
  rw [eJ] at h;rcases List.mem_cons.1 h with rfl|h
  . exact .inl ⟨x,List.mem_cons_self,rfl⟩
  . rcases qR h with ⟨z,hz,e⟩|h
    . exact .inl ⟨z,List.mem_cons_of_mem _ hz,e⟩
    . exact .inr h
 |x::r,y::q,b,h=>by
  rw [eJ] at h;split at h
  . rcases List.mem_cons.1 h with rfl|h
    . exact .inl ⟨x,List.mem_cons_self,rfl⟩
    . rcases qR h with ⟨z,hz,e⟩|h
      . exact .inl ⟨z,List.mem_cons_of_mem _ hz,e⟩
      . exact .inr h
  . split at h
    . rcases List.mem_cons.1 h with rfl|h
      . exact .inr ⟨y,List.mem_cons_self,rfl⟩
      . rcases qR h with h|⟨z,hz,e⟩
        . exact .inl h
        . exact .inr ⟨z,List.mem_cons_of_mem _ hz,e⟩
    . rcases List.mem_cons.1 h with rfl|h
      . exact .inl ⟨x,List.mem_cons_self,rfl⟩
      . rcases qR h with ⟨z,hz,e⟩|⟨z,hz,e⟩
        . exact .inl ⟨z,List.mem_cons_of_mem _ hz,e⟩
        . exact .inr ⟨z,List.mem_cons_of_mem _ hz,e⟩
termination_by A B=>A.length+B.length
theorem aBp {op:Vl->Vl->Vl}: ∀{A B:List Bd},SS A->SS B->SS (eJ op A B)
 | [],[],_,_=>by rw [eJ];exact List.Pairwise.nil
 | [],y::b,hA,hB=>by
   have tr:=List.pairwise_cons.1 hB
   rw [eJ];refine List.pairwise_cons.2 ⟨fun z hz=> ?_,aBp hA tr.2⟩
   rcases qR hz with ⟨w,hw,_⟩|⟨w,hw,e⟩
   . cases hw
   . rw [<-e];exact tr.1 w hw
 |x::a,[],hA,hB=>by
  have tu:=List.pairwise_cons.1 hA
  rw [eJ];refine List.pairwise_cons.2 ⟨fun z hz=> ?_,aBp tu.2 hB⟩
  rcases qR hz with ⟨w,hw,e⟩|⟨w,hw,_⟩
  . rw [<-e];exact tu.1 w hw
  . cases hw
 |x::a,y::b,hA,hB=>by
  have tu:=List.pairwise_cons.1 hA
  have tr:=List.pairwise_cons.1 hB
  rw [eJ];split
  . rename_i h1
    have h1:=aA8.1 h1
    refine List.pairwise_cons.2 ⟨fun z hz=> ?_,aBp tu.2 hB⟩
    rcases qR hz with ⟨w,hw,e⟩|⟨w,hw,e⟩
    . rw [<-e];exact tu.1 w hw
    . rw [<-e];rcases List.mem_cons.1 hw with rfl|hw
      . exact h1
      . exact List.lt_trans h1 (tr.1 w hw)
  . split
    . rename_i _ h1
      have h1:=aA8.1 h1
      refine List.pairwise_cons.2 ⟨fun z hz=> ?_,aBp hA tr.2⟩
      rcases qR hz with ⟨w,hw,e⟩|⟨w,hw,e⟩
      . rw [<-e];rcases List.mem_cons.1 hw with rfl|hw
        . exact h1
        . exact List.lt_trans h1 (tu.1 w hw)
      . rw [<-e];exact tr.1 w hw
    . rename_i h1 h2
      have e0:=(aEc j0i j1q).2
      refine List.pairwise_cons.2 ⟨fun z hz=> ?_,aBp tu.2 tr.2⟩
      rcases qR hz with ⟨w,hw,e⟩|⟨w,hw,e⟩
      . rw [<-e];exact tu.1 w hw
      . rw [<-e];show kS x.name<_;rw [e0];exact tr.1 w hw
termination_by A B=>A.length+B.length
theorem bBu {D:List Bd} (h:SS D) {W:List ByteArray} (hw: ∀b,b∈D->b.name∈W):D.length<=W.length:=by
 have hn:(D.map (·.name)).Nodup:=by
  unfold SS at h;rw [List.nodup_iff_pairwise_ne,List.pairwise_map];exact h.imp fun mw e=>by rw [e] at mw;exact List.lt_irrefl _ mw
 have:=aCW hn (m:=W) fun x hx=>by
  obtain ⟨b,hb,rfl⟩:=List.mem_map.1 hx
  exact hw b hb
 rwa [List.length_map] at this
theorem aR4 (l:List ByteArray):(aP l).Nodup:=by rw [rG];exact aW4 (aCR l)
theorem aR5 {W:List ByteArray} {v:Vl} (h: ∀x,x∈v.t.names->x∈W):v.of.t.names.length<=W.length:=by
 rw [lX];exact aCW (aR4 _) fun x hx=>h x (oE.1 hx)
structure Ws (W V:List ByteArray):Prop where
 w:W.length<=1048576
 v:V.length<=1048576
structure dX (W V:List ByteArray) (E:En):Prop where
 e:EvW W E
 m: ∀b,b∈E.binds->b.name∈V
theorem aAW (W V:List ByteArray):dX W V ⟨false,[]⟩:=⟨⟨fun _ h=>(by cases h),Nat.zero_le _,fun _ h=>(by cases h)⟩,fun _ h=>(by cases h)⟩
theorem aK0 {W V:List ByteArray} (hW:Ws W V) {lv:Bool} {D:List Bd} (hs:SS D) (ho:iO D) (hv: ∀b,b∈D->b.v.t.names.length<=1048576/\ ∀x,x∈b.v.t.names->x∈W) (hm: ∀b,b∈D->b.name∈V):dX W V ⟨lv,D⟩:=
 ⟨⟨ho,Nat.le_trans (bBu hs hm) hW.v,hv⟩,hm⟩
theorem aOH {E:En} {b:Bd} (h:b∈E.clean.binds): ∃c,c∈E.binds/\ c.name=b.name/\ b.v=c.v.of:=by
 unfold En.clean at h;split at h
 . obtain ⟨c,hc,rfl⟩:=List.mem_map.1 h
   exact ⟨c,aFU.1 (aGz hc),rfl,rfl⟩
 . cases h
theorem aJ1 {W V:List ByteArray} (hW:Ws W V) {E:En} (h:dX W V E) {b:Bd} (hb:b∈E.clean.binds):(b.v.t.names.length<=1048576/\ ∀x,x∈b.v.t.names->x∈W)/\ b.name∈V:=by
 obtain ⟨c,hc,hn,hv⟩:=aOH hb
 have h1:=(h.e.v c hc).2
 rw [hv, <-hn];exact ⟨⟨Nat.le_trans (aR5 h1) hW.w,fun x hx=>by rw [lX] at hx;exact h1 x (oE.1 hx)⟩,h.m c hc⟩
theorem aFF {W V:List ByteArray} (hW:Ws W V) {E:En} (h:dX W V E):dX W V E.clean:=
 aK0 hW (lv:=E.clean.live) (wM E) (aA1 h.e.ok) (fun b hb=>(aJ1 hW h hb).1) fun b hb=>(aJ1 hW h hb).2
theorem aPw {D:List Bd} (hs:SS D) {s:ByteArray} {w:Vl} {b:Bd} (h:b∈lL D s w):(b.name=s/\ b.v=w) \/b∈D:=by
 have h1:=aIJ (aQZ hs s w) h
 rw [aZP hs] at h1;split at h1
 . rename_i e;cases h1;exact .inl ⟨e.symm,rfl⟩
 . exact .inr (aR2 h1)
theorem aQ0 {L:List Bd} {s:ByteArray} (h:eP L s=true): ∃b,b∈L/\ b.name=s:=by
 unfold eP tU at h;cases e:L.findIdx? (fun x=>x.name.toList==s.toList) with
 |none=>rw [e] at h;simp at h
 |some i=>
  rw [List.findIdx?_eq_some_iff_getElem] at e;obtain ⟨h1,h2,_⟩:=e
  exact ⟨_,List.getElem_mem h1,by rw [qW,decide_eq_true_eq] at h2;exact h2⟩
theorem aQ1 {W V:List ByteArray} (hW:Ws W V) {E:En} (h:dX W V E) (o:Int) (s:ByteArray) {v:Vl} (hv:aY v) (hn:o=2->eP E.binds s=true-> ∀x,x∈v.t.names->x∈W):dX W V (eO E o s v):=by
 unfold eO;split
 . rename_i ho
   split
   . rename_i hb
     have hn:=hn ho hb
     have hc:=aFF hW h
     obtain ⟨b0,l5,D6⟩:=aQ0 hb
     unfold En.set;split
     . refine aK0 hW (aQZ (wM E) s v.of) (fun b hb=> ?_) (fun b hb=> ?_) (fun b hb=> ?_)
       all_goals rcases aPw (wM E) hb with ⟨e1,e2⟩|hb
       . show aY b.v;rw [e2];exact cX hv
       . exact hc.e.ok b hb
       . rw [e2];exact ⟨Nat.le_trans (aR5 hn) hW.w,fun x hx=>by rw [lX] at hx;exact hn x (oE.1 hx)⟩
       . exact hc.e.v b hb
       . rw [e1, <-D6];exact h.m b0 l5
       . exact hc.m b hb
     . exact hc
   . exact h
 . exact h
theorem bBv (a b:Vl):(Vl.join a b).t.names=aP (a.of.t.names++b.of.t.names):=rfl
theorem bBw {W V:List ByteArray} (hW:Ws W V) {A B:En} (ha:dX W V A) (hb:dX W V B):dX W V (En.join A B):=by
 have ca:=aFF hW ha
 have cb:=aFF hW hb
 unfold En.join;split
 . split
   . have hs:=aBp (op:=Vl.join) (wM A) (wM B)
     have key: ∀b,b∈eJ Vl.join A.clean.binds B.clean.binds->aY b.v/\ (b.v.t.names.length<=1048576/\ ∀x,x∈b.v.t.names->x∈W)/\ b.name∈V:=by
      intro b AH;have h1:=aIJ hs AH
      rw [aBo (wM A) (wM B)] at h1;have hn:b.name∈V:=by
       rcases qR AH with ⟨x,hx,e⟩|⟨y,hy,e⟩
       . rw [<-e];exact ca.m x hx
       . rw [<-e];exact cb.m y hy
      have z0:aY Vl.zero/\ Vl.zero.t.names.length<=1048576/\ ∀x,x∈Vl.zero.t.names->x∈W:=⟨mF,Nat.zero_le _,fun x h=>absurd (show x∈([]:List ByteArray) from h) List.not_mem_nil⟩
      have hx: ∀(D:List Bd) (E:En),dX W V E->D=E.binds-> ∀v,(lk D b.name).getD Vl.zero=v->aY v/\ v.t.names.length<=1048576/\ ∀x,x∈v.t.names->x∈W:=by
       rintro D E hE rfl v rfl
       cases e:lk E.binds b.name with
       |none=>exact z0
       |some w=>
        show aY w/\ w.t.names.length<=1048576/\ ∀x,x∈w.t.names->x∈W
        have hm:=aR2 e
        have h2:aY w:=hE.e.ok ⟨b.name,w⟩ hm
        have h3:=hE.e.v ⟨b.name,w⟩ hm
        exact ⟨h2,h3⟩
      have e:b.v=Vl.join ((lk A.clean.binds b.name).getD Vl.zero) ((lk B.clean.binds b.name).getD Vl.zero):=by
       unfold aTO at h1
       generalize lk A.clean.binds b.name=p at h1
       generalize lk B.clean.binds b.name=q at h1
       cases p<;>cases q<;>simp at h1<;>exact h1.symm
      have p1:=hx _ _ ca rfl _ rfl
      have p2:=hx _ _ cb rfl _ rfl
      rw [e]
      generalize (lk A.clean.binds b.name).getD Vl.zero=p at p1
      generalize (lk B.clean.binds b.name).getD Vl.zero=q at p2
      have hj: ∀x,x∈(Vl.join p q).t.names->x∈W:=fun x hx=>by
       rw [bBv] at hx;rcases List.mem_append.1 (oE.1 hx) with h|h
       . rw [lX] at h;exact p1.2.2 x (oE.1 h)
       . rw [lX] at h;exact p2.2.2 x (oE.1 h)
      have hl:(Vl.join p q).t.names.length<=1048576:=Nat.le_trans (aCW (aR4 _) hj) hW.w
      exact ⟨aIz p1.1 p2.1 j3,⟨hl,hj⟩,hn⟩
     exact aK0 hW hs (fun b hb=>(key b hb).1) (fun b hb=>(key b hb).2.1) fun b hb=>(key b hb).2.2
   . exact ca
 . exact cb
end Go.Proofs.YtiblbnhknemloaaGreat
namespace Go.Proofs.YtiblbnhknemloaaGreat
open Tryz
open Go.Sx
open Go.RowKit Go.Lib Go.Sort
abbrev aAs:List DV:=aS 1 0 ⟨#[]⟩ (.v (.slice none 0 0)) 0
def vS (c:List DV):Int:=match c with
 | .v (.int .i64 op)::_=>op
 |_=>0
def vT (c:List DV):ByteArray:=match c with
 | [_,_,.v (.string x),_,_]=>x
 |_=>⟨#[]⟩
def lI (R:Ro) (M:Nat) (s:Se) (E:En) (op n:Int) (x:ByteArray) (kd:DV) (at_:Int) (t:Bool):En×Se:=
 if tH op (bP kd).1=true then
  (qG R (bD R (bD R s E M ((bP kd).2 0)).2 E M ((bP kd).2 1)).2 E op (vS ((bP kd).2 0)) (vT ((bP kd).2 0)) (bD R s E M ((bP kd).2 0)).1 (vS ((bP kd).2 1)) (vT ((bP kd).2 1)) (bD R (bD R s E M ((bP kd).2 0)).2 E M ((bP kd).2 1)).1 t,(bD R (bD R s E M ((bP kd).2 0)).2 E M ((bP kd).2 1)).2)
 else
  (qG R (bD R (bD R s E M (aS op n x kd at_)).2 E M aAs).2 E 15 op x (bD R s E M (aS op n x kd at_)).1 1 ⟨#[]⟩ (bD R (bD R s E M (aS op n x kd at_)).2 E M aAs).1 t,(bD R (bD R s E M (aS op n x kd at_)).2 E M aAs).2)
def bX (R:Ro) (M0:Nat):Nat->Se->En->List DV->Bool->En×Se
 |0,s,_,_,_=>(⟨false,[]⟩,s)
 |M+1,s,E,c,t=>match c with
  | [.v (.int .i64 op),.v (.int .i64 n),.v (.string x),kd,.v (.int .i64 at_)]=>
    if E.live=true then
     if op=6/\ (bP kd).1=1 then bX R M0 M s E ((bP kd).2 0) (!t)
     else if (op=16 \/op=17)/\ (bP kd).1=2 then
      if t=decide (op=16) then bX R M0 M (bX R M0 M s E ((bP kd).2 0) t).2 (bX R M0 M s E ((bP kd).2 0) t).1 ((bP kd).2 1) t
      else (En.join (bX R M0 M s E ((bP kd).2 0) t).1 (bX R M0 M (bX R M0 M s E ((bP kd).2 0) t).2 E ((bP kd).2 1) t).1,(bX R M0 M (bX R M0 M s E ((bP kd).2 0) t).2 E ((bP kd).2 1) t).2)
     else lI R M0 s E op n x kd at_ t
    else (⟨false,[]⟩,s)
  |_=>(⟨false,[]⟩,s)
def lR:Nat->List DV->Prop
 |0,_=>False
 |M+1,c=> ∃op n x k f at_,c=aS op n x (.lst 5 k f) at_/\ rI op/\ rI n/\ rI at_/\ k<=1099511627776/\ ∀i,i<k->lR M (f i)
theorem lR.ok: ∀{M:Nat} {c:List DV},lR M c->iK M c
 |0,_,h=>h.elim
 |M+1,c,h=>by
  obtain ⟨op,n,x,k,f,at_,e,h1,h2,h3,h4,h5⟩:=h
  exact ⟨op,n,x,_,at_,e,h1,h2,h3,.inr ⟨k,f,rfl,h4,fun i hi=>(h5 i hi).ok⟩⟩
theorem wY: ∀{M N:Nat} {c:List DV},M<=N->iK M c->iK N c
 |0,_,_,_,h=>h.elim
 |M+1,0,_,hl,_=>absurd hl (Nat.not_succ_le_zero M)
 |M+1,N+1,c,hl,h=>by
  obtain ⟨op,n,x,kd,at_,e,h1,h2,h3,hk⟩:=h
  refine ⟨op,n,x,kd,at_,e,h1,h2,h3, ?_⟩
  rcases hk with hk|⟨k,f,hk,h4,h5⟩
  . exact .inl hk
  . exact .inr ⟨k,f,hk,h4,fun i hi=>wY (Nat.le_of_succ_le_succ hl) (h5 i hi)⟩
theorem aR6 {M:Nat}:iK (M+1) aAs:=⟨_,_,_,_,_,rfl,by unfold rI;decide,by unfold rI;decide,by unfold rI;decide,.inl rfl⟩
theorem bC6 {W V:List ByteArray} (hW:Ws W V) {E:En} (h:dX W V E) (x:ByteArray): ∀y,y∈(En.get E x).t.names->y∈W:=by
 unfold En.get;split
 . rename_i hf
   have hm:=uI (aDi hf)
   exact (aJ1 hW h hm).1.2
 . intro y hy;exact absurd (show y∈([]:List ByteArray) from hy) List.not_mem_nil
theorem aXP {W V:List ByteArray} (hW:Ws W V) (R:Ro) {E:En} (h:dX W V E) (M:Nat) (n:Int) (x:ByteArray) (kd:DV) (at_:Int) (hb:eP E.binds x=true): ∀y,y∈(dP (eU R E) M (aS 2 n x kd at_)).1.t.names->y∈W:=by
 have z: ∀y,y∈Vl.zero.t.names->y∈W:=fun y hy=>absurd (show y∈([]:List ByteArray) from hy) List.not_mem_nil
 have hx: ∀y,y∈(cR (eU R E) M ⟨[],false,⟨⟨#[]⟩,0⟩⟩ (aS 2 n x kd at_)).1.t.names->y∈W:=by
  cases M with
  |zero=>exact z
  |succ M=>
   show∀y,y∈(ite (fK 2=(bP kd).1) _ (Vl.zero,_)).1.t.names->y∈W
   split
   . rename_i hn
     have h0:(bP kd).1=0:=by
      have:fK 2=0:=j5
      omega
     rw [if_pos h0];have e:gZ (eU R E) ⟨[],false,⟨⟨#[]⟩,0⟩⟩ 2 n x=(En.get E x,⟨[],false,⟨⟨#[]⟩,0⟩⟩):=by
      unfold gZ;rw [if_neg j5,if_pos rfl];unfold eT;rw [if_pos (show eP (eU R E).B x=true from hb)]
     rw [e];exact bC6 hW h x
   . exact z
 unfold dP;split
 . show∀y,y∈(oN _).t.names->y∈W
   unfold oN;split
   . exact z
   . intro y hy;rw [lX] at hy;exact hx y (oE.1 hy)
 . exact z
theorem aDr {W V:List ByteArray} (hW:Ws W V) (R:Ro) (s:Se) {E:En} (h:dX W V E) (M:Nat) (op n:Int) (x:ByteArray) (kd:DV) (at_:Int) (ho:op=2) (hb:eP E.binds x=true): ∀y,y∈(bD R s E M (aS op n x kd at_)).1.t.names->y∈W:=by
 subst ho;unfold bD;split
 . intro y hy;exact absurd (show y∈([]:List ByteArray) from hy) List.not_mem_nil
 . exact aXP hW R h M n x kd at_ hb
theorem aQ2 {L:List Bd} {s:ByteArray}:eP L s=true↔ ∃b,b∈L/\ b.name=s:=by
 refine ⟨aQ0, ?_⟩
 rintro ⟨b,hb,e⟩
 unfold eP tU;cases h:L.findIdx? (fun x=>x.name.toList==s.toList) with
 |none=>
  rw [List.findIdx?_eq_none_iff] at h;have:=h b hb
  rw [e] at this;simp at this
 |some i=>simp
theorem aWn {E:En} {o:Int} {s x:ByteArray} {v:Vl} (h:eP (eO E o s v).binds x=true):eP E.binds x=true:=by
 unfold eO at h;split at h
 . split at h
   . rename_i hb
     obtain ⟨b,hm,e⟩:=aQ2.1 h
     have hc: ∀b,b∈E.clean.binds->eP E.binds b.name=true:=fun b hb=>by
      obtain ⟨c,hc,e,_⟩:=aOH hb
      exact aQ2.2 ⟨c,hc,e⟩
     unfold En.set at hm;split at hm
     . rcases aPw (wM E) hm with ⟨e1,_⟩|hm
       . rw [<-e,e1];exact hb
       . rw [<-e];exact hc b hm
     . rw [<-e];exact hc b hm
   . exact h
 . exact h
theorem yY {W V:List ByteArray} (hW:Ws W V) {R:Ro} {s:Se} {E:En} (h:dX W V E) {op o0 o1:Int} {x0 x1:ByteArray} {v0 v1:Vl} (ik:aY v0) (bj:aY v1) (l0:v0.t.names.length<=1099511627776) (l1:v1.t.names.length<=1099511627776)
 (h0:o0=2->eP E.binds x0=true-> ∀y,y∈v0.t.names->y∈W) (h1:o1=2->eP E.binds x1=true-> ∀y,y∈v1.t.names->y∈W):
 dX W V (eO E o0 x0 (bZ op v0.of v1.of (bQ R.G R.G.length)))/\ dX W V (rM R s E op o0 x0 v0 o1 x1 v1):=by
 have m0:v0.of.t.names.length<=1099511627776:=by rw [lX];exact Nat.le_trans (dF _) l0
 have m1:v1.of.t.names.length<=1099511627776:=by rw [lX];exact Nat.le_trans (dF _) l1
 have hk:=aEb (op:=op) (m:=bQ R.G R.G.length) (cX ik) (cX bj) m0 m1
 have hA:=aQ1 hW h o0 x0 hk.1 fun e hb y hy=>by
  have:=(aS5 (op:=op) (a:=v0.of) (b:=v1.of) (m:=bQ R.G R.G.length)).2 y hy
  rw [lX] at this;exact h0 e hb y (oE.1 this)
 refine ⟨hA, ?_⟩
 have hB:=aQ1 hW hA o1 x1 hk.2 fun e hb y hy=>by
  have:=(aS6 (op:=op) (a:=v0.of) (b:=v1.of) (m:=bQ R.G R.G.length)).2 y hy
  rw [lX] at this;exact h1 e (aWn hb) y (oE.1 this)
 unfold rM;split
 . split
   . exact aAW W V
   . split
     . exact aAW W V
     . split
       . exact aAW W V
       . exact hB
 . exact aAW W V
theorem bBx {W V:List ByteArray} (hW:Ws W V) {R:Ro} {s:Se} {E:En} (h:dX W V E) {op o0 o1:Int} {x0 x1:ByteArray} {v0 v1:Vl} (ik:aY v0) (bj:aY v1) (l0:v0.t.names.length<=1099511627776) (l1:v1.t.names.length<=1099511627776)
 (h0:o0=2->eP E.binds x0=true-> ∀y,y∈v0.t.names->y∈W) (h1:o1=2->eP E.binds x1=true-> ∀y,y∈v1.t.names->y∈W) (t:Bool):dX W V (qG R s E op o0 x0 v0 o1 x1 v1 t):=by
 unfold qG;split
 . exact (yY hW h ik bj l0 l1 h0 h1).2
 . split
   . exact (yY hW h bj ik l1 l0 h1 h0).2
   . exact (yY hW h ik bj l0 l1 h0 h1).2
theorem aTa {W V:List ByteArray} (hW:Ws W V) {R:Ro} (hR:R.ok) {s:Se} (hs:cD R s) {E:En} (h:dX W V E) {M:Nat} {c4 n0:Int} {x0:ByteArray} {k0:DV} {a0:Int} {df n1:Int} {x1:ByteArray} {k1:DV} {a1:Int} (h0:iK M (aS c4 n0 x0 k0 a0)) (h1:iK M (aS df n1 x1 k1 a1)) (op:Int) (t:Bool):
 cD R (bD R (bD R s E M (aS c4 n0 x0 k0 a0)).2 E M (aS df n1 x1 k1 a1)).2/\
 dX W V (qG R (bD R (bD R s E M (aS c4 n0 x0 k0 a0)).2 E M (aS df n1 x1 k1 a1)).2 E op c4 x0 (bD R s E M (aS c4 n0 x0 k0 a0)).1 df x1 (bD R (bD R s E M (aS c4 n0 x0 k0 a0)).2 E M (aS df n1 x1 k1 a1)).1 t):=by
 have p0:=aA7 hR h.e.ev hs h0
 have p1:=aA7 hR h.e.ev p0.2.2 h1
 exact ⟨p1.2.2,bBx hW h p0.1 p1.1 p0.2.1 p1.2.1 (fun e hb=>aDr hW R s h M c4 n0 x0 k0 a0 e hb) (fun e hb=>aDr hW R _ h M df n1 x1 k1 a1 e hb) t⟩
theorem aTb {M:Nat} {c:List DV} (h:lR M c):c=aS (vS c) (match c with| [_,.v (.int .i64 n),_,_,_]=>n|_=>0) (vT c) (match c with| [_,_,_,kd,_]=>kd|_=> .v (.bool false)) (match c with| [_,_,_,_,.v (.int .i64 a)]=>a|_=>0):=by
 cases M with
 |zero=>exact h.elim
 |succ M=>
  obtain ⟨op,n,x,k,f,at_,rfl, -⟩:=h
  rfl
theorem aZQ {W V:List ByteArray} (hW:Ws W V) {R:Ro} (hR:R.ok) {s:Se} (hs:cD R s) {E:En} (h:dX W V E) {M M0:Nat} (hM:M+1<=M0) {op n:Int} {x:ByteArray} {k:Nat} {f:Nat->List DV} {at_:Int} (hc:lR (M+1) (aS op n x (.lst 5 k f) at_)) (t:Bool):
 cD R (lI R M0 s E op n x (.lst 5 k f) at_ t).2/\ dX W V (lI R M0 s E op n x (.lst 5 k f) at_ t).1:=by
 unfold lI;split
 . rename_i hk
   have fj:k=2:=by
    unfold tH at hk;simp only [Bool.and_eq_true] at hk;have:=eq_of_beq hk.2.2
    show k=2
    have e:((bP (.lst 5 k f)).1:Int)=(k:Int):=rfl
    omega
   subst fj;obtain ⟨_,_,_,_,_,_,e, -, -, -, -,hf⟩:=hc
   cases e;have c0:=hf 0 j3
   have c1:=hf 1 j3
   have e0:=aTb c0
   have e1:=aTb c1
   show cD R (bD R (bD R s E M0 (f 0)).2 E M0 (f 1)).2/\ dX W V (qG R (bD R (bD R s E M0 (f 0)).2 E M0 (f 1)).2 E op (vS (f 0)) (vT (f 0)) (bD R s E M0 (f 0)).1 (vS (f 1)) (vT (f 1)) (bD R (bD R s E M0 (f 0)).2 E M0 (f 1)).1 t)
   have o0:=wY (N:=M0) j3 c0.ok
   have o1:=wY (N:=M0) j3 c1.ok
   generalize f 0=g0 at*
   generalize f 1=g1 at*
   rw [e0] at o0⊢;rw [e1] at o1⊢;exact aTa hW hR hs h o0 o1 op t
 . obtain ⟨N0,rfl⟩: ∃N,M0=N+1:=⟨M0-1,by omega⟩
   exact aTa hW hR hs h (wY hM hc.ok) aR6 15 t
theorem aFG {W V:List ByteArray} (hW:Ws W V) {R:Ro} (hR:R.ok) {M0:Nat}: ∀{M:Nat},M<=M0-> ∀{s:Se} {E:En} {c:List DV} (t:Bool),cD R s->dX W V E->lR M c->cD R (bX R M0 M s E c t).2/\ dX W V (bX R M0 M s E c t).1
 |0,_,_,_,_,_,_,_,h=>h.elim
 |M+1,hM,s,E,c,t,hs,hE,hc=>by
  have zh:=hc
  obtain ⟨op,n,x,k,f,at_,rfl,h1,h2,h3,h4,hf⟩:=hc
  have ih:=fun {s E c} t hs hE hc=>aFG hW hR (M0:=M0) (M:=M) j3 (s:=s) (E:=E) (c:=c) t hs hE hc
  show cD R (ite _ (ite _ _ (ite _ (ite _ _ _) _)) _:En×Se).2/\ dX W V (ite _ (ite _ _ (ite _ (ite _ _ _) _)) _:En×Se).1
  split
  . split
    . rename_i hk
      exact ih _ hs hE (hf 0 (by have:k=1:=hk.2;omega))
    . split
      . rename_i hk
        have hk:k=2:=hk.2
        have a:=ih t hs hE (hf 0 j3)
        split
        . exact ih t a.1 a.2 (hf 1 j3)
        . have b:=ih t a.1 hE (hf 1 j3)
          exact ⟨b.1,bBw hW a.2 b.2⟩
      . exact aZQ hW hR hs hE hM zh t
  . exact ⟨hs,aAW W V⟩
end Go.Proofs.YtiblbnhknemloaaGreat
namespace Go.Proofs.YtiblbnhknemloaaGreat
open Tryz
open Go.Sx
open Go.RowKit Go.Lib Go.Sort
theorem aWo {R:Ro} {g:List Ky} {M:Nat} {c:List DV} (h:dS (dP R M c).2.gets g):dP (gL R g) M c=dP R M c:=by
 cases hl:R.lv with
 |false=>unfold dP;rw [if_neg (by show¬R.lv=true;rw [hl];decide),if_neg (by rw [hl];decide)]
 |true=>
  have e: ∀g,dP (gL R g) M c=(oN (cR (gL R g) M ⟨[],false,⟨⟨#[]⟩,0⟩⟩ c),(cR (gL R g) M ⟨[],false,⟨⟨#[]⟩,0⟩⟩ c).2):=fun g=>if_pos (show R.lv=true from hl)
  have e2:dP R M c=(oN (cR R M ⟨[],false,⟨⟨#[]⟩,0⟩⟩ c),(cR R M ⟨[],false,⟨⟨#[]⟩,0⟩⟩ c).2):=if_pos hl
  rw [e2] at h;rw [e,e2,aEW M h]
theorem aAX (R:Ro) (s:Se) (E:En) (M:Nat) (c:List DV):dS s.gets (bD R s E M c).2.gets:=by
 unfold bD;split
 . exact .refl _
 . exact aQT _
theorem aFi {R:Ro} {g:List Ky} {s:Se} {E:En} {M:Nat} {c:List DV} (h:dS (bD R s E M c).2.gets g):bD (gL R g) s E M c=bD R s E M c:=by
 by_cases hw:s.wants=true
 . unfold bD;rw [if_pos hw,if_pos hw]
 . unfold bD at h;rw [if_neg hw] at h;have hl:dS (dP (eU R E) M c).2.gets g:=fun k hk=>by
    obtain ⟨j,hj,e⟩:=aKx hk
    rw [<-e];exact h _ (aJX _ (Nat.le_refl _) j hj)
   have e:dP (eU (gL R g) E) M c=dP (eU R E) M c:=aWo (R:=eU R E) hl
   unfold bD;rw [if_neg hw,if_neg hw,e]
theorem aWp (R:Ro) (M:Nat) (s:Se) (E:En) (op n:Int) (x:ByteArray) (kd:DV) (at_:Int) (t:Bool):dS s.gets (lI R M s E op n x kd at_ t).2.gets:=by
 unfold lI;split
 . exact (aAX R _ _ _ _).trans (aAX R _ _ _ _)
 . exact (aAX R _ _ _ _).trans (aAX R _ _ _ _)
theorem aWq {R:Ro} {g:List Ky} {M:Nat} {s:Se} {E:En} {op n:Int} {x:ByteArray} {kd:DV} {at_:Int} {t:Bool} (h:dS (lI R M s E op n x kd at_ t).2.gets g):lI (gL R g) M s E op n x kd at_ t=lI R M s E op n x kd at_ t:=by
 unfold lI at*
 by_cases hc:tH op (bP kd).1=true
 . rw [if_pos hc] at h;rw [if_pos hc,if_pos hc,aFi ((aAX R _ _ _ _).trans h),aFi h];rfl
 . rw [if_neg hc] at h;rw [if_neg hc,if_neg hc,aFi ((aAX R _ _ _ _).trans h),aFi h];rfl
theorem yP (R:Ro) (M0:Nat): ∀M (s:Se) (E:En) (c:List DV) (t:Bool),dS s.gets (bX R M0 M s E c t).2.gets
 |0,s,_,_,_=> .refl _
 |M+1,s,E,c,t=>by
  unfold bX;split
  . split
    . split
      . exact yP R M0 M _ _ _ _
      . split
        . split
          . exact (yP R M0 M _ _ _ _).trans (yP R M0 M _ _ _ _)
          . exact (yP R M0 M _ _ _ _).trans (yP R M0 M _ _ _ _)
        . exact aWp R _ _ _ _ _ _ _ _ _
    . exact .refl _
  . exact .refl _
theorem aAS {R:Ro} {g:List Ky} {M0:Nat}: ∀M {s:Se} {E:En} {c:List DV} {t:Bool},dS (bX R M0 M s E c t).2.gets g->bX (gL R g) M0 M s E c t=bX R M0 M s E c t
 |0,_,_,_,_,_=>rfl
 |M+1,s,E,c,t,h=>by
  unfold bX at*
  split
  . rename_i op n x kd a
    dsimp only at h
    by_cases hl:E.live=true
    . rw [if_pos hl] at h;rw [if_pos hl,if_pos hl];by_cases h6:op=6/\ (bP kd).1=1
      . rw [if_pos h6] at h;rw [if_pos h6,if_pos h6];exact aAS M h
      . rw [if_neg h6] at h;rw [if_neg h6,if_neg h6];by_cases lh:(op=16 \/op=17)/\ (bP kd).1=2
        . rw [if_pos lh] at h;rw [if_pos lh,if_pos lh];by_cases ht:t=decide (op=16)
          . rw [if_pos ht] at h;rw [if_pos ht,if_pos ht,aAS M ((yP R M0 M _ _ _ _).trans h),aAS M h]
          . rw [if_neg ht] at h;have h:dS (bX R M0 M (bX R M0 M s E ((bP kd).2 0) t).2 E ((bP kd).2 1) t).2.gets g:=h
            rw [if_neg ht,if_neg ht,aAS M ((yP R M0 M _ _ _ _).trans h),aAS M h]
        . rw [if_neg lh] at h;rw [if_neg lh,if_neg lh];exact aWq h
    . rw [if_neg hl,if_neg hl]
  . rfl
def jQ (R:Ro) (M:Nat) (c:List DV) (t:Bool):En×Se:=
 (if (bX R M M ⟨[],false,⟨⟨#[]⟩,0⟩⟩ ⟨R.lv,R.B⟩ c t).2.wants=true then ⟨false,[]⟩ else (bX R M M ⟨[],false,⟨⟨#[]⟩,0⟩⟩ ⟨R.lv,R.B⟩ c t).1.clean,(bX R M M ⟨[],false,⟨⟨#[]⟩,0⟩⟩ ⟨R.lv,R.B⟩ c t).2)
theorem aXQ (R:Ro) (M:Nat) (c:List DV) (t:Bool):jQ (gL R (jQ R M c t).2.gets) M c t=jQ R M c t:=by
 have e:bX (gL R (jQ R M c t).2.gets) M M ⟨[],false,⟨⟨#[]⟩,0⟩⟩ ⟨R.lv,R.B⟩ c t=bX R M M ⟨[],false,⟨⟨#[]⟩,0⟩⟩ ⟨R.lv,R.B⟩ c t:=aAS M (.refl _)
 show (ite ((bX (gL R (jQ R M c t).2.gets) M M ⟨[],false,⟨⟨#[]⟩,0⟩⟩ ⟨R.lv,R.B⟩ c t).2.wants=true) _ (bX (gL R (jQ R M c t).2.gets) M M ⟨[],false,⟨⟨#[]⟩,0⟩⟩ ⟨R.lv,R.B⟩ c t).1.clean,(bX (gL R (jQ R M c t).2.gets) M M ⟨[],false,⟨⟨#[]⟩,0⟩⟩ ⟨R.lv,R.B⟩ c t).2)=_
 rw [e];rfl
end Go.Proofs.YtiblbnhknemloaaGreat
namespace Go.Proofs.YtiblbnhknemloaaGreat
open Tryz
open Go.Sx
open Go.RowKit Go.Lib Go.Sort
abbrev fG:Se:=⟨[],false,⟨⟨#[]⟩,0⟩⟩
abbrev NV (n:Int):Vl:=⟨⟨⟨true,n,n⟩,⟨true,0,n⟩⟩,⟨false,[]⟩⟩
abbrev VJ:Vl:=⟨⟨⟨true,4,7⟩,⟨true,3,1⟩⟩,⟨false,[]⟩⟩
theorem aHn:(NV 4).of=NV 4:=x7
theorem aMW:(NV 5).of=NV 5:=x7
theorem aHo:(NV 7).of=NV 7:=x7
theorem aCm:VJ.of=VJ:=x7
theorem aZR:Vl.join (NV 4) (NV 7)=VJ:=by
 unfold Vl.join;rw [aHn,aHo]
 show (⟨_,⟨_,aP (aP []++aP [])⟩⟩:Vl)=_
 rw [qZ,List.nil_append,qZ];rfl
theorem t_1:aAr (lG 12 VJ (NV 5) [])=true:=j4
theorem t_2:aAr (lG 13 (NV 5) VJ [])=true:=j4
theorem r_1:bZ 12 VJ (NV 5) []=NV 4:=j4
theorem r_2:eC 13 (NV 5) VJ []=NV 7:=j4
theorem r_3:Vl.none (eC 12 VJ (NV 5) [])=false:=j4
theorem r_4:Vl.none (bZ 13 (NV 5) VJ [])=false:=j4
theorem r_5:Vl.none (NV 4)=false:=j4
theorem r_6:Vl.none (NV 7)=false:=j4
abbrev XN:ByteArray:=⟨#[120]⟩
abbrev EJ:En:=⟨true,[⟨XN,VJ⟩]⟩
theorem aFH {v:Vl} (hv:v.of=v):En.clean ⟨true,[⟨XN,v⟩]⟩=⟨true,[⟨XN,v⟩]⟩:=by
 unfold En.clean;rw [if_pos rfl];show (⟨true,List.map _ (dd (bO aQ [_]))⟩:En)=_
 have:bO aQ [(⟨XN,v⟩:Bd)]= [⟨XN,v⟩]:=by unfold bO;simp [mg]
 rw [this];show (⟨true,[(⟨XN,v.of⟩:Bd)]⟩:En)=_
 rw [hv]
theorem aLR {v:Vl} (hv:v.of=v):En.get ⟨true,[⟨XN,v⟩]⟩ XN=v:=by
 unfold En.get;rw [aFH hv,if_pos (by rfl)];rfl
theorem aTc {v w:Vl} (hv:v.of=v) (hw:w.of=w):En.set ⟨true,[⟨XN,v⟩]⟩ XN w=⟨true,[⟨XN,w⟩]⟩:=by
 unfold En.set;rw [aFH hv,if_pos rfl,hw];unfold lL;rw [if_pos (by rfl)];rfl
theorem aLS (v:Vl):eP [⟨XN,v⟩] XN=true:=by unfold eP tU;simp
abbrev XV (a:Int):List DV:=aS 2 0 XN (.lst 5 0 fun _=> []) a
abbrev X5 (a:Int):List DV:=aS 1 5 ⟨#[]⟩ (.lst 5 0 fun _=> []) a
theorem bC7 {R:Ro} (hl:R.lv=true) (a:Int):bD R fG EJ 2 (XV a)=(VJ,fG):=by
 have e:dP (eU R EJ) 2 (XV a)=(VJ,fG):=by
  have e:cR (eU R EJ) 2 fG (XV a)=(VJ,fG):=by
   show (eT (eU R EJ) fG XN)=_
   unfold eT;rw [if_pos (show eP EJ.binds XN=true from aLS VJ)];exact congrArg (·,fG) (aLR aCm)
  unfold dP;rw [if_pos (show (eU R EJ).lv=true from rfl),e];show (Vl.of VJ,fG)=_
  rw [aCm]
 unfold bD;rw [if_neg j5,e];rfl
theorem bC8 {R:Ro} (hl:R.lv=true) (a:Int):bD R fG EJ 2 (X5 a)=(NV 5,fG):=by
 have e:dP (eU R EJ) 2 (X5 a)=(NV 5,fG):=by
  have e:cR (eU R EJ) 2 fG (X5 a)=(NV 5,fG):=rfl
  unfold dP;rw [if_pos (show (eU R EJ).lv=true from rfl),e];show (Vl.of (NV 5),fG)=_
  rw [aMW]
 unfold bD;rw [if_neg j5,e];rfl
theorem bBy {R:Ro} (hG:R.G= []):rM R fG EJ 12 2 XN VJ 1 ⟨#[]⟩ (NV 5)=⟨true,[⟨XN,NV 4⟩]⟩:=by
 unfold rM;rw [hG];show ite (aAr (lG 12 VJ (NV 5) [])=true) _ _=_
 rw [if_pos t_1,if_neg j5];show ite (Vl.none (bZ 12 VJ.of (NV 5).of [])=true) _ (ite (Vl.none (eC 12 VJ.of (NV 5).of [])=true) _ (eO (eO EJ 2 XN (bZ 12 VJ.of (NV 5).of [])) 1 ⟨#[]⟩ (eC 12 VJ.of (NV 5).of [])))=_
 rw [aCm,aMW,r_1,if_neg (by rw [r_5];decide),if_neg (by rw [r_3];decide)];show ite ((1:Int)=2) _ (ite ((2:Int)=2) (ite (eP EJ.binds XN=true) (En.set EJ XN (NV 4)) _) _)=_
 rw [if_neg j5,if_pos rfl,if_pos (aLS VJ)];exact aTc aCm aHn
theorem bBz {R:Ro} (hG:R.G= []):rM R fG EJ 13 1 ⟨#[]⟩ (NV 5) 2 XN VJ=⟨true,[⟨XN,NV 7⟩]⟩:=by
 unfold rM;rw [hG];show ite (aAr (lG 13 (NV 5) VJ [])=true) _ _=_
 rw [if_pos t_2,if_neg j5];show ite (Vl.none (bZ 13 (NV 5).of VJ.of [])=true) _ (ite (Vl.none (eC 13 (NV 5).of VJ.of [])=true) _ (eO (eO EJ 1 ⟨#[]⟩ (bZ 13 (NV 5).of VJ.of [])) 2 XN (eC 13 (NV 5).of VJ.of [])))=_
 rw [aCm,aMW,r_2,if_neg (by rw [r_4];decide),if_neg (by rw [r_6];decide)];show ite ((2:Int)=2) (ite (eP EJ.binds XN=true) (En.set EJ XN (NV 7)) _) _=_
 rw [if_pos rfl,if_pos (aLS VJ)];exact aTc aCm aHo
theorem bBA {R:Ro} (hG:R.G= []) (hl:R.lv=true) (hB:R.B= [⟨XN,VJ⟩]) (n:Int) (x:ByteArray) (f:Nat->List DV) (at_ a0 a1:Int) (h0:f 0=XV a0) (h1:f 1=X5 a1) (t:Bool):jQ R 2 (aS 12 n x (.lst 5 2 f) at_) t=(⟨true,[⟨XN,if t=true then NV 4 else NV 7⟩]⟩,fG):=by
 have e:bX R 2 2 fG ⟨R.lv,R.B⟩ (aS 12 n x (.lst 5 2 f) at_) t=(⟨true,[⟨XN,if t=true then NV 4 else NV 7⟩]⟩,fG):=by
  rw [hl,hB];show lI R 2 fG EJ 12 n x (.lst 5 2 f) at_ t=_
  unfold lI;rw [if_pos (by rfl)];show (qG R (bD R (bD R fG EJ 2 (f 0)).2 EJ 2 (f 1)).2 EJ 12 (vS (f 0)) (vT (f 0)) (bD R fG EJ 2 (f 0)).1 (vS (f 1)) (vT (f 1)) (bD R (bD R fG EJ 2 (f 0)).2 EJ 2 (f 1)).1 t,(bD R (bD R fG EJ 2 (f 0)).2 EJ 2 (f 1)).2)=_
  rw [h0,h1,bC7 hl,bC8 hl];cases t with
  |true=>exact congrArg (·,fG) (bBy hG)
  |false=>exact congrArg (·,fG) (bBz hG)
 unfold jQ;rw [e,if_neg (show¬false=true by decide)];cases t with
 |true=>exact congrArg (·,fG) (aFH aHn)
 |false=>exact congrArg (·,fG) (aFH aHo)
end Go.Proofs.YtiblbnhknemloaaGreat
namespace Go.Proofs.YtiblbnhknemloaaGreat
open Tryz
open Go.Sx
open Go.RowKit Go.Lib Go.Sort
theorem bBB {R:Ro} {E:En} (s:Se) (op n:Int) (x:ByteArray) (at_:Int) (t_:Bool) (k:Nat) (f:Nat->List DV) (hl:E.live=false):bH prog 38 [.c (.own 0 0),.agg [.d (bo E.live),.d (dT E.binds)],.agg [.d (it op),.d (it n),.d (st x),.d (.lst 5 k f),.d (it at_)],.c (.d (bo t_))] (HG R s) (kQ (⟨false,[]⟩:En)) (HG R s):=by
 refine iZ (c:=7) (inl aA (l:= []) trivial func38 rfl j4 j4 rfl ?_)
 all_goals repeat' (first|exact trivial|(with_reducible exact (nx (congrArg Bool.not hl)))|refine ⟨?_,?_⟩|intro _)
 all_goals first|(conv=>whnf)
 all_goals first|exact rfl
theorem bC9 {R:Ro} {E:En} (s:Se) (op n:Int) (x:ByteArray) (at_:Int) (t_:Bool) (hl:E.live=true) (ae:op=6) (c4 n0:Int) (x0:ByteArray) (q0:Nat) (u0:Nat->List DV) (fR:Int) {e0:En} {S0:Se} (hm:bH prog 38 [.c (.own 0 0),.agg [.d (bo E.live),.d (dT E.binds)],.agg [.d (it c4),.d (it n0),.d (st x0),.d (.lst 5 q0 u0),.d (it fR)],.c (.d (bo (!t_)))] (HG R s) (kQ e0) (HG R S0)):bH prog 38 [.c (.own 0 0),.agg [.d (bo E.live),.d (dT E.binds)],.agg [.d (it op),.d (it n),.d (st x),.d (.lst 5 1 fun _=>(aS c4 n0 x0 (.lst 5 q0 u0) fR)),.d (it at_)],.c (.d (bo t_))] (HG R s) (kQ e0) (HG R S0):=by
 subst ae;refine iZ (c:=7) (inl aA (l:= []) trivial func38 rfl j4 j4 rfl ?_)
 all_goals (repeat' (first|exact j5j|refine ⟨?_,?_⟩|intro _));all_goals first|apply qq|conv=>whnf
 all_goals (repeat' (fail));all_goals first|apply qq|conv=>whnf
 all_goals first|((with_reducible show bM _ _ 38 _ _ _);refine bH.go 7 hm rfl rfl rfl rfl rfl rfl ?_ ?_ ?_)|skip
 all_goals (repeat' (first|exact trivial|refine ⟨?_,?_⟩|intro _));all_goals first|apply qq|conv=>whnf
 all_goals first|exact rfl|omega
theorem bDa {R:Ro} {E:En} (s:Se) (op n:Int) (x:ByteArray) (at_:Int) (t_:Bool) (hl:E.live=true) (ae:op=16 \/op=17) (ht:t_=decide (op=16)) (c4 n0:Int) (x0:ByteArray) (q0:Nat) (u0:Nat->List DV) (fR:Int) (df n1:Int) (x1:ByteArray) (q1:Nat) (u1:Nat->List DV) (mq:Int) {e0 e1:En} {S0 S1:Se} (sv:bH prog 38 [.c (.own 0 0),.agg [.d (bo E.live),.d (dT E.binds)],.agg [.d (it c4),.d (it n0),.d (st x0),.d (.lst 5 q0 u0),.d (it fR)],.c (.d (bo t_))] (HG R s) (kQ e0) (HG R S0)) (j6:bH prog 38 [.c (.own 0 0),.agg [.d (bo e0.live),.d (dT e0.binds)],.agg [.d (it df),.d (it n1),.d (st x1),.d (.lst 5 q1 u1),.d (it mq)],.c (.d (bo t_))] (HG R S0) (kQ e1) (HG R S1)):bH prog 38 [.c (.own 0 0),.agg [.d (bo E.live),.d (dT E.binds)],.agg [.d (it op),.d (it n),.d (st x),.d (.lst 5 2 fun j=>match j with|0=>(aS c4 n0 x0 (.lst 5 q0 u0) fR)|_=>(aS df n1 x1 (.lst 5 q1 u1) mq)),.d (it at_)],.c (.d (bo t_))] (HG R s) (kQ e1) (HG R S1):=by
 subst ht;rcases ae with rfl|rfl
 all_goals refine iZ (c:=7) (inl aA (l:= []) trivial func38 rfl j4 j4 rfl ?_)
 all_goals repeat' (first|exact j5j|refine ⟨?_,?_⟩|intro _)
 all_goals first|(conv=>whnf)
 all_goals first|((with_reducible show bM _ _ 67 _ _ _);refine inl aA (l:= []) trivial func67 rfl j4 j4 rfl ?_)
 all_goals repeat' (fail)
 all_goals first|(conv=>whnf)
 all_goals first|((with_reducible show aO _ _ (.region 1 _ _) _ _);refine cO aA (l:= []) trivial ([.take 0,.take 1,.take 2,.take 3,.take 4,.take 5,.take 6,.take 8,.act 7 [8,0] [12,13,16,17],.act 9 [] [11,18,19],.act 10 [] [10,20]]) j4 ?_)
 all_goals (repeat' (first|exact j2y|refine ⟨?_,?_⟩|intro _));all_goals first|apply qq|conv=>whnf
 all_goals first|((with_reducible show bM _ _ 38 _ _ _);refine bH.go 7 sv rfl rfl rfl rfl rfl rfl ?_ ?_ ?_)|skip
 all_goals (repeat' (first|exact j3w|refine ⟨?_,?_⟩|intro _));all_goals first|apply qq|conv=>whnf
 all_goals first|((with_reducible show bM _ _ 68 _ _ _);refine inl aA (l:= []) trivial func68 rfl j4 j4 rfl ?_)|skip
 all_goals (repeat' (fail));all_goals first|apply qq|conv=>whnf
 all_goals first|((with_reducible show bM _ _ 119 _ _ _);refine inl aA (l:= []) trivial func119 rfl j4 j4 rfl ?_)|skip
 all_goals (repeat' (first|refine ⟨?_,?_⟩|intro _));all_goals first|apply qq|conv=>whnf
 all_goals (repeat' (fail));all_goals first|apply qq|conv=>whnf
 all_goals first|((with_reducible show bM _ _ 38 _ _ _);refine bH.go 7 j6 rfl rfl rfl rfl rfl rfl ?_ ?_ ?_)|skip
 all_goals (repeat' (first|exact j3w|refine ⟨?_,?_⟩|intro _));all_goals first|apply qq|conv=>whnf
 all_goals first|exact rfl|omega
theorem bEN {R:Ro} {E:En} (s:Se) (op n:Int) (x:ByteArray) (at_:Int) (t_:Bool) (hl:E.live=true) (ae:op=16 \/op=17) (ht:t_= !decide (op=16)) (c4 n0:Int) (x0:ByteArray) (q0:Nat) (u0:Nat->List DV) (fR:Int) (df n1:Int) (x1:ByteArray) (q1:Nat) (u1:Nat->List DV) (mq:Int) {e0 e1:En} {S0 S1:Se} (sv:bH prog 38 [.c (.own 0 0),.agg [.d (bo E.live),.d (dT E.binds)],.agg [.d (it c4),.d (it n0),.d (st x0),.d (.lst 5 q0 u0),.d (it fR)],.c (.d (bo t_))] (HG R s) (kQ e0) (HG R S0)) (j6:bH prog 38 [.c (.own 0 0),.agg [.d (bo E.live),.d (dT E.binds)],.agg [.d (it df),.d (it n1),.d (st x1),.d (.lst 5 q1 u1),.d (it mq)],.c (.d (bo t_))] (HG R S0) (kQ e1) (HG R S1)) (hj:xS e0.binds e1.binds) (AP:e0.binds.length+e1.binds.length<=1099511627776) (jc:iO e0.binds) (ia:iO e1.binds):bH prog 38 [.c (.own 0 0),.agg [.d (bo E.live),.d (dT E.binds)],.agg [.d (it op),.d (it n),.d (st x),.d (.lst 5 2 fun j=>match j with|0=>(aS c4 n0 x0 (.lst 5 q0 u0) fR)|_=>(aS df n1 x1 (.lst 5 q1 u1) mq)),.d (it at_)],.c (.d (bo t_))] (HG R s) (kQ (En.join e0 e1)) (HG R S1):=by
 have nt:=dV jc
 have du:=dV ia
 have AA:e0.binds.length<=1099511627776:=j3
 have BU:e1.binds.length<=1099511627776:=j3
 have Dz:=dJ e0.binds
 have DA:=dJ e1.binds
 have jv:xS (aH e0.binds.length (aW e0.binds)) (aH e1.binds.length (aW e1.binds)):=by rw [Dz,DA];exact hj
 subst ht;rcases ae with rfl|rfl
 all_goals refine iZ (c:=7) (inl aA (l:= []) trivial func38 rfl j4 j4 rfl ?_)
 all_goals repeat' (first|exact j5j|refine ⟨?_,?_⟩|intro _)
 all_goals first|(conv=>whnf)
 all_goals first|((with_reducible show bM _ _ 67 _ _ _);refine inl aA (l:= []) trivial func67 rfl j4 j4 rfl ?_)
 all_goals repeat' (fail)
 all_goals first|(conv=>whnf)
 all_goals first|((with_reducible show aO _ _ (.region 1 _ _) _ _);refine cO aA (l:= []) trivial ([.take 0,.take 1,.take 2,.take 3,.take 4,.take 5,.take 6,.take 8,.act 7 [8,0] [12,13,16,17],.act 9 [] [11,18,19],.act 10 [] [10,20]]) j4 ?_)
 all_goals (repeat' (first|exact j2y|refine ⟨?_,?_⟩|intro _));all_goals first|apply qq|conv=>whnf
 all_goals first|((with_reducible show bM _ _ 38 _ _ _);refine bH.go 7 sv rfl rfl rfl rfl rfl rfl ?_ ?_ ?_)|skip
 all_goals (repeat' (first|exact j3w|refine ⟨?_,?_⟩|intro _));all_goals first|apply qq|conv=>whnf
 all_goals first|((with_reducible show bM _ _ 69 _ _ _);refine bET aA func69 rfl j4 j4 ?_;refine aO.seqA aA (l:= []) trivial j4 ?_)|skip
 all_goals (repeat' (fail));all_goals first|apply qq|conv=>whnf
 all_goals first|((with_reducible show aO _ _ (.seq (.region 1 _ _) _) _ _);refine aO.seq ?_;refine cO aA (l:= [(70,⟨[],aKZ⟩)]) ⟨aZO,trivial⟩ ([.take 0,.take 1,.take 2,.act 3 [0] [7,8],.act 4 [] [6,9],.act 5 [] [5,10]]) j4 ?_)|skip
 all_goals (repeat' (first|exact j2y|refine ⟨?_,?_⟩|fail));all_goals first|apply qq|conv=>whnf
 all_goals first|((with_reducible show bM _ _ 119 _ _ _);refine inl aA (l:= []) trivial func119 rfl j4 j4 rfl ?_)|skip
 all_goals (repeat' (first|refine ⟨?_,?_⟩|intro _));all_goals first|apply qq|conv=>whnf
 all_goals (repeat' (fail));all_goals first|apply qq|conv=>whnf
 all_goals first|((with_reducible show bM _ _ 38 _ _ _);refine bH.go 7 j6 rfl rfl rfl rfl rfl rfl ?_ ?_ ?_)|skip
 all_goals (repeat' (first|exact j3w|exact j3f|refine ⟨?_,?_⟩|intro _));all_goals first|apply qq|conv=>whnf
 all_goals first|((with_reducible show aO _ _ .ret _ _);refine aO.vc aA (l:= []) trivial j4 ?_)|skip
 all_goals (repeat' (first|exact j3w|refine ⟨?_,?_⟩|intro _));all_goals first|apply qq|conv=>whnf
 all_goals (try simp only [dJ])
 all_goals first|exact rfl|omega
theorem bDb {R:Ro} {E:En} (s:Se) (op n:Int) (x:ByteArray) (at_:Int) (t_:Bool) (k:Nat) (f:Nat->List DV) (hl:E.live=true) (h6:(op==6)=true->((k:Int)==1)=true->False) (lh:(op==16)=true \/(op==17)=true->((k:Int)==2)=true->False) {e0:En} {S0:Se} (hm:bH prog 71 [.c (.own 0 0),.agg [.d (bo E.live),.d (dT E.binds)],.agg [.d (it op),.d (it n),.d (st x),.d (.lst 5 k f),.d (it at_)],.c (.d (bo t_))] (HG R s) (kQ e0) (HG R S0)):bH prog 38 [.c (.own 0 0),.agg [.d (bo E.live),.d (dT E.binds)],.agg [.d (it op),.d (it n),.d (st x),.d (.lst 5 k f),.d (it at_)],.c (.d (bo t_))] (HG R s) (kQ e0) (HG R S0):=by
 refine iZ (c:=7) (inl aA (l:= []) trivial func38 rfl j4 j4 rfl ?_)
 all_goals (repeat' (first|(with_reducible exact (nx (congrArg Bool.not hl)))|refine ⟨?_,?_⟩|intro _));all_goals first|apply qq|conv=>whnf
 all_goals first|(exfalso;first|exact h6 ‹(op==6)=true› ‹_›|exact lh (.inl ‹(op==16)=true›) ‹_›|exact lh (.inr ‹(op==17)=true›) ‹_›)|skip
 all_goals first|((with_reducible show bM _ _ 71 _ _ _);refine bH.go 7 hm rfl rfl rfl rfl rfl rfl ?_ ?_ ?_)
 all_goals repeat' (first|exact trivial|refine ⟨?_,?_⟩|intro _)
 all_goals first|(conv=>whnf)
 all_goals first|exact rfl
end Go.Proofs.YtiblbnhknemloaaGreat
namespace Go.Proofs.YtiblbnhknemloaaGreat
open Tryz
open Go.Sx
open Go.RowKit Go.Lib Go.Sort
abbrev bK (v:Vl):Vl:=(⟨⟨⟨(v).i.s.some,(v).i.s.lo,(v).i.s.hi⟩,⟨(v).i.c.some,(v).i.c.m,(v).i.c.r⟩⟩,⟨(v).t.null,gN (v).t.names.length fun i=> [st (aN (v).t.names i)]⟩⟩:Vl)
abbrev lS (v:Vl):Prop:=(((v).t.names.length*16<=140737488351232/\ ∀i,i<(v).t.names.length->(fun i=> [st (aN (v).t.names i)]) i= [st (gT ((fun i=> [st (aN (v).t.names i)]) i))])/\ Sp.inR ⟨(v).i.s.some,(v).i.s.lo,(v).i.s.hi⟩/\ Cg.inR ⟨(v).i.c.some,(v).i.c.m,(v).i.c.r⟩)
abbrev fZ (R:Ro):List ByteArray:=(gN (bQ (bN R.G.length (dC R.G)) R.G.length).length fun i=> [st (aN (bQ (bN R.G.length (dC R.G)) R.G.length) i)])
theorem yE (v:Vl):bK v=v:=by show (⟨⟨⟨(v).i.s.some,(v).i.s.lo,(v).i.s.hi⟩,⟨(v).i.c.some,(v).i.c.m,(v).i.c.r⟩⟩,⟨(v).t.null,gN (v).t.names.length fun i=> [st (aN (v).t.names i)]⟩⟩:Vl)=v;rw [bI]
abbrev aHp:List (Nat×Sm):= [(121,⟨[],aGT⟩),(123,⟨[],aGV⟩),(124,⟨[],aA3⟩),(125,⟨[],aCj⟩),(66,⟨[],aFE⟩),(126,⟨[],aFg⟩),(28,⟨[],aFS⟩),(127,⟨[],aGb⟩)]
theorem aMX:gX prog aHp:=⟨aRX,aR0,aE5,aGR,aPu,aOF,aP3,aQQ,trivial⟩
theorem bDc {R:Ro} (hR:R.ok) {E:En} (hE:rP E) (s:Se) (op n:Int) (x:ByteArray) (at_:Int) (ae:rI op) (c4 n0:Int) (x0:ByteArray) (q0:Nat) (u0:Nat->List DV) (fR:Int) (V0:Vl) (S0:Se) (gw:aY V0) (AJ:cD R S0) (df n1:Int) (x1:ByteArray) (q1:Nat) (u1:Nat->List DV) (mq:Int) (V1:Vl) (S1:Se) (j7:aY V1) (Dl:cD R S1)
 (l0:V0.t.names.length<=1099511627776) (l1:V1.t.names.length<=1099511627776)
 (l5: ∀o,rP (eO E c4 x0 (bZ o V0.of V1.of (bQ R.G R.G.length)))) (au: ∀o,rP (eO E df x1 (bZ o V1.of V0.of (bQ R.G R.G.length))))
 (sv:bH prog 122 [.c (.own 0 0),.agg [.d (bo E.live),.d (dT E.binds)],.agg [.d (it c4),.d (it n0),.d (st x0),.d (.lst 5 q0 u0),.d (it fR)]] (HG R s) (jF V0) (HG R S0)) (j6:bH prog 122 [.c (.own 0 0),.agg [.d (bo E.live),.d (dT E.binds)],.agg [.d (it df),.d (it n1),.d (st x1),.d (.lst 5 q1 u1),.d (it mq)]] (HG R S0) (jF V1) (HG R S1)) (hc:tH op 2=true) (t_:Bool):bH prog 71 [.c (.own 0 0),.agg [.d (bo E.live),.d (dT E.binds)],.agg [.d (it op),.d (it n),.d (st x),.d (.lst 5 2 fun j=>match j with|0=>(aS c4 n0 x0 (.lst 5 q0 u0) fR)|_=>(aS df n1 x1 (.lst 5 q1 u1) mq)),.d (it at_)],.c (.d (bo t_))] (HG R s) (kQ (qG R S1 E op c4 x0 V0 df x1 V1 t_)) (HG R S1):=by
 have tv:=cX gw
 have tw:=cX j7
 have ET:V0.of.t.names.length<=V0.t.names.length:=j1w
 have EU:V1.of.t.names.length<=V1.t.names.length:=j1w
 have vo:=fun o=>aEb (op:=o) (m:=bQ R.G R.G.length) tv tw j3 j3
 have vq:=fun o=>aEb (op:=o) (m:=bQ R.G R.G.length) tw tv j3 j3
 have eM:fZ R=bQ R.G R.G.length:=y8
 have e0:(bK V0)=V0:=yE V0
 have e1:(bK V1)=V1:=yE V1
 have eE:(⟨E.live,aH E.binds.length (aW E.binds)⟩:En)=E:=by rw [dJ]
 have Ao:(-9223372036854775808<=op/\ op<9223372036854775808):=ae
 have Ap:(-9223372036854775808<=qF op/\ qF op<9223372036854775808):=aR1 op
 have cG:(R.G.length<=1099511627776/\ nL R.G.length (dC R.G)):=⟨hR.gn,pL hR.g⟩
 have cE:(E.binds.length<=1099511627776/\ dN E.binds.length (aW E.binds)):=⟨hE.n,dV hE.ok⟩
 have c0:lS V0:=gw
 have c1:lS V1:=j7
 have cM:((bQ (bN R.G.length (dC R.G)) R.G.length).length*16<=140737488351232/\ ∀i,i<(bQ (bN R.G.length (dC R.G)) R.G.length).length->(fun i=> [st (aN (bQ (bN R.G.length (dC R.G)) R.G.length) i)]) i= [st (gT ((fun i=> [st (aN (bQ (bN R.G.length (dC R.G)) R.G.length) i)]) i))]):=⟨by rw [gS];have:=aC6 R.G R.G.length;have:=hR.gn;omega,fun _ _=>rfl⟩
 have Aq: ∀o,lS (lG o (bK V0) (bK V1) (fZ R)):=fun o=>by rw [eM,e0,e1];exact (aD7 gw j7).1
 have As: ∀o,lS (bZ o (Vl.of (bK V0)) (Vl.of (bK V1)) (fZ R)):=fun o=>by rw [eM,e0,e1];exact (vo o).1
 have Au: ∀o,lS (eC o (Vl.of (bK V0)) (Vl.of (bK V1)) (fZ R)):=fun o=>by rw [eM,e0,e1];exact (vo o).2
 have Av: ∀o,(((eO (⟨E.live,aH E.binds.length (aW E.binds)⟩:En) c4 x0 (bK (bZ o (Vl.of (bK V0)) (Vl.of (bK V1)) (fZ R))))).binds.length<=1099511627776/\ dN ((eO (⟨E.live,aH E.binds.length (aW E.binds)⟩:En) c4 x0 (bK (bZ o (Vl.of (bK V0)) (Vl.of (bK V1)) (fZ R))))).binds.length (aW ((eO (⟨E.live,aH E.binds.length (aW E.binds)⟩:En) c4 x0 (bK (bZ o (Vl.of (bK V0)) (Vl.of (bK V1)) (fZ R))))).binds)):=fun o=>by rw [eM,e0,e1,eE,yE];exact ⟨(l5 o).n,dV (l5 o).ok⟩
 have AQ: ∀o,lS (lG o (bK V1) (bK V0) (fZ R)):=fun o=>by rw [eM,e0,e1];exact (aD7 j7 gw).1
 have AR: ∀o,lS (bZ o (Vl.of (bK V1)) (Vl.of (bK V0)) (fZ R)):=fun o=>by rw [eM,e0,e1];exact (vq o).1
 have AS: ∀o,lS (eC o (Vl.of (bK V1)) (Vl.of (bK V0)) (fZ R)):=fun o=>by rw [eM,e0,e1];exact (vq o).2
 have AU: ∀o,(((eO (⟨E.live,aH E.binds.length (aW E.binds)⟩:En) df x1 (bK (bZ o (Vl.of (bK V1)) (Vl.of (bK V0)) (fZ R))))).binds.length<=1099511627776/\ dN ((eO (⟨E.live,aH E.binds.length (aW E.binds)⟩:En) df x1 (bK (bZ o (Vl.of (bK V1)) (Vl.of (bK V0)) (fZ R))))).binds.length (aW ((eO (⟨E.live,aH E.binds.length (aW E.binds)⟩:En) df x1 (bK (bZ o (Vl.of (bK V1)) (Vl.of (bK V0)) (fZ R))))).binds)):=fun o=>by rw [eM,e0,e1,eE,yE];exact ⟨(au o).n,dV (au o).ok⟩
 refine iZ (c:=7) (inl aA (l:=aHp) aMX func71 rfl j4 j4 rfl ?_)
 all_goals repeat' (first|exact trivial|(with_reducible exact (nx (congrArg Bool.not hc)))|refine ⟨?_,?_⟩|intro _)
 all_goals first|(conv=>whnf)
 all_goals first|((with_reducible show aO _ _ (.region 4 _ _) _ _);refine cO aA (l:=aHp) aMX ([.take 0,.take 1,.take 2,.take 3,.take 4,.take 5,.take 6,.take 7,.take 8,.take 9,.act 10 [3,2,1,0] [32,33,37],.take 11,.news [12],.act 13 [] [10,39]]) j4 ?_)
 all_goals (repeat' (first|exact j2y|refine ⟨?_,?_⟩|intro _));all_goals first|apply qq|conv=>whnf
 all_goals first|((with_reducible show bM _ _ 122 _ _ _);refine bH.go 7 sv rfl rfl rfl rfl rfl rfl ?_ ?_ ?_)|skip
 all_goals (repeat' (first|exact trivial|exact j2y|refine ⟨?_,?_⟩|intro _));all_goals first|apply qq|conv=>whnf
 all_goals first|((with_reducible show aO _ _ (.region 5 _ _) _ _);refine cO aA (l:=aHp) aMX ([.take 0,.take 1,.take 2,.take 3,.take 4,.take 5,.take 6,.take 7,.take 8,.take 9,.act 10 [3,2,1,0] [44,45,49],.take 11,.news [12],.act 13 [] [11,51]]) j4 ?_)|skip
 all_goals (repeat' (first|exact j2y|refine ⟨?_,?_⟩|intro _));all_goals first|apply qq|conv=>whnf
 all_goals first|((with_reducible show bM _ _ 122 _ _ _);refine bH.go 7 j6 rfl rfl rfl rfl rfl rfl ?_ ?_ ?_)|skip
 all_goals (repeat' (first|exact trivial|exact j2y|(with_reducible first|exact j5c|exact (AQ _)|exact (AR _)|exact (AS _)|exact (AU _)|exact (kds _ _))|refine ⟨?_,?_⟩|intro _));all_goals first|apply qq|conv=>whnf
 all_goals first|exact rfl|omega|skip
 all_goals (clear Ao Ap cG cE c0 c1 cM Aq AQ As AR Au AS Av AU eM e0 e1 eE vo vq l5 au)
 all_goals (simp only [bI,gS,dJ,aKT,aKX,aKY,aGd,aKU,aKV,aKW,Bool.not_eq_true',Bool.not_eq_false'] at*)
 all_goals (try simp only [qG,rM,if_true,if_false,Bool.false_eq_true, ↓reduceIte, *])
 all_goals first|rfl
end Go.Proofs.YtiblbnhknemloaaGreat
