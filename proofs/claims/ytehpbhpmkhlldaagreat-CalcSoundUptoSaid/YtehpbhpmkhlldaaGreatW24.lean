/- Texts that are taken out of rows of texts. No condition. -/
import Derived.Test.YtehpbhpmkhlldaaGreatW23
set_option linter.all false
set_option maxHeartbeats 8000000
set_option maxRecDepth 100000
namespace Go.Proofs.YtehpbhpmkhlldaaGreat
open Go.Sx
def FOtherC:List Ar->Option Rs
 | [.c (.d (.v (.string x0))),.rp [.v (.string x1)]]=>some ⟨True,.va (.c (.d (bo (decide (x0=x1))))),[]⟩
 |_=>none
theorem fcOtherC:FC Tryz.prog 116 FOtherC:=by
 intro xs pre r us h hp
 unfold FOtherC at h
 split at h
 . rename_i x0 x1
   cases h
   refine fcat tys_ok (l:= []) trivial Tryz.func116 rfl (by kernel_rfl) false ?_
   repeat' (first|exact trivial|refine ⟨?_, ?_⟩|intro _)
   all_goals first|(with_reducible first|apply qa|apply qb|apply qc|apply qd)|(conv=>whnf)
   all_goals first|rfl|exact congrArg Value.bool (seq_iff _ _)
 . cases h
abbrev gOth (x:ByteArray):List Cv->Option Gs:=mkFv (sums [(116,⟨[],FOtherC⟩)]) 116 [.rp [.v (.string x)]]
abbrev pO (x b:ByteArray):Bool:=decide (b=x)
def ixO (p:ByteArray->Bool) (L:List ByteArray):Int:=match L.findIdx? p with
 |some i=>i
 |none=> -1
theorem atS_get {L:List ByteArray} {k:Nat} (h:k<L.length):atS L k=L[k]:=by unfold atS;rw [List.getD_eq_getElem?_getD,List.getElem?_eq_getElem h];rfl
theorem ixo_some {p:ByteArray->Bool} {L:List ByteArray} {i:Nat} (hi:i<L.length) (h1: ∀k,k<i->p (atS L k)=false) (h2:p (atS L i)=true):ixO p L=i:=by
 unfold ixO
 have:L.findIdx? p=some i:=by
  rw [List.findIdx?_eq_some_iff_getElem]
  refine ⟨hi,by rw [<-atS_get hi];exact h2,fun j hj=> ?_⟩
  rw [<-atS_get (by omega),h1 j hj];exact Bool.false_ne_true
 rw [this]
theorem mem_atS {L:List ByteArray} {x:ByteArray} (h:x∈L): ∃k,k<L.length/\ x=atS L k:=by
 obtain ⟨k,hk,rfl⟩:=List.mem_iff_getElem.1 h
 exact ⟨k,hk,(atS_get hk).symm⟩
theorem ixo_none {p:ByteArray->Bool} {L:List ByteArray} (h1: ∀k,k<L.length->p (atS L k)=false):ixO p L= -1:=by
 unfold ixO
 have:L.findIdx? p=none:=by
  rw [List.findIdx?_eq_none_iff]
  intro x hx
  obtain ⟨k,hk,rfl⟩:=mem_atS hx
  exact h1 k hk
 rw [this]
theorem ixo_cases (p:ByteArray->Bool) (L:List ByteArray):(ixO p L= -1/\ ∀k,k<L.length->p (atS L k)=false) \/ ∃i,ixO p L=(i:Nat)/\ i<L.length/\ (∀k,k<i->p (atS L k)=false)/\ p (atS L i)=true:=by
 unfold ixO
 cases h:L.findIdx? p with
 |none=>
  rw [List.findIdx?_eq_none_iff] at h
  exact .inl ⟨rfl,fun k hk=>h _ (by rw [atS_get hk];exact List.getElem_mem hk)⟩
 |some i=>
  rw [List.findIdx?_eq_some_iff_getElem] at h
  obtain ⟨h1,h2,h3⟩:=h
  refine .inr ⟨i,rfl,h1,fun k hk=> ?_,by rw [atS_get h1];exact h2⟩
  rw [atS_get (by omega)]
  simpa using h3 k hk
def pf (hh:Nat->ByteArray) (F:List ByteArray) (k:Nat):ByteArray:=if k<F.length then atS F k else hh k
def flO (p:ByteArray->Bool) (L:List ByteArray) (j:Nat):List ByteArray:=(L.take j).filter fun b=> !p b
theorem flO_len (p:ByteArray->Bool) (L:List ByteArray) (j:Nat):(flO p L j).length<=j:=by
 have:=List.length_filter_le (fun b=> !p b) (L.take j)
 have h2:=List.length_take_le j L
 unfold flO;omega
theorem flO_step (p:ByteArray->Bool) {L:List ByteArray} {j:Nat} (h:j<L.length):flO p L (j+1)=flO p L j++if (!p (atS L j))=true then [atS L j] else []:=by
 unfold flO
 rw [List.take_add_one,List.getElem?_eq_getElem h,atS_get h,List.filter_append]
 congr 1
 cases hc:p L[j]<;>simp [List.filter,hc]
theorem flO_pre (p:ByteArray->Bool) {L:List ByteArray} {i:Nat} (hi:i<L.length) (h1: ∀k,k<i->p (atS L k)=false) (h2:p (atS L i)=true):flO p L (i+1)=L.take i:=by
 rw [flO_step p hi,h2]
 unfold flO
 rw [if_neg (by decide),List.append_nil,List.filter_eq_self]
 intro x hx
 obtain ⟨k,hk,rfl⟩:=List.mem_iff_getElem.1 hx
 rw [List.length_take] at hk
 rw [List.getElem_take, <-atS_get (by omega),h1 k (by omega)];rfl
theorem pf_take {hh:Nat->ByteArray} {L:List ByteArray} (hat: ∀i,i<L.length->atS L i=hh i) (i k:Nat):pf hh (L.take i) k=hh k:=by
 unfold pf;split
 . rename_i h
   rw [List.length_take] at h
   rw [atS_get (by rw [List.length_take];exact h),List.getElem_take, <-atS_get (by omega),hat k (by omega)]
 . rfl
theorem pf_out {hh:Nat->ByteArray} {F:List ByteArray} {k:Nat} (h:F.length<=k):pf hh F k=hh k:=by unfold pf;rw [if_neg (by omega)]
theorem pf_in {hh:Nat->ByteArray} {F:List ByteArray} {k:Nat} (h:k<F.length):pf hh F k=atS F k:=by unfold pf;rw [if_pos h]
theorem row_pushS {hh:Nat->ByteArray} {F:List ByteArray} {x:ByteArray} {i:Nat} {r:List DV} (hi:i=F.length) (hr:r= [st x]) (k:Nat):setRow (fun k=> [st (pf hh F k)]) i r k= [st (pf hh (F++ [x]) k)]:=by
 subst hi;subst hr
 by_cases h:k=F.length
 . have hb:Nat.beq k F.length=true:=by rw [h];exact Nat.beq_refl _
   unfold setRow pf;rw [hb];subst h;simp [atS,List.getD_eq_getElem?_getD]
 . have hb:Nat.beq k F.length=false:=by cases hb:Nat.beq k F.length;rfl;exact absurd (Nat.eq_of_beq_eq_true hb) h
   unfold setRow pf;rw [hb]
   by_cases h2:k<F.length
   . simp [h2,atS,List.getD_eq_getElem?_getD,List.getElem?_append_left h2,show k<F.length+1 by omega]
   . simp [h2,show¬k<F.length+1 by omega]
theorem flO_all (p:ByteArray->Bool) (L:List ByteArray):flO p L L.length=L.filter fun b=> !p b:=by unfold flO;rw [List.take_length]
theorem filt_none {p:ByteArray->Bool} {L:List ByteArray} (h: ∀k,k<L.length->p (atS L k)=false):(L.filter fun b=> !p b)=L:=by
 rw [List.filter_eq_self]
 intro x hx
 obtain ⟨k,hk,rfl⟩:=mem_atS hx
 rw [h k hk];rfl
theorem clr_loS {f:Nat->List DV} {o len k:Nat} {ds:List DV} (h:k<o):clrRow f o len ds k=f k:=by unfold clrRow;rw [if_neg (by omega)]
def FIndexS (xk:ByteArray) (hh:Nat->ByteArray):List Ar->Option Rs
 | [.c (.ow 1 n0 f0),.fv g1]=>some ⟨(n0*16<=140737488351232)/\ (g1=gOth xk/\ f0=fun i=> [st (hh i)]),.va (.c (.d (it (ixO (pO xk) (gN n0 f0))))),[some (fun i=> [st (hh i)])]⟩
 |_=>none
theorem fcIndexS (xk:ByteArray) (hh:Nat->ByteArray):FC Tryz.prog 155 (FIndexS xk hh):=by
 intro xs pre r us h hp
 unfold FIndexS at h
 split at h
 . rename_i n0 f0 g1
   cases h
   obtain ⟨hp0,hp1⟩:=hp
   refine fcat tys_ok (l:= []) trivial Tryz.func155 rfl (by kernel_rfl) false ?_
   obtain ⟨rfl,rfl⟩:=hp1
   have hn:=hp0
   have hat: ∀i,i<n0->atS (gN n0 fun i=> [st (hh i)]) i=hh i:=fun i hi=>atS_gN hi
   have hlen:=gN_length n0 (fun i=> [st (hh i)])
   generalize hLL:gN n0 (fun i=> [st (hh i)])=L at*
   clear hp0
   subst hlen
   repeat' (first|exact trivial|refine ⟨?_, ?_⟩|intro _)
   all_goals first|(with_reducible first|apply qa|apply qb|apply qc|apply qd)|(conv=>whnf)
   refine loop_ok tys_ok (l:= []) trivial (by kernel_rfl) (X:=Nat)
    (fun i=>⟨[(8,vx (.int .i64 i)),(0,.va (.c (.osl 0 1 0 L.length))),(1,.va (.c (.fv (gOth xk)))),(7,vx (.int .i64 L.length))],[(0,.row 1 L.length fun i=> [st (hh i)])],1,19⟩)
    (fun i=>L.length-i) (fun i=>i<=L.length/\ ∀k,k<i->pO xk (hh k)=false) [] []
    (fun i _ _=>i+1) [0] [0] 0 0 0 ?_ ?_ ?_
   . exact ⟨Nat.zero_le _,fun k h=>absurd h (Nat.not_lt_zero k)⟩
   . repeat' (first|exact trivial|exact rfl|(intro _ _;exact rfl)|refine ⟨?_, ?_⟩|fail)
   . rintro i ⟨k1,k2⟩
     rcases Nat.lt_or_ge i L.length with hi|hi
     . have hne:decide ((i:Int)<(L.length:Int))=true:=decide_eq_true (by omega)
       have k3: ∀k,k<i->pO xk (atS L k)=false:=fun k hk=>by rw [hat k (by omega)];exact k2 k hk
       repeat' (first|exact trivial|refine ⟨?_, ?_⟩|intro _)
       all_goals first|(with_reducible first|apply qa|apply qb|apply qc|apply qd)|(conv=>whnf)
       all_goals first|(exact absurd (hne.symm.trans ‹_=false›) (by decide))|skip
       all_goals (try simp only [Int.toNat_natCast,Nat.zero_add] at*)
       all_goals first|omega|rfl|(exact congrArg (Value.int .i64) (by first|(rw [wI_id _ (by omega) (by omega)];omega)|omega|(dsimp only;omega)))|skip
       all_goals first|(rw [ixo_some hi k3 (by rw [hat i hi];assumption)];done)|(rw [ixo_some hi k3 (by rw [hat i hi];assumption)];rfl)|(rename_i k hk _ _ hp;rcases Nat.lt_or_ge k i with hki|hki;exact k2 k hki;rw [show k=i by omega];exact hp)
     . have hne:decide ((i:Int)<(L.length:Int))=false:=decide_eq_false (by omega)
       obtain rfl:i=L.length:=by omega
       repeat' (first|exact trivial|refine ⟨?_, ?_⟩|intro _)
       all_goals first|(with_reducible first|apply qa|apply qb|apply qc|apply qd)|(conv=>whnf)
       all_goals first|(exact absurd (hne.symm.trans ‹_=true›) (by decide))|skip
       all_goals first|exact Nat.le_refl _|(rw [ixo_none fun k hk=>by rw [hat k hk];exact k2 k hk];done)|(rw [ixo_none fun k hk=>by rw [hat k hk];exact k2 k hk];rfl)
 . cases h
def FDeleteS (xk:ByteArray) (hh:Nat->ByteArray):List Ar->Option Rs
 | [.c (.ow 1 n0 f0),.fv g1]=>some ⟨(n0*16<=140737488351232)/\ (g1=gOth xk/\ f0=fun i=> [st (hh i)]),.va (.c (.ow 1 (((gN n0 f0)).filter fun b=> !pO xk b).length (fun i=> [st (atS (((gN n0 f0)).filter fun b=> !pO xk b) i)]))),[none]⟩
 |_=>none
theorem fcDeleteS (xk:ByteArray) (hh:Nat->ByteArray):FC Tryz.prog 114 (FDeleteS xk hh):=by
 intro xs pre r us h hp
 unfold FDeleteS at h
 split at h
 . rename_i n0 f0 g1
   cases h
   obtain ⟨hp0,hp1⟩:=hp
   refine fcat tys_ok (l:= [(155,⟨[true],(FIndexS xk hh)⟩)]) ⟨(fcIndexS xk hh),trivial⟩ Tryz.func114 rfl (by kernel_rfl) false ?_
   obtain ⟨rfl,rfl⟩:=hp1
   have hn:=hp0
   have hat: ∀i,i<n0->atS (gN n0 fun i=> [st (hh i)]) i=hh i:=fun i hi=>atS_gN hi
   have hlen:=gN_length n0 (fun i=> [st (hh i)])
   generalize hLL:gN n0 (fun i=> [st (hh i)])=L at*
   clear hp0
   subst hlen
   have hsl:=flO_all (pO xk) L
   have hfl:=flO_len (pO xk) L
   have hnn: ∀l:Nat,gN l (fun i=> [st (hh i)])=gN l (fun i=> [st (hh i)]):=fun _=>rfl
   repeat' (first|exact trivial|refine ⟨?_, ?_⟩|intro _)
   all_goals first|(with_reducible first|apply qa|apply qb|apply qc|apply qd)|(conv=>whnf)
   all_goals first|exact hn|exact Nat.le_refl _|rfl|skip
   all_goals (simp only [hLL] at*)
   all_goals (rcases ixo_cases (pO xk) L with ⟨hix,hno⟩|⟨i,hix,hi,hlo,hat2⟩)
   all_goals (simp only [hix] at*)
   all_goals first|(exact absurd ‹((-1:Int)== -1)=false› (by decide))|(exact absurd (eq_of_beq ‹((i:Int)== -1)=true›) (by omega))|skip
   . rw [filt_none hno]
   . rw [filt_none hno,hat _ ‹_›]
   have hF:=flO_pre (pO xk) hi hlo hat2
   have hgen: ∀j,j<L.length->flO (pO xk) L (j+1)=flO (pO xk) L j++if (!pO xk (atS L j))=true then [atS L j] else []:=fun j hj=>flO_step _ hj
   generalize flO (pO xk) L=F at*
   have hw0:IntKind.wrap .i64 ((i:Int)+1)=((i+1:Nat):Int):=by rw [wI_id _ (by omega) (by omega)];omega
   have hFi:(F (i+1)).length=i:=by rw [hF,List.length_take];omega
   refine loop_ok tys_ok (l:= [(155,⟨[true],(FIndexS xk hh)⟩)]) ⟨(fcIndexS xk hh),trivial⟩ (by kernel_rfl) (X:=Nat)
    (fun j=>⟨[(6,vx (.int .i64 j)),(5,vx (.int .i64 (F j).length)),(0,.va (.c (.osl 0 1 0 L.length))),(1,.va (.c (.fv (gOth xk))))],[(0,.row 1 L.length fun k=> [st (pf hh (F j) k)])],1,42⟩)
    (fun j=>L.length-j) (fun j=>i+1<=j/\ j<=L.length/\ (F j).length<j) [] []
    (fun j _ _=>j+1) [0] [0] 0 0 (i+1) ?_ ?_ ?_
   . exact ⟨Nat.le_refl _,hi,by rw [hFi];omega⟩
   . rw [show (fun k=> [st (pf hh (F (i+1)) k)])=fun k=> [st (hh k)] from funext fun k=>by rw [hF,pf_take hat]]
     repeat' (first|exact trivial|exact rfl|(intro _ _;exact rfl)|refine ⟨?_, ?_⟩|fail)
     all_goals (refine congrArg (Value.int .i64) ?_;first|rw [hw0]|(rw [hFi]))
   . rintro j ⟨k1,k2,k3⟩
     rcases Nat.lt_or_ge j L.length with hj|hj
     . have hne:decide ((j:Int)<(L.length:Int))=true:=decide_eq_true (by omega)
       have hg1:pf hh (F j) j=hh j:=pf_out (by omega)
       have hs:=hgen j hj
       rw [hat j hj] at hs
       cases hc:pO xk (hh j) with
       |true=>
        rw [hc,if_neg (by decide),List.append_nil] at hs
        have hc1:=congrArg not hc
        repeat' (first|exact trivial|refine ⟨?_, ?_⟩|intro _)
        all_goals first|(with_reducible first|apply qa|apply qb|apply qc|apply qd)|(conv=>whnf)
        all_goals first|(exact absurd (hne.symm.trans ‹_=false›) (by decide))|skip
        all_goals (try simp only [Int.toNat_natCast,Nat.zero_add,hg1] at*)
        all_goals first|(exact absurd (hc1.symm.trans ‹(!decide _)=true›) (by decide))|skip
        all_goals (try simp only [hs])
        all_goals first|omega|rfl|(exact congrArg (Value.int .i64) (by first|(rw [wI_id _ (by omega) (by omega)];omega)|omega|(dsimp only;omega)))
       |false=>
        rw [hc,if_pos (by decide)] at hs
        have hc1:=congrArg not hc
        have hlen:(F (j+1)).length=(F j).length+1:=by rw [hs];simp
        repeat' (first|exact trivial|refine ⟨?_, ?_⟩|intro _)
        all_goals first|(with_reducible first|apply qa|apply qb|apply qc|apply qd)|(conv=>whnf)
        all_goals first|(exact absurd (hne.symm.trans ‹_=false›) (by decide))|skip
        all_goals (try simp only [Int.toNat_natCast,Nat.zero_add,hg1] at*)
        all_goals first|(exact absurd (hc1.symm.trans ‹(!decide _)=false›) (by decide))|skip
        all_goals (try simp only [hlen])
        all_goals first|omega|rfl|(exact congrArg (Value.int .i64) (by first|(rw [wI_id _ (by omega) (by omega)];omega)|omega|(dsimp only;omega)))|(rw [hs];exact row_pushS rfl rfl _)
     . have hne:decide ((j:Int)<(L.length:Int))=false:=decide_eq_false (by omega)
       obtain rfl:j=L.length:=by omega
       repeat' (first|exact trivial|refine ⟨?_, ?_⟩|intro _)
       all_goals first|(with_reducible first|apply qa|apply qb|apply qc|apply qd)|(conv=>whnf)
       all_goals first|(exact absurd (hne.symm.trans ‹_=true›) (by decide))|skip
       all_goals (try simp only [Int.toNat_natCast,Nat.zero_add, <-hsl])
       all_goals first|rfl|omega|(rename_i k hk;rw [clr_loS (by omega)];exact congrArg (fun x=> [st x]) (pf_in (by omega)))
 . cases h
end Go.Proofs.YtehpbhpmkhlldaaGreat
