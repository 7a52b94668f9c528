/- The reference of what names may be. No condition. -/
import Derived.Test.YtokjghkehojenaaGreatP11
set_option linter.all false
set_option maxHeartbeats 8000000
set_option maxRecDepth 100000
namespace Go.Proofs.YtokjghkehojenaaGreat
open Go.Sx
open Go.RowKit Go.Lib Go.Sort
theorem txt_t {L M:List ByteArray} (hl:L.length=M.length) (h: ∀k,k<L.length->(atS L k).toList=(atS M k).toList):decide (L=M)=true:=decide_eq_true<|List.ext_getElem hl fun i h1 h2=>by
 have:=h i h1
 rw [atS_get h1,atS_get h2] at this;have e:(L[i].toList==M[i].toList)=true:=by rw [this];exact beq_self_eq_true _
 rw [seq_iff] at e;exact of_decide_eq_true e
theorem txt_s {L M:List ByteArray} {i:Nat} (h: ∀k,k<i->(atS L k).toList=(atS M k).toList) (h2:(!((atS L i).toList==(atS M i).toList))=false): ∀k,k<i+1->(atS L k).toList=(atS M k).toList:=fun k hk=>by
 rcases Nat.lt_or_ge k i with h1|h1
 . exact h k h1
 . obtain rfl:k=i:=by omega
   simpa using h2
theorem txt_f {L M:List ByteArray} {i:Nat} (h:(!((atS L i).toList==(atS M i).toList))=true):decide (L=M)=false:=decide_eq_false fun e=>by subst e;simp at h
theorem txt_l {L M:List ByteArray} (h:((L.length:Int) !=(M.length:Int))=true):decide (L=M)=false:=decide_eq_false fun e=>by subst e;simp at h
theorem txt_n {L M:List ByteArray} (h:((L.length:Int) !=(M.length:Int))=false):L.length=M.length:=by
 have:=bne_eq_false_iff_eq.1 h;omega
def FRTexts:List Ar->Option Rs
 | [.c (.d (.lst 1 n0 f0)),.c (.d (.lst 1 n1 f1))]=>some ⟨(n0*16<=140737488351232/\ ∀i,i<n0->f0 i= [st (gT (f0 i))])/\ (n1*16<=140737488351232/\ ∀i,i<n1->f1 i= [st (gT (f1 i))]),.va (.c (.d (bo (decide ((gN n0 f0)=(gN n1 f1)))))),[]⟩
 |_=>none
theorem fcRTexts:FC Tryz.prog 14 FRTexts:=by
 intro xs pre r us h hp;unfold FRTexts at h;split at h
 . rename_i n0 f0 n1 f1
   cases h;obtain ⟨hp0,hp1⟩:=hp
   refine FCat.of_eq (as':= [.c (.d (.lst 1 n0 fun i=> [st (atS (gN n0 f0) i)])),.c (.d (.lst 1 n1 fun i=> [st (atS (gN n1 f1) i)]))]) ?_ rfl rfl ?_
   . repeat' (first|exact trivial|exact rfl|refine ⟨?_, ?_⟩|fail)
     all_goals first|exact rowT_eq hp0.2|exact rowT_eq hp1.2|exact hp0.2|exact hp1.2|exact hp2.2|(intro i hi;exact (hp0.2 i hi).1)|(intro i hi;exact (hp1.2 i hi).1)|(intro i hi;exact (hp2.2 i hi).1)|grind
   refine fcat tys_ok (l:= []) trivial Tryz.func14 rfl (by kernel_rfl) false ?_
   have hn:=hp0.1
   have hlen:=gN_length n0 f0
   generalize gN n0 f0=L at*
   clear hp0;subst hlen;have hn1:=hp1.1
   have hlen1:=gN_length n1 f1
   generalize gN n1 f1=M_ at*
   clear hp1;subst hlen1
   repeat' (first|exact trivial|refine ⟨?_, ?_⟩|intro _)
   all_goals first|(with_reducible apply qq)|(conv=>whnf)
   all_goals first|(rw [txt_l (by assumption)];done)|skip
   have hl:=txt_n (by assumption)
   refine loop_ok tys_ok (l:= []) trivial (by kernel_rfl) (X:=Nat)
    (fun i=>⟨[(5,vx (.int .i64 i)),(0,.va (.c (.d (.lst 1 L.length fun i=> [st (atS L i)])))),(1,.va (.c (.d (.lst 1 M_.length fun i=> [st (atS M_ i)]))))],[],0,Tryz.f14.ntmps⟩)
    (fun i=>L.length-i) (fun i=>i<=L.length/\ ∀k,k<i->(atS L k).toList=(atS M_ k).toList) [] []
    (fun i _ _=>i+1) [] [] 0 0 0 ?_ ?_ ?_
   . exact ⟨Nat.zero_le _,fun k h=>absurd h (Nat.not_lt_zero k)⟩
   . repeat' (first|exact trivial|exact rfl|(intro _ _;exact rfl)|refine ⟨?_, ?_⟩|fail)
   . rintro i ⟨k1,k2⟩
     rcases Nat.lt_or_ge i L.length with hi|hi
     . have hne:decide ((i:Int)<(L.length:Int))=true:=decide_eq_true (by omega)
       have hib:(0:Int)<=(i:Int)/\ (i:Int)<(L.length:Int):=by omega
       have hib2:(i:Int)<(M_.length:Int):=by omega
       repeat' (first|exact trivial|(with_reducible first|assumption|exact n1|exact n2|exact hib.1|exact hib.2|exact nx hne)|refine ⟨?_, ?_⟩|intro _)
       all_goals first|(with_reducible apply qq)|(conv=>whnf)
       all_goals (try dsimp only)
       all_goals (try simp only [Int.toNat_natCast,Nat.zero_add] at*)
       all_goals first|omega|(rw [txt_f (L:=L) (M:=M_) (i:=i) (by assumption)];done)|(exact txt_s k2 (by assumption) _ (by assumption))|rfl|(exact congrArg (Value.int .i64) (by first|(rw [wI_id _ (by omega) (by omega)];omega)|omega|(dsimp only;omega)))
     . have hne:decide ((i:Int)<(L.length:Int))=false:=decide_eq_false (by omega)
       obtain rfl:i=L.length:=by omega
       have hv:=txt_t hl k2
       repeat' (first|exact trivial|(with_reducible first|exact n1|exact n2|exact nx hne)|refine ⟨?_, ?_⟩|intro _)
       all_goals first|(with_reducible apply qq)|(conv=>whnf)
       all_goals first|omega|(rw [hv];done)|rfl
 . cases h
def FRGlobal:List Ar->Option Rs
 | [.agg [.d (.lst 4 n0 f0),.d (.lst 5 _ _)],.c (.d (.v (.string x1)))]=>some ⟨(n0<=1099511627776/\ RowsG n0 f0),.va (.c (.d (it (ixG (gGs n0 f0) x1)))),[]⟩
 |_=>none
theorem fcRGlobal:FC Tryz.prog 30 FRGlobal:=by
 intro xs pre r us h hp;unfold FRGlobal at h;split at h
 . rename_i n0 f0 c0 d0 x1
   cases h;have hp0:=hp
   refine FCat.of_eq (as':= [.agg [.d (.lst 4 n0 (rwG (gGs n0 f0))),.d (.lst 5 c0 d0)],.c (.d (.v (.string x1)))]) ?_ rfl rfl ?_
   . repeat' (first|exact trivial|exact rfl|refine ⟨?_, ?_⟩|fail)
     all_goals first|exact rowG_eq hp0.2|exact hp0.2|exact hp1.2|exact hp2.2|(intro i hi;exact (hp0.2 i hi).1)|(intro i hi;exact (hp1.2 i hi).1)|(intro i hi;exact (hp2.2 i hi).1)|grind
   refine fcat tys_ok (l:= []) trivial Tryz.func30 rfl (by kernel_rfl) false ?_
   have hn:=hp0.1
   have hL:=okG_rows hp0.2
   have hlen:=gGs_length n0 f0
   generalize gGs n0 f0=L at*
   clear hp0;subst hlen
   repeat' (first|exact trivial|refine ⟨?_, ?_⟩|intro _)
   all_goals first|(with_reducible apply qq)|(conv=>whnf)
   refine loop_ok tys_ok (l:= []) trivial (by kernel_rfl) (X:=Nat)
    (fun i=>⟨[(5,vx (.int .i64 i)),(2,.va (.c (.own 0 0))),(1,vx (.string x1))],[(0,.cells [.d (lstG L),.d (.lst 5 c0 d0)])],1,22⟩)
    (fun i=>L.length-i) (fun i=>i<=L.length/\ ∀k,k<i->((atG L k).name.toList==x1.toList)=false) [] []
    (fun i _ _=>i+1) [0] [0] 0 0 0 ?_ ?_ ?_
   . exact ⟨Nat.zero_le _,fun k h=>absurd h (Nat.not_lt_zero k)⟩
   . repeat' (first|exact trivial|exact rfl|(intro _ _;exact rfl)|refine ⟨?_, ?_⟩|fail)
   . rintro i ⟨k1,k2⟩
     rcases Nat.lt_or_ge i L.length with hi|hi
     . have hne:decide ((i:Int)<(L.length:Int))=true:=decide_eq_true (by omega)
       have hib:(0:Int)<=(i:Int)/\ (i:Int)<(L.length:Int):=by omega
       cases hq:((atG L i).name.toList==x1.toList) with
       |true=>
        have hv:=ixG_some hi k2 hq
        repeat' (first|exact trivial|(with_reducible first|exact n1|exact n2|exact hib|exact hib.1|exact hib.2|exact nx hne)|refine ⟨?_, ?_⟩|intro _)
        all_goals first|(with_reducible apply qq)|(conv=>whnf)
        all_goals (try simp only [Int.toNat_natCast,Nat.zero_add] at*)
        all_goals first|omega|(rw [hv];done)|exact absurd (hq.symm.trans ‹_=false›) (by decide)|rfl|(intro _ _;rfl)|(rw [hv];rfl)
       |false=>
        have hk: ∀k,k<i+1->((atG L k).name.toList==x1.toList)=false:=fun k h=>by
         rcases Nat.lt_or_ge k i with h1|h1
         . exact k2 k h1
         . rw [show k=i by omega];exact hq
        repeat' (first|exact trivial|(with_reducible first|exact n1|exact n2|exact hib|exact hib.1|exact hib.2|exact nx hne)|refine ⟨?_, ?_⟩|intro _)
        all_goals first|(with_reducible apply qq)|(conv=>whnf)
        all_goals (try dsimp only)
        all_goals (try simp only [Int.toNat_natCast,Nat.zero_add] at*)
        all_goals first|omega|exact absurd (hq.symm.trans ‹_=true›) (by decide)|exact hk _ ‹_›|rfl|(exact congrArg (Value.int .i64) (by first|(rw [wI_id _ (by omega) (by omega)];omega)|omega|(dsimp only;omega)))|(intro _ _;rfl)
     . have hne:decide ((i:Int)<(L.length:Int))=false:=decide_eq_false (by omega)
       obtain rfl:i=L.length:=by omega
       have hv:=ixG_none k2
       repeat' (first|exact trivial|(with_reducible first|exact n1|exact n2|exact nx hne)|refine ⟨?_, ?_⟩|intro _)
       all_goals first|(with_reducible apply qq)|(conv=>whnf)
       all_goals first|omega|(rw [hv];done)|rfl|(intro _ _;rfl)|(rw [hv];rfl)
 . cases h
def FRKnown:List Ar->Option Rs
 | [.c (.d (.lst 12 n0 f0)),.agg [.d (.v (.string x1)),.d (.v (.int .i64 i1))]]=>some ⟨(n0<=1099511627776/\ RowsD n0 f0),.tup [Sv.ar (knS (gD n0 f0) (⟨x1,i1⟩:Ky)),.c (.d (bo (knB (gD n0 f0) (⟨x1,i1⟩:Ky))))],[]⟩
 |_=>none
theorem fcRKnown:FC Tryz.prog 10 FRKnown:=by
 intro xs pre r us h hp;unfold FRKnown at h;split at h
 . rename_i n0 f0 x1 i1
   cases h;have hp0:=hp
   refine FCat.deep (ys:= [.c (.d (.lst 12 n0 (rwD (gD n0 f0)))),.agg [.d (.v (.string x1)),.d (.v (.int .i64 i1))]]) ?_ ?_
   . repeat' (first|exact trivial|exact rfl|exact DvE.refl _|refine ⟨?_, ?_⟩|fail)
     all_goals first|exact canonD hp0.2.h
   refine fcat tys_ok (l:= []) trivial Tryz.func10 rfl (by kernel_rfl) true ?_
   have hn:=hp0.1
   have hL:=okD_rows hp0.2
   have hlen:=gD_length n0 f0
   generalize gD n0 f0=L at*
   clear hp0;subst hlen
   repeat' (first|exact trivial|refine ⟨?_, ?_⟩|intro _)
   all_goals first|(with_reducible apply qq)|(conv=>whnf)
   refine loop_ok tys_ok (l:= []) trivial (by kernel_rfl) (X:=Nat)
    (fun i=>⟨[(6,vx (.int .i64 i)),(0,.va (.c (.d (lstD L)))),(3,.va (.c (.own 0 0))),(4,.va (.c (.own 1 0))),(5,vx (.bool false))],[(1,.cells [.d (bo false),.d (.v (.slice none 0 0)),.d (bo false),.d (it 0),.d (it 0),.d (bo false),.d (it 0),.d (it 0),.d (bo false),.d (.v (.slice none 0 0))]),(0,.cells [.d (st x1),.d (it i1)])],2,26⟩)
    (fun i=>L.length-i) (fun i=>i<=L.length/\ ∀k,k<i->eqK (atD L k).k ⟨x1,i1⟩=false) [] []
    (fun i _ _=>i+1) [0,1] [0,1] 0 0 0 ?_ ?_ ?_
   . exact ⟨Nat.zero_le _,fun k h=>absurd h (Nat.not_lt_zero k)⟩
   . repeat' (first|exact trivial|exact rfl|(intro _ _;exact rfl)|refine ⟨?_, ?_⟩|fail)
   . rintro i ⟨k1,k2⟩
     rcases Nat.lt_or_ge i L.length with hi|hi
     . have hne:decide ((i:Int)<(L.length:Int))=true:=decide_eq_true (by omega)
       have hib:(0:Int)<=(i:Int)/\ (i:Int)<(L.length:Int):=by omega
       cases hq:eqK (atD L i).k ⟨x1,i1⟩ with
       |true=>
        have hv:=knF_some (k:=⟨x1,i1⟩) hi k2 hq
        repeat' (first|exact trivial|(with_reducible first|exact n1|exact n2|exact hib|exact hib.1|exact hib.2|exact nx hne)|refine ⟨?_, ?_⟩|intro _)
        all_goals first|(with_reducible apply qq)|(conv=>whnf)
        all_goals (try simp only [Int.toNat_natCast,Nat.zero_add] at*)
        all_goals first|omega|(rw [hv];done)|exact absurd (hq.symm.trans ‹_=false›) (by decide)|rfl|(intro _ _;rfl)|(unfold knS knB;rw [hv];done)|(unfold knS;rw [hv];rfl)|(unfold knB;rw [hv];rfl)
       |false=>
        have hk: ∀k,k<i+1->eqK (atD L k).k ⟨x1,i1⟩=false:=fun k h=>by
         rcases Nat.lt_or_ge k i with h1|h1
         . exact k2 k h1
         . rw [show k=i by omega];exact hq
        repeat' (first|exact trivial|(with_reducible first|exact n1|exact n2|exact hib|exact hib.1|exact hib.2|exact nx hne)|refine ⟨?_, ?_⟩|intro _)
        all_goals first|(with_reducible apply qq)|(conv=>whnf)
        all_goals (try dsimp only)
        all_goals (try simp only [Int.toNat_natCast,Nat.zero_add] at*)
        all_goals first|omega|exact absurd (hq.symm.trans ‹_=true›) (by decide)|exact hk _ ‹_›|rfl|(exact congrArg (Value.int .i64) (by first|(rw [wI_id _ (by omega) (by omega)];omega)|omega|(dsimp only;omega)))|(intro _ _;rfl)
     . have hne:decide ((i:Int)<(L.length:Int))=false:=decide_eq_false (by omega)
       obtain rfl:i=L.length:=by omega
       have hv:=knF_none (k:=⟨x1,i1⟩) k2
       repeat' (first|exact trivial|(with_reducible first|exact n1|exact n2|exact nx hne)|refine ⟨?_, ?_⟩|intro _)
       all_goals first|(with_reducible apply qq)|(conv=>whnf)
       all_goals first|omega|(rw [hv];done)|rfl|(intro _ _;rfl)|(unfold knS knB;rw [hv];done)|(unfold knS;rw [hv];rfl)|(unfold knB;rw [hv];rfl)
 . cases h
end Go.Proofs.YtokjghkehojenaaGreat
namespace Go.Proofs.YtokjghkehojenaaGreat
open Go.Sx
open Go.RowKit Go.Lib Go.Sort
def arrR (L:List Gl):Nat->List ByteArray
 |0=> []
 |i+1=>if (decide ((atG L i).size≥1)&&(ixG L (atG L i).name==(i:Int)))=true then arrR L i++ [(atG L i).name] else arrR L i
theorem arrR_yes {L:List Gl} {i:Nat} (h1:decide ((atG L i).size≥1)=true) (h2:(ixG L (atG L i).name==(i:Int))=true):arrR L (i+1)=arrR L i++ [(atG L i).name]:=if_pos (by rw [h1,h2];rfl)
theorem arrR_no {L:List Gl} {i:Nat} (h1:decide ((atG L i).size≥1)=false):arrR L (i+1)=arrR L i:=if_neg (by rw [h1];exact Bool.false_ne_true)
theorem arrR_no2 {L:List Gl} {i:Nat} (h2:(ixG L (atG L i).name==(i:Int))=false):arrR L (i+1)=arrR L i:=if_neg (by rw [h2,Bool.and_false];exact Bool.false_ne_true)
theorem arrR_len (L:List Gl): ∀i,(arrR L i).length<=i
 |0=>Nat.le_refl 0
 |i+1=>by
  have:=arrR_len L i
  unfold arrR;split
  . rw [List.length_append];simp;omega
  . omega
def rlast (x:Gl):Int:=if decide (x.size>1)=true then x.size-1 else 0
def rplF (v:Vl) (k:Int):Vl:=⟨⟨v.rclean.i.s.meet (Sp.of 0 k),v.rclean.i.c⟩,v.rclean.t⟩
def rplS (L:List Gl) (s:ByteArray) (v:Vl):Bool:=if decide (ixG L s<0)=true then false else (Vl.rreduce (rplF v (rlast (atG L (ixG L s).toNat)))).i.s.some
theorem rlast_r {x:Gl} (h:x.ok):rI (rlast x):=by
 have h1:=h.1
 unfold rlast rI at*
 split
 . rename_i h2;have:=of_decide_eq_true h2;omega
 . omega
theorem okV_rplF {v:Vl} (h:okV v) {k:Int} (hk:rI k):okV (rplF v k):=by
 have h1:=okV_rclean h
 exact ⟨h1.1,Sp.meet_inR h1.2.1 (Sp.of_inR ⟨by decide,by decide⟩ hk),h1.2.2⟩
def FRArrays:List Ar->Option Rs
 | [.agg [.d (.lst 4 n0 f0),.d (.lst 5 _ _)]]=>some ⟨(n0<=1099511627776/\ RowsG n0 f0),.va (.c (.d (lst (arrR (gGs n0 f0) n0)))),[]⟩
 |_=>none
theorem fcRArrays:FC Tryz.prog 16 FRArrays:=by
 intro xs pre r us h hp;unfold FRArrays at h;split at h
 . rename_i n0 f0 c0 d0
   cases h;have hp0:=hp
   refine FCat.of_eq (as':= [.agg [.d (.lst 4 n0 (rwG (gGs n0 f0))),.d (.lst 5 c0 d0)]]) ?_ rfl rfl ?_
   . repeat' (first|exact trivial|exact rfl|refine ⟨?_, ?_⟩|fail)
     all_goals first|exact rowG_eq hp0.2|(intro _ _;rfl)|exact hp0.2|exact hp1.2|exact hp2.2|(intro i hi;exact (hp0.2 i hi).1)|(intro i hi;exact (hp1.2 i hi).1)|(intro i hi;exact (hp2.2 i hi).1)|grind
   refine fcat tys_ok (l:= [(30,⟨[],FRGlobal⟩)]) ⟨fcRGlobal,trivial⟩ Tryz.func16 rfl (by kernel_rfl) true ?_
   have hn:=hp0.1
   have hL:=okG_rows hp0.2
   have hlen:=gGs_length n0 f0
   generalize gGs n0 f0=L at*
   clear hp0;subst hlen;have hrw:=rows_okG hL
   have hal:=fun i=>arrR_len L i
   repeat' (first|exact trivial|refine ⟨?_, ?_⟩|intro _)
   all_goals first|(with_reducible apply qq)|(conv=>whnf)
   refine loop_ids tys_ok (l:= [(30,⟨[],FRGlobal⟩)]) ⟨fcRGlobal,trivial⟩ (by kernel_rfl) (X:=Nat)
    (fun i=>⟨[(4,vx (.int .i64 i)),(1,.va (.c (.own 0 0))),(3,.va (.c (.osl 1 1 0 (arrR L i).length)))],[(0,.cells [.d (lstG L),.d (.lst 5 c0 d0)]),(1,.row 1 (arrR L i).length fun j=> [st (atS (arrR L i) j)])],2,Tryz.f16.ntmps⟩)
    (fun i=>L.length-i) (fun i=>i<=L.length) [3] []
    (fun i _ _=>i+1) (fun xs=>match xs with| [t]=> [0,oQ t]|_=> []) [0] 0 1 0 ?_ ?_ ?_
   . exact Nat.zero_le _
   . repeat' (first|exact trivial|exact rfl|(intro _ _;exact rfl)|refine ⟨?_, ?_⟩|fail)
     all_goals first|(simp;done)
   . rintro i k1
     have hl1:=hal i
     rcases Nat.lt_or_ge i L.length with hi|hi
     . have hne:decide ((i:Int)<(L.length:Int))=true:=decide_eq_true (by omega)
       have hib:(0:Int)<=(i:Int)/\ (i:Int)<(L.length:Int):=by omega
       have hal16:(arrR L i).length*16<=140737488351232:=by omega
       repeat' (first|exact trivial|(with_reducible first|assumption|exact n1|exact n2|exact hib.1|exact hib.2|exact nx hne)|refine ⟨?_, ?_⟩|intro _)
       all_goals first|(with_reducible apply qq)|(conv=>whnf)
       all_goals (try dsimp only)
       all_goals (try simp only [gGs_row,gN_lst,Int.toNat_natCast,Nat.zero_add] at*)
       all_goals first|exact Nat.le_refl _|rfl|omega|((exact congrArg (Value.int .i64) (by first|(rw [wI_id _ (by omega) (by omega)];omega)|omega|(dsimp only;omega))))|(rw [arrR_yes (by assumption) (by assumption),List.length_append];rfl)|(rw [arrR_yes (by assumption) (by assumption)];exact row_snocT rfl _ (by assumption))|rw [arrR_no (by assumption)]|rw [arrR_no2 (by assumption)]
     . have hne:decide ((i:Int)<(L.length:Int))=false:=decide_eq_false (by omega)
       obtain rfl:i=L.length:=by omega
       repeat' (first|exact trivial|(with_reducible first|exact n1|exact n2|exact nx hne)|refine ⟨?_, ?_⟩|intro _)
       all_goals first|(with_reducible apply qq)|(conv=>whnf)
       all_goals first|omega|rfl|(simp only [Nat.zero_add];done)
 . cases h
def FRSMeet:List Ar->Option Rs
 | [.agg [.d (.v (.bool s0)),.d (.v (.int .i64 l0)),.d (.v (.int .i64 h0))],.agg [.d (.v (.bool s1)),.d (.v (.int .i64 l1)),.d (.v (.int .i64 h1))]]=>some ⟨(Sp.inR ⟨s0,l0,h0⟩)/\ (Sp.inR ⟨s1,l1,h1⟩),.va (Sp.ar (Sp.meet (⟨s0,l0,h0⟩:Sp) (⟨s1,l1,h1⟩:Sp))),[]⟩
 |_=>none
theorem fcRSMeet:FC Tryz.prog 37 FRSMeet:=by
 intro xs pre r us h hp;unfold FRSMeet at h;split at h
 . rename_i s0 l0 h0 s1 l1 h1
   cases h;obtain ⟨hp0,hp1⟩:=hp
   refine fcat tys_ok (l:= [(70,⟨[],FRSNone0⟩),(38,⟨[],FSMake⟩)]) ⟨fcRSNone0,fcSMake,trivial⟩ Tryz.func37 rfl (by kernel_rfl) false ?_
   repeat' (first|exact trivial|refine ⟨?_, ?_⟩|intro _)
   all_goals first|(with_reducible apply qq)|(conv=>whnf)
   all_goals grind [Sp.meet,Sp.none,Sp.of,Sp.inR]
 . cases h
def FRPlaces:List Ar->Option Rs
 | [.agg [.d (.lst 4 n0 f0),.d (.lst 5 _ _)],.c (.d (.v (.string x1))),.agg [.d (.v (.bool s2)),.d (.v (.int .i64 l2)),.d (.v (.int .i64 h2)),.d (.v (.bool b2)),.d (.v (.int .i64 m2)),.d (.v (.int .i64 r2)),.d (.v (.bool z2)),.d (.lst 1 n2 f2)]]=>some ⟨(n0<=1099511627776/\ RowsG n0 f0)/\ ((n2*16<=140737488351232/\ ∀i,i<n2->f2 i= [st (gT (f2 i))])/\ Sp.inR ⟨s2,l2,h2⟩/\ Cg.inR ⟨b2,m2,r2⟩),.va (.c (.d (bo (rplS (gGs n0 f0) x1 (⟨⟨⟨s2,l2,h2⟩,⟨b2,m2,r2⟩⟩,⟨z2,gN n2 f2⟩⟩:Vl))))),[]⟩
 |_=>none
theorem fcRPlaces:FC Tryz.prog 18 FRPlaces:=by
 intro xs pre r us h hp;unfold FRPlaces at h;split at h
 . rename_i n0 f0 c0 d0 x1 s2 l2 h2 b2 m2 r2 z2 n2 f2
   cases h;obtain ⟨hp0,hp1⟩:=hp
   refine FCat.of_eq (as':= [.agg [.d (.lst 4 n0 (rwG (gGs n0 f0))),.d (.lst 5 c0 d0)],.c (.d (.v (.string x1))),.agg [.d (.v (.bool s2)),.d (.v (.int .i64 l2)),.d (.v (.int .i64 h2)),.d (.v (.bool b2)),.d (.v (.int .i64 m2)),.d (.v (.int .i64 r2)),.d (.v (.bool z2)),.d (.lst 1 n2 fun i=> [st (gT (f2 i))])]]) ?_ rfl rfl ?_
   . repeat' (first|exact trivial|exact rfl|refine ⟨?_, ?_⟩|fail)
     all_goals first|exact rowG_eq hp0.2|exact hp1.1.2|(intro _ _;rfl)|exact hp0.2|exact hp1.2|exact hp2.2|(intro i hi;exact (hp0.2 i hi).1)|(intro i hi;exact (hp1.2 i hi).1)|(intro i hi;exact (hp2.2 i hi).1)|grind
   refine fcat tys_ok (l:= [(30,⟨[],FRGlobal⟩),(36,⟨[],FRVClean⟩),(38,⟨[],FSMake⟩),(37,⟨[],FRSMeet⟩),(39,⟨[],FRVReduce⟩)]) ⟨fcRGlobal,fcRVClean,fcSMake,fcRSMeet,fcRVReduce,trivial⟩ Tryz.func18 rfl (by kernel_rfl) true ?_
   have hn:=hp0.1
   have hL:=okG_rows hp0.2
   have hlen:=gGs_length n0 f0
   generalize gGs n0 f0=L at*
   clear hp0;subst hlen;have hrw:=rows_okG hL
   have hv:okV ⟨⟨⟨s2,l2,h2⟩,⟨b2,m2,r2⟩⟩,⟨z2,gN n2 f2⟩⟩:=⟨⟨(by rw [gN_length];exact hp1.1.1),fun _ _=>rfl⟩,hp1.2⟩
   have hgr:=gGs_row L
   have hixl:=ixG_lt L x1
   have hixg:ixG (gGs L.length (rwG L)) x1<L.length:=by rw [hgr];exact hixl.2
   have hc:(decide (ixG (gGs L.length (rwG L)) x1<0)=true/\ rplS L x1 ⟨⟨⟨s2,l2,h2⟩,⟨b2,m2,r2⟩⟩,⟨z2,gN n2 f2⟩⟩=false) \/(0<=ixG (gGs L.length (rwG L)) x1/\ decide (ixG (gGs L.length (rwG L)) x1<0)=false/\ (atG L (ixG (gGs L.length (rwG L)) x1).toNat).ok/\ rplS L x1 ⟨⟨⟨s2,l2,h2⟩,⟨b2,m2,r2⟩⟩,⟨z2,gN n2 f2⟩⟩=(Vl.rreduce (rplF ⟨⟨⟨s2,l2,h2⟩,⟨b2,m2,r2⟩⟩,⟨z2,gN n2 f2⟩⟩ (rlast (atG L (ixG (gGs L.length (rwG L)) x1).toNat)))).i.s.some):=by
    rw [hgr];cases h:decide (ixG L x1<0) with
    |true=>exact .inl ⟨rfl,if_pos h⟩
    |false=>have h1:=of_decide_eq_false h;exact .inr ⟨by omega,rfl,hL _ (by omega),if_neg (by rw [h];decide)⟩
   rcases hc with ⟨h0,e⟩|⟨hp,h0,ho,e⟩
   . rw [e]
     repeat' (first|exact trivial|(with_reducible first|assumption|exact n1|exact n2|exact nx h0|exact (nx (congrArg Bool.not h0)))|refine ⟨?_, ?_⟩|intro _)
     all_goals first|(with_reducible apply qq)|(conv=>whnf)
     all_goals first|omega|rfl
   obtain ⟨X,hX⟩: ∃X,X=atG L (ixG (gGs L.length (rwG L)) x1).toNat:=⟨_,rfl⟩
   rw [<-hX] at ho e;rw [e];have hl:=rlast_r ho
   have hr:=okV_rclean hv
   have hm:=okV_rplF hv hl
   have hs:=Sp.of_inR (l:=0) ⟨by decide,by decide⟩ hl
   have hs2:=Sp.meet_inR hr.2.1 hs
   have hq:(decide (X.size>1)=true/\ IntKind.wrap .i64 (X.size-1)=rlast X) \/(decide (X.size>1)=false/\ rlast X=0):=by
    have h1:=ho.1
    unfold rI at h1;unfold rlast;cases h:decide (X.size>1) with
    |true=>have h2:=of_decide_eq_true h;rw [if_pos rfl,wI_id _ (by omega) (by omega)];exact .inl ⟨rfl,rfl⟩
    |false=>exact .inr ⟨rfl,rfl⟩
   unfold rplF at*
   unfold rI at hl;subst hX;rcases hq with ⟨h1,hw⟩|⟨h1,hw⟩
   rotate_left
   . rw [hw] at hl hm hs hs2⊢;try clear hw
     have hw:=gGs_row L
     repeat' (first|exact trivial|(with_reducible first|assumption|exact n1|exact n2|exact nx h0|exact nx h1|exact (nx (congrArg Bool.not h0))|exact (nx (congrArg Bool.not h1)))|refine ⟨?_, ?_⟩|intro _)
     all_goals first|(with_reducible apply qq)|(conv=>whnf)
     all_goals (try simp only [hw,gN_lst,gN_canon])
     all_goals first|exact hv.1.1|exact hv.2.1.1.1|exact hv.2.1.1.2|exact hv.2.1.2.1|exact hv.2.1.2.2|exact hv.2.2.1.1|exact hv.2.2.1.2|exact hv.2.2.2.1|exact hv.2.2.2.2|exact hr.1.1|exact hr.2.1.1.1|exact hr.2.1.1.2|exact hr.2.1.2.1|exact hr.2.1.2.2|exact hr.2.2.1.1|exact hr.2.2.1.2|exact hr.2.2.2.1|exact hr.2.2.2.2|exact hm.1.1|exact hm.2.1.1.1|exact hm.2.1.1.2|exact hm.2.1.2.1|exact hm.2.1.2.2|exact hm.2.2.1.1|exact hm.2.2.1.2|exact hm.2.2.2.1|exact hm.2.2.2.2|exact hs.1.1|exact hs.1.2|exact hs.2.1|exact hs.2.2|exact hs2.1.1|exact hs2.1.2|exact hs2.2.1|exact hs2.2.2|omega|rfl|(rw [hgr];omega)
   all_goals repeat' (first|exact trivial|(with_reducible first|assumption|exact n1|exact n2|exact nx h0|exact nx h1|exact (nx (congrArg Bool.not h0))|exact (nx (congrArg Bool.not h1)))|refine ⟨?_, ?_⟩|intro _)
   all_goals first|(with_reducible apply qq)|(conv=>whnf)
   all_goals (try simp only [hw,gN_lst,gN_canon])
   all_goals first|exact hv.1.1|exact hv.2.1.1.1|exact hv.2.1.1.2|exact hv.2.1.2.1|exact hv.2.1.2.2|exact hv.2.2.1.1|exact hv.2.2.1.2|exact hv.2.2.2.1|exact hv.2.2.2.2|exact hr.1.1|exact hr.2.1.1.1|exact hr.2.1.1.2|exact hr.2.1.2.1|exact hr.2.1.2.2|exact hr.2.2.1.1|exact hr.2.2.1.2|exact hr.2.2.2.1|exact hr.2.2.2.2|exact hm.1.1|exact hm.2.1.1.1|exact hm.2.1.1.2|exact hm.2.1.2.1|exact hm.2.1.2.2|exact hm.2.2.1.1|exact hm.2.2.1.2|exact hm.2.2.2.1|exact hm.2.2.2.2|exact hs.1.1|exact hs.1.2|exact hs.2.1|exact hs.2.2|exact hs2.1.1|exact hs2.1.2|exact hs2.2.1|exact hs2.2.2|omega|rfl|(rw [hgr];omega)
 . cases h
end Go.Proofs.YtokjghkehojenaaGreat
namespace Go.Proofs.YtokjghkehojenaaGreat
open Go.Sx
open Go.RowKit Go.Lib Go.Sort
namespace En
def names (e:En):List ByteArray:=if e.live=true then cleanS (e.binds.map (·.name)) else []
def rget (e:En) (s:ByteArray):Vl:=if e.live=true then ((e.binds.find? fun b=>decide (b.name=s)).map fun b=>b.v.rclean).getD Vl.zero else Vl.zero
end En
def nmP (L:List Bd) (i:Nat):List ByteArray:=((seg (atB L) 0 i).map (·.name)).foldl putS []
theorem nmP_all (L:List Bd):nmP L L.length=cleanS (L.map (·.name)):=by unfold nmP cleanS;rw [seg_atB]
theorem nmP_succ (L:List Bd) (i:Nat):nmP L (i+1)=putS (nmP L i) (atB L i).name:=by
 unfold nmP;rw [seg_snoc _ (Nat.zero_le i),List.map_append,List.foldl_append];rfl
theorem nmP_len (L:List Bd) (i:Nat):(nmP L i).length<=i:=by
 induction i with
 |zero=>exact Nat.le_refl _
 |succ i ih=>rw [nmP_succ];have:=putS_len (nmP L i) (atB L i).name;omega
def FRNames:List Ar->Option Rs
 | [.agg [.d (.v (.bool e0)),.d (.lst 9 n0 f0)]]=>some ⟨(n0<=1099511627776/\ RowsOk n0 f0),.va (.c (.d (lst (En.names (⟨e0,gBs n0 f0⟩:En))))),[]⟩
 |_=>none
theorem fcRNames:FC Tryz.prog 92 FRNames:=by
 intro xs pre r us h hp;unfold FRNames at h;split at h
 . rename_i e0 n0 f0
   cases h;have hp0:=hp
   refine FCat.deep (ys:= [.agg [.d (.v (.bool e0)),.d (.lst 9 n0 (rwB (gBs n0 f0)))]]) ?_ ?_
   . repeat' (first|exact trivial|exact rfl|exact DvE.refl _|refine ⟨?_, ?_⟩|fail)
     all_goals first|exact canonB hp0.2.h
   refine fcat tys_ok (l:= [(103,⟨[],FRPut⟩)]) ⟨fcRPut,trivial⟩ Tryz.func92 rfl (by kernel_rfl) true ?_
   have hn:=hp0.1
   have hL:=okL_rows hp0.2
   have hlen:=gBs_length n0 f0
   generalize gBs n0 f0=L at*
   clear hp0;subst hlen;have hrow:=okL_row hL
   have hb:=gBs_row L
   repeat' (first|exact trivial|refine ⟨?_, ?_⟩|intro _)
   all_goals first|(with_reducible apply qq)|(conv=>whnf)
   refine loop_ids tys_ok (l:= [(103,⟨[],FRPut⟩)]) ⟨fcRPut,trivial⟩ (by kernel_rfl) (X:=Nat×List ByteArray)
    (fun x=>⟨[(4,vx (.int .i64 x.1)),(3,.va (.c (.d (lst x.2)))),(1,.va (.c (.own 0 0)))],[(0,.cells [.d (bo e0),.d (.lst 9 L.length (rwB L))])],1,25⟩)
    (fun x=>L.length-x.1) (fun x=>x.1<=L.length/\ x.2=nmP L x.1/\ (e0=false->x.1=0)) [] []
    (fun x _ _=>(x.1+1,putS x.2 (atB L x.1).name)) (fun _=> [0]) [0] 0 0 (0,[]) ?_ ?_ ?_
   . exact ⟨Nat.zero_le _,rfl,fun _=>rfl⟩
   . repeat' (first|exact trivial|exact rfl|(intro _ h;exact absurd h (Nat.not_lt_zero _))|(intro _ _;exact rfl)|refine ⟨?_, ?_⟩|fail)
   . rintro ⟨i,l⟩ ⟨k1,k2,k4⟩
     dsimp only at k1 k2 k4
     have k3:=nmP_len L i
     rw [<-k2] at k3;have k5:=nmP_succ L i
     rw [<-k2] at k5;cases e0 with
     |false=>
      obtain rfl:=k4 rfl
      have hem:En.names ⟨false,L⟩= []:=rfl
      have hl0:l= []:=k2
      subst hl0
      repeat' (first|exact trivial|refine ⟨?_, ?_⟩|intro _)
      all_goals first|(with_reducible apply qq)|(conv=>whnf)
      all_goals first|(exact absurd ‹false=true› (by decide))|skip
      all_goals (try rw [hem])
      all_goals first|rfl|(rename_i k hk;exact absurd hk (Nat.not_lt_zero _))
     |true=>
      have hem:En.names ⟨true,L⟩=nmP L L.length:=(nmP_all L).symm
      rcases Nat.lt_or_ge i L.length with hi|hi
      . have hne:decide ((i:Int)<(L.length:Int))=true:=decide_eq_true (by omega)
        repeat' (first|exact trivial|refine ⟨?_, ?_⟩|intro _)
        all_goals first|(with_reducible apply qq)|(conv=>whnf)
        all_goals first|(exact absurd (hne.symm.trans ‹_=false›) (by decide))|(exact absurd ‹true=false› (by decide))|skip
        all_goals (try simp only [Int.toNat_natCast,Nat.zero_add,gN_lst] at*)
        all_goals first|omega|rfl|((with_reducible show idsOk _ _=true);rfl)|exact k5.symm|(exact congrArg (Value.int .i64) (by first|(rw [wI_id _ (by omega) (by omega)];omega)|omega|(dsimp only;omega)))|(exact absurd ‹true=false› (by decide))
      . have hne:decide ((i:Int)<(L.length:Int))=false:=decide_eq_false (by omega)
        obtain rfl:i=L.length:=by omega
        rw [<-k2] at hem
        repeat' (first|exact trivial|refine ⟨?_, ?_⟩|intro _)
        all_goals first|(with_reducible apply qq)|(conv=>whnf)
        all_goals first|(exact absurd (hne.symm.trans ‹_=true›) (by decide))|skip
        all_goals (try rw [hem])
        all_goals first|rfl
 . cases h
theorem rget_hit {L:List Bd} {s:ByteArray} {i:Nat} (hi:i<L.length) (h1: ∀k,k<i->(atB L k).name≠s) (h2:(atB L i).name=s):En.rget ⟨true,L⟩ s=(atB L i).v.rclean:=by
 have hA: ∀k (h:k<L.length),atB L k=L[k]:=fun k h=>by unfold atB;rw [List.getD_eq_getElem?_getD,List.getElem?_eq_getElem h];rfl
 have:L.find? (fun b=>decide (b.name=s))=some (atB L i):=by
  rw [List.find?_eq_some_iff_getElem];refine ⟨decide_eq_true h2,i,hi,(hA i hi).symm,fun j hj=> ?_⟩
  rw [<-hA j (by omega)]
  simpa using h1 j hj
 unfold En.rget;rw [if_pos rfl];show Option.getD (Option.map _ (List.find? _ L)) _=_
 rw [this];rfl
theorem rget_miss {L:List Bd} {s:ByteArray} (h1: ∀k,k<L.length->(atB L k).name≠s):En.rget ⟨true,L⟩ s=Vl.zero:=by
 have:L.find? (fun b=>decide (b.name=s))=none:=by
  rw [List.find?_eq_none];intro x hx;obtain ⟨k,hk,rfl⟩:=mem_atB hx
  simpa using h1 k hk
 unfold En.rget;rw [if_pos rfl];show Option.getD (Option.map _ (List.find? _ L)) _=_
 rw [this];rfl
def FRGet:List Ar->Option Rs
 | [.agg [.d (.v (.bool e0)),.d (.lst 9 n0 f0)],.c (.d (.v (.string x1)))]=>some ⟨(n0<=1099511627776/\ RowsOk n0 f0),.va (Vl.ar (En.rget (⟨e0,gBs n0 f0⟩:En) x1)),[]⟩
 |_=>none
theorem fcRGet:FC Tryz.prog 54 FRGet:=by
 intro xs pre r us h hp;unfold FRGet at h;split at h
 . rename_i e0 n0 f0 x1
   cases h;have hp0:=hp
   refine FCat.deep (ys:= [.agg [.d (.v (.bool e0)),.d (.lst 9 n0 (rwB (gBs n0 f0)))],.c (.d (.v (.string x1)))]) ?_ ?_
   . repeat' (first|exact trivial|exact rfl|exact DvE.refl _|refine ⟨?_, ?_⟩|fail)
     all_goals first|exact canonB hp0.2.h
   refine fcat tys_ok (l:= [(36,⟨[],FRVClean⟩)]) ⟨fcRVClean,trivial⟩ Tryz.func54 rfl (by kernel_rfl) true ?_
   have hn:=hp0.1
   have hL:=okL_rows hp0.2
   have hlen:=gBs_length n0 f0
   generalize gBs n0 f0=L at*
   clear hp0;subst hlen;have hrow:=okL_row hL
   have hb:=gBs_row L
   repeat' (first|exact trivial|refine ⟨?_, ?_⟩|intro _)
   all_goals first|(with_reducible apply qq)|(conv=>whnf)
   refine loop_ids tys_ok (l:= [(36,⟨[],FRVClean⟩)]) ⟨fcRVClean,trivial⟩ (by kernel_rfl) (X:=Nat)
    (fun x=>⟨[(5,vx (.int .i64 x)),(1,vx (.string x1)),(2,.va (.c (.own 0 0))),(4,.va (.c (.own 1 0)))],[(0,.cells [.d (bo e0),.d (.lst 9 L.length (rwB L))]),(1,.cells [.d (bo false),.d (it 0),.d (it 0),.d (bo false),.d (it 0),.d (it 0),.d (bo false),.d (.v (.slice none 0 0))])],2,33⟩)
    (fun x=>L.length-x) (fun x=>x<=L.length/\ ∀k,k<x->(atB L k).name≠x1) [] []
    (fun x _ _=>x+1) (fun _=> [0,1]) [0,1] 0 0 0 ?_ ?_ ?_
   . exact ⟨Nat.zero_le _,fun k h=>absurd h (Nat.not_lt_zero k)⟩
   . repeat' (first|exact trivial|exact rfl|(intro _ h;exact absurd h (Nat.not_lt_zero _))|(intro _ _;exact rfl)|refine ⟨?_, ?_⟩|fail)
   . rintro i ⟨k1,k2⟩
     cases e0 with
     |false=>
      have hem:En.rget ⟨false,L⟩ x1=Vl.zero:=rfl
      repeat' (first|exact trivial|refine ⟨?_, ?_⟩|intro _)
      all_goals first|(with_reducible apply qq)|(conv=>whnf)
      all_goals first|(exact absurd ‹false=true› (by decide))|skip
      all_goals (try rw [hem])
      all_goals first|rfl|(rename_i k hk;exact absurd hk (Nat.not_lt_zero _))
     |true=>
      rcases Nat.lt_or_ge i L.length with hi|hi
      . have hne:decide ((i:Int)<(L.length:Int))=true:=decide_eq_true (by omega)
        have ho1:=okL_at hL hi
        repeat' (first|exact trivial|refine ⟨?_, ?_⟩|intro _)
        all_goals first|(with_reducible apply qq)|(conv=>whnf)
        all_goals first|(exact absurd (hne.symm.trans ‹_=false›) (by decide))|(exact absurd ‹true=false› (by decide))|skip
        all_goals (try simp only [Int.toNat_natCast,Nat.zero_add,gN_lst,seq_iff,decide_eq_true_eq,decide_eq_false_iff_not] at*)
        all_goals first|(have hh:=‹(atB L i).name=x1›;have hem:=rget_hit hi k2 hh;rw [hem];rfl)|skip
        all_goals first|omega|rfl|((with_reducible show idsOk _ _=true);rfl)|(exact congrArg (Value.int .i64) (by first|(rw [wI_id _ (by omega) (by omega)];omega)|omega|(dsimp only;omega)))|(exact ho1.1.1)|(have hq:=ho1.2;simp only [Sp.inR,Cg.inR] at hq;omega)|(rename_i k hk he _ _ hno;rcases Nat.lt_or_ge k i with hki|hki;exact k2 k hki he;exact hno (by rw [show i=k by omega];exact he))
      . have hne:decide ((i:Int)<(L.length:Int))=false:=decide_eq_false (by omega)
        obtain rfl:i=L.length:=by omega
        have hem:=rget_miss k2
        repeat' (first|exact trivial|refine ⟨?_, ?_⟩|intro _)
        all_goals first|(with_reducible apply qq)|(conv=>whnf)
        all_goals first|(exact absurd (hne.symm.trans ‹_=true›) (by decide))|skip
        all_goals (try rw [hem])
        all_goals first|rfl|(rename_i k hk;exact absurd hk (Nat.not_lt_zero _))
 . cases h
def rbnd (e:En) (s:ByteArray):Bool:=e.live&&memS s e.names
theorem names_len (e:En):e.names.length<=e.binds.length:=by
 unfold En.names;split
 . have h:=nmP_len e.binds e.binds.length
   rw [nmP_all] at h;exact h
 . exact Nat.zero_le _
def FRBound:List Ar->Option Rs
 | [.agg [.d (.v (.bool e0)),.d (.lst 9 n0 f0)],.c (.d (.v (.string x1)))]=>some ⟨(n0<=1099511627776/\ RowsOk n0 f0),.va (.c (.d (bo (rbnd (⟨e0,gBs n0 f0⟩:En) x1)))),[]⟩
 |_=>none
theorem fcRBound:FC Tryz.prog 53 FRBound:=by
 intro xs pre r us h hp;unfold FRBound at h;split at h
 . rename_i e0 n0 f0 x1
   cases h;have hp0:=hp
   refine FCat.deep (ys:= [.agg [.d (.v (.bool e0)),.d (.lst 9 n0 (rwB (gBs n0 f0)))],.c (.d (.v (.string x1)))]) ?_ ?_
   . repeat' (first|exact trivial|exact rfl|exact DvE.refl _|refine ⟨?_, ?_⟩|fail)
     all_goals first|exact canonB hp0.2.h
   refine fcat tys_ok (l:= [(92,⟨[],FRNames⟩),(91,⟨[],FRIn⟩)]) ⟨fcRNames,fcRIn,trivial⟩ Tryz.func53 rfl (by kernel_rfl) true ?_
   have hn:=hp0.1
   have hL:=okL_rows hp0.2
   have hlen:=gBs_length n0 f0
   generalize gBs n0 f0=L at*
   clear hp0;subst hlen;have hrow:=okL_row hL
   have hb:=gBs_row L
   have hrow:=okL_row hL
   have hnl:=names_len ⟨e0,L⟩
   have hbr:=gBs_row L
   unfold rbnd;cases e0
   all_goals repeat' (first|exact trivial|(with_reducible first|assumption|exact n1|exact n2)|refine ⟨?_, ?_⟩|intro _)
   all_goals first|(with_reducible apply qq)|(conv=>whnf)
   all_goals (try simp only [hbr,gN_lst,gN_canon])
   all_goals first|rfl|exact hrow|omega|(dsimp only at hnl;omega)
 . cases h
end Go.Proofs.YtokjghkehojenaaGreat
namespace Go.Proofs.YtokjghkehojenaaGreat
open Go.Sx
theorem ltB_iff {a b:Bd}:ltB a b=true↔kS a.name<kS b.name:=by
 unfold ltB;rw [decide_eq_true_eq];exact cfL_lt _ _
theorem ltB_iff' {a b:Bd}:ltB a b=false↔ ¬kS a.name<kS b.name:=by
 rw [<-ltB_iff];cases ltB a b<;>simp
def SS (D:List Bd):Prop:=D.Pairwise fun a b=>kS a.name<kS b.name
def lk:List Bd->ByteArray->Option Vl
 | [],_=>none
 |x::r,s=>if x.name=s then some x.v else lk r s
theorem lk_nil (s:ByteArray):lk [] s=none:=rfl
theorem lk_cons (x:Bd) (r:List Bd) (s:ByteArray):lk (x::r) s=if x.name=s then some x.v else lk r s:=rfl
theorem lk_none {D:List Bd} {s:ByteArray} (h: ∀b∈D,b.name≠s):lk D s=none:=by
 induction D with
 |nil=>rfl
 |cons x r ih=>rw [lk_cons,if_neg (h x List.mem_cons_self)];exact ih fun b hb=>h b (List.mem_cons_of_mem _ hb)
theorem lk_append (l m:List Bd) (s:ByteArray):lk (l++m) s=(lk l s).or (lk m s):=by
 induction l with
 |nil=>simp [lk]
 |cons x r ih=>
  rw [List.cons_append,lk_cons,lk_cons,ih];split<;>simp
theorem lk_isSome {D:List Bd} {s:ByteArray}:(lk D s).isSome=true↔s∈D.map (·.name):=by
 induction D with
 |nil=>simp [lk]
 |cons x r ih=>
  rw [lk_cons,List.map_cons,List.mem_cons];split
  . rename_i h;simp [h]
  . rename_i h
    rw [ih];constructor
    . exact .inr
    . rintro (rfl|h2)
      . exact absurd rfl h
      . exact h2
theorem ss_head {x:Bd} {r:List Bd} (h:SS (x::r)) {s:ByteArray} (hs: ¬kS x.name<kS s):lk r s=none:=by
 refine lk_none fun b hb e=>hs ?_
 have:=(List.pairwise_cons.1 h).1 b hb
 rw [e] at this;exact this
def mapV (f:Vl->Vl) (D:List Bd):List Bd:=D.map fun b=>⟨b.name,f b.v⟩
theorem lk_mapV (f:Vl->Vl) (D:List Bd) (s:ByteArray):lk (mapV f D) s=(lk D s).map f:=by
 induction D with
 |nil=>rfl
 |cons x r ih=>
  show lk (⟨x.name,f x.v⟩::mapV f r) s=_
  rw [lk_cons,lk_cons,ih];split<;>rfl
theorem ss_mapV {f:Vl->Vl} {D:List Bd} (h:SS D):SS (mapV f D):=by
 unfold SS mapV;rw [List.pairwise_map];exact h
theorem lk_mg {S:List Bd} (h:Std ltB S) (x:Bd) (s:ByteArray):lk (mg ltB S [x]) s=(lk S s).or (lk [x] s):=by
 induction S with
 |nil=>rw [mg_nil];simp [lk]
 |cons y r ih=>
  have h1:=List.pairwise_cons.1 h
  rw [mg_cons];split
  . rename_i hlt
    have hlt:=ltB_iff.1 hlt
    rw [mg_right];by_cases e:x.name=s
    . subst e;have hn:lk (y::r) x.name=none:=by
       refine lk_none fun b hb e=> ?_
       rcases List.mem_cons.1 hb with rfl|hb
       . rw [e] at hlt;exact List.lt_irrefl _ hlt
       . have:=ltB_iff'.1 (h1.1 b hb)
         rw [e] at this;exact this hlt
      rw [hn,lk_cons,if_pos rfl,lk_cons,if_pos rfl];rfl
    . rw [lk_cons,if_neg e,lk_cons x,if_neg e,lk_nil];simp
  . rw [lk_cons,lk_cons,ih h1.2];split<;>simp
theorem lk_srt (L:List Bd) (s:ByteArray):lk (srt ltB L) s=lk L s:=by
 induction L using snocRec with
 |h0=>rfl
 |h1 l x ih=>rw [srt_snoc,lk_mg (srt_srt wkB l),ih,lk_append]
theorem ddA_congr {p q:Bd} (h:p.name=q.name) (r:List Bd):ddA p r=ddA q r:=by
 cases r with
 |nil=>rfl
 |cons y r=>rw [ddA,ddA,h]
theorem lk_ddA (r:List Bd) (p:Bd) (s:ByteArray):lk (p::ddA p r) s=lk (p::r) s:=by
 induction r generalizing p with
 |nil=>rfl
 |cons y r ih=>
  rw [ddA];split
  . rename_i h
    rw [ddA_congr h,ih p,lk_cons,lk_cons,lk_cons y];split
    . rfl
    . rename_i h2;rw [if_neg (by rw [h];exact h2)]
  . rw [lk_cons,lk_cons p,ih y]
theorem lk_dd (l:List Bd) (s:ByteArray):lk (dd l) s=lk l s:=by
 cases l with
 |nil=>rfl
 |cons p r=>exact lk_ddA r p s
theorem ss_ddA (r:List Bd) (p:Bd) (h:Std ltB (p::r)):SS (p::ddA p r):=by
 induction r generalizing p with
 |nil=>simp [ddA,SS]
 |cons y r ih=>
  have h1:=List.pairwise_cons.1 h
  have hy:=List.pairwise_cons.1 (ih y h1.2)
  rw [ddA];split
  . rename_i e
    refine List.pairwise_cons.2 ⟨fun x hx=> ?_,hy.2⟩
    have:=hy.1 x hx
    rw [e] at this;exact this
  . rename_i e
    have hpy:kS p.name<kS y.name:=kS_tri (ltB_iff'.1 (h1.1 y List.mem_cons_self)) e
    refine List.pairwise_cons.2 ⟨fun x hx=> ?_,ih y h1.2⟩
    rcases List.mem_cons.1 hx with rfl|hx
    . exact hpy
    . exact List.lt_trans hpy (hy.1 x hx)
theorem ss_dd {l:List Bd} (h:Std ltB l):SS (dd l):=by
 cases l with
 |nil=>exact List.Pairwise.nil
 |cons p r=>exact ss_ddA r p h
namespace En
def hold (e:En) (s:ByteArray):Option Vl:=if e.live=true then lk e.binds s else none
end En
theorem clean_ss (e:En):SS e.clean.binds:=by
 unfold En.clean;split
 . exact ss_mapV (ss_dd (srt_srt wkB _))
 . exact List.Pairwise.nil
theorem clean_lk (e:En) (s:ByteArray):lk e.clean.binds s=(e.hold s).map Vl.of:=by
 unfold En.clean En.hold;split
 . show lk (mapV Vl.of _) s=_
   rw [lk_mapV,lk_dd,lk_srt]
 . rfl
open Go.RowKit Go.Lib Go.Sort
theorem lk_find (L:List Bd) (s:ByteArray):lk L s=(L.find? fun b=>decide (b.name=s)).map (·.v):=by
 induction L with
 |nil=>rfl
 |cons x r ih=>
  rw [lk_cons,List.find?_cons];by_cases h:x.name=s
  . rw [if_pos h,decide_eq_true h];rfl
  . rw [if_neg h,decide_eq_false h];exact ih
theorem rget_lk (e:En) (s:ByteArray):e.rget s=((e.hold s).map Vl.rclean).getD Vl.zero:=by
 unfold En.rget En.hold;split
 . rw [lk_find];cases List.find? (fun b=>decide (b.name=s)) e.binds<;>rfl
 . rfl
theorem mem_names {e:En} {s:ByteArray}:s∈e.names↔(e.hold s).isSome=true:=by
 unfold En.names En.hold;split
 . rw [cleanS_mem,lk_isSome]
 . simp
theorem of_fun:Vl.of=Vl.rclean:=funext of_rclean
theorem low_split {D:List Bd} (h:SS D) (s:ByteArray):(∀b∈D.take (lowN D s),kS b.name<kS s)/\ ∀b∈D.drop (lowN D s), ¬kS b.name<kS s:=by
 induction D with
 |nil=>exact ⟨fun b hb=>by simp at hb,fun b hb=>by simp at hb⟩
 |cons x r ih=>
  have h1:=List.pairwise_cons.1 h
  obtain ⟨i1,i2⟩:=ih h1.2
  cases hc:ltB x ⟨s,Vl.zero⟩ with
  |true=>
   have e:lowN (x::r) s=lowN r s+1:=by unfold lowN;rw [List.countP_cons_of_pos (by exact hc)]
   rw [e,List.take_succ_cons,List.drop_succ_cons];refine ⟨fun b hb=> ?_,i2⟩
   rcases List.mem_cons.1 hb with rfl|hb
   . exact ltB_iff.1 hc
   . exact i1 b hb
  |false=>
   have hx: ¬kS x.name<kS s:=ltB_iff'.1 hc
   have hr: ∀b∈r, ¬kS b.name<kS s:=fun b hb hlt=>hx (List.lt_trans (h1.1 b hb) hlt)
   have e:lowN (x::r) s=0:=by
    unfold lowN;rw [List.countP_eq_zero];intro b hb;rcases List.mem_cons.1 hb with rfl|hb
    . rw [hc];exact Bool.false_ne_true
    . have:=(ltB_iff' (a:=b) (b:=⟨s,Vl.zero⟩)).2 (hr b hb)
      rw [this];exact Bool.false_ne_true
   rw [e];refine ⟨fun b hb=>by simp at hb,fun b hb=> ?_⟩
   rcases List.mem_cons.1 hb with rfl|hb
   . exact hx
   . exact hr b hb
theorem found_iff {D:List Bd} {s:ByteArray}:foundN D s=true↔lowN D s<D.length/\ (atB D (lowN D s)).name=s:=by
 unfold foundN;rw [Bool.and_eq_true,decide_eq_true_eq,beq_iff_eq,cfL_eq];constructor
 . rintro ⟨h1,h2⟩;exact ⟨h1,kS_inj h2⟩
 . rintro ⟨h1,h2⟩;exact ⟨h1,by rw [h2]⟩
theorem split_at {D:List Bd} {i:Nat} (h:i<D.length):D=D.take i++atB D i::D.drop (i+1):=by
 have hd:D.drop i=atB D i::D.drop (i+1):=by
  rw [List.drop_eq_getElem_cons h]
  congr 1
  unfold atB;rw [List.getD_eq_getElem?_getD,List.getElem?_eq_getElem h];rfl
 rw [<-hd,List.take_append_drop]
theorem lk_take {D:List Bd} (h:SS D) (s:ByteArray):lk (D.take (lowN D s)) s=none:=
 lk_none fun b hb e=>by have:=(low_split h s).1 b hb;rw [e] at this;exact List.lt_irrefl _ this
theorem lk_found {D:List Bd} (h:SS D) (s:ByteArray):lk D s=if foundN D s=true then some (atB D (lowN D s)).v else none:=by
 conv=>lhs;rw [<-List.take_append_drop (lowN D s) D,lk_append,lk_take h]
 rw [Option.none_or];split
 . rename_i hf
   obtain ⟨h1,h2⟩:=found_iff.1 hf
   have e:=split_at h1
   have hd:D.drop (lowN D s)=atB D (lowN D s)::D.drop (lowN D s+1):=by
    have:=congrArg (List.drop (lowN D s)) e
    rw [List.drop_append_of_le_length (by rw [List.length_take];omega)] at this;rw [this,List.drop_eq_nil_of_le (by rw [List.length_take];omega)];rfl
   rw [hd,lk_cons,if_pos h2]
 . rename_i hf
   by_cases h1:lowN D s<D.length
   . have e:=split_at h1
     have hd:D.drop (lowN D s)=atB D (lowN D s)::D.drop (lowN D s+1):=by
      have:=congrArg (List.drop (lowN D s)) e
      rw [List.drop_append_of_le_length (by rw [List.length_take];omega)] at this;rw [this,List.drop_eq_nil_of_le (by rw [List.length_take];omega)];rfl
     have hne:(atB D (lowN D s)).name≠s:=fun h2=>hf (found_iff.2 ⟨h1,h2⟩)
     have hgt: ¬kS (atB D (lowN D s)).name<kS s:=(low_split h s).2 _ (by rw [hd];exact List.mem_cons_self)
     have hlt:kS s<kS (atB D (lowN D s)).name:=kS_tri hgt hne
     have hss:SS (D.drop (lowN D s)):=List.Pairwise.sublist (List.drop_sublist _ _) h
     rw [hd] at hss⊢;rw [lk_cons,if_neg hne,ss_head hss (List.lt_asymm hlt)]
   . rw [List.drop_eq_nil_of_le (by omega)];rfl
theorem get_lk (e:En) (s:ByteArray):e.get s=((e.hold s).map Vl.of).getD Vl.zero:=by
 unfold En.get;have:=lk_found (clean_ss e) s
 rw [clean_lk] at this;rw [this];split<;>rfl
theorem get_rget (e:En) (s:ByteArray):e.get s=e.rget s:=by rw [get_lk,rget_lk,of_fun]
end Go.Proofs.YtokjghkehojenaaGreat
namespace Go.Proofs.YtokjghkehojenaaGreat
open Go.Sx
open Go.RowKit Go.Lib Go.Sort
def rglS (R:Ro) (x:ByteArray):Vl×List Ky:=((knS R.D ⟨x, -1⟩).v.rclean,[⟨x, -1⟩])
def rnmS (R:Ro) (x:ByteArray):Vl×List Ky:=if rbnd ⟨R.lv,R.B⟩ x=true then (En.rget ⟨R.lv,R.B⟩ x,[]) else if decide (ixG R.G x≥0)=true then rglS R x else (Vl.zero,[])
def untS (D:List Sd):List Ky->Se
 | []=>⟨[],false,⟨⟨#[]⟩,0⟩⟩
 |k::_=>if knB D k=true then ⟨[k],false,⟨⟨#[]⟩,0⟩⟩ else ⟨[],true,k⟩
def rtlS (R:Ro) (v:Vl) (l:List Ky):Vl×Se:=if R.lv=true then (if (untS R.D l).wants=true then Vl.zero else v.rclean,untS R.D l) else (Vl.zero,⟨[],false,⟨⟨#[]⟩,0⟩⟩)
def FRGlobV:List Ar->Option Rs
 | [.agg [.d (.lst 4 n0 f0),.d (.lst 5 c0 d0),.d (.v (.bool e0)),.d (.lst 9 p0 q0),.d (.lst 12 u0 w0)],.c (.d (.v (.string x1)))]=>some ⟨((n0<=1099511627776/\ RowsG n0 f0)/\ (p0<=1099511627776/\ RowsOk p0 q0)/\ (u0<=1099511627776/\ RowsD u0 w0)/\ (∀x,x∈gBs p0 q0->x.v.t.names.length<=1048576)/\ (∀x,x∈gD u0 w0->x.s.v.t.names.length<=1048576)),.tup [.agg [.d (bo ((rglS (⟨gGs n0 f0,c0,d0,e0,gBs p0 q0,gD u0 w0⟩:Ro) x1).1).i.s.some),.d (it ((rglS (⟨gGs n0 f0,c0,d0,e0,gBs p0 q0,gD u0 w0⟩:Ro) x1).1).i.s.lo),.d (it ((rglS (⟨gGs n0 f0,c0,d0,e0,gBs p0 q0,gD u0 w0⟩:Ro) x1).1).i.s.hi),.d (bo ((rglS (⟨gGs n0 f0,c0,d0,e0,gBs p0 q0,gD u0 w0⟩:Ro) x1).1).i.c.some),.d (it ((rglS (⟨gGs n0 f0,c0,d0,e0,gBs p0 q0,gD u0 w0⟩:Ro) x1).1).i.c.m),.d (it ((rglS (⟨gGs n0 f0,c0,d0,e0,gBs p0 q0,gD u0 w0⟩:Ro) x1).1).i.c.r),.d (bo ((rglS (⟨gGs n0 f0,c0,d0,e0,gBs p0 q0,gD u0 w0⟩:Ro) x1).1).t.null),.d (lst ((rglS (⟨gGs n0 f0,c0,d0,e0,gBs p0 q0,gD u0 w0⟩:Ro) x1).1).t.names)],.c (.d (lstK ((rglS (⟨gGs n0 f0,c0,d0,e0,gBs p0 q0,gD u0 w0⟩:Ro) x1).2)))],[]⟩
 |_=>none
theorem fcRGlobV:FC Tryz.prog 55 FRGlobV:=by
 intro xs pre r us h hp;unfold FRGlobV at h;split at h
 . rename_i n0 f0 c0 d0 e0 p0 q0 u0 w0 x1
   cases h;have hp0:=hp
   refine FCat.deep (ys:= [.agg [.d (.lst 4 n0 (rwG (gGs n0 f0))),.d (.lst 5 c0 d0),.d (.v (.bool e0)),.d (.lst 9 p0 (rwB (gBs p0 q0))),.d (.lst 12 u0 (rwD (gD u0 w0)))],.c (.d (.v (.string x1)))]) ?_ ?_
   . repeat' (first|exact trivial|exact rfl|exact DvE.refl _|refine ⟨?_, ?_⟩|fail)
     all_goals first|first|exact canonG hp0.1.2|exact canonB hp0.2.1.2.h|exact canonD hp0.2.2.1.2.h
   refine fcat tys_ok (l:= [(10,⟨[],FRKnown⟩),(36,⟨[],FRVClean⟩)]) ⟨fcRKnown,fcRVClean,trivial⟩ Tryz.func55 rfl (by kernel_rfl) true ?_
   have hR:Ro.ok ⟨gGs n0 f0,c0,d0,e0,gBs p0 q0,gD u0 w0⟩:=⟨okG_rows hp0.1.2,by rw [gGs_length];exact hp0.1.1,okL_rows hp0.2.1.2,by rw [gBs_length];exact hp0.2.1.1,okD_rows hp0.2.2.1.2,by rw [gD_length];exact hp0.2.2.1.1,hp0.2.2.2.1,hp0.2.2.2.2⟩
   have l1:=gGs_length n0 f0
   have l2:=gBs_length p0 q0
   have l3:=gD_length u0 w0
   generalize gGs n0 f0=G_ at*
   generalize gBs p0 q0=B_ at*
   generalize gD u0 w0=D_ at*
   clear hp0;subst l1 l2 l3;have hD:=okD_row hR.d
   have hdn:=hR.dn
   have hB:=okL_row hR.b
   have hbn:=hR.bn
   have hG:=rows_okG hR.g
   have hgn:=hR.gn
   have hgg:=gGs_row G_
   have hbb:=gBs_row B_
   have hdd:=gD_row D_
   have hk:=knS_ok hR.d ⟨x1, -1⟩
   have hk2:=okV_rclean hk
   repeat' (first|exact trivial|(with_reducible first|assumption|exact n1|exact n2)|refine ⟨?_, ?_⟩|intro _)
   all_goals first|(with_reducible apply qq)|(conv=>whnf)
   all_goals first|((with_reducible show ASat _ _ _ _ _);refine draw_plan tys_ok (l:= [(10,⟨[],FRKnown⟩),(36,⟨[],FRVClean⟩)]) ⟨fcRKnown,fcRVClean,trivial⟩ (by kernel_rfl) (.all [(0,.all [(1,.all [(2,.all [(3,.all [(4,.all [(5,.take 6 (.done))]),(5,.all [(4,.take 6 (.done))])]),(5,.all [(3,.all [(4,.take 6 (.done))])])]),(3,.all [(2,.all [(4,.all [(5,.take 6 (.done))]),(5,.all [(4,.take 6 (.done))])]),(4,.all [(2,.all [(5,.take 6 (.done))])])])]),(3,.all [(1,.all [(2,.all [(4,.all [(5,.take 6 (.done))]),(5,.all [(4,.take 6 (.done))])]),(4,.all [(2,.all [(5,.take 6 (.done))])])]),(4,.all [(1,.all [(2,.all [(5,.take 6 (.done))])])])])]),(3,.all [(0,.all [(1,.all [(2,.all [(4,.all [(5,.take 6 (.done))]),(5,.all [(4,.take 6 (.done))])]),(4,.all [(2,.all [(5,.take 6 (.done))])])]),(4,.all [(1,.all [(2,.all [(5,.take 6 (.done))])])])]),(4,.all [(0,.all [(1,.all [(2,.all [(5,.take 6 (.done))])])])])])]) (by kernel_rfl) ?_)|skip
   all_goals repeat' (first|exact trivial|(with_reducible first|assumption|exact n1|exact n2)|refine ⟨?_, ?_⟩|intro _)
   all_goals first|(with_reducible apply qq)|(conv=>whnf)
   all_goals first|((with_reducible show Tl _ _);apply tl_intro; · (repeat' (first|exact trivial|refine ⟨?_, ?_⟩|intro _))<;>(first|exact rfl|omega|assumption|(dsimp only;omega)))|skip
   all_goals repeat' (first|exact trivial|(with_reducible first|assumption|exact n1|exact n2)|refine ⟨?_, ?_⟩|intro _)
   all_goals first|(with_reducible apply qq)|(conv=>whnf)
   all_goals (try simp only [hdd,gN_lst,gN_canon])
   all_goals first|exact hk.1.1|exact hk.2.1.1.1|exact hk.2.1.1.2|exact hk.2.1.2.1|exact hk.2.1.2.2|exact hk.2.2.1.1|exact hk.2.2.1.2|exact hk.2.2.2.1|exact hk.2.2.2.2|exact hk2.1.1|exact hk2.2.1.1.1|exact hk2.2.1.1.2|exact hk2.2.1.2.1|exact hk2.2.1.2.2|exact hk2.2.2.1.1|exact hk2.2.2.1.2|exact hk2.2.2.2.1|exact hk2.2.2.2.2|omega|rfl|(rename_i x hx;rw [hbb] at hx;exact hR.bv x hx)|(rename_i x hx;rw [hdd] at hx;exact hR.dv x hx)|(rename_i i hi;obtain rfl:i=0:=(by omega);rfl)
 . cases h
def FRNmV:List Ar->Option Rs
 | [.agg [.d (.lst 4 n0 f0),.d (.lst 5 c0 d0),.d (.v (.bool e0)),.d (.lst 9 p0 q0),.d (.lst 12 u0 w0)],.c (.d (.v (.string x1)))]=>some ⟨((n0<=1099511627776/\ RowsG n0 f0)/\ (p0<=1099511627776/\ RowsOk p0 q0)/\ (u0<=1099511627776/\ RowsD u0 w0)/\ (∀x,x∈gBs p0 q0->x.v.t.names.length<=1048576)/\ (∀x,x∈gD u0 w0->x.s.v.t.names.length<=1048576)),.tup [.agg [.d (bo ((rnmS (⟨gGs n0 f0,c0,d0,e0,gBs p0 q0,gD u0 w0⟩:Ro) x1).1).i.s.some),.d (it ((rnmS (⟨gGs n0 f0,c0,d0,e0,gBs p0 q0,gD u0 w0⟩:Ro) x1).1).i.s.lo),.d (it ((rnmS (⟨gGs n0 f0,c0,d0,e0,gBs p0 q0,gD u0 w0⟩:Ro) x1).1).i.s.hi),.d (bo ((rnmS (⟨gGs n0 f0,c0,d0,e0,gBs p0 q0,gD u0 w0⟩:Ro) x1).1).i.c.some),.d (it ((rnmS (⟨gGs n0 f0,c0,d0,e0,gBs p0 q0,gD u0 w0⟩:Ro) x1).1).i.c.m),.d (it ((rnmS (⟨gGs n0 f0,c0,d0,e0,gBs p0 q0,gD u0 w0⟩:Ro) x1).1).i.c.r),.d (bo ((rnmS (⟨gGs n0 f0,c0,d0,e0,gBs p0 q0,gD u0 w0⟩:Ro) x1).1).t.null),.d (lst ((rnmS (⟨gGs n0 f0,c0,d0,e0,gBs p0 q0,gD u0 w0⟩:Ro) x1).1).t.names)],.c (.d (lstK ((rnmS (⟨gGs n0 f0,c0,d0,e0,gBs p0 q0,gD u0 w0⟩:Ro) x1).2)))],[]⟩
 |_=>none
theorem fcRNmV:FC Tryz.prog 26 FRNmV:=by
 intro xs pre r us h hp;unfold FRNmV at h;split at h
 . rename_i n0 f0 c0 d0 e0 p0 q0 u0 w0 x1
   cases h;have hp0:=hp
   refine FCat.deep (ys:= [.agg [.d (.lst 4 n0 (rwG (gGs n0 f0))),.d (.lst 5 c0 d0),.d (.v (.bool e0)),.d (.lst 9 p0 (rwB (gBs p0 q0))),.d (.lst 12 u0 (rwD (gD u0 w0)))],.c (.d (.v (.string x1)))]) ?_ ?_
   . repeat' (first|exact trivial|exact rfl|exact DvE.refl _|refine ⟨?_, ?_⟩|fail)
     all_goals first|first|exact canonG hp0.1.2|exact canonB hp0.2.1.2.h|exact canonD hp0.2.2.1.2.h
   refine fcat tys_ok (l:= [(53,⟨[],FRBound⟩),(54,⟨[],FRGet⟩),(30,⟨[],FRGlobal⟩),(55,⟨[],FRGlobV⟩)]) ⟨fcRBound,fcRGet,fcRGlobal,fcRGlobV,trivial⟩ Tryz.func26 rfl (by kernel_rfl) true ?_
   have hR:Ro.ok ⟨gGs n0 f0,c0,d0,e0,gBs p0 q0,gD u0 w0⟩:=⟨okG_rows hp0.1.2,by rw [gGs_length];exact hp0.1.1,okL_rows hp0.2.1.2,by rw [gBs_length];exact hp0.2.1.1,okD_rows hp0.2.2.1.2,by rw [gD_length];exact hp0.2.2.1.1,hp0.2.2.2.1,hp0.2.2.2.2⟩
   have l1:=gGs_length n0 f0
   have l2:=gBs_length p0 q0
   have l3:=gD_length u0 w0
   generalize gGs n0 f0=G_ at*
   generalize gBs p0 q0=B_ at*
   generalize gD u0 w0=D_ at*
   clear hp0;subst l1 l2 l3;have hD:=okD_row hR.d
   have hdn:=hR.dn
   have hB:=okL_row hR.b
   have hbn:=hR.bn
   have hG:=rows_okG hR.g
   have hgn:=hR.gn
   have hgg:=gGs_row G_
   have hbb:=gBs_row B_
   have hdd:=gD_row D_
   have hk:=okV_rclean (knS_ok hR.d ⟨x1, -1⟩)
   have hge:okV (En.rget ⟨e0,B_⟩ x1):=by rw [<-get_rget];exact get_okL hR.b x1
   have hc:(rbnd ⟨e0,gBs B_.length (rwB B_)⟩ x1=true/\ rnmS ⟨G_,c0,d0,e0,B_,D_⟩ x1=(En.rget ⟨e0,B_⟩ x1,[])) \/(rbnd ⟨e0,gBs B_.length (rwB B_)⟩ x1=false/\ decide (ixG (gGs G_.length (rwG G_)) x1≥0)=true/\ rnmS ⟨G_,c0,d0,e0,B_,D_⟩ x1=rglS ⟨G_,c0,d0,e0,B_,D_⟩ x1) \/(rbnd ⟨e0,gBs B_.length (rwB B_)⟩ x1=false/\ decide (ixG (gGs G_.length (rwG G_)) x1≥0)=false/\ rnmS ⟨G_,c0,d0,e0,B_,D_⟩ x1=(Vl.zero,[])):=by
    rw [hbb,hgg];unfold rnmS;cases h1:rbnd ⟨e0,B_⟩ x1 with
    |true=>exact .inl ⟨rfl,if_pos rfl⟩
    |false=>
     rw [if_neg (by decide)];cases h2:decide (ixG G_ x1≥0) with
     |true=>exact .inr (.inl ⟨rfl,rfl,if_pos rfl⟩)
     |false=>exact .inr (.inr ⟨rfl,rfl,if_neg (by decide)⟩)
   rcases hc with ⟨h1,e⟩|⟨h1,h2,e⟩|⟨h1,h2,e⟩
   all_goals rw [e]
   all_goals repeat' (first|exact trivial|(with_reducible first|assumption|exact n1|exact n2|exact nx h1|exact nx h2|exact (nx (congrArg Bool.not h1))|exact (nx (congrArg Bool.not h2)))|refine ⟨?_, ?_⟩|intro _)
   all_goals first|(with_reducible apply qq)|(conv=>whnf)
   all_goals (try simp only [hdd,hbb,hgg,gN_lst,gN_canon])
   all_goals first|exact hk.1.1|exact hk.2.1.1.1|exact hk.2.1.1.2|exact hk.2.1.2.1|exact hk.2.1.2.2|exact hk.2.2.1.1|exact hk.2.2.1.2|exact hk.2.2.2.1|exact hk.2.2.2.2|exact hge.1.1|exact hge.2.1.1.1|exact hge.2.1.1.2|exact hge.2.1.2.1|exact hge.2.1.2.2|exact hge.2.2.1.1|exact hge.2.2.1.2|exact hge.2.2.2.1|exact hge.2.2.2.2|omega|rfl|(rename_i x hx;rw [hbb] at hx;exact hR.bv x hx)|(rename_i x hx;rw [hdd] at hx;exact hR.dv x hx)|(rename_i i hi;obtain rfl:i=0:=(by omega);rfl)
 . cases h
end Go.Proofs.YtokjghkehojenaaGreat
namespace Go.Proofs.YtokjghkehojenaaGreat
open Go.Sx
open Go.RowKit Go.Lib Go.Sort
theorem canonK {n:Nat} {f:Nat->List DV} (h:RowsK n f):DvE (.lst 2 n f) (.lst 2 n (rwK (gKs n f))):=
 .rows fun i hi=>by rw [rowK_eq h i hi];exact ⟨rfl,fun j a b ha hb=>by rw [ha] at hb;cases hb;exact .refl _⟩
def FRUntil:List Ar->Option Rs
 | [.c (.d (.lst 12 n0 f0)),.c (.d (.lst 2 n1 f1))]=>some ⟨(n0<=1099511627776/\ RowsD n0 f0)/\ (n1<=1099511627776/\ RowsK n1 f1)/\ (n1<=1),.tup [.c (.d (lstK (untS (gD n0 f0) (gKs n1 f1)).gets)),.c (.d (bo (untS (gD n0 f0) (gKs n1 f1)).wants)),.agg [.d (st (untS (gD n0 f0) (gKs n1 f1)).want.name),.d (it (untS (gD n0 f0) (gKs n1 f1)).want.node)]],[]⟩
 |_=>none
abbrev sl5P:List (Nat×Sm):= [(10,⟨[],FRKnown⟩),(6,⟨[],FN 2 FOnce⟩)]
theorem sp5P:sumsOk Tryz.prog sl5P:=⟨fcRKnown,fc_nil 2 fcOnce,trivial⟩
theorem fcRUntil:FC Tryz.prog 56 FRUntil:=by
 intro xs pre r us h hp;unfold FRUntil at h;split at h
 . rename_i n0 f0 n1 f1
   cases h;obtain ⟨hp0,hp1,hp2⟩:=hp
   refine FCat.deep (ys:= [.c (.d (.lst 12 n0 (rwD (gD n0 f0)))),.c (.d (.lst 2 n1 (rwK (gKs n1 f1))))]) ?_ ?_
   . repeat' (first|exact trivial|exact rfl|exact DvE.refl _|refine ⟨?_, ?_⟩|fail)
     all_goals first|exact canonD hp0.2.h|exact canonK hp1.2
   refine fcat tys_ok (l:=sl5P) sp5P Tryz.func56 rfl (by kernel_rfl) true ?_
   have hn:=hp0.1
   have hL:=okD_rows hp0.2
   have hlen:=gD_length n0 f0
   generalize gD n0 f0=L at*
   clear hp0;subst hlen;have hlen1:=gKs_length n1 f1
   generalize gKs n1 f1=M_ at*
   clear hp1;subst hlen1;have hdn:=hn
   have hdr:=okD_row hL
   have hdd:=gD_row L
   have hM:M_= [] \/ ∃k,M_= [k]:=by
    match M_,hp2 with
    | [],_=>exact .inl rfl
    | [k],_=>exact .inr ⟨k,rfl⟩
    |_::_::_,h=>exact absurd h (by simp)
   rcases hM with rfl|⟨k,rfl⟩
   . all_goals repeat' (first|exact trivial|(with_reducible first|assumption|exact n1|exact n2|exact nd)|refine ⟨?_, ?_⟩|intro _)
     all_goals first|(with_reducible apply qq)|(conv=>whnf)
     all_goals first|((with_reducible show ASat _ _ (.loop _) _ _);refine loop_unr tys_ok (l:=sl5P) sp5P (by kernel_rfl) 1 ?_)|skip
     all_goals repeat' (first|exact trivial|(with_reducible first|assumption|exact n1|exact n2|exact nd)|refine ⟨?_, ?_⟩|intro _)
     all_goals first|(with_reducible apply qq)|(conv=>whnf)
     all_goals first|rfl
   have hc:(knB (gD L.length (rwD L)) k=true/\ untS L [k]=⟨[k],false,⟨⟨#[]⟩,0⟩⟩) \/(knB (gD L.length (rwD L)) k=false/\ untS L [k]=⟨[],true,k⟩):=by
    rw [hdd];show _ \/_/\ (if _ then _ else _)=_
    cases h:knB L k with
    |true=>exact .inl ⟨rfl,if_pos h⟩
    |false=>exact .inr ⟨rfl,if_neg (by decide)⟩
   rcases hc with ⟨h1,e⟩|⟨h1,e⟩
   all_goals rw [e]
   all_goals have h1g:knB (gD L.length (rwD L)) ⟨(atK [k] (Int.toNat 0)).name,(atK [k] (Int.toNat 0)).node⟩=_:=h1
   all_goals have hkd:decide ((0:Int)<(([k].length:Nat):Int))=true:=decide_eq_true (by simp)
   all_goals have hkw:decide (IntKind.wrap .i64 (0+1)<(([k].length:Nat):Int))=false:=decide_eq_false (by rw [wI_id _ (by omega) (by omega)];simp)
   all_goals have hk00:RowsK 0 fun _=> []:=⟨fun i hi=>absurd hi (Nat.not_lt_zero i)⟩
   all_goals have hkz:hasKy (gKs 0 fun _=> []) ⟨(atK [k] (Int.toNat 0)).name,(atK [k] (Int.toNat 0)).node⟩=false:=rfl
   all_goals have hk0:(0:Int)<=0/\ (0:Int)<(([k].length:Nat):Int):=⟨by decide,by simp⟩
   all_goals repeat' (first|exact trivial|(with_reducible first|assumption|exact n1|exact n2|exact nd|exact hk0.1|exact hk0.2|exact nx h1g|exact nx hkz|exact (nx (congrArg Bool.not h1g))|exact (nx (congrArg Bool.not hkz))|exact nx hkd|exact nx hkw)|refine ⟨?_, ?_⟩|intro _)
   all_goals first|(with_reducible apply qq)|(conv=>whnf)
   all_goals first|((with_reducible show ASat _ _ (.loop _) _ _);refine loop_unr tys_ok (l:=sl5P) sp5P (by kernel_rfl) 2 ?_)|skip
   all_goals repeat' (first|exact trivial|(with_reducible first|assumption|exact n1|exact n2|exact nd|exact hk0.1|exact hk0.2|exact nx h1g|exact nx hkz|exact (nx (congrArg Bool.not h1g))|exact (nx (congrArg Bool.not hkz))|exact nx hkd|exact nx hkw)|refine ⟨?_, ?_⟩|intro _)
   all_goals first|(with_reducible apply qq)|(conv=>whnf)
   all_goals (try simp only [hdd])
   all_goals first|rfl|omega|(rename_i i hi;obtain rfl:i=0:=(by omega);rfl)
 . cases h
theorem canonT1 {n:Nat} {f:Nat->List DV} (h: ∀i,i<n->f i= [st (gT (f i))]):DvE (.lst 1 n f) (.lst 1 n fun i=> [st (gT (f i))]):=
 .rows fun i hi=>by rw [<-h i hi];exact ⟨rfl,fun j a b ha hb=>by rw [ha] at hb;cases hb;exact .refl _⟩
def FRTell:List Ar->Option Rs
 | [.agg [.d (.lst 4 n0 f0),.d (.lst 5 c0 d0),.d (.v (.bool e0)),.d (.lst 9 p0 q0),.d (.lst 12 u0 w0)],.agg [.d (.v (.bool s1)),.d (.v (.int .i64 l1)),.d (.v (.int .i64 h1)),.d (.v (.bool b1)),.d (.v (.int .i64 m1)),.d (.v (.int .i64 r1)),.d (.v (.bool z1)),.d (.lst 1 n1 f1)],.c (.d (.lst 2 n2 f2))]=>some ⟨((n0<=1099511627776/\ RowsG n0 f0)/\ (p0<=1099511627776/\ RowsOk p0 q0)/\ (u0<=1099511627776/\ RowsD u0 w0)/\ (∀x,x∈gBs p0 q0->x.v.t.names.length<=1048576)/\ (∀x,x∈gD u0 w0->x.s.v.t.names.length<=1048576))/\ ((n1*16<=140737488351232/\ ∀i,i<n1->f1 i= [st (gT (f1 i))])/\ Sp.inR ⟨s1,l1,h1⟩/\ Cg.inR ⟨b1,m1,r1⟩)/\ (n2<=1/\ RowsK n2 f2),.va (seAr (rtlS (⟨gGs n0 f0,c0,d0,e0,gBs p0 q0,gD u0 w0⟩:Ro) (⟨⟨⟨s1,l1,h1⟩,⟨b1,m1,r1⟩⟩,⟨z1,gN n1 f1⟩⟩:Vl) (gKs n2 f2)).1 (rtlS (⟨gGs n0 f0,c0,d0,e0,gBs p0 q0,gD u0 w0⟩:Ro) (⟨⟨⟨s1,l1,h1⟩,⟨b1,m1,r1⟩⟩,⟨z1,gN n1 f1⟩⟩:Vl) (gKs n2 f2)).2),[]⟩
 |_=>none
theorem fcRTell:FC Tryz.prog 27 FRTell:=by
 intro xs pre r us h hp;unfold FRTell at h;split at h
 . rename_i n0 f0 c0 d0 e0 p0 q0 u0 w0 s1 l1 h1 b1 m1 r1 z1 n1 f1 n2 f2
   cases h;obtain ⟨hp0,hp1,hp2⟩:=hp
   refine FCat.deep (ys:= [.agg [.d (.lst 4 n0 (rwG (gGs n0 f0))),.d (.lst 5 c0 d0),.d (.v (.bool e0)),.d (.lst 9 p0 (rwB (gBs p0 q0))),.d (.lst 12 u0 (rwD (gD u0 w0)))],.agg [.d (.v (.bool s1)),.d (.v (.int .i64 l1)),.d (.v (.int .i64 h1)),.d (.v (.bool b1)),.d (.v (.int .i64 m1)),.d (.v (.int .i64 r1)),.d (.v (.bool z1)),.d (.lst 1 n1 fun i=> [st (gT (f1 i))])],.c (.d (.lst 2 n2 (rwK (gKs n2 f2))))]) ?_ ?_
   . repeat' (first|exact trivial|exact rfl|exact DvE.refl _|refine ⟨?_, ?_⟩|fail)
     all_goals first|first|exact canonG hp0.1.2|exact canonB hp0.2.1.2.h|exact canonD hp0.2.2.1.2.h|exact canonT1 hp1.1.2|exact canonK hp2.2
   refine fcat tys_ok (l:= [(56,⟨[],FRUntil⟩),(36,⟨[],FRVClean⟩)]) ⟨fcRUntil,fcRVClean,trivial⟩ Tryz.func27 rfl (by kernel_rfl) true ?_
   have hR:Ro.ok ⟨gGs n0 f0,c0,d0,e0,gBs p0 q0,gD u0 w0⟩:=⟨okG_rows hp0.1.2,by rw [gGs_length];exact hp0.1.1,okL_rows hp0.2.1.2,by rw [gBs_length];exact hp0.2.1.1,okD_rows hp0.2.2.1.2,by rw [gD_length];exact hp0.2.2.1.1,hp0.2.2.2.1,hp0.2.2.2.2⟩
   have l1:=gGs_length n0 f0
   have l2:=gBs_length p0 q0
   have l3:=gD_length u0 w0
   generalize gGs n0 f0=G_ at*
   generalize gBs p0 q0=B_ at*
   generalize gD u0 w0=D_ at*
   clear hp0;subst l1 l2 l3;have hD:=okD_row hR.d
   have hdn:=hR.dn
   have hB:=okL_row hR.b
   have hbn:=hR.bn
   have hG:=rows_okG hR.g
   have hgn:=hR.gn
   have hgg:=gGs_row G_
   have hbb:=gBs_row B_
   have hdd:=gD_row D_
   have hlen2:=gKs_length n2 f2
   generalize gKs n2 f2=M_ at*
   have hm:=hp2.1
   clear hp2;subst hlen2;have hv:okV ⟨⟨⟨s1,l1,h1⟩,⟨b1,m1,r1⟩⟩,⟨z1,gN n1 f1⟩⟩:=⟨⟨(by rw [gN_length];exact hp1.1.1),fun _ _=>rfl⟩,hp1.2⟩
   have hr:=okV_rclean hv
   have hks:=rows_K M_
   have hc:(e0=false/\ rtlS ⟨G_,c0,d0,e0,B_,D_⟩ ⟨⟨⟨s1,l1,h1⟩,⟨b1,m1,r1⟩⟩,⟨z1,gN n1 f1⟩⟩ M_=(Vl.zero,⟨[],false,⟨⟨#[]⟩,0⟩⟩)) \/(e0=true/\ (untS (gD D_.length (rwD D_)) (gKs M_.length (rwK M_))).wants=true/\ rtlS ⟨G_,c0,d0,e0,B_,D_⟩ ⟨⟨⟨s1,l1,h1⟩,⟨b1,m1,r1⟩⟩,⟨z1,gN n1 f1⟩⟩ M_=(Vl.zero,untS D_ M_)) \/(e0=true/\ (untS (gD D_.length (rwD D_)) (gKs M_.length (rwK M_))).wants=false/\ rtlS ⟨G_,c0,d0,e0,B_,D_⟩ ⟨⟨⟨s1,l1,h1⟩,⟨b1,m1,r1⟩⟩,⟨z1,gN n1 f1⟩⟩ M_=(Vl.rclean ⟨⟨⟨s1,l1,h1⟩,⟨b1,m1,r1⟩⟩,⟨z1,gN n1 f1⟩⟩,untS D_ M_)):=by
    rw [hdd,gKs_row];cases e0 with
    |false=>exact .inl ⟨rfl,if_neg (fun h=>by cases h)⟩
    |true=>
     have e:rtlS ⟨G_,c0,d0,true,B_,D_⟩ ⟨⟨⟨s1,l1,h1⟩,⟨b1,m1,r1⟩⟩,⟨z1,gN n1 f1⟩⟩ M_=(if (untS D_ M_).wants=true then Vl.zero else Vl.rclean ⟨⟨⟨s1,l1,h1⟩,⟨b1,m1,r1⟩⟩,⟨z1,gN n1 f1⟩⟩,untS D_ M_):=if_pos rfl
     cases h:(untS D_ M_).wants with
     |true=>rw [if_pos h] at e;exact .inr (.inl ⟨rfl,rfl,e⟩)
     |false=>rw [if_neg (by rw [h];decide)] at e;exact .inr (.inr ⟨rfl,rfl,e⟩)
   rcases hc with ⟨rfl,e⟩|⟨rfl,h1q,e⟩|⟨rfl,h1q,e⟩
   all_goals rw [e]
   rotate_left
   all_goals repeat' (first|exact trivial|(with_reducible first|assumption|exact n1|exact n2|exact nd|exact nx h1q|exact (nx (congrArg Bool.not h1q)))|refine ⟨?_, ?_⟩|intro _)
   all_goals first|(with_reducible apply qq)|(conv=>whnf)
   all_goals (try simp only [hdd,gKs_row,gN_lst,gN_canon])
   all_goals first|omega|rfl|exact hv.1.1|exact hv.2.1.1.1|exact hv.2.1.1.2|exact hv.2.1.2.1|exact hv.2.1.2.2|exact hv.2.2.1.1|exact hv.2.2.1.2|exact hv.2.2.2.1|exact hv.2.2.2.2|exact hr.1.1|exact hr.2.1.1.1|exact hr.2.1.1.2|exact hr.2.1.2.1|exact hr.2.1.2.2|exact hr.2.2.1.1|exact hr.2.2.1.2|exact hr.2.2.2.1|exact hr.2.2.2.2|(rename_i x hx;rw [hbb] at hx;exact hR.bv x hx)|(rename_i x hx;rw [hdd] at hx;exact hR.dv x hx)|(rename_i i hi;obtain rfl:i=0:=(by omega);rfl)
 . cases h
theorem rnm_ok {R:Ro} (hR:R.ok) (x:ByteArray):okV (rnmS R x).1/\ (rnmS R x).2.length<=1:=by
 unfold rnmS;split
 . exact ⟨by rw [<-get_rget];exact get_okL hR.b x,Nat.zero_le _⟩
 . split
   . exact ⟨okV_rclean (knS_ok hR.d _),Nat.le_refl 1⟩
   . exact ⟨⟨⟨Nat.zero_le _,fun _ h=>absurd h (Nat.not_lt_zero _)⟩,⟨⟨by decide,by decide⟩,by decide,by decide⟩,⟨by decide,by decide⟩,by decide,by decide⟩,Nat.zero_le _⟩
def FRLookNm:List Ar->Option Rs
 | [.agg [.d (.lst 4 n0 f0),.d (.lst 5 c0 d0),.d (.v (.bool e0)),.d (.lst 9 p0 q0),.d (.lst 12 u0 w0)],.c (.d (.v (.string x1)))]=>some ⟨((n0<=1099511627776/\ RowsG n0 f0)/\ (p0<=1099511627776/\ RowsOk p0 q0)/\ (u0<=1099511627776/\ RowsD u0 w0)/\ (∀x,x∈gBs p0 q0->x.v.t.names.length<=1048576)/\ (∀x,x∈gD u0 w0->x.s.v.t.names.length<=1048576)),.va (seAr (rtlS (⟨gGs n0 f0,c0,d0,e0,gBs p0 q0,gD u0 w0⟩:Ro) (rnmS (⟨gGs n0 f0,c0,d0,e0,gBs p0 q0,gD u0 w0⟩:Ro) x1).1 (rnmS (⟨gGs n0 f0,c0,d0,e0,gBs p0 q0,gD u0 w0⟩:Ro) x1).2).1 (rtlS (⟨gGs n0 f0,c0,d0,e0,gBs p0 q0,gD u0 w0⟩:Ro) (rnmS (⟨gGs n0 f0,c0,d0,e0,gBs p0 q0,gD u0 w0⟩:Ro) x1).1 (rnmS (⟨gGs n0 f0,c0,d0,e0,gBs p0 q0,gD u0 w0⟩:Ro) x1).2).2),[]⟩
 |_=>none
theorem fcRLookNm:FC Tryz.prog 13 FRLookNm:=by
 intro xs pre r us h hp;unfold FRLookNm at h;split at h
 . rename_i n0 f0 c0 d0 e0 p0 q0 u0 w0 x1
   cases h;have hp0:=hp
   refine FCat.deep (ys:= [.agg [.d (.lst 4 n0 (rwG (gGs n0 f0))),.d (.lst 5 c0 d0),.d (.v (.bool e0)),.d (.lst 9 p0 (rwB (gBs p0 q0))),.d (.lst 12 u0 (rwD (gD u0 w0)))],.c (.d (.v (.string x1)))]) ?_ ?_
   . repeat' (first|exact trivial|exact rfl|exact DvE.refl _|refine ⟨?_, ?_⟩|fail)
     all_goals first|first|exact canonG hp0.1.2|exact canonB hp0.2.1.2.h|exact canonD hp0.2.2.1.2.h
   refine fcat tys_ok (l:= [(26,⟨[],FRNmV⟩),(27,⟨[],FRTell⟩)]) ⟨fcRNmV,fcRTell,trivial⟩ Tryz.func13 rfl (by kernel_rfl) true ?_
   have hR:Ro.ok ⟨gGs n0 f0,c0,d0,e0,gBs p0 q0,gD u0 w0⟩:=⟨okG_rows hp0.1.2,by rw [gGs_length];exact hp0.1.1,okL_rows hp0.2.1.2,by rw [gBs_length];exact hp0.2.1.1,okD_rows hp0.2.2.1.2,by rw [gD_length];exact hp0.2.2.1.1,hp0.2.2.2.1,hp0.2.2.2.2⟩
   have l1:=gGs_length n0 f0
   have l2:=gBs_length p0 q0
   have l3:=gD_length u0 w0
   generalize gGs n0 f0=G_ at*
   generalize gBs p0 q0=B_ at*
   generalize gD u0 w0=D_ at*
   clear hp0;subst l1 l2 l3;have hD:=okD_row hR.d
   have hdn:=hR.dn
   have hB:=okL_row hR.b
   have hbn:=hR.bn
   have hG:=rows_okG hR.g
   have hgn:=hR.gn
   have hgg:=gGs_row G_
   have hbb:=gBs_row B_
   have hdd:=gD_row D_
   have hv:=(rnm_ok hR x1).1
   have hm:=(rnm_ok hR x1).2
   have hks:=rows_K (rnmS ⟨G_,c0,d0,e0,B_,D_⟩ x1).2
   repeat' (first|exact trivial|(with_reducible first|assumption|exact n1|exact n2)|refine ⟨?_, ?_⟩|intro _)
   all_goals first|(with_reducible apply qq)|(conv=>whnf)
   all_goals (try simp only [hdd,hbb,hgg,gKs_row,gN_lst,gN_canon])
   all_goals first|omega|rfl|exact hv.1.1|exact hv.2.1.1.1|exact hv.2.1.1.2|exact hv.2.1.2.1|exact hv.2.1.2.2|exact hv.2.2.1.1|exact hv.2.2.1.2|exact hv.2.2.2.1|exact hv.2.2.2.2|(rename_i x hx;rw [hbb] at hx;exact hR.bv x hx)|(rename_i x hx;rw [hdd] at hx;exact hR.dv x hx)|(rename_i i hi;obtain rfl:i=0:=(by omega);rfl)
 . cases h
end Go.Proofs.YtokjghkehojenaaGreat
namespace Go.Proofs.YtokjghkehojenaaGreat
open Go.Sx
open Go.RowKit Go.Lib Go.Sort
theorem bnd_eq (B:List Bd) (s:ByteArray):rbnd ⟨true,B⟩ s=bndN B s:=by
 rw [Bool.eq_iff_iff];have h1:rbnd ⟨true,B⟩ s=true↔s∈B.map (·.name):=by
  show memS s (En.names ⟨true,B⟩)=true↔_
  rw [memS_iff,mem_names];show (lk B s).isSome=true↔_
  exact lk_isSome
 rw [h1];unfold bndN ixN;rw [decide_eq_true_eq,List.mem_map];cases h:B.findIdx? (fun x=>x.name.toList==s.toList) with
 |some i=>
  rw [List.findIdx?_eq_some_iff_getElem] at h;obtain ⟨hi,h2,_⟩:=h
  rw [seq_iff,decide_eq_true_eq] at h2;exact ⟨fun _=>by show (i:Int)≥0;omega,fun _=>⟨_,List.getElem_mem hi,h2⟩⟩
 |none=>
  rw [List.findIdx?_eq_none_iff] at h;constructor
  . rintro ⟨x,hx,e⟩
    have:=h x hx
    rw [e] at this;simp at this
  . intro h2;exact absurd h2 (by show¬(-1:Int)≥0;omega)
theorem name_eq (R:Ro) (x:ByteArray):lookN R x=rtlS R (rnmS R x).1 (rnmS R x).2:=by
 unfold lookN rtlS;cases hl:R.lv with
 |false=>rw [if_neg (by decide),if_neg (by decide)]
 |true=>
  rw [if_pos rfl,if_pos rfl];unfold rnmS nameS;rw [hl,bnd_eq];have hg:decide (ixG R.G x≥0)=glI R.G x:=by
   unfold glI;rw [<-decide_not,decide_eq_decide];omega
  rw [hg];by_cases h1:bndN R.B x=true
  . rw [if_pos h1,if_pos h1];show (Vl.of (En.get ⟨true,R.B⟩ x),(⟨[],false,⟨⟨#[]⟩,0⟩⟩:Se))=(Vl.rclean (En.rget ⟨true,R.B⟩ x),(⟨[],false,⟨⟨#[]⟩,0⟩⟩:Se))
    rw [get_rget,of_rclean]
  . rw [if_neg h1,if_neg h1];by_cases h2:glI R.G x=true
    . rw [if_pos h2,if_pos h2];by_cases h3:knB R.D ⟨x, -1⟩=true
      . have e1:readS R (⟨[],false,⟨⟨#[]⟩,0⟩⟩:Se) x=(Vl.of (knS R.D ⟨x, -1⟩).v,⟨[⟨x, -1⟩],false,⟨⟨#[]⟩,0⟩⟩):=by unfold readS;rw [if_neg (by decide),if_pos h3];rfl
        have e2:untS R.D [⟨x, -1⟩]=⟨[⟨x, -1⟩],false,⟨⟨#[]⟩,0⟩⟩:=if_pos h3
        rw [e1];show (Vl.of (Vl.of _),_)=(if (untS R.D [⟨x, -1⟩]).wants=true then Vl.zero else Vl.rclean (Vl.rclean _),untS R.D [⟨x, -1⟩])
        rw [e2,if_neg (show¬false=true by decide),of_rclean,of_rclean]
      . have e1:readS R (⟨[],false,⟨⟨#[]⟩,0⟩⟩:Se) x=(Vl.zero,⟨[],true,⟨x, -1⟩⟩):=by unfold readS;rw [if_neg (by decide),if_neg h3]
        have e2:untS R.D [⟨x, -1⟩]=⟨[],true,⟨x, -1⟩⟩:=if_neg h3
        rw [e1];show (Vl.zero,_)=(if (untS R.D [⟨x, -1⟩]).wants=true then Vl.zero else Vl.rclean (Vl.rclean _),untS R.D [⟨x, -1⟩])
        rw [e2,if_pos rfl]
    . rw [if_neg h2,if_neg h2];show (Vl.of Vl.zero,(⟨[],false,⟨⟨#[]⟩,0⟩⟩:Se))=(Vl.rclean Vl.zero,(⟨[],false,⟨⟨#[]⟩,0⟩⟩:Se))
      rw [of_rclean]
theorem ixG_at {L:List Gl} {i:Nat} (hi:i<L.length): ∃j,j<=i/\ ixG L (atG L i).name=(j:Int)/\ (atG L j).name=(atG L i).name/\ ∀k,k<j->(atG L k).name≠(atG L i).name:=by
 have hA: ∀k (h:k<L.length),atG L k=L[k]:=fun k h=>by unfold atG;rw [List.getD_eq_getElem?_getD,List.getElem?_eq_getElem h];rfl
 unfold ixG;cases h:L.findIdx? (fun x=>x.name.toList==(atG L i).name.toList) with
 |some j=>
  rw [List.findIdx?_eq_some_iff_getElem] at h;obtain ⟨hj,h2,h3⟩:=h
  rw [seq_iff,decide_eq_true_eq] at h2;refine ⟨j, ?_,rfl,by rw [hA j hj];exact h2,fun k hk e=> ?_⟩
  . rcases Nat.lt_or_ge i j with h4|h4
    . have:=h3 i h4
      rw [hA i hi] at this;simp at this
    . exact h4
  . have:=h3 k hk
    rw [hA k (by omega)] at e;rw [e] at this;simp at this
 |none=>
  rw [List.findIdx?_eq_none_iff] at h;have:=h _ (List.getElem_mem hi)
  rw [hA i hi] at this;simp at this
theorem glG_at {L:List Gl} {s:ByteArray} {j:Nat} (h:ixG L s=(j:Int)):glG L s=atG L j:=by
 unfold glG;rw [h,if_neg (by omega),Int.toNat_natCast]
theorem arr_mem {L:List Gl} {s:ByteArray}: ∀{i},s∈arrS L i↔ ∃j,j<i/\ (atG L j).name=s/\ (glG L s).size>0
 |0=>⟨fun h=>(by cases h),fun ⟨j,h,_⟩=>absurd h (Nat.not_lt_zero j)⟩
 |i+1=>by
  have ih:=arr_mem (L:=L) (s:=s) (i:=i)
  unfold arrS;split
  . rename_i h
    rw [Bool.and_eq_true,decide_eq_true_eq] at h;rw [List.mem_append,List.mem_singleton,ih];constructor
    . rintro (⟨j,h1,h2⟩|rfl)
      . exact ⟨j,by omega,h2⟩
      . exact ⟨i,by omega,rfl,h.1⟩
    . rintro ⟨j,h1,h2,h3⟩
      rcases Nat.lt_or_ge j i with h4|h4
      . exact .inl ⟨j,h4,h2,h3⟩
      . obtain rfl:j=i:=by omega
        exact .inr h2.symm
  . rename_i h
    rw [ih];constructor
    . rintro ⟨j,h1,h2⟩;exact ⟨j,by omega,h2⟩
    . rintro ⟨j,h1,h2,h3⟩
      rcases Nat.lt_or_ge j i with h4|h4
      . exact ⟨j,h4,h2,h3⟩
      . obtain rfl:j=i:=by omega
        subst h2;rw [decide_eq_true h3,Bool.true_and,Bool.not_eq_true,Bool.not_eq_false',hasT_iff] at h;exact ih.1 h
theorem arr_eq (L:List Gl): ∀i,i<=L.length->arrS L i=arrR L i
 |0,_=>rfl
 |i+1,hi=>by
  have ih:=arr_eq L i (by omega)
  obtain ⟨j,h1,h2,h3,h4⟩:=ixG_at (L:=L) (i:=i) (by omega)
  have hg:=glG_at h2
  unfold arrS arrR;rw [<-ih,h2,hg];rcases Nat.lt_or_ge j i with h5|h5
  . have e:((j:Int)==(i:Int))=false:=by simp;omega
    rw [e,Bool.and_false,if_neg Bool.false_ne_true];refine if_neg fun h=> ?_
    rw [Bool.and_eq_true,Bool.not_eq_true',decide_eq_true_eq] at h;have:=hasT_iff.2 (arr_mem.2 ⟨j,h5,h3,by rw [hg];exact h.1⟩)
    rw [h.2] at this;cases this
  . obtain rfl:j=i:=by omega
    have hn:hasT (arrS L j) (atG L j).name=false:=by
     cases hh:hasT (arrS L j) (atG L j).name with
     |false=>rfl
     |true=>
      obtain ⟨k,k1,k2,_⟩:=arr_mem.1 (hasT_iff.1 hh)
      exact absurd k2 (h4 k k1)
    have e:((j:Int)==(j:Int))=true:=by simp
    have e2:decide ((atG L j).size>0)=decide ((atG L j).size≥1):=by rw [decide_eq_decide];omega
    rw [e,hn,e2];rfl
theorem red_some {i:Ig} (ht:i.tidy) (hs:i.s.inR) (hc:i.c.inR):i.red.s.some=true↔ ∃n, -9223372036854775808<=n/\ n<9223372036854775808/\ (i.s.has n&&i.c.has n)=true:=by
 have h:=red_law ht hs hc
 rcases ht with rfl|⟨⟨h1,h2⟩,h3,h4⟩
 . exact ⟨fun h=>(by cases h),fun ⟨n,_,_,h⟩=>(by cases h)⟩
 . obtain ⟨⟨s,L,H⟩,⟨b,M,R⟩⟩:=i
   dsimp only at*
   subst h1;subst h2
   rcases red_cases h3 h4 hs hc with ⟨e,hn⟩|⟨x,y,⟨k1,k2,k3⟩,⟨o1,o2⟩,hb,hm,e⟩
   . rw [e];refine ⟨fun h=>(by cases h),fun ⟨n,n0,n1,h5⟩=> ?_⟩
     rw [Bool.and_eq_true,has_on rfl h4,decide_eq_true_eq] at h5;have h6:=h5.1
     unfold Sp.has at h6;simp at h6
     exact absurd h5.2 (hn n n0 n1 h6.1 h6.2)
   . unfold Sp.inR at hs;dsimp only at hs
     refine ⟨fun _=>⟨x,by omega,by omega, ?_⟩,fun _=>by rw [e];split<;>rfl⟩
     rw [has_on rfl h4,decide_eq_true o1];unfold Sp.has;simp;omega
theorem reduce_some {v:Vl} (h1:v.i.s.inR) (h2:v.i.c.inR):v.reduce.i.s.some=true↔ ∃n, -9223372036854775808<=n/\ n<9223372036854775808/\ v.hasInt n=true:=by
 have hc:=Ig.clean_inR h1 h2
 have h:=red_some (clean_tidy v.i) hc.1 hc.2
 show v.i.clean.red.s.some=true↔_
 rw [h];constructor
 . rintro ⟨n,a,b,c⟩;rw [has_clean] at c;exact ⟨n,a,b,c⟩
 . rintro ⟨n,a,b,c⟩;exact ⟨n,a,b,by rw [has_clean];exact c⟩
theorem reduce_none {v:Vl} (h1:v.i.s.inR) (h2:v.i.c.inR):(!Sp.none v.reduce.i.s)=v.reduce.i.s.some:=by
 have hc:=Ig.clean_inR h1 h2
 have h:=(red_law (clean_tidy v.i) hc.1 hc.2).1
 show (!Sp.none v.i.clean.red.s)=v.i.clean.red.s.some
 rcases h with e|⟨⟨a,_⟩,b,_⟩
 . rw [e];rfl
 . unfold Sp.none;rw [a];simp;omega
theorem room_has {k:Int} (hk: -9223372036854775808<=k/\ k<9223372036854775808) {n:Int} (hn: -9223372036854775808<=n/\ n<9223372036854775808):(Vl.reduce ⟨⟨Sp.of 0 k,Cg.of 1 0⟩,⟨false,[]⟩⟩).hasInt n=(Sp.of 0 k).has n:=by
 rw [v3 (Sp.of_inR ⟨by decide,by decide⟩ hk) (Cg.of_inR 1 0 (by decide) (by decide) (by decide) (by decide)) hn];unfold Vl.hasInt;have:Cg.has (Cg.of 1 0) n=true:=by unfold Cg.has Cg.clean Cg.of md;simp
 rw [this,Bool.and_true]
theorem one_m {k:Int} (hk:0<=k) (hk2:k<9223372036854775808):Ig.clean ⟨Sp.of 0 k,Cg.of 1 0⟩=⟨⟨true,0,k⟩,⟨true,1,0⟩⟩/\ ((Ig.red ⟨⟨true,0,k⟩,⟨true,1,0⟩⟩).c.m=0 \/(Ig.red ⟨⟨true,0,k⟩,⟨true,1,0⟩⟩).c.m=1):=by
 have hr:Cg.red ⟨true,1,0⟩:=by unfold Cg.red;dsimp only;omega
 have e1:Cg.of 1 0=⟨true,1,0⟩:=by rfl
 refine ⟨by rw [e1,of_le hk];exact tidy_fix (.inr ⟨⟨rfl,rfl⟩,hk,hr⟩), ?_⟩
 rcases red_cases hk hr (by unfold Sp.inR;dsimp only;omega) (by unfold Cg.inR;dsimp only;omega) with ⟨e,_⟩|⟨x,y,_,_,_,_,e⟩
 . rw [e];exact .inl rfl
 . rw [e];split
   . exact .inl rfl
   . exact .inr rfl
theorem fits_one {X Y:Cg} (hX:X.inR) (h:Y.m=0 \/Y.m=1):X.fits Y=true:=by
 unfold Cg.fits;rcases h with h|h
 . rw [h];simp
 . have e:Cg.lc X Y=X.m:=by unfold Cg.lc;rw [h];simp
   rw [e,(wIn hX.1).2,Bool.or_true]
theorem pl_eq {L:List Gl} (hL:okG L) {s:ByteArray} {v:Vl} (hv:okV v):plS L s v=rplS L s v:=by
 have hx:=ixG_lt L s
 unfold plS rplS;by_cases h0:ixG L s<0
 . have:glI L s=false:=by unfold glI;rw [decide_eq_true h0];rfl
   rw [this,if_pos (decide_eq_true h0)];rfl
 . have hg:glI L s=true:=by unfold glI;rw [decide_eq_false h0];rfl
   have hG:glG L s=atG L (ixG L s).toNat:=by unfold glG;rw [if_neg h0]
   rw [hg,Bool.true_and,hG,if_neg (by rw [decide_eq_false h0];decide)];have hX:(atG L (ixG L s).toNat).ok:=hL _ (by omega)
   generalize atG L (ixG L s).toNat=X at*
   have h1:=hX.1
   unfold rI at h1;have hk:max X.size 1-1=rlast X:=by
    unfold rlast;split
    . rename_i h;have:=of_decide_eq_true h;omega
    . rename_i h;rw [decide_eq_true_eq] at h;omega
   have hk0:0<=rlast X/\ rlast X<9223372036854775808:=by rw [<-hk];omega
   unfold roomV;rw [hk]
   generalize rlast X=k at*
   have hm:=one_m hk0.1 hk0.2
   have hW:Vl.inR (Vl.reduce ⟨⟨Sp.of 0 k,Cg.of 1 0⟩,⟨false,[]⟩⟩):=(ok_reduce (n:=0) (f:=fun _=> []) (Nat.zero_le _) (Sp.of_inR ⟨by decide,by decide⟩ ⟨by omega,hk0.2⟩) (Cg.of_inR 1 0 (by decide) (by decide) (by decide) (by decide))).2
   have hWi:(Vl.reduce ⟨⟨Sp.of 0 k,Cg.of 1 0⟩,⟨false,[]⟩⟩).of.i.c.m=0 \/(Vl.reduce ⟨⟨Sp.of 0 k,Cg.of 1 0⟩,⟨false,[]⟩⟩).of.i.c.m=1:=by
    have e:(Vl.reduce ⟨⟨Sp.of 0 k,Cg.of 1 0⟩,⟨false,[]⟩⟩).of.i=Ig.red ⟨⟨true,0,k⟩,⟨true,1,0⟩⟩:=by
     show Ig.clean (Ig.red (Ig.clean ⟨Sp.of 0 k,Cg.of 1 0⟩))=_
     rw [hm.1];exact tidy_fix (red_law (.inr ⟨⟨rfl,rfl⟩,hk0.1,by unfold Cg.red;dsimp only;omega⟩) (by unfold Sp.inR;dsimp only;omega) (by unfold Cg.inR;dsimp only;omega)).1
    rw [e];exact hm.2
   have hf:v.of.i.c.fits (Vl.reduce ⟨⟨Sp.of 0 k,Cg.of 1 0⟩,⟨false,[]⟩⟩).of.i.c=true:=fits_one (Vl.of_inR hv.2).2 hWi
   have hF:=meetF_inR hv.2 hW
   have hr:=okV_rplF hv (k:=k) ⟨by omega,hk0.2⟩
   have e2:(!Sp.none (Vl.meet v (Vl.reduce ⟨⟨Sp.of 0 k,Cg.of 1 0⟩,⟨false,[]⟩⟩)).i.s)=(Vl.meet v (Vl.reduce ⟨⟨Sp.of 0 k,Cg.of 1 0⟩,⟨false,[]⟩⟩)).i.s.some:=reduce_none hF.1 hF.2
   rw [e2, <-reduce_eq,Bool.eq_iff_iff,reduce_some hr.2.1 hr.2.2];rw [show (Vl.meet v (Vl.reduce ⟨⟨Sp.of 0 k,Cg.of 1 0⟩,⟨false,[]⟩⟩)).i.s.some=true↔_ from reduce_some hF.1 hF.2];refine exists_congr fun n=>and_congr_right fun n1=>and_congr_right fun n2=> ?_
   rw [<-meet_hasInt hv.2 hW ⟨n1,n2⟩,mt_exact hv.2 hW ⟨n1,n2⟩ hf,room_has ⟨by omega,hk0.2⟩ ⟨n1,n2⟩];have hc:v.rclean.hasInt n=v.hasInt n:=by rw [<-of_rclean];exact hasInt_of v n
   rw [<-hc];unfold Vl.hasInt rplF;dsimp only;rw [Sp.meet_has];cases v.rclean.i.s.has n<;>cases v.rclean.i.c.has n<;>cases (Sp.of 0 k).has n<;>decide
end Go.Proofs.YtokjghkehojenaaGreat
namespace Go.Proofs.YtokjghkehojenaaGreat
open Go.Sx
open Go.RowKit Go.Lib Go.Sort
theorem gKs_self (n:Nat) (f:Nat->List DV):gKs n (rwK (gKs n f))=gKs n f:=by
 have:=gKs_row (gKs n f)
 rw [gKs_length] at this;exact this
theorem rows_Kg (n:Nat) (f:Nat->List DV):RowsK n (rwK (gKs n f)):=by
 have:=rows_K (gKs n f)
 rw [gKs_length] at this;exact this
def sameS (p q:Vl×Se):Bool:=Vl.exact p.1 q.1&&(decide (p.2.gets=q.2.gets)&&(p.2.wants==q.2.wants&&eqK p.2.want q.2.want))
def FSame:List Ar->Option Rs
 | [.agg [.d (.v (.bool s0)),.d (.v (.int .i64 l0)),.d (.v (.int .i64 h0)),.d (.v (.bool b0)),.d (.v (.int .i64 m0)),.d (.v (.int .i64 r0)),.d (.v (.bool z0)),.d (.lst 1 n0 f0),.d (.lst 2 k0 q0),.d (.v (.bool w0)),.d (.v (.string x0)),.d (.v (.int .i64 i0))],.agg [.d (.v (.bool s1)),.d (.v (.int .i64 l1)),.d (.v (.int .i64 h1)),.d (.v (.bool b1)),.d (.v (.int .i64 m1)),.d (.v (.int .i64 r1)),.d (.v (.bool z1)),.d (.lst 1 n1 f1),.d (.lst 2 k1 q1),.d (.v (.bool w1)),.d (.v (.string x1)),.d (.v (.int .i64 i1))]]=>some ⟨(((n0*16<=140737488351232/\ ∀i,i<n0->f0 i= [st (gT (f0 i))])/\ Sp.inR ⟨s0,l0,h0⟩/\ Cg.inR ⟨b0,m0,r0⟩)/\ k0<=1099511627776/\ RowsK k0 q0)/\ (((n1*16<=140737488351232/\ ∀i,i<n1->f1 i= [st (gT (f1 i))])/\ Sp.inR ⟨s1,l1,h1⟩/\ Cg.inR ⟨b1,m1,r1⟩)/\ k1<=1099511627776/\ RowsK k1 q1),.va (.c (.d (bo (sameS (((⟨⟨⟨s0,l0,h0⟩,⟨b0,m0,r0⟩⟩,⟨z0,gN n0 f0⟩⟩:Vl),(⟨gKs k0 q0,w0,⟨x0,i0⟩⟩:Se)):Vl×Se) (((⟨⟨⟨s1,l1,h1⟩,⟨b1,m1,r1⟩⟩,⟨z1,gN n1 f1⟩⟩:Vl),(⟨gKs k1 q1,w1,⟨x1,i1⟩⟩:Se)):Vl×Se))))),[]⟩
 |_=>none
theorem fcSame:FC Tryz.prog 7 FSame:=by
 intro xs pre r us h hp;unfold FSame at h;split at h
 . rename_i s0 l0 h0 b0 m0 r0 z0 n0 f0 k0 q0 w0 x0 i0 s1 l1 h1 b1 m1 r1 z1 n1 f1 k1 q1 w1 x1 i1
   cases h;obtain ⟨hp0,hp1⟩:=hp
   refine FCat.of_eq (as':= [.agg [.d (.v (.bool s0)),.d (.v (.int .i64 l0)),.d (.v (.int .i64 h0)),.d (.v (.bool b0)),.d (.v (.int .i64 m0)),.d (.v (.int .i64 r0)),.d (.v (.bool z0)),.d (.lst 1 n0 fun i=> [st (gT (f0 i))]),.d (.lst 2 k0 (rwK (gKs k0 q0))),.d (.v (.bool w0)),.d (.v (.string x0)),.d (.v (.int .i64 i0))],.agg [.d (.v (.bool s1)),.d (.v (.int .i64 l1)),.d (.v (.int .i64 h1)),.d (.v (.bool b1)),.d (.v (.int .i64 m1)),.d (.v (.int .i64 r1)),.d (.v (.bool z1)),.d (.lst 1 n1 fun i=> [st (gT (f1 i))]),.d (.lst 2 k1 (rwK (gKs k1 q1))),.d (.v (.bool w1)),.d (.v (.string x1)),.d (.v (.int .i64 i1))]]) ?_ rfl rfl ?_
   . repeat' (first|exact trivial|exact rfl|refine ⟨?_, ?_⟩|fail)
     all_goals first|exact rowK_eq hp0.2.2|exact rowK_eq hp1.2.2|exact hp0.1.1.2|exact hp1.1.1.2|exact hp0.2|exact hp1.2|exact hp2.2|(intro i hi;exact (hp0.2 i hi).1)|(intro i hi;exact (hp1.2 i hi).1)|(intro i hi;exact (hp2.2 i hi).1)|grind
   refine fcat tys_ok (l:= [(11,⟨[],FRVExact⟩),(21,⟨[],FKeys⟩)]) ⟨fcRVExact,fcKeys,trivial⟩ Tryz.func7 rfl (by kernel_rfl) false ?_
   repeat' (first|exact trivial|refine ⟨?_, ?_⟩|intro _)
   all_goals first|(with_reducible apply qq)|(conv=>whnf)
   all_goals (try simp only [gN_canon,gKs_row,gKs_self] at*)
   all_goals first|exact hp0.1.1.1|exact hp1.1.1.1|rfl|exact hp0.2.1|exact hp1.2.1|exact rows_Kg _ _|exact hp0.1.2.1.1.1|exact hp0.1.2.1.1.2|exact hp0.1.2.1.2.1|exact hp0.1.2.1.2.2|exact hp0.1.2.2.1.1|exact hp0.1.2.2.1.2|exact hp0.1.2.2.2.1|exact hp0.1.2.2.2.2|exact hp1.1.2.1.1.1|exact hp1.1.2.1.1.2|exact hp1.1.2.1.2.1|exact hp1.1.2.1.2.2|exact hp1.1.2.2.1.1|exact hp1.1.2.2.1.2|exact hp1.1.2.2.2.1|exact hp1.1.2.2.2.2|(unfold sameS;dsimp only;simp only [*,Bool.true_and,Bool.false_and,Bool.and_false];done)
 . cases h
abbrev N1:Vl:=⟨⟨⟨true,1,1⟩,⟨true,0,1⟩⟩,⟨false,[]⟩⟩
abbrev N5:Vl:=⟨⟨⟨true,5,5⟩,⟨true,0,5⟩⟩,⟨false,[]⟩⟩
abbrev N6:Vl:=⟨⟨⟨true,6,6⟩,⟨true,0,6⟩⟩,⟨false,[]⟩⟩
theorem a1:N1.of=N1:=by show (⟨Ig.clean _,⟨false,ofS []⟩⟩:Vl)=_;rw [ofS_00];rfl
theorem a5:N5.of=N5:=by show (⟨Ig.clean _,⟨false,ofS []⟩⟩:Vl)=_;rw [ofS_00];rfl
theorem a6:N6.of=N6:=by show (⟨Ig.clean _,⟨false,ofS []⟩⟩:Vl)=_;rw [ofS_00];rfl
theorem z6:Vl.zero.of=Vl.zero:=by show (⟨Ig.clean _,⟨false,ofS []⟩⟩:Vl)=_;rw [ofS_00];rfl
theorem n1:numL 1=N1:=by rfl
theorem b1:rkDo 10 ⟨true,1,1⟩ ⟨true,5,5⟩=⟨true,6,6⟩:=by rfl
theorem b2:rsDo 10 ⟨true,0,1⟩ ⟨true,0,5⟩ (wrB 10 ⟨true,1,1⟩ ⟨true,5,5⟩)=⟨true,0,6⟩:=by rfl
theorem b3:bothV ⟨true,6,6⟩ ⟨true,0,6⟩=N6:=by unfold bothV;rw [if_neg (by decide),if_neg (by decide)];show (⟨_,⟨false,ofS []⟩⟩:Vl)=_;rw [ofS_00];rfl
theorem b4:ptrV 10 ⟨false,[]⟩ ⟨false,[]⟩ []=Vl.zero:=by rfl
theorem b5:Vl.join N6 Vl.zero=N6:=by
 unfold Vl.join;rw [a6,z6]
 show (⟨_,⟨_,ofS (ofS []++ofS [])⟩⟩:Vl)=_
 rw [ofS_00,List.nil_append,ofS_00];rfl
theorem b6:calcDo 10 N1 N5 []=N6:=by
 unfold calcDo;rw [a1,a5];show Vl.join (numV 10 N1 N5) (ptrV 10 ⟨false,[]⟩ ⟨false,[]⟩ [])=_
 rw [b4];unfold numV;rw [if_neg (by decide),if_neg (by decide),b1,b2,b3,b5]
theorem get_l:En.get ⟨true,[⟨⟨#[120]⟩,N1⟩]⟩ ⟨#[120]⟩=N1:=by
 have hc:(En.clean ⟨true,[⟨⟨#[120]⟩,N1⟩]⟩).binds= [⟨⟨#[120]⟩,N1⟩]:=by
  unfold En.clean;rw [if_pos rfl];show List.map _ (dd (srt ltB [_]))=_
  have:srt ltB [(⟨⟨#[120]⟩,N1⟩:Bd)]= [⟨⟨#[120]⟩,N1⟩]:=by unfold srt;simp [mg]
  rw [this];show [(⟨⟨#[120]⟩,N1.of⟩:Bd)]=_
  rw [a1]
 unfold En.get;rw [hc,if_pos (by decide)];rfl
def R0:Ro:=⟨[⟨⟨#[103]⟩,false,0,0⟩],0,fun _=> [],true,[⟨⟨#[120]⟩,N1⟩],[⟨⟨⟨#[103]⟩, -1⟩,⟨⟨false,[]⟩,N5⟩⟩]⟩
abbrev S0:Se:=⟨[],false,⟨⟨#[]⟩,0⟩⟩
abbrev S1:Se:=⟨[⟨⟨#[103]⟩, -1⟩],false,⟨⟨#[]⟩,0⟩⟩
theorem nm_x:nameS R0 S0 ⟨#[120]⟩=(N1,S0):=by
 have h:bndN R0.B ⟨#[120]⟩=true:=by unfold R0 bndN ixN;simp
 unfold nameS;rw [if_pos h]
 show (En.get ⟨true,_⟩ _,_)=_
 exact congrArg (·,S0) get_l
theorem nm_g:nameS R0 S0 ⟨#[103]⟩=(N5,S1):=by
 have h:bndN R0.B ⟨#[103]⟩=false:=by unfold R0 bndN ixN;simp [seq_iff]
 have h2:glI R0.G ⟨#[103]⟩=true:=by unfold R0 glI ixG;simp
 have h3:knF R0.D ⟨⟨#[103]⟩, -1⟩=some ⟨⟨false,[]⟩,N5⟩:=by unfold R0 knF;simp [eqK]
 have h4:knB R0.D ⟨⟨#[103]⟩, -1⟩=true:=by unfold knB;rw [h3];rfl
 have h5:(knS R0.D ⟨⟨#[103]⟩, -1⟩).v=N5:=by unfold knS;rw [h3];rfl
 unfold nameS;rw [if_neg (by rw [h];decide),if_pos h2]
 unfold readS;rw [if_neg (by decide),if_pos h4,h5,a5,if_neg (by decide)];rfl
theorem okN {n:Int} (h:rI n):okV ⟨⟨⟨true,n,n⟩,⟨true,0,n⟩⟩,⟨false,[]⟩⟩:=⟨⟨Nat.zero_le _,fun _ _=>rfl⟩,⟨h,h⟩,⟨(show (-9223372036854775808:Int)<=0 by decide),(show (0:Int)<9223372036854775808 by decide)⟩,h⟩
theorem rI_1:rI 1:=⟨by decide,by decide⟩
theorem rI_5:rI 5:=⟨by decide,by decide⟩
theorem rowD_l:rowOkD [st ⟨#[103]⟩,it (-1),bo false,.v (.slice none 0 0),bo true,it 5,it 5,bo true,it 0,it 5,bo false,.lst 1 0 fun i=> [st (atS [] i)]]:=by
 refine ⟨⟨rfl,fun j a b ha hb=> ?_⟩,⟨⟨by decide,by decide⟩,fun x hx=>(by cases hx),okN rI_5,Nat.zero_le _⟩⟩
 match j with
 |0=>cases ha;cases hb;exact .refl _
 |1=>cases ha;cases hb;exact .refl _
 |2=>cases ha;cases hb;exact .refl _
 |3=>cases ha;cases hb;exact .nil
 |4=>cases ha;cases hb;exact .refl _
 |5=>cases ha;cases hb;exact .refl _
 |6=>cases ha;cases hb;exact .refl _
 |7=>cases ha;cases hb;exact .refl _
 |8=>cases ha;cases hb;exact .refl _
 |9=>cases ha;cases hb;exact .refl _
 |10=>cases ha;cases hb;exact .refl _
 |11=>cases ha;cases hb;exact .rows fun i hi=>absurd hi (Nat.not_lt_zero i)
 |j+12=>simp at ha
end Go.Proofs.YtokjghkehojenaaGreat
