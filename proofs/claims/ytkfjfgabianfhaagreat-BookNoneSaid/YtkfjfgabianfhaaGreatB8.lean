/- Lists gone through one behind the other. No condition. -/
import Derived.Test.YtkfjfgabianfhaaGreatB7
set_option linter.all false
set_option maxHeartbeats 8000000
set_option maxRecDepth 100000
namespace Go.Proofs.YtkfjfgabianfhaaGreat
open Go.Sx
open Go.RowKit Go.Lib Go.Sort
abbrev kyV (k:Ky):Value:= .agg #[.string k.name,.int .i64 k.node]
structure Lsts (nl:Nat) (F:Nat->List DV) (LL:List (List Ky)):Prop where
 len:LL.length=nl
 row: ∀i,i<nl-> ∃f,F i= [.lst 2 (LL.getD i []).length f]/\ (∀j,j<(LL.getD i []).length->f j=kyC (atK (LL.getD i []) j))/\ (LL.getD i []).length<=1000000000
 rng: ∀x,x∈LL.flatten->rI x.node
def kAll (LL:List (List Ky)):List Value:=LL.flatten.map fun k=>kyV k.cl
def kIx (LL:List (List Ky)) (i:Nat):Nat:=(LL.take i).flatten.length
theorem kIx_succ {LL:List (List Ky)} {i:Nat} (h:i<LL.length):kIx LL (i+1)=kIx LL i+(LL.getD i []).length:=by
 unfold kIx;rw [List.take_succ_eq_append_getElem h,List.flatten_append,List.length_append,List.getD_eq_getElem?_getD,List.getElem?_eq_getElem h];simp
theorem kIx_all (LL:List (List Ky)):kIx LL LL.length=(kAll LL).length:=by unfold kIx kAll;rw [List.take_length,List.length_map]
theorem kAt {LL:List (List Ky)} {i j:Nat} (h:i<LL.length) (hj:j<(LL.getD i []).length):(LL.flatten)[kIx LL i+j]? =some (atK (LL.getD i []) j):=by
 have e:LL.flatten=(LL.take i).flatten++((LL.getD i [])++(LL.drop (i+1)).flatten):=by
  conv=>lhs;rw [<-List.take_append_drop i LL,List.flatten_append,List.drop_eq_getElem_cons h,List.flatten_cons]
  rw [List.getD_eq_getElem?_getD,List.getElem?_eq_getElem h];rfl
 rw [e];unfold kIx;rw [List.getElem?_append_right (by omega),Nat.add_sub_cancel_left,List.getElem?_append_left hj]
 generalize LL.getD i []=L at*
 unfold atK;rw [List.getD_eq_getElem?_getD,List.getElem?_eq_getElem hj];rfl
theorem kAll_at {LL:List (List Ky)} {i j:Nat} (h:i<LL.length) (hj:j<(LL.getD i []).length):(kAll LL)[kIx LL i+j]? =some (kyV (atK (LL.getD i []) j).cl):=by
 unfold kAll;rw [List.getElem?_map,kAt h hj];rfl
theorem kRng {LL:List (List Ky)} {nl:Nat} {F:Nat->List DV} (hL:Lsts nl F LL) {i j:Nat} (h:i<nl) (hj:j<(LL.getD i []).length):rI (atK (LL.getD i []) j).node:=
 hL.rng _ (List.mem_of_getElem? (kAt (by rw [hL.len];exact h) hj))
theorem agg_det {P:Program} {ψ:Psi} {S:Nat->Prop} {w:World} {a b:Value} {u:Value} (h:RepT P ψ S w (.va (.agg [.d (.v a),.d (.v b)])) u):u= .agg #[a,b]:=by
 obtain ⟨arr,rfl,h⟩:=h
 obtain ⟨l⟩:=arr
 match l,h with
 | [x,y],⟨h1,h2,_⟩=>
   have e1: ∀z v,RepD S w (.v z) v->v=z:=fun z v h=>by cases h;rfl
   rw [e1 _ _ h1.1,e1 _ _ h2.1]
theorem chain_seq {S:Nat->Prop} {W:World} {nl:Nat} {F:Nat->List DV} {LL:List (List Ky)} (hL:Lsts nl F LL) (hnl:nl<=1000000000) {p:Value} (hS:SOk Tryz.prog S W) (hp:RepC Tryz.prog (fun _=>none) S W (.rp [.lst 1 nl F]) p):
 SeqOk Tryz.prog 55 #[p] (kAll LL) S W:=by
 refine seqOk_of Tryz.func55 rfl (by decide) rfl hS hp fun l J hab hY=> ?_
 refine ISat.seq (ISat.vc tys_ok (L:= [(10,⟨[],FKyClean⟩)]) ⟨fcKyClean,trivial⟩ (by kernel_rfl) hab ?_)
 repeat' (first|exact trivial|refine ⟨?_, ?_⟩|intro _)
 all_goals first|(with_reducible apply qq)|(conv=>whnf)
 refine ISat.block (ISat.le hab [] 0 ?_ (ISat.loop hab (X:=Nat) (fun i=>⟨[(0,.va (.c (.d (.v (.func (.yield l) #[] #[]))))),(7,.va (.c (.d (.lst 1 nl F)))),(8,vx (.int .i64 nl)),(9,vx (.int .i64 i))],[],0,26⟩) (kIx LL) (fun i=>nl-i) (fun i=>i<=nl) (fun i=>i+1) [] 0 ?_ 0 (Nat.zero_le _) rfl))
 . repeat' (first|exact trivial|exact rfl|(intro _ _;exact rfl)|refine ⟨?_, ?_⟩|fail)
 intro i hi;refine ISat.seq (ISat.vc tys_ok (L:= [(10,⟨[],FKyClean⟩)]) ⟨fcKyClean,trivial⟩ (by kernel_rfl) hab ?_)
 repeat' (first|exact trivial|refine ⟨?_, ?_⟩|intro _)
 all_goals first|(with_reducible apply qq)|(conv=>whnf)
 refine ISat.seq (ISat.vc tys_ok (L:= [(10,⟨[],FKyClean⟩)]) ⟨fcKyClean,trivial⟩ (by kernel_rfl) hab ?_)
 repeat' (first|exact trivial|refine ⟨?_, ?_⟩|intro _)
 all_goals first|(with_reducible apply qq)|(conv=>whnf)
 . have hlt:i<nl:=by have:=of_decide_eq_true ‹decide ((i:Int)<nl)=true›;omega
   obtain ⟨f,hf,hfj,hfl⟩:=hL.row i hlt
   refine ISat.seq (ISat.block (ISat.seq (ISat.vc tys_ok (L:= [(10,⟨[],FKyClean⟩)]) ⟨fcKyClean,trivial⟩ (by kernel_rfl) hab ?_)))
   repeat' (first|exact trivial|refine ⟨?_, ?_⟩|intro _)
   all_goals first|(with_reducible apply qq)|(conv=>whnf)
   all_goals first|omega|skip
   simp only [Int.toNat_natCast,Nat.zero_add,hf]
   repeat' (first|exact trivial|refine ⟨?_, ?_⟩|intro _)
   all_goals first|(with_reducible apply qq)|(conv=>whnf)
   refine ISat.seq (ISat.vc tys_ok (L:= [(10,⟨[],FKyClean⟩)]) ⟨fcKyClean,trivial⟩ (by kernel_rfl) hab ?_)
   repeat' (first|exact trivial|refine ⟨?_, ?_⟩|intro _)
   all_goals first|(with_reducible apply qq)|(conv=>whnf)
   refine ISat.block (ISat.le hab [] 0 ?_ (ISat.loop hab (X:=Nat) (fun j=>⟨[(0,.va (.c (.d (.v (.func (.yield l) #[] #[]))))),(7,.va (.c (.d (.lst 1 nl F)))),(8,vx (.int .i64 nl)),(9,vx (.int .i64 i)),(13,.va (.c (.d (.lst 2 (LL.getD i []).length f)))),(14,vx (.int .i64 (LL.getD i []).length)),(15,vx (.int .i64 j))],[],0,26⟩) (fun j=>kIx LL i+j) (fun j=>(LL.getD i []).length-j) (fun j=>j<=(LL.getD i []).length) (fun j=>j+1) [] 0 ?_ 0 (Nat.zero_le _) rfl))
   . repeat' (first|exact trivial|exact rfl|(intro _ _;exact rfl)|refine ⟨?_, ?_⟩|fail)
   intro j hj;refine ISat.seq (ISat.vc tys_ok (L:= [(10,⟨[],FKyClean⟩)]) ⟨fcKyClean,trivial⟩ (by kernel_rfl) hab ?_)
   repeat' (first|exact trivial|refine ⟨?_, ?_⟩|intro _)
   all_goals first|(with_reducible apply qq)|(conv=>whnf)
   refine ISat.seq (ISat.vc tys_ok (L:= [(10,⟨[],FKyClean⟩)]) ⟨fcKyClean,trivial⟩ (by kernel_rfl) hab ?_)
   repeat' (first|exact trivial|refine ⟨?_, ?_⟩|intro _)
   all_goals first|(with_reducible apply qq)|(conv=>whnf)
   . have hjl:j<(LL.getD i []).length:=by have:=of_decide_eq_true ‹decide ((j:Int)<(LL.getD i []).length)=true›;omega
     have hfj':=hfj j hjl
     have hri:=kRng hL hlt hjl
     have hri2:=Ky.cl_r hri
     unfold rI at hri hri2;refine ISat.seq (ISat.block (ISat.seq (ISat.vc tys_ok (L:= [(10,⟨[],FKyClean⟩)]) ⟨fcKyClean,trivial⟩ (by kernel_rfl) hab ?_)))
     repeat' (first|exact trivial|(with_reducible exact (Nat.le_refl 0))|refine ⟨?_, ?_⟩|intro _)
     all_goals first|(with_reducible apply qq)|(conv=>whnf)
     all_goals first|omega|skip
     simp only [Int.toNat_natCast,Nat.zero_add,hfj']
     repeat' (first|exact trivial|(with_reducible exact (Nat.le_refl 0))|refine ⟨?_, ?_⟩|intro _)
     all_goals first|(with_reducible apply qq)|(conv=>whnf)
     refine ISat.seq (ISat.yield tys_ok (L:= [(10,⟨[],FKyClean⟩)]) ⟨fcKyClean,trivial⟩ hab hY 3 rfl (by kernel_rfl) rfl rfl (kAll_at (by rw [hL.len];exact hlt) hjl) (fun ψ S w u h=>agg_det h) ?_)
     repeat' (first|exact trivial|(with_reducible exact (Nat.le_refl 0))|refine ⟨?_, ?_⟩|intro _)
     all_goals first|(with_reducible apply qq)|(conv=>whnf)
     all_goals first|exact hri.1|exact hri.2|exact hri2.1|exact hri2.2|omega|rfl|skip
     all_goals refine ISat.vc tys_ok (L:= [(10,⟨[],FKyClean⟩)]) ⟨fcKyClean,trivial⟩ (by kernel_rfl) hab ?_
     repeat' (first|exact trivial|(with_reducible exact (Nat.le_refl 0))|refine ⟨?_, ?_⟩|intro _)
     all_goals first|(with_reducible apply qq)|(conv=>whnf)
     all_goals first|(exact absurd ‹(!true)=true› (by decide))|(exact absurd ‹(!false)=false› (by decide))|exact .inr rfl|(exact ⟨.inr rfl,.inr rfl⟩)|skip
     refine ISat.vc tys_ok (L:= [(10,⟨[],FKyClean⟩)]) ⟨fcKyClean,trivial⟩ (by kernel_rfl) hab ?_
     repeat' (first|exact trivial|(with_reducible exact (Nat.le_refl 0))|refine ⟨?_, ?_⟩|intro _)
     all_goals first|(with_reducible apply qq)|(conv=>whnf)
     all_goals first|omega|rfl|(exact congrArg (Value.int .i64) (by first|(rw [wI_id _ (by omega) (by omega)];omega)|omega|(dsimp only;omega)))|(have hd:=of_decide_eq_false ‹decide ((j:Int)<(LL.getD i []).length)=false›;rw [kIx_succ (by rw [hL.len];exact hlt)];omega)
   . refine ISat.vc tys_ok (L:= [(10,⟨[],FKyClean⟩)]) ⟨fcKyClean,trivial⟩ (by kernel_rfl) hab ?_
     repeat' (first|exact trivial|(with_reducible exact (Nat.le_refl 0))|refine ⟨?_, ?_⟩|intro _)
     all_goals first|(with_reducible apply qq)|(conv=>whnf)
     all_goals first|omega|rfl|(exact congrArg (Value.int .i64) (by first|(rw [wI_id _ (by omega) (by omega)];omega)|omega|(dsimp only;omega)))|(have hd:=of_decide_eq_false ‹decide ((j:Int)<(LL.getD i []).length)=false›;rw [kIx_succ (by rw [hL.len];exact hlt)];omega)
 . exact .inl rfl
 . have hge: ¬i<nl:=by have:=of_decide_eq_false ‹decide ((i:Int)<nl)=false›;omega
   have e:i=nl:=by omega
   rw [e, <-kIx_all,hL.len];exact .inl rfl
end Go.Proofs.YtkfjfgabianfhaaGreat
namespace Go.Proofs.YtkfjfgabianfhaaGreat
open Go.Sx
open Go.RowKit Go.Lib Go.Sort
def rowK (l:List Ky):List Ky:=l.foldl putK []
theorem rowK_snoc (l:List Ky) (k:Ky):rowK (l++ [k])=putK (rowK l) k:=by unfold rowK;rw [List.foldl_append];rfl
theorem sk_nil:SK []:=⟨List.Pairwise.nil,fun _ h=>by cases h⟩
theorem rowK_sk (l:List Ky):SK (rowK l):=snocRec (p:=fun l=>SK (rowK l)) sk_nil (fun l x ih=>by rw [rowK_snoc];exact put_sk ih x) l
theorem rowK_len (l:List Ky):(rowK l).length<=l.length:=snocRec (p:=fun l=>(rowK l).length<=l.length) (Nat.le_refl _) (fun l x ih=>by rw [rowK_snoc,List.length_append];have:=put_len (rowK l) x;simp only [List.length_cons,List.length_nil];omega) l
theorem rowK_mem (l:List Ky) (x:Ky):x∈rowK l↔ ∃k,k∈l/\ x=k.cl:=
 snocRec (p:=fun l=>x∈rowK l↔ ∃k,k∈l/\ x=k.cl) (by simp [rowK]) (fun l k ih=>by
  rw [rowK_snoc,mem_put (rowK_sk l),ih];constructor
  . rintro (h|⟨q,h1,h2⟩)
    . exact ⟨k,by simp,h⟩
    . exact ⟨q,by simp [h1],h2⟩
  . rintro ⟨q,h1,h2⟩
    rcases List.mem_append.1 h1 with h|h
    . exact .inr ⟨q,h,h2⟩
    . rw [List.mem_singleton.1 h] at h2;exact .inl h2) l
theorem rowK_rng {l:List Ky} (h: ∀x,x∈l->rI x.node): ∀x,x∈rowK l->rI x.node:=fun x hx=>by
 obtain ⟨k,h1,rfl⟩:=(rowK_mem l x).1 hx
 exact Ky.cl_r (h k h1)
theorem put_found {L:List Ky} {k:Ky} (hs:SK L) (h:foundQ L k.cl=true):putK L k=L:=by
 unfold foundQ at h;obtain ⟨h1,h2⟩:=Bool.and_eq_true_iff.1 h
 have h1:=of_decide_eq_true h1
 have h2:=of_decide_eq_true h2
 obtain ⟨A,B,rfl,hA,hB⟩:=sk_split hs k
 have hl:lowQ (A++B) k.cl=A.length:=by
  unfold lowQ;rw [List.countP_append,List.countP_eq_length.2 (fun a ha=>by rw [Ky.lt_cl2];exact hA a ha),List.countP_eq_zero.2 (fun b hb=>by rw [Ky.lt_cl2,hB b hb];exact Bool.false_ne_true)];rfl
 rw [hl] at h1 h2;cases B with
 |nil=>simp at h1
 |cons b B=>
  have hb:atK (A++b::B) A.length=b:=by unfold atK;rw [List.getD_eq_getElem?_getD,List.getElem?_append_right (Nat.le_refl _)];simp
  rw [hb,Ky.cl_cl] at h2;have hbc:b.cl=b:=hs.2 b (by simp)
  rw [hbc] at h2;subst h2;rw [put_split hA hB]
  congr 1
  rw [List.filter_cons_of_neg (by simp)]
  congr 1
  refine filt_ne (k:=k.cl) fun c hc e=> ?_
  have hp:=(List.pairwise_append.1 hs.1).2.1
  have:=(List.pairwise_cons.1 hp).1 c hc
  rw [e,Ky.lt_irrefl] at this;cases this
theorem put_new {L:List Ky} {k:Ky} (hs:SK L) (h:foundQ L k.cl=false):(putK L k).length=L.length+1/\ lowQ L k.cl<=L.length/\ ∀q,q<L.length+1->insF (rwK L) (lowQ L k.cl) (kyC k.cl) q=rwK (putK L k) q:=by
 obtain ⟨A,B,rfl,hA,hB⟩:=sk_split hs k
 have hl:lowQ (A++B) k.cl=A.length:=by
  unfold lowQ;rw [List.countP_append,List.countP_eq_length.2 (fun a ha=>by rw [Ky.lt_cl2];exact hA a ha),List.countP_eq_zero.2 (fun b hb=>by rw [Ky.lt_cl2,hB b hb];exact Bool.false_ne_true)];rfl
 have hne: ∀b,b∈B->b≠k.cl:=by
  intro b hb e;subst e;have hlt: ∀c,c∈B->c≠k.cl->True:=fun _ _ _=>trivial
  cases B with
  |nil=>cases hb
  |cons c B=>
   have hcb:atK (A++c::B) A.length=c:=by unfold atK;rw [List.getD_eq_getElem?_getD,List.getElem?_append_right (Nat.le_refl _)];simp
   have hcc:c.cl=c:=hs.2 c (by simp)
   have hc:c=k.cl:=by
    rcases List.mem_cons.1 hb with h|h
    . exact h.symm
    . have hp:=(List.pairwise_append.1 hs.1).2.1
      have h3:=(List.pairwise_cons.1 hp).1 _ h
      rw [Ky.lt_cl2,hB c (by simp)] at h3;cases h3
   unfold foundQ at h;rw [hl,hcb,hcc,Ky.cl_cl,hc] at h;simp at h
 have hp:putK (A++B) k=A++k.cl::B:=by rw [put_split hA hB,filt_ne hne]
 refine ⟨by rw [hp];simp;omega,by rw [hl];simp,fun q hq=> ?_⟩
 rw [hl,hp];unfold insF;show _=kyC (atK (A++k.cl::B) q)
 split
 . rename_i h1
   show kyC (atK (A++B) q)=_
   unfold atK;rw [List.getD_eq_getElem?_getD,List.getElem?_append_left h1,List.getD_eq_getElem?_getD,List.getElem?_append_left h1]
 . split
   . rename_i h1 h2
     subst h2;unfold atK;rw [List.getD_eq_getElem?_getD,List.getElem?_append_right (Nat.le_refl _)];simp
   . rename_i h1 h2
     show kyC (atK (A++B) (q-1))=_
     unfold atK;rw [List.getD_eq_getElem?_getD,List.getElem?_append_right (by omega),List.getD_eq_getElem?_getD,List.getElem?_append_right (by omega)];obtain ⟨d,hd⟩: ∃d,q-A.length=d+1:=⟨q-A.length-1,by omega⟩
     rw [hd,show q-1-A.length=d by omega];rfl
end Go.Proofs.YtkfjfgabianfhaaGreat
namespace Go.Proofs.YtkfjfgabianfhaaGreat
open Go.Sx
open Go.RowKit Go.Lib Go.Sort
def kTm (k:Ky):Tm:= .va (.agg [.d (st k.name),.d (it k.node)])
def kEs (LL:List (List Ky)):List Tm:=LL.flatten.map fun k=>kTm k.cl
theorem kEs_at {LL:List (List Ky)} {i:Nat} {e:Tm} (h:(kEs LL)[i]? =some e): ∃k,LL.flatten[i]? =some k/\ e=kTm k.cl:=by
 unfold kEs at h;rw [List.getElem?_map] at h;obtain ⟨k,h1,h2⟩:=Option.map_eq_some_iff.1 h
 exact ⟨k,h1,h2.symm⟩
theorem kEs_rep {P:Program} {LL:List (List Ky)} (i:Nat) (e:Tm) (v:Value) (h:(kEs LL)[i]? =some e) (hv:(kAll LL)[i]? =some v) (ψ:Psi) (S:Nat->Prop) (w:World):RepT P ψ S w e v:=by
 obtain ⟨k,h1,rfl⟩:=kEs_at h
 unfold kAll at hv;rw [List.getElem?_map,h1] at hv;cases hv;exact ⟨_,rfl,⟨.v trivial,trivial⟩,⟨.v trivial,trivial⟩,trivial⟩
theorem rowT_step {l:List Ky} {i:Nat} {k:Ky} (h:l[i]? =some k):rowK (l.take (i+1))=putK (rowK (l.take i)) k:=by
 obtain ⟨hlt,he⟩:=List.getElem?_eq_some_iff.1 h
 rw [List.take_succ_eq_append_getElem hlt,rowK_snoc,he]
theorem lsts1 {L:List Ky} {F:Nat->List DV} (h0:F 0= [lstK L]) (hn:L.length<=1000000000) (hO: ∀x,x∈L->rI x.node):Lsts 1 F [L]:=
 ⟨rfl,fun i hi=>by
  obtain rfl:i=0:=by omega
  exact ⟨_,h0,fun j _=>rfl,hn⟩,fun x hx=>hO x (by simpa using hx)⟩
def FRowK:List Ar->Option Rs
 | [.c (.d (.lst 2 n0 f0))]=>some ⟨(n0<=1000000000/\ RowsK n0 f0),.va (.c (.ow 2 (rowK (gKs n0 f0)).length (rwK (rowK (gKs n0 f0))))),[]⟩
 |_=>none
theorem fcRowK:FC Tryz.prog 29 FRowK:=by
 intro xs pre r us h hp;unfold FRowK at h;split at h
 . rename_i n0 f0
   cases h;have hp0:=hp
   refine FCat.deep (ys:= [.c (.d (.lst 2 n0 (rwK (gKs n0 f0))))]) ?_ ?_
   . repeat' (first|exact trivial|exact rfl|exact DvE.refl _|refine ⟨?_, ?_⟩|fail)
     all_goals first|exact canonK hp0.2.h
   refine fcat tys_ok (l:= [(53,⟨[true],FBSearchK⟩),(54,⟨[true,false,true],FInsertK⟩),(38,⟨[],FKyCmp⟩)]) ⟨fcBSearchK,fcInsertK,fcKyCmp,trivial⟩ Tryz.func29 rfl (by kernel_rfl) false ?_
   have hn:=hp0.1
   have hO:=rowsK_r hp0.2
   have hlen:=gKs_length n0 f0
   generalize gKs n0 f0=L at*
   clear hp0;subst hlen
   repeat' (first|exact trivial|refine ⟨?_, ?_⟩|intro _)
   all_goals first|(with_reducible apply qq)|(conv=>whnf)
   ((with_reducible show ACall _ _ _ _ _ _);refine inl tys_ok (l:= [(53,⟨[true],FBSearchK⟩),(54,⟨[true,false,true],FInsertK⟩),(38,⟨[],FKyCmp⟩)]) ⟨fcBSearchK,fcInsertK,fcKyCmp,trivial⟩ Tryz.func32 rfl (by kernel_rfl) (by kernel_rfl) rfl ?_)
   repeat' (first|exact trivial|refine ⟨?_, ?_⟩|intro _)
   all_goals first|(with_reducible apply qq)|(conv=>whnf)
   refine acall_fr ?_
   repeat' (first|exact trivial|refine ⟨?_, ?_⟩|intro _)
   all_goals first|(with_reducible apply qq)|(conv=>whnf)
   all_goals first|omega|skip
   refine acall_of_msat tys_ok Tryz.func31 rfl (by kernel_rfl) rfl ?_
   refine MSat.seqA tys_ok (L:= [(53,⟨[true],FBSearchK⟩),(54,⟨[true,false,true],FInsertK⟩),(38,⟨[],FKyCmp⟩)]) ⟨fcBSearchK,fcInsertK,fcKyCmp,trivial⟩ (by kernel_rfl) (by kernel_rfl) ?_
   repeat' (first|exact trivial|refine ⟨?_, ?_⟩|intro _)
   all_goals first|(with_reducible apply qq)|(conv=>whnf)
   refine MSat.seqA tys_ok (L:= [(53,⟨[true],FBSearchK⟩),(54,⟨[true,false,true],FInsertK⟩),(38,⟨[],FKyCmp⟩)]) ⟨fcBSearchK,fcInsertK,fcKyCmp,trivial⟩ (by kernel_rfl) (by kernel_rfl) ?_
   repeat' (first|exact trivial|refine ⟨?_, ?_⟩|intro _)
   all_goals first|(with_reducible apply qq)|(conv=>whnf)
   refine MSat.seqB tys_ok (L:= [(53,⟨[true],FBSearchK⟩),(54,⟨[true,false,true],FInsertK⟩),(38,⟨[],FKyCmp⟩)]) ⟨fcBSearchK,fcInsertK,fcKyCmp,trivial⟩ (by kernel_rfl) (by kernel_rfl) ?_
   refine MSat.seqA tys_ok (L:= [(53,⟨[true],FBSearchK⟩),(54,⟨[true,false,true],FInsertK⟩),(38,⟨[],FKyCmp⟩)]) ⟨fcBSearchK,fcInsertK,fcKyCmp,trivial⟩ (by kernel_rfl) (by kernel_rfl) ?_
   repeat' (first|exact trivial|refine ⟨?_, ?_⟩|intro _)
   all_goals first|(with_reducible apply qq)|(conv=>whnf)
   refine MSat.block ?_
   have hLs:=lsts1 (F:=fun i=>Sx.rowAt 1 [DV.lst 2 L.length (rwK L)] (0+i)) rfl hn hO
   refine MSat.le [0,1,2] 1 ?_ (MSat.range tys_ok (L:= [(53,⟨[true],FBSearchK⟩),(54,⟨[true,false,true],FInsertK⟩),(38,⟨[],FKyCmp⟩)]) ⟨fcBSearchK,fcInsertK,fcKyCmp,trivial⟩ (by kernel_rfl) 3 (ts:= [(7,.va (.c (.fn 55 [(1,0)]))),(3,.va (.c (.own 2 0)))]) (n:=4) (m:=23) rfl (callable_of Tryz.func55 rfl rfl) (by kernel_rfl) (by kernel_rfl) rfl (kAll [L]) (kEs [L]) kEs_rep (by unfold kEs kAll;rw [List.length_map,List.length_map])
    (fun i=> [(2,.cells [.osl 3 2 0 (rowK ([L].flatten.take i)).length]),(3,.row 2 (rowK ([L].flatten.take i)).length (rwK (rowK ([L].flatten.take i)))),(1,.fz [.lst 1 1 fun i=>Sx.rowAt 1 [DV.lst 2 L.length (rwK L)] (0+i)])]) (fun _=>4) rfl rfl ?_ (by decide) (by decide)
    (fun ψ S w a hr W lb hx hlb=>by obtain ⟨p,rfl,h1,h2⟩:=seq_rel rfl rfl hr hx hlb;exact chain_seq hLs (by decide) h1 h2) ?_)
   . repeat' (first|exact trivial|exact rfl|(intro _ h;exact absurd h (Nat.not_lt_zero _))|(intro _ _;exact rfl)|refine ⟨?_, ?_⟩|fail)
     all_goals decide
   . intro i e he;obtain ⟨k,hk,rfl⟩:=kEs_at he
     have hst:=rowT_step hk
     have hsk:=rowK_sk ([L].flatten.take i)
     have hle:=rowK_len ([L].flatten.take i)
     have hrg: ∀x,x∈rowK ([L].flatten.take i)->rI x.node:=rowK_rng (fun x hx=>hO x (by simpa using List.mem_of_mem_take hx))
     have hkr:rI k.node:=hO k (by have:=List.mem_of_getElem? hk;simpa using this)
     have hil:i<L.length:=by have:=(List.getElem?_eq_some_iff.1 hk).1;simpa using this
     have hkc:=Ky.cl_r hkr
     unfold rI at hkr hkc;rw [List.length_take] at hle;rw [hst]
     generalize rowK (List.take i [L].flatten)=O at*
     have hRK:RowsK O.length (rwK O):=rowsK_of hrg
     have hO9:O.length<=1000000000:=by omega
     have hgs:=gKs_row O
     have hs1:=hsk.1
     have hs2:=hsk.2
     cases hfd:foundQ O k.cl with
     |true=>
      rw [put_found hsk hfd];refine ⟨[0,1,2,3],0, ?_⟩
      repeat' (first|exact trivial|refine ⟨?_, ?_⟩|intro _)
      all_goals first|(with_reducible apply qq)|(conv=>whnf)
      all_goals (try simp only [hgs])
      all_goals first|(exact absurd ‹(!foundQ _ _)=true› (by rw [hgs];show¬(!foundQ O k.cl)=true;rw [hfd];decide))|decide|(show mkFv _ _ _=mkFv _ _ _;unfold mkFv;rfl)|(with_reducible first|assumption|exact hkc.1|exact hkc.2)|(exact hs2 _ (by have h:=‹_∈gKs _ _›;rw [hgs] at h;exact h))|(with_reducible exact hRK)|omega|(with_reducible rfl)|skip
      all_goals trace_state
     |false=>
      obtain ⟨h1,h2,h3⟩:=put_new hsk hfd
      generalize putK O k=O2 at*
      refine ⟨[0,1,2,6],0, ?_⟩
      repeat' (first|exact trivial|refine ⟨?_, ?_⟩|intro _)
      all_goals first|(with_reducible apply qq)|(conv=>whnf)
      all_goals (try simp only [hgs])
      all_goals first|(exact absurd ‹(!foundQ _ _)=false› (by rw [hgs];show¬(!foundQ O k.cl)=false;rw [hfd];decide))|decide|(have h2':lowQ O ⟨k.cl.name,k.cl.node⟩<=O.length:=h2;omega)|(exact h3 _ (by omega))|(show mkFv _ _ _=mkFv _ _ _;unfold mkFv;rfl)|(with_reducible first|assumption|exact hkc.1|exact hkc.2)|(exact hs2 _ (by have h:=‹_∈gKs _ _›;rw [hgs] at h;exact h))|(with_reducible exact hRK)|omega|(with_reducible rfl)|skip
      all_goals trace_state
   . repeat' (first|exact trivial|refine ⟨?_, ?_⟩|intro _)
     all_goals first|(with_reducible apply qq)|(conv=>whnf)
     all_goals rw [show List.take (kAll [L]).length [L].flatten=L by simp [kAll]]
     all_goals first|exact Nat.le_refl _|rfl
 . cases h
end Go.Proofs.YtkfjfgabianfhaaGreat
namespace Go.Proofs.YtkfjfgabianfhaaGreat
open Go.Sx
open Go.RowKit Go.Lib Go.Sort
theorem lsts2 {A B:List Ky} {F:Nat->List DV} {fa fb:Nat->List DV} (h0:F 0= [.lst 2 A.length fa]) (h1:F 1= [.lst 2 B.length fb]) (ha: ∀j,j<A.length->fa j=kyC (atK A j)) (hb: ∀j,j<B.length->fb j=kyC (atK B j)) (hn:A.length<=1000000000) (hm:B.length<=1000000000) (hO: ∀x,x∈A++B->rI x.node):Lsts 2 F [A,B]:=
 ⟨rfl,fun i hi=>by
  have hi2:i=0 \/i=1:=by omega
  rcases hi2 with rfl|rfl
  . exact ⟨fa,h0,ha,hn⟩
  . exact ⟨fb,h1,hb,hm⟩,fun x hx=>hO x (by simpa using hx)⟩
def FPutK:List Ar->Option Rs
 | [.c (.d (.lst 2 n0 f0)),.agg [.d (.v (.string x1)),.d (.v (.int .i64 i1))]]=>some ⟨(n0<=1000000000/\ RowsK n0 f0)/\ (rI i1)/\ (n0+1<=1000000000),.va (.c (.ow 2 (rowK ((gKs n0 f0)++ [(⟨x1,i1⟩:Ky)])).length (rwK (rowK ((gKs n0 f0)++ [(⟨x1,i1⟩:Ky)]))))),[]⟩
 |_=>none
theorem fcPutK:FC Tryz.prog 13 FPutK:=by
 intro xs pre r us h hp;unfold FPutK at h;split at h
 . rename_i n0 f0 x1 i1
   cases h;obtain ⟨hp0,hp1,hp2⟩:=hp
   refine FCat.deep (ys:= [.c (.d (.lst 2 n0 (rwK (gKs n0 f0)))),.agg [.d (.v (.string x1)),.d (.v (.int .i64 i1))]]) ?_ ?_
   . repeat' (first|exact trivial|exact rfl|exact DvE.refl _|refine ⟨?_, ?_⟩|fail)
     all_goals first|exact canonK hp0.2.h|exact canonK hp1.2.h
   refine fcat tys_ok (l:= [(53,⟨[true],FBSearchK⟩),(54,⟨[true,false,true],FInsertK⟩),(38,⟨[],FKyCmp⟩)]) ⟨fcBSearchK,fcInsertK,fcKyCmp,trivial⟩ Tryz.func13 rfl (by kernel_rfl) false ?_
   have hn:=hp0.1
   have hO:=rowsK_r hp0.2
   have hlen:=gKs_length n0 f0
   generalize gKs n0 f0=L at*
   clear hp0;subst hlen
   repeat' (first|exact trivial|refine ⟨?_, ?_⟩|intro _)
   all_goals first|(with_reducible apply qq)|(conv=>whnf)
   ((with_reducible show ACall _ _ _ _ _ _);refine inl tys_ok (l:= [(53,⟨[true],FBSearchK⟩),(54,⟨[true,false,true],FInsertK⟩),(38,⟨[],FKyCmp⟩)]) ⟨fcBSearchK,fcInsertK,fcKyCmp,trivial⟩ Tryz.func32 rfl (by kernel_rfl) (by kernel_rfl) rfl ?_)
   repeat' (first|exact trivial|refine ⟨?_, ?_⟩|intro _)
   all_goals first|(with_reducible apply qq)|(conv=>whnf)
   refine acall_fr ?_
   repeat' (first|exact trivial|refine ⟨?_, ?_⟩|intro _)
   all_goals first|(with_reducible apply qq)|(conv=>whnf)
   all_goals first|omega|skip
   refine acall_of_msat tys_ok Tryz.func31 rfl (by kernel_rfl) rfl ?_
   refine MSat.seqA tys_ok (L:= [(53,⟨[true],FBSearchK⟩),(54,⟨[true,false,true],FInsertK⟩),(38,⟨[],FKyCmp⟩)]) ⟨fcBSearchK,fcInsertK,fcKyCmp,trivial⟩ (by kernel_rfl) (by kernel_rfl) ?_
   repeat' (first|exact trivial|refine ⟨?_, ?_⟩|intro _)
   all_goals first|(with_reducible apply qq)|(conv=>whnf)
   refine MSat.seqA tys_ok (L:= [(53,⟨[true],FBSearchK⟩),(54,⟨[true,false,true],FInsertK⟩),(38,⟨[],FKyCmp⟩)]) ⟨fcBSearchK,fcInsertK,fcKyCmp,trivial⟩ (by kernel_rfl) (by kernel_rfl) ?_
   repeat' (first|exact trivial|refine ⟨?_, ?_⟩|intro _)
   all_goals first|(with_reducible apply qq)|(conv=>whnf)
   refine MSat.seqB tys_ok (L:= [(53,⟨[true],FBSearchK⟩),(54,⟨[true,false,true],FInsertK⟩),(38,⟨[],FKyCmp⟩)]) ⟨fcBSearchK,fcInsertK,fcKyCmp,trivial⟩ (by kernel_rfl) (by kernel_rfl) ?_
   refine MSat.seqA tys_ok (L:= [(53,⟨[true],FBSearchK⟩),(54,⟨[true,false,true],FInsertK⟩),(38,⟨[],FKyCmp⟩)]) ⟨fcBSearchK,fcInsertK,fcKyCmp,trivial⟩ (by kernel_rfl) (by kernel_rfl) ?_
   repeat' (first|exact trivial|refine ⟨?_, ?_⟩|intro _)
   all_goals first|(with_reducible apply qq)|(conv=>whnf)
   refine MSat.block ?_
   have hLs:Lsts 2 (fun i=>Sx.rowAt 1 [DV.lst 2 L.length (rwK L),DV.lst 2 1 fun i=>Sx.rowAt 2 [.v (.string x1),.v (.int .i64 i1)] (0+i)] (0+i)) [L,[⟨x1,i1⟩]]:=lsts2 (fa:=rwK L) (fb:=fun i=>Sx.rowAt 2 [.v (.string x1),.v (.int .i64 i1)] (0+i)) rfl rfl (fun j _=>rfl) (fun j hj=>by obtain rfl:j=0:=(by simpa using hj);rfl) hn (by simp) (fun x hx=>by rcases List.mem_append.1 hx with h|h;exact hO x h;rw [List.mem_singleton.1 h];exact hp1)
   refine MSat.le [0,1,2,3,4] 1 ?_ (MSat.range tys_ok (L:= [(53,⟨[true],FBSearchK⟩),(54,⟨[true,false,true],FInsertK⟩),(38,⟨[],FKyCmp⟩)]) ⟨fcBSearchK,fcInsertK,fcKyCmp,trivial⟩ (by kernel_rfl) 5 (ts:= [(7,.va (.c (.fn 55 [(3,0)]))),(3,.va (.c (.own 4 0)))]) (n:=6) (m:=23) rfl (callable_of Tryz.func55 rfl rfl) (by kernel_rfl) (by kernel_rfl) rfl (kAll [L,[⟨x1,i1⟩]]) (kEs [L,[⟨x1,i1⟩]]) kEs_rep (by unfold kEs kAll;rw [List.length_map,List.length_map])
    (fun i=> [(4,.cells [.osl 5 2 0 (rowK ([L,[⟨x1,i1⟩]].flatten.take i)).length]),(5,.row 2 (rowK ([L,[⟨x1,i1⟩]].flatten.take i)).length (rwK (rowK ([L,[⟨x1,i1⟩]].flatten.take i)))),(3,.fz [.lst 1 2 (fun i=>Sx.rowAt 1 [DV.lst 2 L.length (rwK L),DV.lst 2 1 fun i=>Sx.rowAt 2 [.v (.string x1),.v (.int .i64 i1)] (0+i)] (0+i))])]) (fun _=>6) rfl rfl ?_ (by decide) (by decide)
    (fun ψ S w a hr W lb hx hlb=>by obtain ⟨p,rfl,h1,h2⟩:=seq_rel rfl rfl hr hx hlb;exact chain_seq hLs (by decide) h1 h2) ?_)
   . repeat' (first|exact trivial|exact rfl|(intro _ h;exact absurd h (Nat.not_lt_zero _))|(intro _ _;exact rfl)|refine ⟨?_, ?_⟩|fail)
     all_goals decide
   . intro i e he;obtain ⟨k,hk,rfl⟩:=kEs_at he
     have hst:=rowT_step hk
     have hsk:=rowK_sk ([L,[⟨x1,i1⟩]].flatten.take i)
     have hle:=rowK_len ([L,[⟨x1,i1⟩]].flatten.take i)
     have hrg: ∀x,x∈rowK ([L,[⟨x1,i1⟩]].flatten.take i)->rI x.node:=rowK_rng (fun x hx=>hLs.rng x (List.mem_of_mem_take hx))
     have hkr:rI k.node:=hLs.rng k (List.mem_of_getElem? hk)
     have hil:i< [L,[⟨x1,i1⟩]].flatten.length:=(List.getElem?_eq_some_iff.1 hk).1
     have hfl: [L,[⟨x1,i1⟩]].flatten.length=L.length+1:=by simp
     have hkc:=Ky.cl_r hkr
     unfold rI at hkr hkc;rw [List.length_take] at hle;rw [hst]
     generalize rowK (List.take i [L,[⟨x1,i1⟩]].flatten)=O at*
     have hRK:RowsK O.length (rwK O):=rowsK_of hrg
     have hO9:O.length<=1000000000:=by omega
     have hgs:=gKs_row O
     have hs1:=hsk.1
     have hs2:=hsk.2
     cases hfd:foundQ O k.cl with
     |true=>
      rw [put_found hsk hfd];refine ⟨[0,1,2,3,4,5],0, ?_⟩
      repeat' (first|exact trivial|refine ⟨?_, ?_⟩|intro _)
      all_goals first|(with_reducible apply qq)|(conv=>whnf)
      all_goals (try simp only [hgs])
      all_goals first|(exact absurd ‹(!foundQ _ _)=true› (by rw [hgs];show¬(!foundQ O k.cl)=true;rw [hfd];decide))|decide|(show mkFv _ _ _=mkFv _ _ _;unfold mkFv;rfl)|(with_reducible first|assumption|exact hkc.1|exact hkc.2)|(exact hs2 _ (by have h:=‹_∈gKs _ _›;rw [hgs] at h;exact h))|(with_reducible exact hRK)|omega|(with_reducible rfl)|skip
      all_goals trace_state
     |false=>
      obtain ⟨h1,h2,h3⟩:=put_new hsk hfd
      generalize putK O k=O2 at*
      refine ⟨[0,1,2,3,4,8],0, ?_⟩
      repeat' (first|exact trivial|refine ⟨?_, ?_⟩|intro _)
      all_goals first|(with_reducible apply qq)|(conv=>whnf)
      all_goals (try simp only [hgs])
      all_goals first|(exact absurd ‹(!foundQ _ _)=false› (by rw [hgs];show¬(!foundQ O k.cl)=false;rw [hfd];decide))|decide|(have h2':lowQ O ⟨k.cl.name,k.cl.node⟩<=O.length:=h2;omega)|(exact h3 _ (by omega))|(show mkFv _ _ _=mkFv _ _ _;unfold mkFv;rfl)|(with_reducible first|assumption|exact hkc.1|exact hkc.2)|(exact hs2 _ (by have h:=‹_∈gKs _ _›;rw [hgs] at h;exact h))|(with_reducible exact hRK)|omega|(with_reducible rfl)|skip
      all_goals trace_state
   . repeat' (first|exact trivial|refine ⟨?_, ?_⟩|intro _)
     all_goals first|(with_reducible apply qq)|(conv=>whnf)
     all_goals rw [show List.take (kAll [L,[⟨x1,i1⟩]]).length [L,[⟨x1,i1⟩]].flatten=L++ [⟨x1,i1⟩] from (List.take_of_length_le (by unfold kAll;rw [List.length_map];exact Nat.le_refl _)).trans (by simp)]
     all_goals first|exact Nat.le_refl _|rfl
 . cases h
end Go.Proofs.YtkfjfgabianfhaaGreat
namespace Go.Proofs.YtkfjfgabianfhaaGreat
open Go.Sx
def gLn:List DV->Nat
 | [.lst _ n _]=>n
 |_=>0
def gLf:List DV->Nat->List DV
 | [.lst _ _ f]=>f
 |_=>fun _=> []
abbrev cLL (l:List DV):List DV:= [.lst 1 (gLn l) fun j=> [st (gT (gLf l j))]]
def rLL (l:List DV):Prop:=l=cLL l
def gLL (l:List DV):List ByteArray:=gN (gLn l) (gLf l)
def catL (f:Nat->List DV):Nat->List ByteArray
 |0=> []
 |1=>gLL (f 0)
 |_=>gLL (f 0)++gLL (f 1)
def rowN:Blk->Nat
 | .row _ n _=>n
 | .fzr _ n _=>n
 |_=>0
theorem canonY {f:Nat->List DV} {p:Prop} (h:(rLL (f 0)/\ rLL (f 1))/\ p) (i:Nat) (hi:i<2):f i=cLL (f i):=by
 have hc:i=0 \/i=1:=by omega
 rcases hc with rfl|rfl
 . exact h.1.1
 . exact h.1.2
theorem catL_len (f:Nat->List DV):(catL f 0).length=0/\ (catL f 1).length=gLn (f 0)/\ (catL f 2).length=gLn (f 0)+gLn (f 1):=by simp [catL,gLL,gN_length]
theorem appRow_cat {l:List ByteArray} {m len:Nat} (hl:l.length=len) {F g:Nat->List DV} (hF: ∀j,j<len->F j= [st (atS l j)]) (hg: ∀j,j<m->g j= [st (gT (g j))]) (i:Nat) (hi:i<len+m):appRow len F g i= [st (atS (l++gN m g) i)]:=by
 unfold appRow;by_cases h:i<len
 . rw [if_pos h,hF i h];simp [atS,List.getD_eq_getElem?_getD,List.getElem?_append_left (show i<l.length by omega)]
 . rw [if_neg h,hg _ (by omega)];have h2:i-len<m:=by omega
   have h3:(gN m g)[i-len]? =some (gT (g (i-len))):=by simp [gN,h2]
   simp only [atS,List.getD_eq_getElem?_getD,List.getElem?_append_right (show l.length<=i by omega),hl,h3,Option.getD_some]
theorem cat_step {f0:Nat->List DV} {f:Nat->List DV} {i:Nat} (hi:i<2) (k3: ∀j,j<(catL f0 i).length->f j= [st (atS (catL f0 i) j)]) (j:Nat) (hj:j<(catL f0 (i+1)).length):
 appRow (catL f0 i).length f (fun j=> [st (gT (gLf (f0 i) j))]) j= [st (atS (catL f0 (i+1)) j)]:=by
 have hc:i=0 \/i=1:=by omega
 rcases hc with rfl|rfl
 . exact appRow_cat (l:=catL f0 0) rfl k3 (fun _ _=>rfl) j (by simpa [catL,gLL,gN_length] using hj)
 . exact appRow_cat (l:=catL f0 1) rfl k3 (fun _ _=>rfl) j (by simpa [catL,gLL,gN_length] using hj)
def FNConcat:List Ar->Option Rs
 | [.c (.d (.lst 1 2 f0))]=>some ⟨((rLL (f0 0)/\ rLL (f0 1))/\ ((gLn (f0 0))+(gLn (f0 1)))*16<=140737488351232),.va (.c (.d (lst (catL f0 2)))),[]⟩
 |_=>none
theorem fcNConcat:FC Tryz.prog 99 FNConcat:=by
 intro xs pre r us h hp;unfold FNConcat at h;split at h
 . rename_i f0
   cases h;have hp0:=hp
   refine FCat.of_eq (as':= [.c (.d (.lst 1 2 fun i=>cLL (f0 i)))]) ?_ rfl rfl ?_
   . repeat' (first|exact trivial|exact rfl|refine ⟨?_, ?_⟩|fail)
     all_goals first|(intro i hi;exact canonY hp0 i hi)|exact hp0.2|exact hp1.2|exact hp2.2|(intro i hi;exact (hp0.2 i hi).1)|(intro i hi;exact (hp1.2 i hi).1)|(intro i hi;exact (hp2.2 i hi).1)|grind
   refine fcat tys_ok (l:= []) trivial Tryz.func99 rfl (by kernel_rfl) true ?_
   have hl:=catL_len f0
   have h16:=hp0.2
   repeat' (first|exact trivial|refine ⟨?_, ?_⟩|intro _)
   all_goals first|(with_reducible apply qq)|(conv=>whnf)
   refine loop_ok tys_ok (l:= []) trivial (by kernel_rfl) (X:=Nat)
    (fun x=>⟨[(11,vx (.int .i64 x)),(10,vx (.int .i64 2)),(9,.va (.c (.d (.lst 1 2 fun i=>cLL (f0 i))))),(0,.va (.c (.d (.lst 1 2 fun i=>cLL (f0 i))))),(3,vx (.int .i64 ((catL f0 x).length:Int)))],[],0,36⟩)
    (fun x=>2-x) (fun x=>x<=2) [] [] (fun x _ _=>x+1) [] [] 0 0 0 (Nat.zero_le _) ?_ ?_
   . repeat' (first|exact trivial|exact rfl|(intro _ h;exact absurd h (Nat.not_lt_zero _))|(intro _ _;exact rfl)|refine ⟨?_, ?_⟩|fail)
   . intro i k1;have hc:i=0 \/i=1 \/i=2:=by omega
     rcases hc with rfl|rfl|rfl
     . repeat' (first|exact trivial|refine ⟨?_, ?_⟩|intro _)
       all_goals first|(with_reducible apply qq)|(conv=>whnf)
       all_goals (try simp only [Int.toNat_natCast,hl.1,hl.2.1,hl.2.2,decide_eq_true_eq,decide_eq_false_iff_not] at*)
       all_goals first|omega|((with_reducible show idsOk _ _=true);rfl)|(exact absurd ‹decide _=false› (by decide))|rfl|(rw [wI_id _ (by omega) (by omega)] at*;omega)|(rw [wI_id _ (by omega) (by omega)];first|rfl|(congr 1;omega))
     . repeat' (first|exact trivial|refine ⟨?_, ?_⟩|intro _)
       all_goals first|(with_reducible apply qq)|(conv=>whnf)
       all_goals (try simp only [Int.toNat_natCast,hl.1,hl.2.1,hl.2.2,decide_eq_true_eq,decide_eq_false_iff_not] at*)
       all_goals first|omega|((with_reducible show idsOk _ _=true);rfl)|(exact absurd ‹decide _=false› (by decide))|rfl|(rw [wI_id _ (by omega) (by omega)] at*;omega)|(rw [wI_id _ (by omega) (by omega)];first|rfl|(congr 1;omega))
     . repeat' (first|exact trivial|refine ⟨?_, ?_⟩|intro _)
       all_goals first|(with_reducible apply qq)|(conv=>whnf)
       all_goals first|(exact absurd ‹decide _=true› (by decide))|skip
       all_goals first|((with_reducible show ACall _ _ _ _ _ _);refine inl tys_ok (l:= []) trivial Tryz.func117 rfl (by kernel_rfl) (by kernel_rfl) rfl ?_;(conv=>whnf))|skip
       all_goals repeat' (first|exact trivial|refine ⟨?_, ?_⟩|intro _)
       all_goals first|(with_reducible apply qq)|(conv=>whnf)
       all_goals first|(exact absurd ‹decide _=false› (by decide))|((with_reducible show ASat _ _ _ _ _);skip)|skip
       all_goals (have hw:IntKind.wrap .i64 (((catL f0 2).length:Int)-IntKind.wrap .i64 (((0:Nat):Int)-((0:Nat):Int)))=((gLn (f0 0)+gLn (f0 1):Nat):Int):=by rw [hl.2.2];simp only [Int.sub_self];rw [wI_id 0 (by omega) (by omega),wI_id _ (by omega) (by omega)];omega)
       all_goals first|omega|(rw [hw];omega)|(exfalso;rw [hl.2.2] at*;simp only [decide_eq_true_eq] at*;omega)|skip
       . refine loop_ok tys_ok (l:= []) trivial (by kernel_rfl) (X:=Nat×Nat×(Nat->List DV))
          (fun x=>⟨[(27,vx (.int .i64 x.1)),(26,vx (.int .i64 2)),(25,.va (.c (.d (.lst 1 2 fun i=>cLL (f0 i))))),(6,.va (.c (.osl 0 1 0 (catL f0 x.1).length)))],[(0,.row 1 x.2.1 x.2.2)],1,36⟩)
          (fun x=>2-x.1) (fun x=>x.1<=2/\ (catL f0 x.1).length<=x.2.1/\ ∀j,j<(catL f0 x.1).length->x.2.2 j= [st (atS (catL f0 x.1) j)]) [] [1] (fun x _ bs=>match bs with| [b]=>(x.1+1,rowN b,rowB b)|_=>x) [1] [0] 0 0 (0,gLn (f0 0)+gLn (f0 1),fun _=> [st ByteArray.empty]) ?_ ?_ ?_
         . exact ⟨Nat.zero_le _,by simp [catL],fun j hj=>absurd hj (by simp [catL])⟩
         . repeat' (first|exact trivial|exact rfl|(intro _ h;exact absurd h (Nat.not_lt_zero _))|(intro _ _;exact rfl)|refine ⟨?_, ?_⟩|fail)
           all_goals first|(rw [hw];rfl)|(simp;done)
         . rintro ⟨i,n,f⟩ ⟨k1,k2,k3⟩
           dsimp only at k1 k2 k3
           have hs:=fun h=>cat_step (f0:=f0) (f:=f) (i:=i) h k3
           have hc:i=0 \/i=1 \/i=2:=by omega
           rcases hc with rfl|rfl|rfl
           . repeat' (first|exact trivial|refine ⟨?_, ?_⟩|intro _)
             all_goals first|(with_reducible apply qq)|(conv=>whnf)
             all_goals (try dsimp only [rowN,rowB] at*)
             all_goals (try simp only [Int.toNat_natCast,Nat.zero_add,Nat.reduceAdd,decide_eq_true_eq,decide_eq_false_iff_not] at*)
             all_goals first|omega|((with_reducible show idsOk _ _=true);rfl)|rfl|(exact hs (by decide) _ ‹_›)|(rw [wI_id _ (by omega) (by omega)];first|rfl|(congr 1;omega))|(exact k3 _ ‹_›)
           . repeat' (first|exact trivial|refine ⟨?_, ?_⟩|intro _)
             all_goals first|(with_reducible apply qq)|(conv=>whnf)
             all_goals (try dsimp only [rowN,rowB] at*)
             all_goals (try simp only [Int.toNat_natCast,Nat.zero_add,Nat.reduceAdd,decide_eq_true_eq,decide_eq_false_iff_not] at*)
             all_goals first|omega|((with_reducible show idsOk _ _=true);rfl)|rfl|(exact hs (by decide) _ ‹_›)|(rw [wI_id _ (by omega) (by omega)];first|rfl|(congr 1;omega))|(exact k3 _ ‹_›)
           . repeat' (first|exact trivial|refine ⟨?_, ?_⟩|intro _)
             all_goals first|(with_reducible apply qq)|(conv=>whnf)
             all_goals (try dsimp only [rowN,rowB] at*)
             all_goals (try simp only [Int.toNat_natCast,Nat.zero_add,Nat.reduceAdd,decide_eq_true_eq,decide_eq_false_iff_not] at*)
             all_goals first|omega|((with_reducible show idsOk _ _=true);rfl)|rfl|(exact hs (by decide) _ ‹_›)|(rw [wI_id _ (by omega) (by omega)];first|rfl|(congr 1;omega))|(exact k3 _ ‹_›)
       . refine loop_ok tys_ok (l:= []) trivial (by kernel_rfl) (X:=Nat×Nat×(Nat->List DV))
          (fun x=>⟨[(27,vx (.int .i64 x.1)),(26,vx (.int .i64 2)),(25,.va (.c (.d (.lst 1 2 fun i=>cLL (f0 i))))),(6,.va (.c (.osl 0 1 0 (catL f0 x.1).length)))],[(0,.row 1 x.2.1 x.2.2)],1,36⟩)
          (fun x=>2-x.1) (fun x=>x.1<=2/\ (catL f0 x.1).length<=x.2.1/\ ∀j,j<(catL f0 x.1).length->x.2.2 j= [st (atS (catL f0 x.1) j)]) [] [1] (fun x _ bs=>match bs with| [b]=>(x.1+1,rowN b,rowB b)|_=>x) [1] [] 0 1 (0,0,fun _=> []) ?_ ?_ ?_
         . exact ⟨Nat.zero_le _,by simp [catL],fun j hj=>absurd hj (by simp [catL])⟩
         . repeat' (first|exact trivial|exact rfl|(intro _ h;exact absurd h (Nat.not_lt_zero _))|(intro _ _;exact rfl)|refine ⟨?_, ?_⟩|fail)
           all_goals first|(rw [hw];rfl)|(simp;done)
         . rintro ⟨i,n,f⟩ ⟨k1,k2,k3⟩
           dsimp only at k1 k2 k3
           have hs:=fun h=>cat_step (f0:=f0) (f:=f) (i:=i) h k3
           have hc:i=0 \/i=1 \/i=2:=by omega
           rcases hc with rfl|rfl|rfl
           . repeat' (first|exact trivial|refine ⟨?_, ?_⟩|intro _)
             all_goals first|(with_reducible apply qq)|(conv=>whnf)
             all_goals (try dsimp only [rowN,rowB] at*)
             all_goals (try simp only [Int.toNat_natCast,Nat.zero_add,Nat.reduceAdd,decide_eq_true_eq,decide_eq_false_iff_not] at*)
             all_goals first|omega|((with_reducible show idsOk _ _=true);rfl)|rfl|(exact hs (by decide) _ ‹_›)|(rw [wI_id _ (by omega) (by omega)];first|rfl|(congr 1;omega))|(exact k3 _ ‹_›)
           . repeat' (first|exact trivial|refine ⟨?_, ?_⟩|intro _)
             all_goals first|(with_reducible apply qq)|(conv=>whnf)
             all_goals (try dsimp only [rowN,rowB] at*)
             all_goals (try simp only [Int.toNat_natCast,Nat.zero_add,Nat.reduceAdd,decide_eq_true_eq,decide_eq_false_iff_not] at*)
             all_goals first|omega|((with_reducible show idsOk _ _=true);rfl)|rfl|(exact hs (by decide) _ ‹_›)|(rw [wI_id _ (by omega) (by omega)];first|rfl|(congr 1;omega))|(exact k3 _ ‹_›)
           . repeat' (first|exact trivial|refine ⟨?_, ?_⟩|intro _)
             all_goals first|(with_reducible apply qq)|(conv=>whnf)
             all_goals (try dsimp only [rowN,rowB] at*)
             all_goals (try simp only [Int.toNat_natCast,Nat.zero_add,Nat.reduceAdd,decide_eq_true_eq,decide_eq_false_iff_not] at*)
             all_goals first|omega|((with_reducible show idsOk _ _=true);rfl)|rfl|(exact hs (by decide) _ ‹_›)|(rw [wI_id _ (by omega) (by omega)];first|rfl|(congr 1;omega))|(exact k3 _ ‹_›)
 . cases h
theorem none_key {b0:Bool} {n:Nat} {f:Nat->List DV} (h:(!b0)=true):Value.bool ((n:Int)==0)=Value.bool (!b0&&decide (gN n f= [])):=by
 rw [h,Bool.true_and];refine congrArg Value.bool (Bool.eq_iff_iff.2 ?_)
 rw [beq_iff_eq,decide_eq_true_eq, <-List.length_eq_zero_iff,gN_length];omega
def FNJoin:List Ar->Option Rs
 | [.agg [.d (.v (.bool b0)),.d (.lst 1 n0 f0)],.agg [.d (.v (.bool b1)),.d (.lst 1 n1 f1)]]=>some ⟨(n0*16<=140737488351232/\ ∀i,i<n0->f0 i= [st (gT (f0 i))])/\ (n1*16<=140737488351232/\ ∀i,i<n1->f1 i= [st (gT (f1 i))])/\ ((n0+n1)*16<=140737488351232),.va (Ns.ar (⟨b0||b1,ofS (gN n0 f0++gN n1 f1)⟩)),[]⟩
 |_=>none
theorem fcNJoin:FC Tryz.prog 67 FNJoin:=by
 intro xs pre r us h hp;unfold FNJoin at h;split at h
 . rename_i b0 n0 f0 b1 n1 f1
   cases h;obtain ⟨hp0,hp1,hp2⟩:=hp
   refine FCat.of_eq (as':= [.agg [.d (.v (.bool b0)),.d (.lst 1 n0 fun i=> [st (gT (f0 i))])],.agg [.d (.v (.bool b1)),.d (.lst 1 n1 fun i=> [st (gT (f1 i))])]]) ?_ rfl rfl ?_
   . repeat' (first|exact trivial|exact rfl|refine ⟨?_, ?_⟩|fail)
     all_goals first|exact hp0.2|exact hp1.2|exact hp2.2|(intro i hi;exact (hp0.2 i hi).1)|(intro i hi;exact (hp1.2 i hi).1)|(intro i hi;exact (hp2.2 i hi).1)|grind
   refine fcat tys_ok (l:= [(99,⟨[],FNConcat⟩),(98,⟨[],FNOf⟩)]) ⟨fcNConcat,fcNOf,trivial⟩ Tryz.func67 rfl (by kernel_rfl) true ?_
   repeat' (first|exact trivial|refine ⟨?_, ?_⟩|intro _)
   all_goals first|(with_reducible apply qq)|(conv=>whnf)
   all_goals first|(with_reducible exact hp2)|rfl|skip
   all_goals (try subst ‹b0=_›)
   all_goals (try simp only [gN_lst] at*)
   all_goals first|rfl|(exact hp2)|(show ((gN n0 f0++gN n1 f1).length)*16<=_;rw [List.length_append,gN_length,gN_length];exact hp2)
 . cases h
def FNNone:List Ar->Option Rs
 | [.agg [.d (.v (.bool b0)),.d (.lst 1 n0 f0)]]=>some ⟨(n0*16<=140737488351232/\ ∀i,i<n0->f0 i= [st (gT (f0 i))]),.va (.c (.d (bo (!b0&&decide (gN n0 f0= []))))),[]⟩
 |_=>none
theorem fcNNone:FC Tryz.prog 75 FNNone:=by
 intro xs pre r us h hp;unfold FNNone at h;split at h
 . rename_i b0 n0 f0
   cases h;have hp0:=hp
   refine FCat.of_eq (as':= [.agg [.d (.v (.bool b0)),.d (.lst 1 n0 fun i=> [st (gT (f0 i))])]]) ?_ rfl rfl ?_
   . repeat' (first|exact trivial|exact rfl|refine ⟨?_, ?_⟩|fail)
     all_goals first|exact hp0.2|exact hp1.2|exact hp2.2|(intro i hi;exact (hp0.2 i hi).1)|(intro i hi;exact (hp1.2 i hi).1)|(intro i hi;exact (hp2.2 i hi).1)|grind
   refine fcat tys_ok (l:= []) trivial Tryz.func75 rfl (by kernel_rfl) false ?_
   repeat' (first|exact trivial|refine ⟨?_, ?_⟩|intro _)
   all_goals first|(with_reducible apply qq)|(conv=>whnf)
   all_goals first|(exact none_key ‹_›)|(rw [‹(!b0)=false›];rfl)
 . cases h
theorem gcdJ_lt {x y:Cg} (h: ¬Cg.gcdJ x y>9223372036854775807):Cg.gcdJ x y<9223372036854775808:=by omega
theorem Cg.join_inR {a b:Cg} (ha:a.inR) (hb:b.inR):(Cg.join a b).inR:=by
 have h1:=Cg.clean_inR ha
 have h2:=Cg.clean_inR hb
 unfold Cg.join;split
 . exact h2
 . split
   . exact h1
   . split
     . unfold Cg.of Cg.inR md;decide
     . rename_i h
       exact Cg.of_inR _ _ (by have:0<=Cg.gcdJ a.clean b.clean:=by unfold Cg.gcdJ;omega
                               omega) (gcdJ_lt h) h1.2.1 h1.2.2
namespace Vl
def join (a b:Vl):Vl:=⟨⟨a.of.i.s.join b.of.i.s,a.of.i.c.join b.of.i.c⟩,⟨a.t.null||b.t.null,ofS (ofS a.t.names++ofS b.t.names)⟩⟩
def widen (a b:Vl) (l:List Int):Vl:=⟨⟨a.of.i.s.widen b.of.i.s l,a.of.i.c.join b.of.i.c⟩,⟨a.t.null||b.t.null,ofS (ofS a.t.names++ofS b.t.names)⟩⟩
def none (v:Vl):Bool:=v.of.i.none&&(!v.t.null&&decide (ofS v.t.names= []))
def zero:Vl:=⟨Ig.zero,⟨false,[]⟩⟩
def narrow (a b:Vl):Vl:=if !leq b a then a.of else if none b then zero else ⟨Ig.clean ⟨a.of.i.s.narrow b.of.i.s,if Cg.eq a.of.i.c (Cg.of 1 0) then b.of.i.c else a.of.i.c⟩,a.of.t⟩
def rjoin (a b:Vl):Vl:=⟨⟨a.rclean.i.s.join b.rclean.i.s,a.rclean.i.c.join b.rclean.i.c⟩,⟨a.t.null||b.t.null,cleanS (cleanS a.t.names++cleanS b.t.names)⟩⟩
def rwiden (a b:Vl) (l:List Int):Vl:=⟨⟨a.rclean.i.s.widen b.rclean.i.s l,(rjoin a.rclean b.rclean).i.c⟩,(rjoin a.rclean b.rclean).t⟩
def rleq (a b:Vl):Bool:=(a.rclean.i.s.leq b.rclean.i.s&&a.rclean.i.c.leq b.rclean.i.c)&&((!a.t.null||b.t.null)&&subS (cleanS a.t.names) (cleanS b.t.names))
def rnone (v:Vl):Bool:= !v.rclean.i.s.some&&decide (((cleanS (cleanS v.t.names)).length:Int)+(if v.t.null then 1 else 0)=0)
def rnarrow (a b:Vl):Vl:=if !rleq b.rclean a.rclean then a.rclean else if rnone b.rclean then zero else rclean ⟨⟨a.rclean.i.s.narrow b.rclean.i.s,if a.rclean.i.c.m=1 then b.rclean.i.c else a.rclean.i.c⟩,a.rclean.t⟩
end Vl
theorem none_t {v:Vl} (h:v.of.i.none=true):Value.bool (!v.t.null&&decide (ofS v.t.names= []))=Value.bool v.none:=by unfold Vl.none;rw [h];rfl
theorem none_f {v:Vl} (h:v.of.i.none=false):Value.bool false=Value.bool v.none:=by unfold Vl.none;rw [h];rfl
theorem okV_of {v:Vl} (h:okV v):okV v.of:=by
 have h1:=Ig.clean_inR h.2.1 h.2.2
 have h2:=ofS_len v.t.names
 exact ⟨⟨by show (ofS v.t.names).length*16<=140737488351232;have:=h.1.1;omega,fun _ _=>rfl⟩,h1⟩
def FVJoin:List Ar->Option Rs
 | [.agg [.d (.v (.bool s0)),.d (.v (.int .i64 l0)),.d (.v (.int .i64 h0)),.d (.v (.bool b0)),.d (.v (.int .i64 m0)),.d (.v (.int .i64 r0)),.d (.v (.bool z0)),.d (.lst 1 n0 f0)],.agg [.d (.v (.bool s1)),.d (.v (.int .i64 l1)),.d (.v (.int .i64 h1)),.d (.v (.bool b1)),.d (.v (.int .i64 m1)),.d (.v (.int .i64 r1)),.d (.v (.bool z1)),.d (.lst 1 n1 f1)]]=>some ⟨((n0*16<=140737488351232/\ ∀i,i<n0->f0 i= [st (gT (f0 i))])/\ Sp.inR ⟨s0,l0,h0⟩/\ Cg.inR ⟨b0,m0,r0⟩)/\ ((n1*16<=140737488351232/\ ∀i,i<n1->f1 i= [st (gT (f1 i))])/\ Sp.inR ⟨s1,l1,h1⟩/\ Cg.inR ⟨b1,m1,r1⟩)/\ ((n0+n1)*16<=140737488351232),.va (Vl.ar (Vl.join (⟨⟨⟨s0,l0,h0⟩,⟨b0,m0,r0⟩⟩,⟨z0,gN n0 f0⟩⟩:Vl) (⟨⟨⟨s1,l1,h1⟩,⟨b1,m1,r1⟩⟩,⟨z1,gN n1 f1⟩⟩:Vl))),[]⟩
 |_=>none
theorem fcVJoin:FC Tryz.prog 42 FVJoin:=by
 intro xs pre r us h hp;unfold FVJoin at h;split at h
 . rename_i s0 l0 h0 b0 m0 r0 z0 n0 f0 s1 l1 h1 b1 m1 r1 z1 n1 f1
   cases h;obtain ⟨hp0,hp1,hp2⟩:=hp
   refine FCat.of_eq (as':= [.agg [.d (.v (.bool s0)),.d (.v (.int .i64 l0)),.d (.v (.int .i64 h0)),.d (.v (.bool b0)),.d (.v (.int .i64 m0)),.d (.v (.int .i64 r0)),.d (.v (.bool z0)),.d (.lst 1 n0 fun i=> [st (gT (f0 i))])],.agg [.d (.v (.bool s1)),.d (.v (.int .i64 l1)),.d (.v (.int .i64 h1)),.d (.v (.bool b1)),.d (.v (.int .i64 m1)),.d (.v (.int .i64 r1)),.d (.v (.bool z1)),.d (.lst 1 n1 fun i=> [st (gT (f1 i))])]]) ?_ rfl rfl ?_
   . repeat' (first|exact trivial|exact rfl|refine ⟨?_, ?_⟩|fail)
     all_goals first|exact hp0.2|exact hp1.2|exact hp2.2|(intro i hi;exact (hp0.2 i hi).1)|(intro i hi;exact (hp1.2 i hi).1)|(intro i hi;exact (hp2.2 i hi).1)|grind
   refine fcat tys_ok (l:= [(64,⟨[],FVOf⟩),(65,⟨[],FSJoin⟩),(66,⟨[],FCJoin⟩),(67,⟨[],FNJoin⟩),(68,⟨[],FVValue⟩)]) ⟨fcVOf,fcSJoin,fcCJoin,fcNJoin,fcVValue,trivial⟩ Tryz.func42 rfl (by kernel_rfl) true ?_
   have hv0:okV (⟨⟨⟨s0,l0,h0⟩,⟨b0,m0,r0⟩⟩,⟨z0,gN n0 fun i=> [st (gT (f0 i))]⟩⟩:Vl):=⟨⟨(by rw [gN_length];exact hp0.1.1),fun _ _=>rfl⟩,hp0.2⟩
   have hv1:okV (⟨⟨⟨s1,l1,h1⟩,⟨b1,m1,r1⟩⟩,⟨z1,gN n1 fun i=> [st (gT (f1 i))]⟩⟩:Vl):=⟨⟨(by rw [gN_length];exact hp1.1.1),fun _ _=>rfl⟩,hp1.2⟩
   have ho0:=okV_of hv0
   have ho1:=okV_of hv1
   have hoo0:=okV_of ho0
   have hoo1:=okV_of ho1
   have hl0:(Vl.of (⟨⟨⟨s0,l0,h0⟩,⟨b0,m0,r0⟩⟩,⟨z0,gN n0 fun i=> [st (gT (f0 i))]⟩⟩:Vl)).t.names.length<=n0:=by have:=ofS_len (gN n0 f0);rw [gN_length] at this;exact this
   have hl1:(Vl.of (⟨⟨⟨s1,l1,h1⟩,⟨b1,m1,r1⟩⟩,⟨z1,gN n1 fun i=> [st (gT (f1 i))]⟩⟩:Vl)).t.names.length<=n1:=by have:=ofS_len (gN n1 f1);rw [gN_length] at this;exact this
   have hsj:=Sp.join_inR ho0.2.1 ho1.2.1
   have hcj:=Cg.join_inR ho0.2.2 ho1.2.2
   have hsum:((Vl.of (⟨⟨⟨s0,l0,h0⟩,⟨b0,m0,r0⟩⟩,⟨z0,gN n0 fun i=> [st (gT (f0 i))]⟩⟩:Vl)).t.names.length+(Vl.of (⟨⟨⟨s1,l1,h1⟩,⟨b1,m1,r1⟩⟩,⟨z1,gN n1 fun i=> [st (gT (f1 i))]⟩⟩:Vl)).t.names.length)*16<=140737488351232:=by have:=hp2;omega
   have hjl:(ofS ((Vl.of (⟨⟨⟨s0,l0,h0⟩,⟨b0,m0,r0⟩⟩,⟨z0,gN n0 fun i=> [st (gT (f0 i))]⟩⟩:Vl)).t.names++(Vl.of (⟨⟨⟨s1,l1,h1⟩,⟨b1,m1,r1⟩⟩,⟨z1,gN n1 fun i=> [st (gT (f1 i))]⟩⟩:Vl)).t.names)).length*16<=140737488351232:=by have:=ofS_len ((Vl.of (⟨⟨⟨s0,l0,h0⟩,⟨b0,m0,r0⟩⟩,⟨z0,gN n0 fun i=> [st (gT (f0 i))]⟩⟩:Vl)).t.names++(Vl.of (⟨⟨⟨s1,l1,h1⟩,⟨b1,m1,r1⟩⟩,⟨z1,gN n1 fun i=> [st (gT (f1 i))]⟩⟩:Vl)).t.names);rw [List.length_append] at this;omega
   unfold okV at ho0 ho1 hoo0 hoo1
   repeat' (first|exact trivial|(with_reducible first|assumption|exact ho0.1|exact ho1.1|exact ho0.2.1|exact ho0.2.2|exact ho1.2.1|exact ho1.2.2|exact hp0.1|exact hp1.1|exact hp0.2.1|exact hp0.2.2|exact hp1.2.1|exact hp1.2.2)|refine ⟨?_, ?_⟩|intro _)
   all_goals first|(with_reducible apply qq)|(conv=>whnf)
   all_goals (try simp only [gN_lst] at*)
   all_goals first|rfl|(with_reducible first|exact hp0.1.1|exact hp1.1.1)|exact hsum|exact hjl
 . cases h
def FVNoneV:List Ar->Option Rs
 | [.agg [.d (.v (.bool s0)),.d (.v (.int .i64 l0)),.d (.v (.int .i64 h0)),.d (.v (.bool b0)),.d (.v (.int .i64 m0)),.d (.v (.int .i64 r0)),.d (.v (.bool z0)),.d (.lst 1 n0 f0)]]=>some ⟨((n0*16<=140737488351232/\ ∀i,i<n0->f0 i= [st (gT (f0 i))])/\ Sp.inR ⟨s0,l0,h0⟩/\ Cg.inR ⟨b0,m0,r0⟩),.va (.c (.d (bo (Vl.none (⟨⟨⟨s0,l0,h0⟩,⟨b0,m0,r0⟩⟩,⟨z0,gN n0 f0⟩⟩:Vl))))),[]⟩
 |_=>none
theorem fcVNoneV:FC Tryz.prog 51 FVNoneV:=by
 intro xs pre r us h hp;unfold FVNoneV at h;split at h
 . rename_i s0 l0 h0 b0 m0 r0 z0 n0 f0
   cases h;have hp0:=hp
   refine FCat.of_eq (as':= [.agg [.d (.v (.bool s0)),.d (.v (.int .i64 l0)),.d (.v (.int .i64 h0)),.d (.v (.bool b0)),.d (.v (.int .i64 m0)),.d (.v (.int .i64 r0)),.d (.v (.bool z0)),.d (.lst 1 n0 fun i=> [st (gT (f0 i))])]]) ?_ rfl rfl ?_
   . repeat' (first|exact trivial|exact rfl|refine ⟨?_, ?_⟩|fail)
     all_goals first|exact hp0.2|exact hp1.2|exact hp2.2|(intro i hi;exact (hp0.2 i hi).1)|(intro i hi;exact (hp1.2 i hi).1)|(intro i hi;exact (hp2.2 i hi).1)|grind
   refine fcat tys_ok (l:= [(64,⟨[],FVOf⟩),(74,⟨[],FVNone⟩),(75,⟨[],FNNone⟩)]) ⟨fcVOf,fcVNone,fcNNone,trivial⟩ Tryz.func51 rfl (by kernel_rfl) true ?_
   have hv0:okV (⟨⟨⟨s0,l0,h0⟩,⟨b0,m0,r0⟩⟩,⟨z0,gN n0 fun i=> [st (gT (f0 i))]⟩⟩:Vl):=⟨⟨(by rw [gN_length];exact hp0.1.1),fun _ _=>rfl⟩,hp0.2⟩
   have ho0:=okV_of hv0
   unfold okV at ho0
   repeat' (first|exact trivial|(with_reducible first|assumption|exact ho0.1|exact ho0.2.1|exact ho0.2.2|exact hp0.1|exact hp0.2|exact hp0.2.1|exact hp0.2.2)|refine ⟨?_, ?_⟩|intro _)
   all_goals first|(with_reducible apply qq)|(conv=>whnf)
   all_goals (try simp only [gN_lst] at*)
   all_goals first|rfl|exact none_t ‹_›|exact none_f ‹_›|(with_reducible exact hp0.1.1)
 . cases h
theorem ig_clean2 (i:Ig):i.clean.clean=i.clean:=tidy_fix (clean_tidy i)
theorem rclean2 (v:Vl):v.rclean.rclean=v.rclean:=by
 unfold Vl.rclean;rw [ig_clean2,cleanS_idem]
theorem widen_eq (a b:Vl) (l:List Int):Vl.widen a b l=Vl.rwiden a b l:=by
 unfold Vl.widen Vl.rwiden Vl.rjoin;rw [rclean2,rclean2,of_rclean,of_rclean];simp only [Vl.rclean,ofS_eq,cleanS_idem]
theorem leq_eq (a b:Vl):Vl.leq a b=Vl.rleq a.rclean b.rclean:=by
 unfold Vl.leq Vl.rleq Ig.leq;rw [rclean2,rclean2,of_rclean,of_rclean];simp only [Vl.rclean,ofS_eq,cleanS_idem]
theorem tidy_none {i:Ig} (h:i.tidy):i.none= !i.s.some:=by
 unfold Ig.none Sp.none;rcases h with rfl|⟨⟨h1,h2⟩,h3,_⟩
 . rfl
 . rw [h1,h2];simp;omega
theorem none_eq (b:Vl):Vl.none b=Vl.rnone b.rclean:=by
 unfold Vl.none Vl.rnone;rw [rclean2,of_rclean,tidy_none (i:=b.rclean.i) (clean_tidy b.i)]
 congr 1
 simp only [Vl.rclean,ofS_eq,cleanS_idem];have key: ∀(x:Bool) (l:List ByteArray),(!x&&decide (l= []))=decide ((l.length:Int)+(if x=true then 1 else 0)=0):=by
  intro x l;cases x
  . simp
  . simp;omega
 exact key _ _
theorem tidy_all {i:Ig} (h:i.tidy):Cg.eq i.c (Cg.of 1 0)=decide (i.c.m=1):=by
 have e:Cg.of 1 0=⟨true,1,0⟩:=rfl
 rw [e];unfold Cg.eq
 rcases h with rfl|⟨⟨h1,h2⟩,h3,h4⟩
 . rfl
 . rw [h2,Bool.eq_iff_iff];simp only [Bool.and_eq_true,beq_iff_eq,decide_eq_true_eq,true_and];constructor
   . exact fun h=>h.1
   . intro h;have:=h4.2 (by omega)
     omega
theorem narrow_eq (a b:Vl):Vl.narrow a b=Vl.rnarrow a b:=by
 unfold Vl.narrow Vl.rnarrow;rw [leq_eq,none_eq,of_rclean,of_rclean,tidy_all (i:=a.rclean.i) (clean_tidy a.i)];split
 . rfl
 . split
   . rfl
   . simp only [decide_eq_true_eq];unfold Vl.rclean;simp only [cleanS_idem]
theorem w1 (a b:Vl) (l:List Int):Vl.exact (Vl.widen a b l) (Vl.rwiden a b l)=true:=by rw [widen_eq];exact exact_refl _
theorem w2 (a b:Vl):Vl.exact (Vl.narrow a b) (Vl.rnarrow a b)=true:=by rw [narrow_eq];exact exact_refl _
open Go.RowKit Go.Lib Go.Sort
def FVCleanV:List Ar->Option Rs
 | [.agg [.d (.v (.bool s0)),.d (.v (.int .i64 l0)),.d (.v (.int .i64 h0)),.d (.v (.bool b0)),.d (.v (.int .i64 m0)),.d (.v (.int .i64 r0)),.d (.v (.bool z0)),.d (.lst 1 n0 f0)]]=>some ⟨((n0*16<=140737488351232/\ ∀i,i<n0->f0 i= [st (gT (f0 i))])/\ Sp.inR ⟨s0,l0,h0⟩/\ Cg.inR ⟨b0,m0,r0⟩),.va (Vl.ar (Vl.of (⟨⟨⟨s0,l0,h0⟩,⟨b0,m0,r0⟩⟩,⟨z0,gN n0 f0⟩⟩:Vl))),[]⟩
 |_=>none
theorem fcVCleanV:FC Tryz.prog 62 FVCleanV:=by
 intro xs pre r us h hp;unfold FVCleanV at h;split at h
 . rename_i s0 l0 h0 b0 m0 r0 z0 n0 f0
   cases h;have hp0:=hp
   refine FCat.of_eq (as':= [.agg [.d (.v (.bool s0)),.d (.v (.int .i64 l0)),.d (.v (.int .i64 h0)),.d (.v (.bool b0)),.d (.v (.int .i64 m0)),.d (.v (.int .i64 r0)),.d (.v (.bool z0)),.d (.lst 1 n0 fun i=> [st (gT (f0 i))])]]) ?_ rfl rfl ?_
   . repeat' (first|exact trivial|exact rfl|refine ⟨?_, ?_⟩|fail)
     all_goals first|exact hp0.2|exact hp1.2|exact hp2.2|(intro i hi;exact (hp0.2 i hi).1)|(intro i hi;exact (hp1.2 i hi).1)|(intro i hi;exact (hp2.2 i hi).1)|grind
   refine fcat tys_ok (l:= [(64,⟨[],FVOf⟩),(68,⟨[],FVValue⟩)]) ⟨fcVOf,fcVValue,trivial⟩ Tryz.func62 rfl (by kernel_rfl) true ?_
   have hv0:okV (⟨⟨⟨s0,l0,h0⟩,⟨b0,m0,r0⟩⟩,⟨z0,gN n0 fun i=> [st (gT (f0 i))]⟩⟩:Vl):=⟨⟨(by rw [gN_length];exact hp0.1.1),fun _ _=>rfl⟩,hp0.2⟩
   have ho0:=okV_of hv0
   have hoo0:=okV_of ho0
   unfold okV at ho0 hoo0
   repeat' (first|exact trivial|(with_reducible first|assumption|exact ho0.1|exact ho0.2.1|exact ho0.2.2|exact hp0.1|exact hp0.2|exact hp0.2.1|exact hp0.2.2|exact hoo0.1|exact hoo0.2.1|exact hoo0.2.2)|refine ⟨?_, ?_⟩|intro _)
   all_goals first|(with_reducible apply qq)|(conv=>whnf)
   all_goals (try simp only [gN_lst] at*)
   all_goals first|rfl|(with_reducible exact hp0.1.1)
 . cases h
def FP (zs:List (List Nat)) (F:List Ar->Option Rs) (qs:List Ar):Option Rs:=
 match arsRows qs with
 | []=>match F (nilP zs qs) with
   |some ⟨p,r,[]⟩=>some ⟨p,r,[]⟩
   |_=>none
 |_=>none
theorem fc_nilp {P:Program} {f:Nat} {F:List Ar->Option Rs} (zs:List (List Nat)) (h:FC P f F):FC P f (FP zs F):=by
 intro qs pre r us he hp;unfold FP at he;split at he
 . rename_i h0
   split at he
   . rename_i p r' hF
     cases he;exact FCat.of_eq (nilP_eq zs qs) h0 (by rw [nilP_rows];exact h0) (h _ _ _ _ hF hp)
   . cases he
 . cases he
abbrev zGG:List (List Nat):= [[1,9],[1,9]]
theorem okV_joinB {a b:Vl} (ha:okV a) (hb:okV b) (h:(a.t.names.length+b.t.names.length)*16<=140737488351232):okV (Vl.join a b):=by
 have h1:=okV_of ha
 have h2:=okV_of hb
 have k1:=ofS_len (ofS a.t.names++ofS b.t.names)
 have k2:=ofS_len a.t.names
 have k3:=ofS_len b.t.names
 rw [List.length_append] at k1;exact ⟨⟨by show (ofS (ofS a.t.names++ofS b.t.names)).length*16<=140737488351232;omega,fun _ _=>rfl⟩,Sp.join_inR h1.2.1 h2.2.1,Cg.join_inR h1.2.2 h2.2.2⟩
abbrev dAr (v:Vl):Ar:= .agg [.d (bo false),.d (.v (.slice none 0 0)),.d (bo v.i.s.some),.d (it v.i.s.lo),.d (it v.i.s.hi),.d (bo v.i.c.some),.d (it v.i.c.m),.d (it v.i.c.r),.d (bo v.t.null),.d (lst v.t.names)]
def FECleanD:List Ar->Option Rs
 | [.agg [.d (.v (.bool false)),.d (.lst 9 _ _)]]=>some ⟨True,.va (.agg [.d (bo false),.d (.v (.slice none 0 0))]),[]⟩
 |_=>none
theorem fcECleanD:FC Tryz.prog 61 FECleanD:=by
 intro xs pre r us h hp;unfold FECleanD at h;split at h
 . rename_i n0 f0
   cases h;refine fcat tys_ok (l:= []) trivial Tryz.func61 rfl (by kernel_rfl) true ?_
   repeat' (first|exact trivial|(with_reducible first|exact n1|exact n2|exact nd)|refine ⟨?_, ?_⟩|intro _)
   all_goals first|(with_reducible apply qq)|(conv=>whnf)
   all_goals first|rfl
 . cases h
def FELeqD:List Ar->Option Rs
 | [.agg [.d (.v (.bool false)),.d (.lst 9 _ _)],.agg [.d (.v (.bool false)),.d (.lst 9 _ _)]]=>some ⟨True,.va (.c (.d (bo (true)))),[]⟩
 |_=>none
theorem fcELeqD:FC Tryz.prog 78 FELeqD:=by
 intro xs pre r us h hp;unfold FELeqD at h;split at h
 . rename_i n0 f0 n1 f1
   cases h;refine fcat tys_ok (l:= [(61,⟨[],FP zGG FECleanD⟩)]) ⟨fc_nilp zGG fcECleanD,trivial⟩ Tryz.func78 rfl (by kernel_rfl) true ?_
   repeat' (first|exact trivial|(with_reducible first|exact n1|exact n2|exact nd)|refine ⟨?_, ?_⟩|intro _)
   all_goals first|(with_reducible apply qq)|(conv=>whnf)
   all_goals first|rfl
 . cases h
def FEJoinD:List Ar->Option Rs
 | [.agg [.d (.v (.bool false)),.d (.lst 9 _ _)],.agg [.d (.v (.bool false)),.d (.lst 9 _ _)]]=>some ⟨True,.va (.agg [.d (bo false),.d (.v (.slice none 0 0))]),[]⟩
 |_=>none
theorem fcEJoinD:FC Tryz.prog 41 FEJoinD:=by
 intro xs pre r us h hp;unfold FEJoinD at h;split at h
 . rename_i n0 f0 n1 f1
   cases h;refine fcat tys_ok (l:= [(61,⟨[],FP zGG FECleanD⟩)]) ⟨fc_nilp zGG fcECleanD,trivial⟩ Tryz.func41 rfl (by kernel_rfl) true ?_
   repeat' (first|exact trivial|(with_reducible first|exact n1|exact n2|exact nd)|refine ⟨?_, ?_⟩|intro _)
   all_goals first|(with_reducible apply qq)|(conv=>whnf)
   all_goals first|rfl
 . cases h
def FTCleanD:List Ar->Option Rs
 | [.agg [.d (.v (.bool false)),.d (.lst 9 _ _),.d (.v (.bool s0)),.d (.v (.int .i64 l0)),.d (.v (.int .i64 h0)),.d (.v (.bool b0)),.d (.v (.int .i64 m0)),.d (.v (.int .i64 r0)),.d (.v (.bool z0)),.d (.lst 1 n0 f0)]]=>some ⟨((n0*16<=140737488351232/\ ∀i,i<n0->f0 i= [st (gT (f0 i))])/\ Sp.inR ⟨s0,l0,h0⟩/\ Cg.inR ⟨b0,m0,r0⟩),.va (dAr (Vl.of (⟨⟨⟨s0,l0,h0⟩,⟨b0,m0,r0⟩⟩,⟨z0,gN n0 f0⟩⟩:Vl))),[]⟩
 |_=>none
theorem fcTCleanD:FC Tryz.prog 39 FTCleanD:=by
 intro xs pre r us h hp;unfold FTCleanD at h;split at h
 . rename_i e0 g0 s0 l0 h0 b0 m0 r0 z0 n0 f0
   cases h;have hp0:=hp
   refine FCat.of_eq (as':= [.agg [.d (.v (.bool false)),.d (.lst 9 e0 g0),.d (.v (.bool s0)),.d (.v (.int .i64 l0)),.d (.v (.int .i64 h0)),.d (.v (.bool b0)),.d (.v (.int .i64 m0)),.d (.v (.int .i64 r0)),.d (.v (.bool z0)),.d (.lst 1 n0 fun i=> [st (gT (f0 i))])]]) ?_ rfl rfl ?_
   . repeat' (first|exact trivial|exact rfl|refine ⟨?_, ?_⟩|fail)
     all_goals first|exact hp0.1.2|exact hp0.2|exact hp1.2|exact hp2.2|(intro i hi;exact (hp0.2 i hi).1)|(intro i hi;exact (hp1.2 i hi).1)|(intro i hi;exact (hp2.2 i hi).1)|grind
   refine fcat tys_ok (l:= [(61,⟨[],FP zGG FECleanD⟩),(62,⟨[],FVCleanV⟩)]) ⟨fc_nilp zGG fcECleanD,fcVCleanV,trivial⟩ Tryz.func39 rfl (by kernel_rfl) true ?_
   have hv0:okV (⟨⟨⟨s0,l0,h0⟩,⟨b0,m0,r0⟩⟩,⟨z0,gN n0 fun i=> [st (gT (f0 i))]⟩⟩:Vl):=⟨⟨(by rw [gN_length];exact hp0.1.1),fun _ _=>rfl⟩,hp0.2⟩
   have ho0:=okV_of hv0
   repeat' (first|exact trivial|(with_reducible first|exact n1|exact n2|exact nd)|refine ⟨?_, ?_⟩|intro _)
   all_goals first|(with_reducible apply qq)|(conv=>whnf)
   all_goals (try simp only [gN_lst,gN_canon])
   all_goals first|exact hv0.1.1|exact hv0.2.1.1.1|exact hv0.2.1.1.2|exact hv0.2.1.2.1|exact hv0.2.1.2.2|exact hv0.2.2.1.1|exact hv0.2.2.1.2|exact hv0.2.2.2.1|exact hv0.2.2.2.2|exact hp0.1.1|rfl
 . cases h
def FTNoneD:List Ar->Option Rs
 | [.agg [.d (.v (.bool false)),.d (.lst 9 _ _),.d (.v (.bool s0)),.d (.v (.int .i64 l0)),.d (.v (.int .i64 h0)),.d (.v (.bool b0)),.d (.v (.int .i64 m0)),.d (.v (.int .i64 r0)),.d (.v (.bool z0)),.d (.lst 1 n0 f0)]]=>some ⟨((n0*16<=140737488351232/\ ∀i,i<n0->f0 i= [st (gT (f0 i))])/\ Sp.inR ⟨s0,l0,h0⟩/\ Cg.inR ⟨b0,m0,r0⟩),.va (.c (.d (bo (Vl.none (⟨⟨⟨s0,l0,h0⟩,⟨b0,m0,r0⟩⟩,⟨z0,gN n0 f0⟩⟩:Vl))))),[]⟩
 |_=>none
theorem fcTNoneD:FC Tryz.prog 27 FTNoneD:=by
 intro xs pre r us h hp;unfold FTNoneD at h;split at h
 . rename_i e0 g0 s0 l0 h0 b0 m0 r0 z0 n0 f0
   cases h;have hp0:=hp
   refine FCat.of_eq (as':= [.agg [.d (.v (.bool false)),.d (.lst 9 e0 g0),.d (.v (.bool s0)),.d (.v (.int .i64 l0)),.d (.v (.int .i64 h0)),.d (.v (.bool b0)),.d (.v (.int .i64 m0)),.d (.v (.int .i64 r0)),.d (.v (.bool z0)),.d (.lst 1 n0 fun i=> [st (gT (f0 i))])]]) ?_ rfl rfl ?_
   . repeat' (first|exact trivial|exact rfl|refine ⟨?_, ?_⟩|fail)
     all_goals first|exact hp0.1.2|exact hp0.2|exact hp1.2|exact hp2.2|(intro i hi;exact (hp0.2 i hi).1)|(intro i hi;exact (hp1.2 i hi).1)|(intro i hi;exact (hp2.2 i hi).1)|grind
   refine fcat tys_ok (l:= [(51,⟨[],FVNoneV⟩)]) ⟨fcVNoneV,trivial⟩ Tryz.func27 rfl (by kernel_rfl) true ?_
   have hv0:okV (⟨⟨⟨s0,l0,h0⟩,⟨b0,m0,r0⟩⟩,⟨z0,gN n0 fun i=> [st (gT (f0 i))]⟩⟩:Vl):=⟨⟨(by rw [gN_length];exact hp0.1.1),fun _ _=>rfl⟩,hp0.2⟩
   repeat' (first|exact trivial|(with_reducible first|exact n1|exact n2|exact nd)|refine ⟨?_, ?_⟩|intro _)
   all_goals first|(with_reducible apply qq)|(conv=>whnf)
   all_goals (try simp only [gN_lst,gN_canon])
   all_goals first|exact hv0.1.1|exact hv0.2.1.1.1|exact hv0.2.1.1.2|exact hv0.2.1.2.1|exact hv0.2.1.2.2|exact hv0.2.2.1.1|exact hv0.2.2.1.2|exact hv0.2.2.2.1|exact hv0.2.2.2.2|exact hp0.1.1|rfl
 . cases h
def FTLeqD:List Ar->Option Rs
 | [.agg [.d (.v (.bool false)),.d (.lst 9 _ _),.d (.v (.bool s0)),.d (.v (.int .i64 l0)),.d (.v (.int .i64 h0)),.d (.v (.bool b0)),.d (.v (.int .i64 m0)),.d (.v (.int .i64 r0)),.d (.v (.bool z0)),.d (.lst 1 n0 f0)],.agg [.d (.v (.bool false)),.d (.lst 9 _ _),.d (.v (.bool s1)),.d (.v (.int .i64 l1)),.d (.v (.int .i64 h1)),.d (.v (.bool b1)),.d (.v (.int .i64 m1)),.d (.v (.int .i64 r1)),.d (.v (.bool z1)),.d (.lst 1 n1 f1)]]=>some ⟨((n0*16<=140737488351232/\ ∀i,i<n0->f0 i= [st (gT (f0 i))])/\ Sp.inR ⟨s0,l0,h0⟩/\ Cg.inR ⟨b0,m0,r0⟩)/\ ((n1*16<=140737488351232/\ ∀i,i<n1->f1 i= [st (gT (f1 i))])/\ Sp.inR ⟨s1,l1,h1⟩/\ Cg.inR ⟨b1,m1,r1⟩),.va (.c (.d (bo (Vl.leq (⟨⟨⟨s0,l0,h0⟩,⟨b0,m0,r0⟩⟩,⟨z0,gN n0 f0⟩⟩:Vl) (⟨⟨⟨s1,l1,h1⟩,⟨b1,m1,r1⟩⟩,⟨z1,gN n1 f1⟩⟩:Vl))))),[]⟩
 |_=>none
theorem fcTLeqD:FC Tryz.prog 57 FTLeqD:=by
 intro xs pre r us h hp;unfold FTLeqD at h;split at h
 . rename_i e0 g0 s0 l0 h0 b0 m0 r0 z0 n0 f0 e1 g1 s1 l1 h1 b1 m1 r1 z1 n1 f1
   cases h;obtain ⟨hp0,hp1⟩:=hp
   refine FCat.of_eq (as':= [.agg [.d (.v (.bool false)),.d (.lst 9 e0 g0),.d (.v (.bool s0)),.d (.v (.int .i64 l0)),.d (.v (.int .i64 h0)),.d (.v (.bool b0)),.d (.v (.int .i64 m0)),.d (.v (.int .i64 r0)),.d (.v (.bool z0)),.d (.lst 1 n0 fun i=> [st (gT (f0 i))])],.agg [.d (.v (.bool false)),.d (.lst 9 e1 g1),.d (.v (.bool s1)),.d (.v (.int .i64 l1)),.d (.v (.int .i64 h1)),.d (.v (.bool b1)),.d (.v (.int .i64 m1)),.d (.v (.int .i64 r1)),.d (.v (.bool z1)),.d (.lst 1 n1 fun i=> [st (gT (f1 i))])]]) ?_ rfl rfl ?_
   . repeat' (first|exact trivial|exact rfl|refine ⟨?_, ?_⟩|fail)
     all_goals first|exact hp0.1.2|exact hp1.1.2|exact hp0.2|exact hp1.2|exact hp2.2|(intro i hi;exact (hp0.2 i hi).1)|(intro i hi;exact (hp1.2 i hi).1)|(intro i hi;exact (hp2.2 i hi).1)|grind
   refine fcat tys_ok (l:= [(78,⟨[],FP zGG FELeqD⟩),(79,⟨[],FVLeq⟩)]) ⟨fc_nilp zGG fcELeqD,fcVLeq,trivial⟩ Tryz.func57 rfl (by kernel_rfl) true ?_
   have hv0:okV (⟨⟨⟨s0,l0,h0⟩,⟨b0,m0,r0⟩⟩,⟨z0,gN n0 fun i=> [st (gT (f0 i))]⟩⟩:Vl):=⟨⟨(by rw [gN_length];exact hp0.1.1),fun _ _=>rfl⟩,hp0.2⟩
   have hv1:okV (⟨⟨⟨s1,l1,h1⟩,⟨b1,m1,r1⟩⟩,⟨z1,gN n1 fun i=> [st (gT (f1 i))]⟩⟩:Vl):=⟨⟨(by rw [gN_length];exact hp1.1.1),fun _ _=>rfl⟩,hp1.2⟩
   repeat' (first|exact trivial|(with_reducible first|exact n1|exact n2|exact nd)|refine ⟨?_, ?_⟩|intro _)
   all_goals first|(with_reducible apply qq)|(conv=>whnf)
   all_goals (try simp only [gN_lst,gN_canon])
   all_goals first|exact hv0.1.1|exact hv0.2.1.1.1|exact hv0.2.1.1.2|exact hv0.2.1.2.1|exact hv0.2.1.2.2|exact hv0.2.2.1.1|exact hv0.2.2.1.2|exact hv0.2.2.2.1|exact hv0.2.2.2.2|exact hv1.1.1|exact hv1.2.1.1.1|exact hv1.2.1.1.2|exact hv1.2.1.2.1|exact hv1.2.1.2.2|exact hv1.2.2.1.1|exact hv1.2.2.1.2|exact hv1.2.2.2.1|exact hv1.2.2.2.2|exact hp0.1.1|exact hp1.1.1|rfl
 . cases h
def FTSameD:List Ar->Option Rs
 | [.agg [.d (.v (.bool false)),.d (.lst 9 _ _),.d (.v (.bool s0)),.d (.v (.int .i64 l0)),.d (.v (.int .i64 h0)),.d (.v (.bool b0)),.d (.v (.int .i64 m0)),.d (.v (.int .i64 r0)),.d (.v (.bool z0)),.d (.lst 1 n0 f0)],.agg [.d (.v (.bool false)),.d (.lst 9 _ _),.d (.v (.bool s1)),.d (.v (.int .i64 l1)),.d (.v (.int .i64 h1)),.d (.v (.bool b1)),.d (.v (.int .i64 m1)),.d (.v (.int .i64 r1)),.d (.v (.bool z1)),.d (.lst 1 n1 f1)]]=>some ⟨((n0*16<=140737488351232/\ ∀i,i<n0->f0 i= [st (gT (f0 i))])/\ Sp.inR ⟨s0,l0,h0⟩/\ Cg.inR ⟨b0,m0,r0⟩)/\ ((n1*16<=140737488351232/\ ∀i,i<n1->f1 i= [st (gT (f1 i))])/\ Sp.inR ⟨s1,l1,h1⟩/\ Cg.inR ⟨b1,m1,r1⟩),.va (.c (.d (bo ((Vl.leq (⟨⟨⟨s0,l0,h0⟩,⟨b0,m0,r0⟩⟩,⟨z0,gN n0 f0⟩⟩:Vl) (⟨⟨⟨s1,l1,h1⟩,⟨b1,m1,r1⟩⟩,⟨z1,gN n1 f1⟩⟩:Vl)&&Vl.leq (⟨⟨⟨s1,l1,h1⟩,⟨b1,m1,r1⟩⟩,⟨z1,gN n1 f1⟩⟩:Vl) (⟨⟨⟨s0,l0,h0⟩,⟨b0,m0,r0⟩⟩,⟨z0,gN n0 f0⟩⟩:Vl)))))),[]⟩
 |_=>none
theorem fcTSameD:FC Tryz.prog 34 FTSameD:=by
 intro xs pre r us h hp;unfold FTSameD at h;split at h
 . rename_i e0 g0 s0 l0 h0 b0 m0 r0 z0 n0 f0 e1 g1 s1 l1 h1 b1 m1 r1 z1 n1 f1
   cases h;obtain ⟨hp0,hp1⟩:=hp
   refine FCat.of_eq (as':= [.agg [.d (.v (.bool false)),.d (.lst 9 e0 g0),.d (.v (.bool s0)),.d (.v (.int .i64 l0)),.d (.v (.int .i64 h0)),.d (.v (.bool b0)),.d (.v (.int .i64 m0)),.d (.v (.int .i64 r0)),.d (.v (.bool z0)),.d (.lst 1 n0 fun i=> [st (gT (f0 i))])],.agg [.d (.v (.bool false)),.d (.lst 9 e1 g1),.d (.v (.bool s1)),.d (.v (.int .i64 l1)),.d (.v (.int .i64 h1)),.d (.v (.bool b1)),.d (.v (.int .i64 m1)),.d (.v (.int .i64 r1)),.d (.v (.bool z1)),.d (.lst 1 n1 fun i=> [st (gT (f1 i))])]]) ?_ rfl rfl ?_
   . repeat' (first|exact trivial|exact rfl|refine ⟨?_, ?_⟩|fail)
     all_goals first|exact hp0.1.2|exact hp1.1.2|exact hp0.2|exact hp1.2|exact hp2.2|(intro i hi;exact (hp0.2 i hi).1)|(intro i hi;exact (hp1.2 i hi).1)|(intro i hi;exact (hp2.2 i hi).1)|grind
   refine fcat tys_ok (l:= [(57,⟨[],FTLeqD⟩)]) ⟨fcTLeqD,trivial⟩ Tryz.func34 rfl (by kernel_rfl) true ?_
   have hv0:okV (⟨⟨⟨s0,l0,h0⟩,⟨b0,m0,r0⟩⟩,⟨z0,gN n0 fun i=> [st (gT (f0 i))]⟩⟩:Vl):=⟨⟨(by rw [gN_length];exact hp0.1.1),fun _ _=>rfl⟩,hp0.2⟩
   have hv1:okV (⟨⟨⟨s1,l1,h1⟩,⟨b1,m1,r1⟩⟩,⟨z1,gN n1 fun i=> [st (gT (f1 i))]⟩⟩:Vl):=⟨⟨(by rw [gN_length];exact hp1.1.1),fun _ _=>rfl⟩,hp1.2⟩
   repeat' (first|exact trivial|(with_reducible first|exact n1|exact n2|exact nd)|refine ⟨?_, ?_⟩|intro _)
   all_goals first|(with_reducible apply qq)|(conv=>whnf)
   all_goals (try simp only [gN_lst,gN_canon] at*)
   all_goals first|exact hv0.1.1|exact hv0.2.1.1.1|exact hv0.2.1.1.2|exact hv0.2.1.2.1|exact hv0.2.1.2.2|exact hv0.2.2.1.1|exact hv0.2.2.1.2|exact hv0.2.2.2.1|exact hv0.2.2.2.2|exact hv1.1.1|exact hv1.2.1.1.1|exact hv1.2.1.1.2|exact hv1.2.1.2.1|exact hv1.2.1.2.2|exact hv1.2.2.1.1|exact hv1.2.2.1.2|exact hv1.2.2.2.1|exact hv1.2.2.2.2|exact hp0.1.1|exact hp1.1.1|rfl|(refine congrArg Value.bool ?_;simp only [*,Bool.true_and,Bool.false_and];done)
 . cases h
def FTJoinD:List Ar->Option Rs
 | [.agg [.d (.v (.bool false)),.d (.lst 9 _ _),.d (.v (.bool s0)),.d (.v (.int .i64 l0)),.d (.v (.int .i64 h0)),.d (.v (.bool b0)),.d (.v (.int .i64 m0)),.d (.v (.int .i64 r0)),.d (.v (.bool z0)),.d (.lst 1 n0 f0)],.agg [.d (.v (.bool false)),.d (.lst 9 _ _),.d (.v (.bool s1)),.d (.v (.int .i64 l1)),.d (.v (.int .i64 h1)),.d (.v (.bool b1)),.d (.v (.int .i64 m1)),.d (.v (.int .i64 r1)),.d (.v (.bool z1)),.d (.lst 1 n1 f1)]]=>some ⟨((n0*16<=140737488351232/\ ∀i,i<n0->f0 i= [st (gT (f0 i))])/\ Sp.inR ⟨s0,l0,h0⟩/\ Cg.inR ⟨b0,m0,r0⟩)/\ ((n1*16<=140737488351232/\ ∀i,i<n1->f1 i= [st (gT (f1 i))])/\ Sp.inR ⟨s1,l1,h1⟩/\ Cg.inR ⟨b1,m1,r1⟩)/\ ((n0+n1)*16<=140737488351232),.va (dAr (Vl.of (Vl.join (⟨⟨⟨s0,l0,h0⟩,⟨b0,m0,r0⟩⟩,⟨z0,gN n0 f0⟩⟩:Vl) (⟨⟨⟨s1,l1,h1⟩,⟨b1,m1,r1⟩⟩,⟨z1,gN n1 f1⟩⟩:Vl)))),[]⟩
 |_=>none
theorem fcTJoinD:FC Tryz.prog 19 FTJoinD:=by
 intro xs pre r us h hp;unfold FTJoinD at h;split at h
 . rename_i e0 g0 s0 l0 h0 b0 m0 r0 z0 n0 f0 e1 g1 s1 l1 h1 b1 m1 r1 z1 n1 f1
   cases h;obtain ⟨hp0,hp1,hp2⟩:=hp
   refine FCat.of_eq (as':= [.agg [.d (.v (.bool false)),.d (.lst 9 e0 g0),.d (.v (.bool s0)),.d (.v (.int .i64 l0)),.d (.v (.int .i64 h0)),.d (.v (.bool b0)),.d (.v (.int .i64 m0)),.d (.v (.int .i64 r0)),.d (.v (.bool z0)),.d (.lst 1 n0 fun i=> [st (gT (f0 i))])],.agg [.d (.v (.bool false)),.d (.lst 9 e1 g1),.d (.v (.bool s1)),.d (.v (.int .i64 l1)),.d (.v (.int .i64 h1)),.d (.v (.bool b1)),.d (.v (.int .i64 m1)),.d (.v (.int .i64 r1)),.d (.v (.bool z1)),.d (.lst 1 n1 fun i=> [st (gT (f1 i))])]]) ?_ rfl rfl ?_
   . repeat' (first|exact trivial|exact rfl|refine ⟨?_, ?_⟩|fail)
     all_goals first|exact hp0.1.2|exact hp1.1.2|exact hp0.2|exact hp1.2|exact hp2.2|(intro i hi;exact (hp0.2 i hi).1)|(intro i hi;exact (hp1.2 i hi).1)|(intro i hi;exact (hp2.2 i hi).1)|grind
   refine fcat tys_ok (l:= [(41,⟨[],FP zGG FEJoinD⟩),(42,⟨[],FVJoin⟩),(39,⟨[],FP zGG FTCleanD⟩)]) ⟨fc_nilp zGG fcEJoinD,fcVJoin,fc_nilp zGG fcTCleanD,trivial⟩ Tryz.func19 rfl (by kernel_rfl) true ?_
   have hv0:okV (⟨⟨⟨s0,l0,h0⟩,⟨b0,m0,r0⟩⟩,⟨z0,gN n0 fun i=> [st (gT (f0 i))]⟩⟩:Vl):=⟨⟨(by rw [gN_length];exact hp0.1.1),fun _ _=>rfl⟩,hp0.2⟩
   have hv1:okV (⟨⟨⟨s1,l1,h1⟩,⟨b1,m1,r1⟩⟩,⟨z1,gN n1 fun i=> [st (gT (f1 i))]⟩⟩:Vl):=⟨⟨(by rw [gN_length];exact hp1.1.1),fun _ _=>rfl⟩,hp1.2⟩
   have hj:=okV_joinB hv0 hv1 (by show ((gN n0 fun i=> [st (gT (f0 i))]).length+(gN n1 fun i=> [st (gT (f1 i))]).length)*16<=140737488351232;rw [gN_length,gN_length];exact hp2)
   repeat' (first|exact trivial|(with_reducible first|exact n1|exact n2|exact nd)|refine ⟨?_, ?_⟩|intro _)
   all_goals first|(with_reducible apply qq)|(conv=>whnf)
   all_goals first|((with_reducible show ACall _ _ 40 _ _ _);refine inl tys_ok (l:= [(41,⟨[],FP zGG FEJoinD⟩),(42,⟨[],FVJoin⟩),(39,⟨[],FP zGG FTCleanD⟩)]) ⟨fc_nilp zGG fcEJoinD,fcVJoin,fc_nilp zGG fcTCleanD,trivial⟩ Tryz.func40 rfl (by kernel_rfl) (by kernel_rfl) rfl ?_)|skip
   all_goals repeat' (first|exact trivial|(with_reducible first|exact n1|exact n2|exact nd)|refine ⟨?_, ?_⟩|intro _)
   all_goals first|(with_reducible apply qq)|(conv=>whnf)
   all_goals (try simp only [gN_lst,gN_canon])
   all_goals first|exact hv0.1.1|exact hv0.2.1.1.1|exact hv0.2.1.1.2|exact hv0.2.1.2.1|exact hv0.2.1.2.2|exact hv0.2.2.1.1|exact hv0.2.2.1.2|exact hv0.2.2.2.1|exact hv0.2.2.2.2|exact hv1.1.1|exact hv1.2.1.1.1|exact hv1.2.1.1.2|exact hv1.2.1.2.1|exact hv1.2.1.2.2|exact hv1.2.2.1.1|exact hv1.2.2.1.2|exact hv1.2.2.2.1|exact hv1.2.2.2.2|exact hj.1.1|exact hj.2.1.1.1|exact hj.2.1.1.2|exact hj.2.1.2.1|exact hj.2.1.2.2|exact hj.2.2.1.1|exact hj.2.2.1.2|exact hj.2.2.2.1|exact hj.2.2.2.2|exact hp0.1.1|exact hp1.1.1|exact hp2|rfl|omega
 . cases h
end Go.Proofs.YtkfjfgabianfhaaGreat
