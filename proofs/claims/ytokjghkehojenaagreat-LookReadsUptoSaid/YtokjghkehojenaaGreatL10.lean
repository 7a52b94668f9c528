/- Statements whose order is open, with stores that may come early. No condition. -/
import Derived.Test.YtokjghkehojenaaGreatL9
set_option linter.all false
set_option maxHeartbeats 8000000
set_option maxRecDepth 100000
namespace Go.Sx
def stoOf:List (Nat×Nat)->Nat->Option Nat
 | [],_=>none
 |(j,ia)::l,i=>match Nat.beq j i with
  |true=>some ia
  |false=>stoOf l i
def hidOf (sto:List (Nat×Nat)) (i:Nat):Bool:=sto.any fun p=>Nat.beq p.2 i
def visB (sto:List (Nat×Nat)) (i:Nat):Bool:= !hidOf sto i&&(stoOf sto i).isNone
def dSto (τ:Tys) (n0:Nat) (all:List Oper) (ia:Nat) (o:Oper) (st:St) (K:List Cell->Prop):Prop:=
 match o.op,o.guard,all[ia]? with
 | .store t ad x,none,some oa=>match oa.op,oa.guard with
   | .alloc e,none=>match ev st ad,ev st x,τ t,τ e with
     | .va (.c (.own k 0)),.va y,some ⟨_,size,_,_⟩,some ⟨_,_,_,z⟩=>match Nat.beq k (n0+ia),y.lays,Nat.beq y.cells.length size,Nat.beq (zeroCells' z).length size with
       |true,true,true,true=>K y.cells
       |_,_,_,_=>False
     |_,_,_,_=>False
   |_,_=>False
 |_,_,_=>False
def dGo3 (P:Program) (τ:Tys) (Γ:Sums) (n0:Nat) (gs:List Nat) (all:List Oper) (sto:List (Nat×Nat)) (i:Nat) (l:List Oper):St->List (Nat×Blk)->(St->List (Nat×Blk)->Prop)->Prop:=
 List.rec (motive:=fun _=>Nat->St->List (Nat×Blk)->(St->List (Nat×Blk)->Prop)->Prop) (fun _ st sp K=>K st sp) (fun o _ ih i st sp K=>match st with
  |⟨ts,h,n,m⟩=>match inLim o.dst m with
   |false=>False
   |true=>match stoOf sto i with
    |some ia=>dSto τ n0 all ia o ⟨ts,h,n,m⟩ fun cs=>fCs cs fun cs=>ih (i+1) ⟨putT o.dst undT ts,h,n,m⟩ ((n0+ia,.cells cs)::sp) K
    |none=>dWant all ⟨ts,h,n,m⟩ o fun w=>match w with
     |false=>ih (i+1) ⟨putT o.dst undT ts,h,n,m⟩ sp K
     |true=>dOp P τ Γ (n0+i) o ⟨ts,h,n,m⟩ fun x b=>fT x fun x=>match b with
      |some (.cells cs)=>fCs cs fun cs=>dPut i gs x fun x=>match hidOf sto i with
       |true=>ih (i+1) ⟨putT o.dst x ts,h,n,m⟩ sp K
       |false=>ih (i+1) ⟨putT o.dst x ts,(n0+i,.cells cs)::h,n,m⟩ sp K
      |some _=>False
      |none=>dPut i gs x fun x=>ih (i+1) ⟨putT o.dst x ts,h,n,m⟩ sp K) l i
theorem dGo3_cons (P:Program) (τ:Tys) (Γ:Sums) (n0:Nat) (gs:List Nat) (all:List Oper) (sto:List (Nat×Nat)) (i:Nat) (o:Oper) (rest:List Oper) (ts:List (Nat×Tm)) (h:List (Nat×Blk)) (n m:Nat) (sp:List (Nat×Blk)) (K:St->List (Nat×Blk)->Prop):
 dGo3 P τ Γ n0 gs all sto i (o::rest) ⟨ts,h,n,m⟩ sp K=(match inLim o.dst m with
  |false=>False
  |true=>match stoOf sto i with
   |some ia=>dSto τ n0 all ia o ⟨ts,h,n,m⟩ fun cs=>fCs cs fun cs=>dGo3 P τ Γ n0 gs all sto (i+1) rest ⟨putT o.dst undT ts,h,n,m⟩ ((n0+ia,.cells cs)::sp) K
   |none=>dWant all ⟨ts,h,n,m⟩ o fun w=>match w with
    |false=>dGo3 P τ Γ n0 gs all sto (i+1) rest ⟨putT o.dst undT ts,h,n,m⟩ sp K
    |true=>dOp P τ Γ (n0+i) o ⟨ts,h,n,m⟩ fun x b=>fT x fun x=>match b with
     |some (.cells cs)=>fCs cs fun cs=>dPut i gs x fun x=>match hidOf sto i with
      |true=>dGo3 P τ Γ n0 gs all sto (i+1) rest ⟨putT o.dst x ts,h,n,m⟩ sp K
      |false=>dGo3 P τ Γ n0 gs all sto (i+1) rest ⟨putT o.dst x ts,(n0+i,.cells cs)::h,n,m⟩ sp K
     |some _=>False
     |none=>dPut i gs x fun x=>dGo3 P τ Γ n0 gs all sto (i+1) rest ⟨putT o.dst x ts,h,n,m⟩ sp K):=rfl
def hfOf (n0:Nat) (B:Nat->Option (List Cell)) (sto:List (Nat×Nat)) (D:Nat->Bool) (h:List (Nat×Blk)):List (Nat×Blk):=
 sto.map (fun p=>(n0+p.2,Blk.cells (if D p.1=true then (B p.1).getD [] else (B p.2).getD [])))++h
structure StoOk (ops:Array Oper) (sto:List (Nat×Nat)) (m:Nat):Prop where
 lt: ∀p∈sto,p.1<m/\ p.2<p.1
 nd:sto.Pairwise fun p q=>p.1≠q.1/\ p.2≠q.2
 cl: ∀p∈sto,Cl ops p.1 p.2
 na: ∀p∈sto,stoOf sto p.2=none
def stoB (all:List Oper) (sto:List (Nat×Nat)) (m:Nat):Bool:=
 sto.all (fun p=>Nat.blt p.1 m&&Nat.blt p.2 p.1&&Nat.blt p.1 all.length&&((cloGo all []).getD p.1 0).testBit p.2&&(stoOf sto p.2).isNone)&&decide (sto.Pairwise fun p q=>p.1≠q.1/\ p.2≠q.2)
theorem stoB_ok {ops:Array Oper} {sto:List (Nat×Nat)} {m:Nat} (h:stoB ops.toList sto m=true):StoOk ops sto m:=by
 simp only [stoB,Bool.and_eq_true,List.all_eq_true,decide_eq_true_eq] at h;obtain ⟨h1,h2⟩:=h
 have hcl:=cloGo_spec ops ops.toList [] (fun i o ho=>by simpa using ho) (fun i j h=>by simp at h)
 refine ⟨fun p hp=> ?_,h2,fun p hp=> ?_,fun p hp=> ?_⟩
 . have:=h1 p hp;exact ⟨by simpa [Nat.blt_eq] using this.1.1.1.1,by simpa [Nat.blt_eq] using this.1.1.1.2⟩
 . exact hcl _ _ (h1 p hp).1.2
 . simpa using (h1 p hp).2
theorem stoOf_get: ∀{sto:List (Nat×Nat)} {i ia:Nat},stoOf sto i=some ia->(i,ia)∈sto
 | [],_,_,h=>by cases h
 |(j,ia')::l,i,ia,h=>by
  simp only [stoOf] at h;split at h
  . rename_i e;cases h;rw [<-Nat.eq_of_beq_eq_true e];exact List.mem_cons_self
  . exact List.mem_cons_of_mem _ (stoOf_get h)
theorem stoOf_nd: ∀{sto:List (Nat×Nat)} {p:Nat×Nat},(sto.Pairwise fun p q=>p.1≠q.1/\ p.2≠q.2)->p∈sto->stoOf sto p.1=some p.2
 |(j,ia)::l,p,hn,hp=>by
  rw [List.pairwise_cons] at hn;simp only [stoOf];rcases List.mem_cons.1 hp with rfl|hp
  . simp
  . have h:=(hn.1 p hp).1
    cases hb:Nat.beq j p.1 with
    |true=>exact absurd (Nat.eq_of_beq_eq_true hb) h
    |false=>exact stoOf_nd hn.2 hp
theorem stoOf_mem {ops:Array Oper} {sto:List (Nat×Nat)} {m:Nat} (hs:StoOk ops sto m) {p:Nat×Nat} (hp:p∈sto):stoOf sto p.1=some p.2:=stoOf_nd hs.nd hp
theorem hidOf_mem {sto:List (Nat×Nat)} {p:Nat×Nat} (hp:p∈sto):hidOf sto p.2=true:=List.any_eq_true.2 ⟨p,hp,by simp⟩
theorem hidOf_get {sto:List (Nat×Nat)} {i:Nat} (h:hidOf sto i=true): ∃p∈sto,p.2=i:=by
 obtain ⟨p,hp,e⟩:=List.any_eq_true.1 h
 exact ⟨p,hp,Nat.eq_of_beq_eq_true e⟩
theorem hf_congr {n0:Nat} {B:Nat->Option (List Cell)} {sto:List (Nat×Nat)} {D D':Nat->Bool} {h:List (Nat×Blk)} (hd: ∀p∈sto,D p.1=D' p.1):hfOf n0 B sto D h=hfOf n0 B sto D' h:=by
 unfold hfOf
 congr 1
 exact List.map_congr_left fun p hp=>by rw [hd p hp]
theorem hf_miss {n0:Nat} {B:Nat->Option (List Cell)} {D:Nat->Bool} {h:List (Nat×Blk)} {k:Nat}: ∀{sto:List (Nat×Nat)},(∀p∈sto,k≠n0+p.2)->lookB (hfOf n0 B sto D h) k=lookB h k
 | [],_=>rfl
 |q::l,hn=>by
  show lookB ((n0+q.2,_)::hfOf n0 B l D h) k=_
  rw [lookB_cons,if_neg (fun e=>hn q List.mem_cons_self e.symm),hf_miss fun p hp=>hn p (List.mem_cons_of_mem _ hp)]
theorem hf_hit' {n0:Nat} {B:Nat->Option (List Cell)} {D:Nat->Bool} {h:List (Nat×Blk)} {p:Nat×Nat}: ∀{sto:List (Nat×Nat)},(sto.Pairwise fun p q=>p.1≠q.1/\ p.2≠q.2)->p∈sto->lookB (hfOf n0 B sto D h) (n0+p.2)= .cells (if D p.1=true then (B p.1).getD [] else (B p.2).getD [])
 |q::l,hn,hp=>by
  rw [List.pairwise_cons] at hn;show lookB ((n0+q.2,_)::hfOf n0 B l D h) _=_
  rw [lookB_cons];rcases List.mem_cons.1 hp with rfl|hp
  . rw [if_pos rfl]
  . rw [if_neg (fun e=>(hn.1 p hp).2 (by omega))];exact hf_hit' hn.2 hp
theorem hf_hit {ops:Array Oper} {m n0:Nat} {B:Nat->Option (List Cell)} {sto:List (Nat×Nat)} {D:Nat->Bool} {h:List (Nat×Blk)} (hs:StoOk ops sto m) {p:Nat×Nat} (hp:p∈sto):lookB (hfOf n0 B sto D h) (n0+p.2)= .cells (if D p.1=true then (B p.1).getD [] else (B p.2).getD []):=hf_hit' hs.nd hp
theorem setAt_all {α:Type}: ∀{l r:List α},l.length=r.length->setAt l 0 r=some r
 |l,[],h=>by
  have:l= []:=List.eq_nil_of_length_eq_zero (by simpa using h)
  subst this;rfl
 | [],y::ys,h=>by cases h
 |x::l,y::ys,h=>by
  simp only [setAt];rw [setAt_all (by simpa using h)]
section
variable {P:Program} {τ:Tys} {Γ:Sums} {base:Nat} {ψ ψ':Psi} {S S':Nat→Prop} {w w':World} {a:Act}
theorem Rel.heapCg {ts:List (Nat×Tm)} {h h':List (Nat×Blk)} {n m:Nat} (he: ∀k,lookB h k=lookB h' k) (hr:Rel P base ψ S w ⟨ts,h,n,m⟩ a):Rel P base ψ S w ⟨ts,h',n,m⟩ a:=by
 have hs:=hr.sim
 refine ⟨hr.bas,⟨hs.dom,fun k l hk=> ?_,fun k k' b m1 m2 e1 e2 l1 l2=> ?_,fun k b m1 e1 l1=> ?_,hs.pdom,hs.sdom⟩,hr.lim,hr.defers,hr.tmps⟩
 . show BlkRep P ψ S w (lookB h' k) l
   rw [<-he];exact hs.blk k l hk
 . have l1:(lookB h' k).live:=l1
   have l2:(lookB h' k').live:=l2
   rw [<-he] at l1 l2;exact hs.inj k k' b m1 m2 e1 e2 l1 l2
 . have l1:(lookB h' k).live:=l1
   rw [<-he] at l1;exact hs.dis k b m1 e1 l1
theorem dSto_get {n0 ia:Nat} {all:List Oper} {o:Oper} {st:St} {cs:List Cell} (h:dSto τ n0 all ia o st fun c=>c=cs):
 ∃t ad xo yv,o.op= .store t ad xo/\ o.guard=none/\ ev st ad= .va (.c (.own (n0+ia) 0))/\ ev st xo= .va yv/\ ∃sz0,yv.lays=true/\ yv.cells=cs/\ (∃desc bt z,Nat.beq yv.cells.length sz0=true/\ τ t=some ⟨desc,sz0,bt,z⟩)/\
  ∀oa,all[ia]? =some oa-> ∃ti e z,oa.op= .alloc e/\ oa.guard=none/\ τ e=some ti/\ ti.zero=z/\ (zeroCells' z).length=cs.length:=by
 unfold dSto at h;split at h
 . rename_i t ad x oa hop hg hall
   split at h
   . rename_i e hoa hga
     split at h
     . rename_i k y desc size bt z dz sz2 bt2 z2 ea ex ht he
       split at h
       . rename_i q1 q2 q3 q4
         refine ⟨t,ad,x,y,hop,hg,by rw [ea,Nat.eq_of_beq_eq_true q1],ex,size,q2,h,⟨desc,bt,z,q3,ht⟩,fun oa' hoa'=> ?_⟩
         rw [hall] at hoa';cases hoa'
         refine ⟨_,e,_,hoa,hga,he,rfl, ?_⟩
         rw [<-h,Nat.eq_of_beq_eq_true q3];exact Nat.eq_of_beq_eq_true q4
       . exact h.elim
     . exact h.elim
   . exact h.elim
 . exact h.elim
def DStep3 (P:Program) (τ:Tys) (Γ:Sums) (n0:Nat) (all:List Oper) (sto:List (Nat×Nat)) (i:Nat) (o:Oper) (y:Tm) (blk:Option (List Cell)) (st st':St):Prop:=
 inLim o.dst st.lim=true/\ st'=⟨putT o.dst y st.tmps,(match blk,visB sto i with|some cs,true=> [(n0+i,Blk.cells cs)]|_,_=> [])++st.heap,st.next,st.lim⟩/\
  ((stoOf sto i=none/\ ((dWant all st o (fun w=>w=false)/\ y=undT/\ blk=none) \/
   ∃x,dWant all st o (fun w=>w=true)/\ dOp P τ Γ (n0+i) o st (fun x' b'=>x'=x/\ b'=blk.map Blk.cells)/\ Known x y)) \/
  ∃ia cs,stoOf sto i=some ia/\ blk=some cs/\ y=undT/\ dSto τ n0 all ia o st fun c=>c=cs)
theorem dSto_lin {n0 ia:Nat} {all:List Oper} {o:Oper} {st:St}:Lin (dSto τ n0 all ia o st):=by
 intro K hk;unfold dSto at hk⊢
 split at hk
 . split at hk
   . split at hk
     . split at hk
       . exact ⟨_,hk,rfl⟩
       . exact hk.elim
     . exact hk.elim
   . exact hk.elim
 . exact hk.elim
def spOf (n0:Nat) (B:Nat->Option (List Cell)) (sto:List (Nat×Nat)) (i:Nat) (sp0:List (Nat×Blk)):Nat->List (Nat×Blk)
 |0=>sp0
 |j+1=>match stoOf sto (i+j) with
  |some ia=>(n0+ia,Blk.cells ((B j).getD []))::spOf n0 B sto i sp0 j
  |none=>spOf n0 B sto i sp0 j
theorem dGo3_way {n0:Nat} {gs:List Nat} {all:List Oper} {sto:List (Nat×Nat)}: ∀(rest:List Oper) (i:Nat) (st:St) (sp:List (Nat×Blk)) (K:St->List (Nat×Blk)->Prop),dGo3 P τ Γ n0 gs all sto i rest st sp K->
 ∃(f:Nat->St) (y:Nat->Tm) (B:Nat->Option (List Cell)) (sp':List (Nat×Blk)),f 0=st/\ K (f rest.length) sp'/\ (∀j o,rest[j]? =some o->DStep3 P τ Γ n0 all sto (i+j) o (y j) (B j) (f j) (f (j+1)))/\
  sp'=spOf n0 B sto i sp rest.length
 | [],i,st,sp,K,hk=>⟨fun _=>st,fun _=>undT,fun _=>none,sp,rfl,hk,fun j o h=>by simp at h,rfl⟩
 |o::rest,i,⟨ts,h,n,m⟩,sp,K,hk=>by
  rw [dGo3_cons] at hk;split at hk
  . exact hk.elim
  . rename_i hlim
    have shift: ∀(B:Nat->Option (List Cell)) (B0:Option (List Cell)) (sp1:List (Nat×Blk)),sp1=spOf n0 (fun j=>match j with|0=>B0|j+1=>B j) sto i sp 1-> ∀q,spOf n0 B sto (i+1) sp1 q=spOf n0 (fun j=>match j with|0=>B0|j+1=>B j) sto i sp (q+1):=by
     intro B B0 sp1 h1 q
     induction q with
     |zero=>exact h1
     |succ q ih=>
      rw [spOf,spOf,ih,show i+1+q=i+(q+1) by omega]
    have cons: ∀y0 B0 st1 sp1,DStep3 P τ Γ n0 all sto i o y0 B0 ⟨ts,h,n,m⟩ st1->(∀B:Nat->Option (List Cell),sp1=spOf n0 (fun j=>match j with|0=>B0|j+1=>B j) sto i sp 1)->dGo3 P τ Γ n0 gs all sto (i+1) rest st1 sp1 K->
     ∃(f:Nat->St) (y:Nat->Tm) (B:Nat->Option (List Cell)) (sp':List (Nat×Blk)),f 0=⟨ts,h,n,m⟩/\ K (f (o::rest).length) sp'/\
     (∀j o',(o::rest)[j]? =some o'->DStep3 P τ Γ n0 all sto (i+j) o' (y j) (B j) (f j) (f (j+1)))/\ sp'=spOf n0 B sto i sp (o::rest).length:=by
     intro y0 B0 st1 sp1 hs hsp hk;obtain ⟨f,y,B,sp',g1,g2,g3,g4⟩:=dGo3_way rest (i+1) st1 sp1 K hk
     refine ⟨fun j=>match j with|0=>⟨ts,h,n,m⟩|j+1=>f j,fun j=>match j with|0=>y0|j+1=>y j,fun j=>match j with|0=>B0|j+1=>B j,sp',rfl,g2, ?_, ?_⟩
     . intro j o' ho
       cases j with
       |zero=>simp at ho;subst ho;simp only [g1];exact hs
       |succ j=>have:=g3 j o' (by simpa using ho);rw [show i+(j+1)=i+1+j by omega];exact this
     . rw [g4,shift B B0 sp1 (hsp B)];rfl
    split at hk
    . rename_i ia hs
      obtain ⟨cs,g1,g2⟩:=dSto_lin _ hk
      rw [fCs_eq] at g1;refine cons undT (some cs) _ _ ⟨hlim, ?_,.inr ⟨ia,cs,hs,rfl,rfl,g2⟩⟩ (fun B=> ?_) g1
      . have:visB sto i=false:=by unfold visB;rw [hs];simp
        rw [this];rfl
      . simp only [spOf,Nat.add_zero,hs];rfl
    . rename_i hs
      obtain ⟨wt,g1,g2⟩:=dWant_lin _ _ _ _ hk
      have hsp: ∀(B0:Option (List Cell)) (B:Nat->Option (List Cell)),sp=spOf n0 (fun j=>match j with|0=>B0|j+1=>B j) sto i sp 1:=by
       intro B0 B;simp only [spOf,Nat.add_zero,hs]
      cases wt with
      |false=>exact cons undT none _ _ ⟨hlim,rfl,.inl ⟨hs,.inl ⟨g2,rfl,rfl⟩⟩⟩ (hsp _) g1
      |true=>
       obtain ⟨x,b,g3,g4⟩:=dOp_lin _ _ _ _ g1
       simp only [fT_eq] at g3;cases b with
       |none=>
        obtain ⟨y0,k1,k2⟩:=dPut_ok g3
        exact cons y0 none _ _ ⟨hlim,rfl,.inl ⟨hs,.inr ⟨x,g2,g4,k1⟩⟩⟩ (hsp _) k2
       |some b=>
        cases b with
        |cells cs=>
         simp only [fCs_eq] at g3;obtain ⟨y0,k1,k2⟩:=dPut_ok g3
         cases hh:hidOf sto i with
         |true=>
          rw [hh] at k2
          exact cons y0 (some cs) _ _ ⟨hlim,by have:visB sto i=false:=by unfold visB;rw [hh];rfl
                                               rw [this];rfl,.inl ⟨hs,.inr ⟨x,g2,g4,k1⟩⟩⟩ (hsp _) k2
         |false=>
          rw [hh] at k2
          exact cons y0 (some cs) _ _ ⟨hlim,by have:visB sto i=true:=by unfold visB;rw [hh,hs];rfl
                                               rw [this];rfl,.inl ⟨hs,.inr ⟨x,g2,g4,k1⟩⟩⟩ (hsp _) k2
        |_=>exact g3.elim
theorem way_heap3 {n0:Nat} {ops:List Oper} {sto:List (Nat×Nat)} {f:Nat->St} {y:Nat->Tm} {B:Nat->Option (List Cell)} {m:Nat}
 (hw: ∀j o,j<m->ops[j]? =some o->DStep3 P τ Γ n0 ops sto j o (y j) (B j) (f j) (f (j+1))) (hops:m<=ops.length) (hid:idsBelow (f 0).heap n0=true):
 ∀i,i<=m->(∀k,n0+i<=k->lookB (f i).heap k= .gone)/\ (∀k,k<n0->lookB (f i).heap k=lookB (f 0).heap k)/\ (∀i',i'<=i->Sup (f i').heap (f i).heap)/\
  (∀j cs,j<i->visB sto j=true->B j=some cs->lookB (f i).heap (n0+j)= .cells cs)/\ (f i).next=(f 0).next/\ (f i).lim=(f 0).lim/\ (∀j,j<i->visB sto j=false->lookB (f i).heap (n0+j)= .gone):=by
 intro i
 induction i with
 |zero=>
  intro _
  exact ⟨fun k hk=>idsBelow_look hid hk,fun _ _=>rfl,fun i' hi'=>by have:i'=0:=by omega
                                                                    subst this;exact fun _ _ h _=>h,fun j cs hj=>by omega,rfl,rfl,fun j hj=>by omega⟩
 |succ i ih=>
  intro hi;obtain ⟨h1,h2,h3,h4,h5,h6,h7⟩:=ih (by omega)
  have ho:ops[i]? =some (ops[i]'(by omega)):=by simp
  obtain ⟨_,e,_⟩:=hw i _ (by omega) ho
  have look: ∀k,lookB (f (i+1)).heap k=match B i,visB sto i with|some cs,true=>if n0+i=k then .cells cs else lookB (f i).heap k|_,_=>lookB (f i).heap k:=by
   intro k;rw [e];cases B i with
   |none=>rfl
   |some cs=>
    cases visB sto i with
    |true=>show lookB ((n0+i,Blk.cells cs)::(f i).heap) k=_;rw [lookB_cons]
    |false=>rfl
  have hn:(f (i+1)).next=(f i).next:=by rw [e]
  have hl:(f (i+1)).lim=(f i).lim:=by rw [e]
  have ne: ∀k,k≠n0+i->lookB (f (i+1)).heap k=lookB (f i).heap k:=by
   intro k hk;rw [look];cases B i with
   |none=>rfl
   |some cs=>
    cases visB sto i with
    |true=>simp only;rw [if_neg (by omega)]
    |false=>rfl
  have sup:Sup (f i).heap (f (i+1)).heap:=by
   intro k b hb hg;by_cases hk:k=n0+i
   . rw [h1 k (by omega)] at hb;exact (hg hb.symm).elim
   . rw [ne k hk];exact hb
  refine ⟨?_, ?_, ?_, ?_,by rw [hn,h5],by rw [hl,h6], ?_⟩
  . intro k hk;rw [ne k (by omega)];exact h1 k (by omega)
  . intro k hk;rw [ne k (by omega)];exact h2 k hk
  . intro i' hi'
    rcases Nat.lt_or_eq_of_le hi' with h|rfl
    . intro k b hb hg;have:=h3 i' (by omega) k b hb hg
      exact sup k b this hg
    . exact fun _ _ h _=>h
  . intro j cs hj hv hB;rcases Nat.lt_succ_iff_lt_or_eq.1 hj with h|rfl
    . rw [ne _ (by omega)];exact h4 j cs h hv hB
    . rw [look,hB,hv];simp
  . intro j hj hv;rcases Nat.lt_succ_iff_lt_or_eq.1 hj with h|rfl
    . rw [ne _ (by omega)];exact h7 j h hv
    . rw [look,hv];cases B j<;>exact h1 _ (Nat.le_refl _)
theorem way_tmps3 {n0:Nat} {ops:List Oper} {sto:List (Nat×Nat)} {f:Nat->St} {y:Nat->Tm} {B:Nat->Option (List Cell)} {m:Nat} {dst:Nat->Option Tmp} (hdst: ∀j o,ops[j]? =some o->dst j=o.dst)
 (hw: ∀j o,j<m->ops[j]? =some o->DStep3 P τ Γ n0 ops sto j o (y j) (B j) (f j) (f (j+1))) (hops:m<=ops.length):
 ∀i,i<=m->(f i).tmps=tsOf y dst (f 0).tmps (fun _=>true) i:=by
 intro i
 induction i with
 |zero=>intro _;rfl
 |succ i ih=>
  intro hi;have ho:ops[i]? =some (ops[i]'(by omega)):=by simp
  obtain ⟨_,e,_⟩:=hw i _ (by omega) ho
  rw [e];simp only [tsOf,hdst i _ ho,ih (by omega)]
theorem draw_head3 (hτ:TysOk P τ) (hz: ∀t i,τ t=some i->zeroOk i.zero) (hΓ:SumsOk P Γ) {calls:Nat->List Va->St->(Tm->St->Prop)->Prop} (hcalls:CallsOk P base calls)
 {ops:Array Oper} {Q:Exit->Act->World->Prop} {n0 m:Nat} {f:Nat->St} {y:Nat->Tm} {B:Nat->Option (List Cell)} {dst:Nat->Option Tmp} {sto:List (Nat×Nat)}
 (hm:m<=ops.size) (hdraw:drawOk2 ops.toList m=true) (hdst: ∀j o,ops[j]? =some o->dst j=o.dst)
 (hw: ∀j o,j<m->ops.toList[j]? =some o->DStep3 P τ Γ n0 ops.toList sto j o (y j) (B j) (f j) (f (j+1))) (hid:idsBelow (f 0).heap n0=true) (hb:base<=n0) (hsto:StoOk ops sto m) {K:St->Prop}
 (htail: ∀(listed:Array Bool) (ψ:Psi) (S:Nat->Prop) (w:World) (a:Act),listed.size=ops.size->(∀j,listed.getD j false=decide (j<m))->Rel P base ψ S w ⟨(f m).tmps,hfOf n0 B sto (fun _=>true) (f m).heap,n0+m,(f m).lim⟩ a->
  (∀st' ψ' S' w' a',K st'->Rel P base ψ' S' w' st' a'->Ext base ψ S w ψ' S' w'->Q .normal a' w')->wpAny P .any ops Q (ops.size-m) listed a w):
 ∀(fuel:Nat) (listed:Array Bool) (ψ:Psi) (S:Nat->Prop) (w:World) (a:Act),listed.size=ops.size->cntD (fun j=>listed.getD j false) m+fuel=ops.size->
 (∀j,listed.getD j false=true->j<m)->Down ops (fun j=>listed.getD j false)->(∀j,j<m->listed.getD j false=false->ψ (n0+j)=none)->
 Rel P base ψ S w ⟨tsOf y dst (f 0).tmps (fun j=>listed.getD j false) m,hfOf n0 B sto (fun j=>listed.getD j false) (f m).heap,n0+m,(f m).lim⟩ a->
 (∀st' ψ' S' w' a',K st'->Rel P base ψ' S' w' st' a'->Ext base ψ S w ψ' S' w'->Q .normal a' w')->wpAny P .any ops Q fuel listed a w:=by
 obtain ⟨hback,hord⟩:=drawOk2_spec hdraw
 have hheap:=way_heap3 hw (by simpa using hm) hid
 have htmps:=way_tmps3 (dst:=dst) (fun j o ho=>hdst j o (by simpa using ho)) hw (by simpa using hm)
 intro fuel
 induction fuel with
 |zero=>
  intro listed ψ S w a hsz hcnt hsup hdown hun hrel hq;have hle:=cntD_le (D:=fun j=>listed.getD j false) m
  have hfull:=cntD_full (D:=fun j=>listed.getD j false) m (by omega)
  rw [show 0=ops.size-m by omega];refine htail listed ψ S w a hsz ?_ ?_ hq
  . intro j;by_cases hj:j<m
    . simp only [hj,decide_true];exact hfull j hj
    . simp only [hj,decide_false];cases h:listed.getD j false with
      |false=>rfl
      |true=>exact absurd (hsup j h) hj
  . rw [hf_congr (D':=fun _=>true) fun p hp=>hfull p.1 (hsto.lt p hp).1] at hrel;refine ⟨hrel.bas,hrel.sim,hrel.lim,hrel.defers,fun t=> ?_⟩
    have:=hrel.tmps t
    rw [htmps m (Nat.le_refl _)]
    rwa [tsOf_same (D':=fun _=>true) m fun j hj _=>hfull j hj] at this
 |succ fuel ih=>
  intro listed ψ S w a hsz hcnt hsup hdown hun hrel hq;have hle:=cntD_le (D:=fun j=>listed.getD j false) m
  rcases Nat.lt_or_eq_of_le hle with hlt|heq
  . obtain ⟨j0,hj0,hj1,hj2⟩:=cntD_lt (D:=fun j=>listed.getD j false) m hlt
    have getD: ∀j,j<ops.size->listed.getD j true=listed.getD j false:=by
     intro j hj;simp [Array.getD,hsz,hj]
    have hjo:ops[j0]? =some (ops[j0]'(by omega)):=by simp<;>omega
    have hready:j0∈Region.ready .any ops listed:=by
     refine mem_ready.2 ⟨by rw [getD j0 (by omega)];exact hj1,_,hjo,fun e he hbi=> ?_⟩
     exact hj2 e.on (hback j0 _ hjo e (by simpa using he) hbi)
    refine ⟨fun h=>by rw [h] at hready;simp at hready, ?_⟩
    intro i hi;obtain ⟨hi1,o,ho,hi2⟩:=mem_ready.1 hi
    have hin:i<ops.size:=(Array.getElem?_eq_some_iff.1 ho).1
    rw [getD i hin] at hi1;have hcl: ∀j,Cl ops i j->listed.getD j false=true:=fun j h=>h.down hdown fun o' ho' e he hbi=>by
     rw [ho] at ho';cases ho';exact hi2 e (by simpa using he) hbi
    have him:i<m:=by
     rcases Nat.lt_or_ge i m with h|h
     . exact h
     . rcases hord i j0 _ o ho hjo (by omega) hj0 with h1|h1
       . have:=hcl _ h1;simp only [this] at hj1;cases hj1
       . exact h1.1
    have hol:ops.toList[i]? =some o:=by simpa using ho
    -- the slots that it reads are as in the text's order
    have reads: ∀t,t∈readsOf ops.toList o->lookT (tsOf y dst (f 0).tmps (fun j=>listed.getD j false) m) t=lookT (f i).tmps t:=by
     intro t ht;rw [htmps i (by omega),tsOf_cut (i:=i) m (by omega),tsOf_same (D':=fun _=>true) i]
     . intro j hj hd;have hjo':ops[j]? =some (ops[j]'(by omega)):=by simp<;>omega
       rcases hord i j _ o ho hjo' hj (by omega) with h1|h1
       . exact hcl j h1
       . rw [hdst j _ hjo'] at hd;exact absurd ht ((clash_spec h1.2).1 t hd).1
     . intro j h1 h2 hd;rcases Nat.lt_or_eq_of_le h1 with h3|rfl
       . have hjo':ops[j]? =some (ops[j]'(by omega)):=by simp<;>omega
         rcases hord j i o _ hjo' ho h3 him with h4|h4
         . cases hD:listed.getD j false with
           |false=>rfl
           |true=>
            have:listed.getD i false=true:=h4.down hdown fun o' ho' e he hbi=>hdown j o' ho' hD e he hbi
            rw [this] at hi1;cases hi1
         . rw [hdst j _ hjo'] at hd;exact absurd ht ((clash_spec h4.2).2 t hd)
       . exact hi1
    have hD': ∀j,(listed.setIfInBounds i true).getD j false=(listed.getD j false||j==i):=by
     intro j;by_cases hij:i=j
     . subst hij;simp [Array.getD,hsz,hin]
     . rw [getD_set_ne _ hij];have:(j==i)=false:=by simp<;>omega
       simp [this]
    have adds: ∀t,lookT (tsOf y dst (f 0).tmps (fun j=>(listed.setIfInBounds i true).getD j false) m) t=if dst i=some t then y i else lookT (tsOf y dst (f 0).tmps (fun j=>listed.getD j false) m) t:=by
     intro t;refine tsOf_add him hi1 hD' fun j h1 h2 hd hd'=> ?_
     have hjo':ops[j]? =some (ops[j]'(by omega)):=by simp<;>omega
     rcases hord j i o _ hjo' ho h1 him with h4|h4
     . cases hD:listed.getD j false with
       |false=>rfl
       |true=>
        have:listed.getD i false=true:=h4.down hdown fun o' ho' e he hbi=>hdown j o' ho' hD e he hbi
        rw [this] at hi1;cases hi1
     . rw [hdst j _ hjo'] at hd;rw [hdst i _ ho] at hd'
       exact absurd hd ((clash_spec h4.2).1 t hd').2
    obtain ⟨hlim,hst,hstep⟩:=hw i o him hol
    have hlim':inLim o.dst (f m).lim=true:=by
     rw [(hheap m (Nat.le_refl _)).2.2.2.2.2.1, <-(hheap i (by omega)).2.2.2.2.2.1];exact hlim
    -- on with the next ones
    have next: ∀x,Known x (y i)-> ∀ψ' S' w' a',Rel P base ψ' S' w' ⟨putT o.dst x (tsOf y dst (f 0).tmps (fun j=>listed.getD j false) m),hfOf n0 B sto (fun j=>(listed.setIfInBounds i true).getD j false) (f m).heap,n0+m,(f m).lim⟩ a'->Ext base ψ S w ψ' S' w'->
     (∀k,n0<=k->k<n0+m->k≠n0+i->ψ' k=ψ k)->wpAny P .any ops Q fuel (listed.setIfInBounds i true) a' w':=by
     intro x hkn ψ' S' w' a' hr he hp
     refine ih _ ψ' S' w' a' (by simp [hsz]) ?_ ?_ ?_ ?_ ?_ fun st2 ψ2 S2 w2 a2 q1 q2 q3=>hq _ _ _ _ _ q1 q2 (he.trans q3)
     . have:=cntD_add (D:=fun j=>listed.getD j false) (D':=fun j=>(listed.setIfInBounds i true).getD j false) (i:=i) hi1 hD' m him
       omega
     . intro j hj;have hj:=(hD' j).symm.trans hj
       simp only [Bool.or_eq_true,beq_iff_eq] at hj;rcases hj with hj|rfl
       . exact hsup j hj
       . exact him
     . intro j oj hoj hj e he' hbi
       have hj:=(hD' j).symm.trans hj
       refine (hD' e.on).trans ?_
       simp only [Bool.or_eq_true,beq_iff_eq] at hj⊢
       rcases hj with hj|rfl
       . exact .inl (hdown j oj hoj hj e he' hbi)
       . rw [ho] at hoj;cases hoj
         exact .inl (hi2 e (by simpa using he') hbi)
     . intro j hj hDj;have hDj:=(hD' j).symm.trans hDj
       simp only [Bool.or_eq_false_iff,beq_eq_false_iff_ne] at hDj;rw [hp (n0+j) (by omega) (by omega) (by omega)];exact hun j hj hDj.1
     . refine ⟨hr.bas,hr.sim,hr.lim,hr.defers,fun t=> ?_⟩
       have:=hr.tmps t
       rw [adds];rw [lookT_putT] at this;rw [<-hdst i o ho] at this;by_cases hd:dst i=some t
       . rw [if_pos hd] at this⊢;exact hkn.rep this
       . rw [if_neg hd] at this⊢;exact this
    have guard: ∀b,dWant ops.toList (f i) o (fun w=>w=b)->Region.wanted o (yielded ops a.tmps)=b:=by
     intro b hb;refine dWant_real (P:=P) (ψ:=ψ) (S:=S) (w:=w) hb fun j want s hg hs=> ?_
     rw [<-reads s (by simp only [readsOf,hg,hs];simp)];exact hrel.tmps s
    unfold wpOp;rw [ho];simp only
    have hev: ∀z∈o.op.operands.toList,ev (f i) z=ev ⟨tsOf y dst (f 0).tmps (fun j=>listed.getD j false) m,hfOf n0 B sto (fun j=>listed.getD j false) (f m).heap,n0+m,(f m).lim⟩ z:=by
     intro z hz;cases z with
     |tmp t=>exact (reads t (operand_reads hz)).symm
     |_=>rfl
    have hrel2:Rel P (n0+m) ψ S w ⟨tsOf y dst (f 0).tmps (fun j=>listed.getD j false) m,hfOf n0 B sto (fun j=>listed.getD j false) (f m).heap,n0+m,(f m).lim⟩ a:=⟨Nat.le_refl _,hrel.sim,hrel.lim,hrel.defers,hrel.tmps⟩
    rcases hstep with ⟨hns,hstep⟩|⟨ia,cs,hs,hBi,hyi,hsd⟩
    . have hsame:hfOf n0 B sto (fun j=>(listed.setIfInBounds i true).getD j false) (f m).heap=hfOf n0 B sto (fun j=>listed.getD j false) (f m).heap:=hf_congr fun p hp=>by
       show (listed.setIfInBounds i true).getD p.1 false=listed.getD p.1 false
       rw [hD' p.1];have:p.1≠i:=fun e=>by have:=stoOf_mem hsto hp;rw [e,hns] at this;cases this
       simp [this]
      rw [hsame] at next;have hsup:Sup (f i).heap (hfOf n0 B sto (fun j=>listed.getD j false) (f m).heap):=by
       intro k b hb hg;rw [hf_miss,(hheap m (Nat.le_refl _)).2.2.1 i (by omega) k b hb hg];intro p hp e;have hpl:=hsto.lt p hp
       have hgone:lookB (f i).heap k= .gone:=by
        rw [e];rcases Nat.lt_or_ge p.2 i with h|h
        . exact (hheap i (by omega)).2.2.2.2.2.2 p.2 h (by unfold visB;rw [hidOf_mem hp];rfl)
        . exact (hheap i (by omega)).1 _ (by omega)
       rw [hgone] at hb;exact hg hb.symm
      rcases hstep with ⟨h1,h2,h3⟩|⟨x,h1,h2,h3⟩
      . rw [if_neg (by rw [guard _ h1];simp)];obtain ⟨st2,g1,g2⟩:=putK_rel (v:=undef) (putK_put (x:=undT) hlim') hrel rfl
        subst g1;exact next undT (.inl h2) ψ S w _ g2 (Ext.refl _ _ _ _) fun _ _ _ _=>rfl
      . rw [if_pos (guard _ h1)]
        left
        have hop:=dOp_congr (st':=⟨tsOf y dst (f 0).tmps (fun j=>listed.getD j false) m,hfOf n0 B sto (fun j=>listed.getD j false) (f m).heap,n0+m,(f m).lim⟩) hev hsup h2
        cases hB:B i with
        |none=>
         rw [hB] at hop;refine dOp_ok hτ hz hΓ hrel2 hlim' hop _ _ ?_
         rintro st' ψ' S' w' a' rfl g1 g2
         exact next x h3 ψ' S' w' a' ⟨by have:=hb;show base<=n0+m;omega,g1.sim,g1.lim,g1.defers,g1.tmps⟩ (g2.weaken (by omega)) fun k _ hk _=>g2.agr k hk
        |some cs=>
         rw [hB] at hop;have hlk:lookB (hfOf n0 B sto (fun j=>listed.getD j false) (f m).heap) (n0+i)= .cells cs:=by
          by_cases hh:hidOf sto i=true
          . obtain ⟨p,hp,e⟩:=hidOf_get hh
            have hpl:=hsto.lt p hp
            have hpj:listed.getD p.1 false=false:=by
             cases hc:listed.getD p.1 false with
             |false=>rfl
             |true=>
              have hpo:ops[p.1]? =some (ops[p.1]'(by omega)):=by simp<;>omega
              have:=(hsto.cl p hp).down hdown fun o' ho' e he hbi=>hdown p.1 o' ho' hc e he hbi
              rw [e,hi1] at this;cases this
            have:=hf_hit (B:=B) (n0:=n0) (D:=fun j=>listed.getD j false) (h:=(f m).heap) hsto hp
            rw [e] at this;rw [this];show Blk.cells (if listed.getD p.1 false=true then _ else (B i).getD [])=_
            rw [hpj,hB];rfl
          . rw [hf_miss (fun p hp e=>hh (by have:p.2=i:=by omega
                                            rw [<-this];exact hidOf_mem hp))]
            exact (hheap m (Nat.le_refl _)).2.2.2.1 i cs him (by unfold visB;rw [hns];simpa using hh) hB
         refine dOp_blk (base:=base) hτ hz hrel (hun i him hi1) (by omega) (by omega) hlk hlim' hop _ _ ?_
         intro ψ' S' w' a' g1 g2 g3
         exact next x h3 ψ' S' w' a' g1 g2 fun k _ _ hk=>g3 k hk
    . obtain ⟨t,ad,xo,yv,hopx,hg,ea,ex,sz0,hlay,hcs,hsz,hZ⟩:=dSto_get hsd
      have hw1:dWant ops.toList (f i) o (fun w=>w=true):=by unfold dWant;rw [hg]
      rw [if_pos (guard _ hw1)]
      left
      have hmem:=stoOf_get hs
      have hpl:=hsto.lt _ hmem
      have e1:=hev ad (by rw [hopx];simp [Op.operands])
      have e2:=hev xo (by rw [hopx];simp [Op.operands])
      have hlook:lookB (hfOf n0 B sto (fun j=>listed.getD j false) (f m).heap) (n0+ia)= .cells ((B ia).getD []):=by
       have:=hf_hit (B:=B) (n0:=n0) (D:=fun j=>listed.getD j false) (h:=(f m).heap) hsto hmem
       rw [this];show Blk.cells (if listed.getD i false=true then _ else _)=_
       rw [hi1];rfl
      -- the zero cells of the block
      have hia:ops.toList[ia]? =some (ops[ia]'(by omega)):=by simp<;>omega
      have hlen:((B ia).getD []).length=cs.length:=by
       obtain ⟨_,_,hst2⟩:=hw ia _ (by omega) hia
       rcases hst2 with ⟨_,hst2⟩|⟨_,_,hq,_⟩
       . obtain ⟨ti,e,z,hoa,hga,hτe,hz0,hzl⟩:=hZ _ hia
         obtain ⟨d1,d2,d3,d4⟩:=ti
         have hz0:d4=z:=hz0
         subst hz0;rcases hst2 with ⟨g1,_,_⟩|⟨x,_,g2,_⟩
         . unfold dWant at g1;rw [hga] at g1;cases g1
         . unfold dOp at g2;rw [hoa] at g2;simp only at g2
           rw [hτe] at g2;obtain ⟨_,g3⟩:=g2
           cases hBi2:B ia with
           |none=>rw [hBi2] at g3;cases g3
           |some zc=>
            rw [hBi2] at g3;have:zc=zeroCells' d4:=by simpa using g3.symm
            rw [this,Option.getD_some,hzl]
       . rw [hsto.na _ hmem] at hq;cases hq
      refine oStore_ok (K:=fun st'=>st'=⟨putT o.dst undT (tsOf y dst (f 0).tmps (fun j=>listed.getD j false) m),(n0+ia,.cells cs)::hfOf n0 B sto (fun j=>listed.getD j false) (f m).heap,n0+m,(f m).lim⟩) hτ hrel2 hopx ?_ _ _ ?_
      . rw [<-e1, <-e2,ea,ex];obtain ⟨desc,bt,zz,info,hti⟩:=hsz
        unfold oStore;rw [hti];simp only [hlook,hlay,hcs];rw [show Nat.beq cs.length sz0=true by rw [<-hcs];exact info];simp only
        rw [setAt_all hlen];simp only [fCs_eq];exact putK_put hlim'
      . rintro st' ψ' S' w' a' rfl g1 g2
        refine next undT (.inl (by rw [hyi])) ψ' S' w' a' ?_ (g2.weaken (by omega)) fun k _ hk _=>g2.agr k hk
        refine Rel.heapCg (fun k=> ?_) (⟨by have:=hb;show base<=n0+m;omega,g1.sim,g1.lim,g1.defers,g1.tmps⟩:Rel P base ψ' S' w' _ a')
        rw [lookB_cons];by_cases hk:n0+ia=k
        . rw [if_pos hk, <-hk];have:=hf_hit (B:=B) (n0:=n0) (D:=fun j=>(listed.setIfInBounds i true).getD j false) (h:=(f m).heap) hsto hmem
          rw [this];show _=Blk.cells (if (listed.setIfInBounds i true).getD i false=true then (B i).getD [] else _)
          rw [hD' i,hBi];simp
        . rw [if_neg hk];by_cases hq: ∃p∈sto,k=n0+p.2
          . obtain ⟨p,hp,e⟩:=hq
            rw [e,hf_hit hsto hp,hf_hit hsto hp]
            congr 1
            have:p.1≠i:=fun e3=>by
             have h5:=stoOf_mem hsto hp
             rw [e3,hs] at h5;have:ia=p.2:=by simpa using h5
             omega
            show (if listed.getD p.1 false=true then _ else _)=(if (listed.setIfInBounds i true).getD p.1 false=true then _ else _)
            rw [hD' p.1];simp [this]
          . rw [hf_miss (fun p hp e=>hq ⟨p,hp,e⟩),hf_miss (fun p hp e=>hq ⟨p,hp,e⟩)]
  . have hfull:=cntD_full (D:=fun j=>listed.getD j false) m heq
    rw [show (fuel+1)=ops.size-m by omega];refine htail listed ψ S w a hsz ?_ ?_ hq
    . intro j;by_cases hj:j<m
      . simp only [hj,decide_true];exact hfull j hj
      . simp only [hj,decide_false];cases h:listed.getD j false with
        |false=>rfl
        |true=>exact absurd (hsup j h) hj
    . rw [hf_congr (D':=fun _=>true) fun p hp=>hfull p.1 (hsto.lt p hp).1] at hrel;refine ⟨hrel.bas,hrel.sim,hrel.lim,hrel.defers,fun t=> ?_⟩
      have:=hrel.tmps t
      rw [htmps m (Nat.le_refl _)]
      rwa [tsOf_same (D':=fun _=>true) m fun j hj _=>hfull j hj] at this
theorem pw_ne {sto:List (Nat×Nat)}:(sto.Pairwise fun p q=>p.1≠q.1/\ p.2≠q.2)-> ∀{p q:Nat×Nat},p∈sto->q∈sto->p≠q->p.1≠q.1/\ p.2≠q.2:=by
 intro hn
 induction sto with
 |nil=>intro p q hp;cases hp
 |cons x l ih=>
  rw [List.pairwise_cons] at hn;intro p q hp hq hne;rcases List.mem_cons.1 hp with e|hp
  . rcases List.mem_cons.1 hq with e'|hq
    . exact absurd (e.trans e'.symm) hne
    . rw [e];exact hn.1 q hq
  . rcases List.mem_cons.1 hq with e'|hq
    . rw [e'];have:=hn.1 p hp;exact ⟨fun e=>this.1 e.symm,fun e=>this.2 e.symm⟩
    . exact ih hn.2 hp hq hne
theorem lookB_or (h':List (Nat×Blk)) (k:Nat): ∀(h:List (Nat×Blk)),(∀p∈h,p.2≠ .gone)->lookB (h++h') k=match lookB h k with| .gone=>lookB h' k|b=>b
 | [],_=>rfl
 |(i,x)::l,hg=>by
  rw [List.cons_append,lookB_cons,lookB_cons];by_cases hi:i=k
  . rw [if_pos hi,if_pos hi];have:=hg (i,x) List.mem_cons_self
    cases x<;>first|rfl|exact absurd rfl this
  . rw [if_neg hi,if_neg hi];exact lookB_or h' k l fun p hp=>hg p (List.mem_cons_of_mem _ hp)
theorem sp_live {n0:Nat} {B:Nat->Option (List Cell)} {sto:List (Nat×Nat)}: ∀q, ∀p∈spOf n0 B sto 0 [] q,p.2≠ .gone
 |0,p,hp=>by cases hp
 |q+1,p,hp=>by
  simp only [spOf] at hp;split at hp
  . rcases List.mem_cons.1 hp with rfl|hp
    . intro h;cases h
    . exact sp_live q p hp
  . exact sp_live q p hp
theorem sp_miss {n0 k:Nat} {B:Nat->Option (List Cell)} {sto:List (Nat×Nat)} (hk: ∀p∈sto,k≠n0+p.2): ∀q,lookB (spOf n0 B sto 0 [] q) k= .gone
 |0=>rfl
 |q+1=>by
  simp only [spOf];split
  . rename_i ia hs
    have:=hk _ (stoOf_get hs)
    rw [lookB_cons,if_neg (fun e=>this e.symm)];exact sp_miss hk q
  . exact sp_miss hk q
theorem sp_hit {ops:Array Oper} {m n0:Nat} {B:Nat->Option (List Cell)} {sto:List (Nat×Nat)} (hs:StoOk ops sto m) {p:Nat×Nat} (hp:p∈sto): ∀q,p.1<q->lookB (spOf n0 B sto 0 [] q) (n0+p.2)= .cells ((B p.1).getD [])
 |0,h=>by omega
 |q+1,h=>by
  have h1:=stoOf_mem hs hp
  simp only [spOf,Nat.zero_add];by_cases e:p.1=q
  . rw [<-e,h1];simp only;rw [lookB_cons,if_pos rfl]
  . have ih:=sp_hit (n0:=n0) (B:=B) hs hp q (by omega)
    split
    . rename_i ia h2
      rw [lookB_cons,if_neg,ih];intro e2;have h3:=stoOf_get h2
      have:(q,ia)=p:=by
       have hn:=hs.nd
       exact Classical.byContradiction fun hne=>by
        have:=pw_ne hn h3 hp hne
        have e4:ia=p.2:=by omega
        exact this.2 e4
      rw [<-this] at e;exact e rfl
    . exact ih
theorem draw_sto_at (hτ:TysOk P τ) (hz: ∀t i,τ t=some i->zeroOk i.zero) (hΓ:SumsOk P Γ) {calls:Nat->List Va->St->(Tm->St->Prop)->Prop} (hcalls:CallsOk P base calls) (hmix:P.follows .mixedOrders=true)
 {ops:Array Oper} {id:Nat} {Q:Exit->Act->World->Prop} {st:St} {K:St->Prop} (hrel:Rel P base ψ S w st a) (hid:idsBelow st.heap st.next=true) {mm:Nat} {sto:List (Nat×Nat)} (hsto:StoOk ops sto mm) (hm:mm<=ops.size) (hdraw:drawOk2 ops.toList mm=true) {K1:St->Prop} (hk:dGo3 P τ Γ st.next (guardsOf ops.toList) ops.toList sto 0 (ops.toList.take mm) st [] fun st' sp=>match st' with|⟨ts,h,n,l⟩=>K1 ⟨ts,sp++h,n+mm,l⟩)
 (htail: ∀(listed:Array Bool) (ψ:Psi) (S:Nat->Prop) (w:World) (st1:St) (a:Act),K1 st1->listed.size=ops.size->(∀j,listed.getD j false=decide (j<mm))->Rel P base ψ S w st1 a->
  (∀st' ψ' S' w' a',K st'->Rel P base ψ' S' w' st' a'->Ext base ψ S w ψ' S' w'->Q .normal a' w')->wpAny P .any ops Q (ops.size-mm) listed a w)
 (hq: ∀st' ψ' S' w' a',K st'->Rel P base ψ' S' w' st' a'->Ext base ψ S w ψ' S' w'->Q .normal a' w'):(Code.region id ops true).wp P Q a w:=by
 obtain ⟨f,y,B,sp',h1,h2,h3,hsp⟩:=dGo3_way _ _ _ _ _ hk
 have hlen:(ops.toList.take (mm)).length=mm:=by simp<;>omega
 rw [hlen] at h2 hsp;have hw: ∀j o,j<mm->ops.toList[j]? =some o->DStep3 P τ Γ st.next ops.toList sto j o (y j) (B j) (f j) (f (j+1)):=by
  intro j o hj ho;have:=h3 j o (by rw [List.getElem?_take];simp [hj];simpa using ho)
  simpa using this
 have hheap:=way_heap3 hw (by simpa using hm) (by rw [h1];exact hid) _ (Nat.le_refl _)
 obtain ⟨g1,g2,g3,g4,g5,g6,g7⟩:=hheap
 refine wp_region_any hmix ?_
 obtain ⟨hrel1,hext1⟩:Rel P base ψ S {w with drawn:=w.drawn+1} st a/\ Ext base ψ S w ψ S {w with drawn:=w.drawn+1}:=
  hrel.ext0 ⟨rfl,rfl,rfl,Nat.le_refl _,fun _ _=>rfl,fun _ h=>h,fun _ h=> .inl h,hrel.sim.sdom⟩
 refine draw_head3 (sto:=sto) hτ hz hΓ hcalls hm hdraw (dst:=fun j=>(ops[j]?).bind (·.dst)) (fun j o ho=>by simp [ho]) hw (by rw [h1];exact hid) hrel.bas hsto (K:=K) ?_ ops.size _ ψ S _ a (by simp) ?_ ?_ ?_ ?_ ?_ ?_
 . intro listed ψ' S' w' a' q1 q2 q3 q4
   have e:(f (mm)).next=st.next:=by rw [g5,h1]
   refine htail listed ψ' S' w' ⟨(f mm).tmps,sp'++(f mm).heap,st.next+mm,(f mm).lim⟩ a' ?_ q1 q2 (Rel.heapCg (fun k=> ?_) q3) q4
   . rw [<-e];exact h2
   . rw [hsp,lookB_or _ _ _ (sp_live _)];by_cases hq: ∃p∈sto,k=st.next+p.2
     . obtain ⟨p,hp,rfl⟩:=hq
       rw [hf_hit hsto hp,if_pos rfl,sp_hit (n0:=st.next) (B:=B) hsto hp mm (hsto.lt p hp).1]
     . rw [hf_miss fun p hp e=>hq ⟨p,hp,e⟩,sp_miss (n0:=st.next) (B:=B) (sto:=sto) (k:=k) (fun p hp e=>hq ⟨p,hp,e⟩) mm]
 . have: ∀m,cntD (fun j=>(Array.replicate ops.size false).getD j false) m=0:=by
    intro m
    induction m with
    |zero=>rfl
    |succ m ih=>
     simp only [cntD,ih];have:(Array.replicate ops.size false)[m]?.getD false=false:=by by_cases h:m<ops.size<;>simp [h]
     simp [this]
   rw [this];simp
 . intro j hj;simp [Array.getD] at hj
 . intro i o _ hi;simp [Array.getD] at hi
 . intro j _ _;exact hrel.sim.dom _ (by omega)
 . have hts:tsOf y (fun j=>(ops[j]?).bind (·.dst)) (f 0).tmps (fun j=>(Array.replicate ops.size false).getD j false) (mm)=st.tmps:=by
    rw [h1]
    clear hk h2 h3 hw g1 g2 g3 g4 g5 g6 g7 hsp hsto
    clear hm hdraw hlen
    generalize mm=m
    induction m with
    |zero=>rfl
    |succ m ih=>simp only [tsOf];have:(Array.replicate ops.size false).getD m false=false:=by simp [Array.getD]
                rw [this];exact ih
   rw [hts,g6,h1];have hlook: ∀k l,ψ k=some l->lookB (hfOf st.next B sto (fun j=>(Array.replicate ops.size false).getD j false) (f (mm)).heap) k=lookB st.heap k:=by
    intro k l hk;have:k<st.next:=by
     rcases Nat.lt_or_ge k st.next with h|h
     . exact h
     . rw [hrel.sim.dom k h] at hk;cases hk
    rw [hf_miss (fun p hp e=>by omega),g2 k this,h1]
   have hs:=hrel1.sim
   refine ⟨by have:=hrel.bas;show base<=st.next+_;omega,⟨fun k hk=>hs.dom k (by have hk:st.next+mm<=k:=hk;omega),fun k l hk=>by rw [hlook k l hk];exact hs.blk k l hk,fun k k' b m1 m2 e1 e2 l1 l2=> ?_,fun k b m1 e1 l1=> ?_,hs.pdom,hs.sdom⟩,hrel1.lim,hrel1.defers,hrel1.tmps⟩
   . rw [hlook _ _ e1] at l1;rw [hlook _ _ e2] at l2;exact hs.inj k k' b m1 m2 e1 e2 l1 l2
   . rw [hlook _ _ e1] at l1;exact hs.dis k b m1 e1 l1
 . intro st' ψ' S' w' a' q1 q2 q3
   exact hq _ _ _ _ _ q1 q2 (hext1.trans q3)
end
structure Tl (F G:St->Prop):Prop where
 run:True-> ∃s,F s/\ G s
theorem tl_intro {F G:St->Prop} {s:St} (h1:F s) (h2:G s):Tl F G:=⟨fun _=>⟨s,h1,h2⟩⟩
theorem draw_sto {P:Program} {t:TT} (ht:t.ok P) {l:List (Nat×Sm)} (hl:sumsOk P l) (hmix:P.follows .mixedOrders=true) {base:Nat} {ops:Array Oper} {id:Nat} {st:St} {Q:Exit->St->Prop} (m:Nat) (sto:List (Nat×Nat)) (p:Plan) (live:List Nat)
 (hp:(Region.noSelect ops&&Nat.ble m ops.size&&drawOk2 ops.toList m&&stoB ops.toList sto m&&planOk ops (ops.size-m) ((List.range ops.size).map fun j=>Nat.blt j m).toArray p)=true) (hid:idsBelow st.heap st.next=true)
 (hk:dGo3 P t.get (sums l) st.next (guardsOf ops.toList) ops.toList sto 0 (ops.toList.take m) st [] fun st' sp=>match st' with
  |⟨ts,h,n,lm⟩=>Tl (fun s=>vcP P t.get (vcCall P (sums l) base) ops.toList p ⟨ts,sp++h,n+m,lm⟩ fun st'=>normK live st' fun s'=>s'=s) fun s=>Q .normal s):ASat P base (.region id ops true) st Q:=by
 simp only [Bool.and_eq_true] at hp;obtain ⟨⟨⟨⟨hsel,hm⟩,hd⟩,hsb⟩,hpl⟩:=hp
 have hm:=Nat.le_of_ble_eq_true hm
 refine ⟨fun ψ S w a hr=> ?_⟩
 have h:=draw_sto_at (Q:=fun e a' w'=>e= .normal/\ ∃st' ψ' S',Q e st'/\ Rel P base ψ' S' w' st' a'/\ Ext base ψ S w ψ' S' w') (TT.tysOk ht) (TT.zeros ht) (sums_ok hl) (vcCall_ok (sums_ok hl) base) hmix hr hid (stoB_ok hsb) hm hd (K:=Q .normal) (id:=id)
  (K1:=fun st1=>Tl (fun s=>vcP P t.get (vcCall P (sums l) base) ops.toList p st1 fun st'=>normK live st' fun s'=>s'=s) fun s=>Q .normal s) hk ?_ ?_
 . exact wp_mono h fun e a' w' h=>h.2
 . intro listed ψ1 S1 w1 st1 a1 hk1 hsz hls hrel hq;obtain ⟨s,hv,hs⟩:=hk1.run trivial
   have e:listed=((List.range ops.size).map fun j=>Nat.blt j m).toArray:=by
    apply Array.ext
    . simp [hsz]
    . intro i h1 h2;have:=hls i
      simp only [Array.getD,h1,dite_true] at this;simp only [List.getElem_toArray,List.getElem_map,List.getElem_range];rw [show listed[i]=decide (i<m) from this];rw [Bool.eq_iff_iff,decide_eq_true_eq,Nat.blt_eq]
   rw [<-e] at hpl;refine vcP_ok (TT.tysOk ht) (TT.zeros ht) (vcCall_ok (sums_ok hl) base) hsel (fun c a w h=>by simp at h) p _ listed ψ1 S1 w1 st1 a1 _ hpl hrel hv ?_
   intro st' ψ' S' w' a' h1 h2 h3
   have h1:normK live st' (fun s'=>s'=s):=h1
   rw [normK_eq] at h1;refine hq s ψ' S' w' a' hs ?_ h3
   rw [<-h1];exact h2.norm live
 . intro st' ψ' S' w' a' h1 h2 h3
   exact ⟨rfl,st',ψ',S',h1,h2,h3⟩
end Go.Sx
namespace Go.Proofs.YtokjghkehojenaaGreat
open Go.Sx
open Go.RowKit Go.Lib Go.Sort
structure Ro where
 G:List Gl
 c:Nat
 d:Nat->List DV
 lv:Bool
 B:List Bd
 D:List Sd
structure Ro.ok (R:Ro):Prop where
 g:okG R.G
 gn:R.G.length<=1099511627776
 b:okL R.B
 bn:R.B.length<=1099511627776
 d:okD R.D
 dn:R.D.length<=1099511627776
 bv: ∀x,x∈R.B->x.v.t.names.length<=1048576
 dv: ∀x,x∈R.D->x.s.v.t.names.length<=1048576
structure Se where
 gets:List Ky
 wants:Bool
 want:Ky
abbrev vlT (v:Vl):Tm:= .va (.agg [.d (bo v.i.s.some),.d (it v.i.s.lo),.d (it v.i.s.hi),.d (bo v.i.c.some),.d (it v.i.c.m),.d (it v.i.c.r),.d (bo v.t.null),.d (lst v.t.names)])
abbrev EYn (k:Nat) (R:Ro) (s:Se):List Cell:= [.d (lstG R.G),.d (.lst 5 R.c R.d),.d (bo R.lv),.d (lstB R.B),.d (lstD R.D),.d (bo false),.d (it 0),.d (it 0),.d (bo false),.d (it 0),.d (it 0),.d (bo false),.d (.v (.slice none 0 0)),.osl k 2 0 s.gets.length,.d (bo s.wants),.d (st s.want.name),.d (it s.want.node)]
abbrev EY (R:Ro) (s:Se):List Cell:=EYn 1 R s
abbrev HE (R:Ro) (s:Se):List (Nat×Blk):= [(0,.cells (EY R s)),(1,.row 2 s.gets.length (rwK s.gets))]
def readS (R:Ro) (s:Se) (x:ByteArray):Vl×Se:=
 if s.wants=true then (Vl.zero,s)
 else if knB R.D ⟨x, -1⟩=true then (Vl.of (knS R.D ⟨x, -1⟩).v,if hasKy s.gets ⟨x, -1⟩=true then s else ⟨s.gets++ [⟨x, -1⟩],s.wants,s.want⟩)
 else (Vl.zero,⟨s.gets,true,⟨x, -1⟩⟩)
theorem knS_ok {L:List Sd} (h:okD L) (k:Ky):okV (knS L k).v:=by
 unfold knS knF;cases e:L.find? (fun x=>eqK x.k k) with
 |some x=>exact (h x (List.mem_of_find?_eq_some e)).v
 |none=>exact ⟨⟨Nat.zero_le _,fun _ h=>absurd h (Nat.not_lt_zero _)⟩,⟨⟨by decide,by decide⟩,by decide,by decide⟩,⟨by decide,by decide⟩,by decide,by decide⟩
theorem row_snocK {M:List Ky} {k:Ky} {g:Nat->List DV} (hg:g 0=kyC k): ∀j,j<M.length+1->appRow M.length (rwK M) g j=rwK (M++ [k]) j:=by
 intro j hj;unfold appRow;split
 . rename_i h
   unfold rwK atK;simp only [List.getD_eq_getElem?_getD,List.getElem?_append_left h]
 . have:j=M.length:=by omega
   subst this;rw [Nat.sub_self,hg];simp [rwK,atK]
abbrev sl3L:List (Nat×Sm):= [(9,⟨[],FKnown⟩),(40,⟨[],FVCleanV⟩),(90,⟨[true],FKHas⟩)]
theorem sp3L:sumsOk Tryz.prog sl3L:=⟨fcKnown,fcVCleanV,fcKHas,trivial⟩
theorem mRead {R:Ro} (hR:R.ok) (s:Se) (x:ByteArray) (hs:s.gets.length<=R.D.length):Meth Tryz.prog 52 [.c (.own 0 0),.c (.d (st x))] (HE R s) (vlT (readS R s x).1) (HE R (readS R s x).2):=by
 have hD:=okD_row hR.d
 have hn:=hR.dn
 have hK:=rows_K s.gets
 have hv:=knS_ok hR.d ⟨x, -1⟩
 have hkl:s.gets.length<=1099511627776:=by omega
 have hc:(s.wants=true/\ readS R s x=(Vl.zero,s)) \/(s.wants=false/\ knB (gD R.D.length (rwD R.D)) ⟨x, -1⟩=false/\ readS R s x=(Vl.zero,⟨s.gets,true,⟨x, -1⟩⟩)) \/(s.wants=false/\ knB (gD R.D.length (rwD R.D)) ⟨x, -1⟩=true/\ hasKy (gKs s.gets.length (rwK s.gets)) ⟨x, -1⟩=true/\ readS R s x=(Vl.of (knS R.D ⟨x, -1⟩).v,s)) \/(s.wants=false/\ knB (gD R.D.length (rwD R.D)) ⟨x, -1⟩=true/\ hasKy (gKs s.gets.length (rwK s.gets)) ⟨x, -1⟩=false/\ readS R s x=(Vl.of (knS R.D ⟨x, -1⟩).v,⟨s.gets++ [⟨x, -1⟩],s.wants,s.want⟩)):=by
  rw [gD_row,gKs_row];unfold readS;by_cases h1:s.wants=true
  . exact .inl ⟨h1,if_pos h1⟩
  . rw [if_neg h1];by_cases h2:knB R.D ⟨x, -1⟩=true
    . rw [if_pos h2];by_cases h3:hasKy s.gets ⟨x, -1⟩=true
      . rw [if_pos h3];exact .inr (.inr (.inl ⟨Bool.eq_false_iff.2 h1,h2,h3,rfl⟩))
      . rw [if_neg h3];exact .inr (.inr (.inr ⟨Bool.eq_false_iff.2 h1,h2,Bool.eq_false_iff.2 h3,rfl⟩))
    . rw [if_neg h2];exact .inr (.inl ⟨Bool.eq_false_iff.2 h1,Bool.eq_false_iff.2 h2,rfl⟩)
 rcases hc with ⟨h1,e⟩|⟨h1,h2g,e⟩|⟨h1,h2g,h3g,e⟩|⟨h1,h2g,h3g,e⟩
 all_goals rw [e]
 all_goals refine meth_of (c:=13) (inl tys_ok (l:= [(9,⟨[],FKnown⟩),(40,⟨[],FVCleanV⟩)]) ⟨fcKnown,fcVCleanV,trivial⟩ Tryz.func52 rfl (by kernel_rfl) (by kernel_rfl) rfl ?_)
 all_goals repeat' (first|exact trivial|(with_reducible first|assumption|exact n1|exact n2|exact nx h1|exact nx h2g|exact nx h3g|exact (nx (congrArg Bool.not h1))|exact (nx (congrArg Bool.not h2g))|exact (nx (congrArg Bool.not h3g)))|refine ⟨?_, ?_⟩|intro _)
 all_goals first|(with_reducible apply qq)|(conv=>whnf)
 all_goals first|((with_reducible show ASat _ _ (.region 4 _ _) _ _);refine draw_sto tys_ok (l:=sl3L) sp3L (by kernel_rfl) 13 [(11,10)] (.done) [0,1,4,5,6,7,12,26,39] (by kernel_rfl) (by kernel_rfl) ?_)|skip
 all_goals repeat' (first|exact trivial|(with_reducible first|assumption|exact n1|exact n2|exact nx h1|exact nx h2g|exact nx h3g|exact (nx (congrArg Bool.not h1))|exact (nx (congrArg Bool.not h2g))|exact (nx (congrArg Bool.not h3g)))|refine ⟨?_, ?_⟩|intro _)
 all_goals first|(with_reducible apply qq)|(conv=>whnf)
 all_goals first|((with_reducible show Tl _ _);apply tl_intro; · (repeat' (first|exact trivial|refine ⟨?_, ?_⟩|intro _))<;>(first|exact rfl|omega|assumption|(dsimp only;omega)))|skip
 all_goals repeat' (first|exact trivial|(with_reducible first|assumption|exact n1|exact n2|exact nx h1|exact nx h2g|exact nx h3g|exact (nx (congrArg Bool.not h1))|exact (nx (congrArg Bool.not h2g))|exact (nx (congrArg Bool.not h3g)))|refine ⟨?_, ?_⟩|intro _)
 all_goals first|(with_reducible apply qq)|(conv=>whnf)
 all_goals first|((with_reducible show ASat _ _ (.region 6 _ _) _ _);refine draw_cut tys_ok (l:=sl3L) sp3L (by kernel_rfl) (.take 0 (.take 1 (.all [(2,.all [(3,.all [(4,.all [(5,.all [(6,.all [(7,.all [(8,.all [(9,.all [(10,.done)])])])])])])])]),(3,.all [(2,.all [(4,.all [(5,.all [(6,.all [(7,.all [(8,.all [(9,.all [(10,.done)])])])])])])]),(4,.all [(2,.all [(5,.all [(6,.all [(7,.all [(8,.all [(9,.all [(10,.done)])])])])])]),(5,.all [(2,.all [(6,.all [(7,.all [(8,.all [(9,.all [(10,.done)])])])])]),(6,.all [(2,.all [(7,.all [(8,.all [(9,.all [(10,.done)])])])])])])])])]))) [0,1,4,5,6,7,12,26,39] (by kernel_rfl) ?_;apply tail_intro; · (repeat' (first|exact trivial|refine ⟨?_, ?_⟩|intro _))<;>(first|exact rfl|omega|assumption|(dsimp only;omega)))|((with_reducible show ACall _ _ 90 _ _ _);refine acall_sum (l:= [(90,⟨[true],FKHas⟩)]) ⟨fcKHas,trivial⟩ ?_)|skip
 all_goals repeat' (first|exact trivial|(with_reducible first|assumption|exact n1|exact n2|exact nx h1|exact nx h2g|exact nx h3g|exact (nx (congrArg Bool.not h1))|exact (nx (congrArg Bool.not h2g))|exact (nx (congrArg Bool.not h3g)))|refine ⟨?_, ?_⟩|intro _)
 all_goals first|(with_reducible apply qq)|(conv=>whnf)
 all_goals first|((with_reducible show Tl _ _);apply tl_intro; · (repeat' (first|exact trivial|refine ⟨?_, ?_⟩|intro _))<;>(first|exact rfl|omega|assumption|(dsimp only;omega)))|skip
 all_goals repeat' (first|exact trivial|(with_reducible first|assumption|exact n1|exact n2|exact nx h1|exact nx h2g|exact nx h3g|exact (nx (congrArg Bool.not h1))|exact (nx (congrArg Bool.not h2g))|exact (nx (congrArg Bool.not h3g)))|refine ⟨?_, ?_⟩|intro _)
 all_goals first|(with_reducible apply qq)|(conv=>whnf)
 all_goals first|((with_reducible show ASat _ _ (.region 9 _ _) _ _);refine draw_cut tys_ok (l:=sl3L) sp3L (by kernel_rfl) (.take 0 (.take 1 (.all [(2,.all [(3,.all [(4,.all [(5,.all [(6,.all [(7,.all [(8,.all [(9,.all [(10,.all [(11,.all [(12,.done)])])])])])])]),(6,.all [(5,.all [(7,.all [(8,.all [(9,.all [(10,.all [(11,.all [(12,.done)])])])])])]),(7,.all [(5,.all [(8,.all [(9,.all [(10,.all [(11,.all [(12,.done)])])])])])])])]),(6,.all [(4,.all [(5,.all [(7,.all [(8,.all [(9,.all [(10,.all [(11,.all [(12,.done)])])])])])]),(7,.all [(5,.all [(8,.all [(9,.all [(10,.all [(11,.all [(12,.done)])])])])])])]),(7,.all [(4,.all [(5,.all [(8,.all [(9,.all [(10,.all [(11,.all [(12,.done)])])])])])])])])]),(6,.all [(3,.all [(4,.all [(5,.all [(7,.all [(8,.all [(9,.all [(10,.all [(11,.all [(12,.done)])])])])])]),(7,.all [(5,.all [(8,.all [(9,.all [(10,.all [(11,.all [(12,.done)])])])])])])]),(7,.all [(4,.all [(5,.all [(8,.all [(9,.all [(10,.all [(11,.all [(12,.done)])])])])])])])]),(7,.all [(3,.all [(4,.all [(5,.all [(8,.all [(9,.all [(10,.all [(11,.all [(12,.done)])])])])])])])])])]),(6,.all [(2,.all [(3,.all [(4,.all [(5,.all [(7,.all [(8,.all [(9,.all [(10,.all [(11,.all [(12,.done)])])])])])]),(7,.all [(5,.all [(8,.all [(9,.all [(10,.all [(11,.all [(12,.done)])])])])])])]),(7,.all [(4,.all [(5,.all [(8,.all [(9,.all [(10,.all [(11,.all [(12,.done)])])])])])])])]),(7,.all [(3,.all [(4,.all [(5,.all [(8,.all [(9,.all [(10,.all [(11,.all [(12,.done)])])])])])])])])]),(7,.all [(2,.all [(3,.all [(4,.all [(5,.all [(8,.all [(9,.all [(10,.all [(11,.all [(12,.done)])])])])])])])])])])]))) [0,1,4,5,6,7,12,26,39] (by kernel_rfl) ?_;apply tail_intro; · (repeat' (first|exact trivial|refine ⟨?_, ?_⟩|intro _))<;>(first|exact rfl|omega|assumption|(dsimp only;omega)))|skip
 all_goals repeat' (first|exact trivial|(with_reducible first|assumption|exact n1|exact n2|exact nx h1|exact nx h2g|exact nx h3g|exact (nx (congrArg Bool.not h1))|exact (nx (congrArg Bool.not h2g))|exact (nx (congrArg Bool.not h3g)))|refine ⟨?_, ?_⟩|intro _)
 all_goals first|(with_reducible apply qq)|(conv=>whnf)
 all_goals first|((with_reducible show Tl _ _);apply tl_intro; · (repeat' (first|exact trivial|refine ⟨?_, ?_⟩|intro _))<;>(first|exact rfl|omega|assumption|(dsimp only;omega)))|skip
 all_goals repeat' (first|exact trivial|(with_reducible first|assumption|exact n1|exact n2|exact nx h1|exact nx h2g|exact nx h3g|exact (nx (congrArg Bool.not h1))|exact (nx (congrArg Bool.not h2g))|exact (nx (congrArg Bool.not h3g)))|refine ⟨?_, ?_⟩|intro _)
 all_goals first|(with_reducible apply qq)|(conv=>whnf)
 all_goals (try simp only [gD_row,gKs_row,gN_lst,gN_canon])
 all_goals first|(exact rfl)|exact hv.1.1|exact hv.2.1.1.1|exact hv.2.1.1.2|exact hv.2.1.2.1|exact hv.2.1.2.2|exact hv.2.2.1.1|exact hv.2.2.1.2|exact hv.2.2.2.1|exact hv.2.2.2.2|(rw [List.length_append];rfl)|(exact row_snocK rfl _ (by assumption))|omega|((with_reducible show idsOk _ _=true);rfl)|(intro _ _;rfl)
end Go.Proofs.YtokjghkehojenaaGreat
namespace Go.Proofs.YtokjghkehojenaaGreat
open Go.Sx
open Go.RowKit Go.Lib Go.Sort
def nameS (R:Ro) (s:Se) (x:ByteArray):Vl×Se:=if bndN R.B x=true then (En.get ⟨R.lv,R.B⟩ x,s) else if glI R.G x=true then readS R s x else (Vl.zero,s)
theorem mName {R:Ro} (hR:R.ok) (s:Se) (x:ByteArray) (hs:s.gets.length<=R.D.length):Meth Tryz.prog 25 [.c (.own 0 0),.c (.d (st x))] (HE R s) (vlT (nameS R s x).1) (HE R (nameS R s x).2):=by
 have hD:=okD_row hR.d
 have hn:=hR.dn
 have hB:=okL_row hR.b
 have hbn:=hR.bn
 have hG:=rows_okG hR.g
 have hgn:=hR.gn
 have hK:=rows_K s.gets
 have hkl:s.gets.length<=1099511627776:=by omega
 have hc:(bndN (gBs R.B.length (rwB R.B)) x=true/\ nameS R s x=(En.get ⟨R.lv,R.B⟩ x,s)) \/(bndN (gBs R.B.length (rwB R.B)) x=false/\ glI (gGs R.G.length (rwG R.G)) x=false/\ nameS R s x=(Vl.zero,s)) \/(bndN (gBs R.B.length (rwB R.B)) x=false/\ glI (gGs R.G.length (rwG R.G)) x=true/\ nameS R s x=readS R s x):=by
  rw [gBs_row,gGs_row];unfold nameS;by_cases h1:bndN R.B x=true
  . exact .inl ⟨h1,if_pos h1⟩
  . rw [if_neg h1];by_cases h2:glI R.G x=true
    . exact .inr (.inr ⟨Bool.eq_false_iff.2 h1,h2,if_pos h2⟩)
    . exact .inr (.inl ⟨Bool.eq_false_iff.2 h1,Bool.eq_false_iff.2 h2,if_neg h2⟩)
 rcases hc with ⟨h1g,e⟩|⟨h1g,h2g,e⟩|⟨h1g,h2g,e⟩
 all_goals rw [e]
 all_goals refine meth_of (c:=13) (inl tys_ok (l:= [(49,⟨[],(FContB x)⟩),(50,⟨[],FBindC⟩),(51,⟨[],FEGet⟩),(28,⟨[],FGlob⟩)]) ⟨(fcContB x),fcBindC,fcEGet,fcGlob,trivial⟩ Tryz.func25 rfl (by kernel_rfl) (by kernel_rfl) rfl ?_)
 all_goals repeat' (first|exact trivial|(with_reducible first|assumption|exact n1|exact n2|exact nx h1g|exact nx h2g|exact (nx (congrArg Bool.not h1g))|exact (nx (congrArg Bool.not h2g)))|refine ⟨?_, ?_⟩|intro _)
 all_goals first|(with_reducible apply qq)|(conv=>whnf)
 all_goals first|((with_reducible show ASat _ _ (.region 2 _ _) _ _);refine draw_sto tys_ok (l:= [(49,⟨[],(FContB x)⟩),(50,⟨[],FBindC⟩),(51,⟨[],FEGet⟩),(28,⟨[],FGlob⟩)]) ⟨(fcContB x),fcBindC,fcEGet,fcGlob,trivial⟩ (by kernel_rfl) 7 [] (.all [(7,.done)]) [0,1,3,4,6,14,32] (by kernel_rfl) (by kernel_rfl) ?_)|((with_reducible show ASat _ _ (.region 3 _ _) _ _);refine draw_sto tys_ok (l:= [(49,⟨[],(FContB x)⟩),(50,⟨[],FBindC⟩),(51,⟨[],FEGet⟩),(28,⟨[],FGlob⟩)]) ⟨(fcContB x),fcBindC,fcEGet,fcGlob,trivial⟩ (by kernel_rfl) 13 [(11,10)] (.done) [0,1,3,4,6,14,32] (by kernel_rfl) (by kernel_rfl) ?_)|skip
 all_goals repeat' (first|exact trivial|(with_reducible first|assumption|exact n1|exact n2|exact nx h1g|exact nx h2g|exact (nx (congrArg Bool.not h1g))|exact (nx (congrArg Bool.not h2g)))|refine ⟨?_, ?_⟩|intro _)
 all_goals first|(with_reducible apply qq)|(conv=>whnf)
 all_goals first|((with_reducible show Tl _ _);apply tl_intro; · (repeat' (first|exact trivial|refine ⟨?_, ?_⟩|intro _))<;>(first|exact rfl|omega|assumption|(dsimp only;omega)))|skip
 all_goals repeat' (first|exact trivial|(with_reducible first|assumption|exact n1|exact n2|exact nx h1g|exact nx h2g|exact (nx (congrArg Bool.not h1g))|exact (nx (congrArg Bool.not h2g)))|refine ⟨?_, ?_⟩|intro _)
 all_goals first|(with_reducible apply qq)|(conv=>whnf)
 all_goals first|((with_reducible show ASat _ _ (.region 2 _ _) _ _);refine draw_sto tys_ok (l:= [(49,⟨[],(FContB x)⟩),(50,⟨[],FBindC⟩),(51,⟨[],FEGet⟩),(28,⟨[],FGlob⟩)]) ⟨(fcContB x),fcBindC,fcEGet,fcGlob,trivial⟩ (by kernel_rfl) 7 [] (.all [(7,.done)]) [0,1,3,4,6,14,32] (by kernel_rfl) (by kernel_rfl) ?_)|((with_reducible show ASat _ _ (.region 3 _ _) _ _);refine draw_sto tys_ok (l:= [(49,⟨[],(FContB x)⟩),(50,⟨[],FBindC⟩),(51,⟨[],FEGet⟩),(28,⟨[],FGlob⟩)]) ⟨(fcContB x),fcBindC,fcEGet,fcGlob,trivial⟩ (by kernel_rfl) 13 [(11,10)] (.done) [0,1,3,4,6,14,32] (by kernel_rfl) (by kernel_rfl) ?_)|skip
 all_goals repeat' (first|exact trivial|(with_reducible first|assumption|exact n1|exact n2|exact nx h1g|exact nx h2g|exact (nx (congrArg Bool.not h1g))|exact (nx (congrArg Bool.not h2g)))|refine ⟨?_, ?_⟩|intro _)
 all_goals first|(with_reducible apply qq)|(conv=>whnf)
 all_goals first|((with_reducible show Tl _ _);apply tl_intro; · (repeat' (first|exact trivial|refine ⟨?_, ?_⟩|intro _))<;>(first|exact rfl|omega|assumption|(dsimp only;omega)))|skip
 all_goals repeat' (first|exact trivial|(with_reducible first|assumption|exact n1|exact n2|exact nx h1g|exact nx h2g|exact (nx (congrArg Bool.not h1g))|exact (nx (congrArg Bool.not h2g)))|refine ⟨?_, ?_⟩|intro _)
 all_goals first|(with_reducible apply qq)|(conv=>whnf)
 all_goals first|((with_reducible show ACall _ _ 52 _ _ _);refine Meth.go 13 (mRead hR s x hs) rfl rfl rfl rfl rfl rfl ?_ ?_ ?_)|skip
 all_goals repeat' (first|exact trivial|(with_reducible first|assumption|exact n1|exact n2|exact nx h1g|exact nx h2g|exact (nx (congrArg Bool.not h1g))|exact (nx (congrArg Bool.not h2g)))|refine ⟨?_, ?_⟩|intro _)
 all_goals first|(with_reducible apply qq)|(conv=>whnf)
 all_goals first|((with_reducible show Tl _ _);apply tl_intro; · (repeat' (first|exact trivial|refine ⟨?_, ?_⟩|intro _))<;>(first|exact rfl|omega|assumption|(dsimp only;omega)))|skip
 all_goals repeat' (first|exact trivial|(with_reducible first|assumption|exact n1|exact n2|exact nx h1g|exact nx h2g|exact (nx (congrArg Bool.not h1g))|exact (nx (congrArg Bool.not h2g)))|refine ⟨?_, ?_⟩|intro _)
 all_goals first|(with_reducible apply qq)|(conv=>whnf)
 all_goals (try simp only [gGs_row,gBs_row,gN_lst,gN_canon])
 all_goals first|(exact rfl)|exact hv.1.1|exact hv.2.1.1.1|exact hv.2.1.1.2|exact hv.2.1.2.1|exact hv.2.1.2.2|exact hv.2.2.1.1|exact hv.2.2.1.2|exact hv.2.2.2.1|exact hv.2.2.2.2|(rw [List.length_append];rfl)|(exact row_snocK rfl _ (by assumption))|omega|((with_reducible show idsOk _ _=true);rfl)|(intro _ _;rfl)
end Go.Proofs.YtokjghkehojenaaGreat
namespace Go.Proofs.YtokjghkehojenaaGreat
open Go.Sx
open Go.RowKit Go.Lib Go.Sort
theorem nodup_len {α:Type} [DecidableEq α]: ∀{l m:List α},l.Nodup->(∀x,x∈l->x∈m)->l.length<=m.length
 | [],_,_,_=>Nat.zero_le _
 |a::l,m,h,hs=>by
  have ha:=hs a List.mem_cons_self
  rw [List.nodup_cons] at h;have:=nodup_len (m:=m.erase a) h.2 (fun x hx=>(List.mem_erase_of_ne (fun e=>h.1 (by rw [<-e];exact hx))).2 (hs x (List.mem_cons_of_mem _ hx)))
  rw [List.length_erase_of_mem ha] at this;have:=List.length_pos_of_mem ha
  rw [List.length_cons];omega
structure okSe (R:Ro) (s:Se):Prop where
 nd:s.gets.Nodup
 kn: ∀k,k∈s.gets->knB R.D k=true
theorem knB_mem {L:List Sd} {k:Ky} (h:knB L k=true):k∈L.map (·.k):=by
 unfold knB knF at h;cases e:L.find? (fun x=>eqK x.k k) with
 |some x=>exact List.mem_map.2 ⟨x,List.mem_of_find?_eq_some e,eqK_iff.1 (List.find?_some (p:=fun x:Sd=>eqK x.k k) e)⟩
 |none=>rw [e] at h;cases h
theorem okSe_len {R:Ro} {s:Se} (h:okSe R s):s.gets.length<=R.D.length:=by
 have:=nodup_len h.nd (fun k hk=>knB_mem (h.kn k hk))
 rw [List.length_map] at this;exact this
theorem readS_se {R:Ro} {s:Se} (h:okSe R s) (x:ByteArray):okSe R (readS R s x).2:=by
 unfold readS;split
 . exact h
 . split
   . rename_i hk
     show okSe R (if _ then _ else _)
     split
     . exact h
     . rename_i hn
       have hn:(⟨x, -1⟩:Ky)∉s.gets:=fun hm=>hn (decide_eq_true hm)
       refine ⟨?_,fun k hm=> ?_⟩
       . show (s.gets++ [_]).Nodup
         rw [List.nodup_append];exact ⟨h.nd,by simp,fun a ha b hb e=>by rw [List.mem_singleton] at hb;subst hb;subst e;exact hn ha⟩
       . rcases List.mem_append.1 hm with hm|hm
         . exact h.kn k hm
         . rw [List.mem_singleton] at hm;subst hm;exact hk
   . exact ⟨h.nd,h.kn⟩
theorem okV_z:okV Vl.zero:=⟨⟨Nat.zero_le _,fun _ h=>absurd h (Nat.not_lt_zero _)⟩,⟨⟨by decide,by decide⟩,by decide,by decide⟩,⟨by decide,by decide⟩,by decide,by decide⟩
theorem knS_nm {L:List Sd} {n:Nat} (h: ∀x,x∈L->x.s.v.t.names.length<=n) (k:Ky):(knS L k).v.t.names.length<=n:=by
 unfold knS knF;cases e:L.find? (fun x=>eqK x.k k) with
 |some x=>exact h x (List.mem_of_find?_eq_some e)
 |none=>exact Nat.zero_le _
theorem readS_ok {R:Ro} (hR:R.ok) (s:Se) (x:ByteArray):okV (readS R s x).1/\ (readS R s x).1.t.names.length<=1048576:=by
 unfold readS;split
 . exact ⟨okV_z,Nat.zero_le _⟩
 . split
   . exact ⟨okV_of (knS_ok hR.d _),Nat.le_trans (ofS_len _) (knS_nm hR.dv _)⟩
   . exact ⟨okV_z,Nat.zero_le _⟩
theorem get_nm {e:En} {n:Nat} (h: ∀x,x∈e.binds->x.v.t.names.length<=n) (s:ByteArray):(En.get e s).t.names.length<=n:=by
 have hc: ∀x,x∈e.clean.binds->x.v.t.names.length<=n:=by
  unfold En.clean;split
  . intro x hx;obtain ⟨b,hb,rfl⟩:=List.mem_map.1 hx
    exact Nat.le_trans (ofS_len _) (h b (srt_mem.1 (dd_sub hb)))
  . intro x hx;cases hx
 unfold En.get;split
 . rename_i hd;exact hc _ (atB_mem (found_lt hd))
 . exact Nat.zero_le _
theorem get_okL {e:En} (h:okL e.binds) (s:ByteArray):okV (En.get e s):=by
 unfold En.get;split
 . rename_i hd;exact okL_at (clean_ok h) (found_lt hd)
 . exact okV_z
theorem nameS_se {R:Ro} {s:Se} (h:okSe R s) (x:ByteArray):okSe R (nameS R s x).2:=by
 unfold nameS;split
 . exact h
 . split
   . exact readS_se h x
   . exact h
theorem nameS_ok {R:Ro} (hR:R.ok) (s:Se) (x:ByteArray):okV (nameS R s x).1/\ (nameS R s x).1.t.names.length<=1048576:=by
 unfold nameS;split
 . exact ⟨get_okL (e:=⟨R.lv,R.B⟩) hR.b x,get_nm (e:=⟨R.lv,R.B⟩) hR.bv x⟩
 . split
   . exact readS_ok hR s x
   . exact ⟨okV_z,Nat.zero_le _⟩
theorem join_nm (a b:Vl):(Vl.join a b).t.names.length<=a.t.names.length+b.t.names.length:=by
 show (ofS (ofS a.t.names++ofS b.t.names)).length<=_
 have k1:=ofS_len (ofS a.t.names++ofS b.t.names)
 have k2:=ofS_len a.t.names
 have k3:=ofS_len b.t.names
 rw [List.length_append] at k1;omega
theorem okV_joinL {a b:Vl} (ha:okV a) (hb:okV b) (h:(a.t.names.length+b.t.names.length)*16<=140737488351232):okV (Vl.join a b):=by
 have h1:=okV_of ha
 have h2:=okV_of hb
 have h3:=join_nm a b
 exact ⟨⟨by omega,fun _ _=>rfl⟩,Sp.join_inR h1.2.1 h2.2.1,Cg.join_inR h1.2.2 h2.2.2⟩
def ldF (R:Ro) (p:Vl×Se) (x:ByteArray):Vl×Se:=if glI R.G x=true then (Vl.join p.1 (readS R p.2 x).1,(readS R p.2 x).2) else p
def ldA (R:Ro) (N:List ByteArray) (s:Se):Nat->Vl×Se
 |0=>(Vl.zero,s)
 |i+1=>ldF R (ldA R N s i) (atS N i)
def loadS (R:Ro) (s:Se) (x:ByteArray):Vl×Se:=ldA R (nameS R s x).1.t.names (nameS R s x).2 (nameS R s x).1.t.names.length
structure okP (R:Ro) (p:Vl×Se) (n:Nat):Prop where
 v:okV p.1
 n:p.1.t.names.length<=n
 s:okSe R p.2
theorem ldA_ok {R:Ro} (hR:R.ok) {N:List ByteArray} {s:Se} (hs:okSe R s): ∀i,i<=1048576->okP R (ldA R N s i) (i*1048576)
 |0,_=>⟨okV_z,by show (0:Nat)<=_;omega,hs⟩
 |i+1,hi=>by
  have ih:=ldA_ok hR (N:=N) hs i (by omega)
  show okP R (ldF R (ldA R N s i) (atS N i)) _
  have hr:=readS_ok hR (ldA R N s i).2 (atS N i)
  have hn:=ih.n
  unfold ldF;split
  . exact ⟨okV_joinL ih.v hr.1 (by omega),by have:=join_nm (ldA R N s i).1 (readS R (ldA R N s i).2 (atS N i)).1;show (Vl.join _ _).t.names.length<=_;omega,readS_se ih.s _⟩
  . exact ⟨ih.v,Nat.le_trans hn (Nat.mul_le_mul_right _ (Nat.le_succ i)),ih.s⟩
theorem loadS_ok {R:Ro} (hR:R.ok) {s:Se} (hs:okSe R s) (x:ByteArray):okP R (loadS R s x) 1099511627776:=by
 have h:=nameS_ok hR s x
 have h2:=ldA_ok hR (N:=(nameS R s x).1.t.names) (nameS_se hs x) _ h.2
 have h3:=h2.n
 have h4:=h.2
 exact ⟨h2.v,Nat.le_trans h3 (by omega),h2.s⟩
end Go.Proofs.YtokjghkehojenaaGreat
namespace Go.Proofs.YtokjghkehojenaaGreat
open Go.Sx
abbrev sl4L:List (Nat×Sm):= [(28,⟨[],FGlob⟩),(82,⟨[],FVJoin⟩)]
theorem sp4L:sumsOk Tryz.prog sl4L:=⟨fcGlob,fcVJoin,trivial⟩
theorem mLoad {R:Ro} (hR:R.ok) (s:Se) (x:ByteArray) (hs:okSe R s):Meth Tryz.prog 77 [.c (.own 0 0),.c (.d (st x))] (HE R s) (vlT (loadS R s x).1) (HE R (loadS R s x).2):=by
 have hG:=rows_okG hR.g
 have hgn:=hR.gn
 have hK:=rows_K s.gets
 have hkl:=okSe_len hs
 have hgg:=gGs_row R.G
 have hno:=nameS_ok hR s x
 have hns:=nameS_se hs x
 have he:loadS R s x=ldA R (nameS R s x).1.t.names (nameS R s x).2 (nameS R s x).1.t.names.length:=rfl
 rw [he];have hmn:=mName hR s x hkl
 generalize (nameS R s x).1=V_ at*
 generalize (nameS R s x).2=S_ at*
 clear he;have hA:=fun i=>ldA_ok hR (N:=V_.t.names) hns i
 refine meth_of (c:=13) (inl tys_ok (l:=sl4L) sp4L Tryz.func77 rfl (by kernel_rfl) (by kernel_rfl) rfl ?_)
 repeat' (first|exact trivial|(with_reducible first|assumption|exact n1|exact n2)|refine ⟨?_, ?_⟩|intro _)
 all_goals first|(with_reducible apply qq)|(conv=>whnf)
 all_goals first|((with_reducible show ACall _ _ 25 _ _ _);refine Meth.go 13 hmn rfl rfl rfl rfl rfl rfl ?_ ?_ ?_)
 repeat' (first|exact trivial|(with_reducible first|assumption|exact n1|exact n2)|refine ⟨?_, ?_⟩|intro _)
 all_goals first|(with_reducible apply qq)|(conv=>whnf)
 all_goals first|(exact rfl)|(intro _ _;rfl)|skip
 refine loop_idb tys_ok (l:=sl4L) sp4L (by kernel_rfl) (X:=Nat) (fun i=>⟨[(16,vx (.int .i64 i)),(15,vx (.int .i64 V_.t.names.length)),(14,.va (.c (.d (lst V_.t.names)))),(0,.va (.c (.own 0 0))),(4,.va (.c (.own 3 0))),(5,.va (.c (.own 4 0)))],[(0,.cells (EYn 2 R (ldA R V_.t.names S_ i).2)),(2,.row 2 (ldA R V_.t.names S_ i).2.gets.length (rwK (ldA R V_.t.names S_ i).2.gets)),(3,.cells [.d (bo false),.d (it 0),.d (it 0),.d (bo false),.d (it 0),.d (it 0),.d (bo false),.d (.v (.slice none 0 0))]),(4,.cells [.d (bo ((ldA R V_.t.names S_ i).1).i.s.some),.d (it ((ldA R V_.t.names S_ i).1).i.s.lo),.d (it ((ldA R V_.t.names S_ i).1).i.s.hi),.d (bo ((ldA R V_.t.names S_ i).1).i.c.some),.d (it ((ldA R V_.t.names S_ i).1).i.c.m),.d (it ((ldA R V_.t.names S_ i).1).i.c.r),.d (bo ((ldA R V_.t.names S_ i).1).t.null),.d (lst ((ldA R V_.t.names S_ i).1).t.names)])],5,Tryz.f77.ntmps⟩) (fun i=>V_.t.names.length-i) (fun i=>i<=V_.t.names.length) [] [0] (fun i _ _=>i+1) (lIds 13 [0,1] [3,4]) [0,1,4,2,3] 0 0 0 ?_ ?_ ?_
 . exact Nat.zero_le _
 . repeat' (first|exact trivial|exact rfl|(intro _ _;exact rfl)|refine ⟨?_, ?_⟩|fail)
   all_goals trace_state
 . rintro i k1
   have hAi:=hA i (by omega)
   rcases Nat.lt_or_ge i V_.t.names.length with hi|hi
   . have hne:decide ((i:Int)<(V_.t.names.length:Int))=true:=decide_eq_true (by omega)
     have hib:(0:Int)<=(i:Int)/\ (i:Int)<(V_.t.names.length:Int):=by omega
     have hKi:=rows_K (ldA R V_.t.names S_ i).2.gets
     have hkli:=okSe_len hAi.s
     have hri:=readS_ok hR (ldA R V_.t.names S_ i).2 (atS V_.t.names (Int.toNat (i:Int)))
     have hvi:=hAi.v
     have hni:=hAi.n
     cases hq:glI R.G (atS V_.t.names (Int.toNat (i:Int))) with
     |true=>
      have hqg:glI (gGs R.G.length (rwG R.G)) (atS V_.t.names (Int.toNat (i:Int)))=true:=by rw [hgg];exact hq
      have e:ldA R V_.t.names S_ (i+1)=(Vl.join (ldA R V_.t.names S_ i).1 (readS R (ldA R V_.t.names S_ i).2 (atS V_.t.names (Int.toNat (i:Int)))).1,(readS R (ldA R V_.t.names S_ i).2 (atS V_.t.names (Int.toNat (i:Int)))).2):=if_pos hq
      repeat' (first|exact trivial|(with_reducible first|assumption|exact n1|exact n2|exact hib.1|exact hib.2|exact nx hne|exact nx hqg|exact (nx (congrArg Bool.not hqg)))|refine ⟨?_, ?_⟩|intro _)
      all_goals first|(with_reducible apply qq)|(conv=>whnf)
      all_goals first|((with_reducible show ASat _ _ _ _ _);refine draw_plan tys_ok (l:=sl4L) sp4L (by kernel_rfl) (.take 1 (.take 2 (.all [(0,.all [(3,.all [(4,.all [(5,.done)])])]),(3,.all [(0,.all [(4,.all [(5,.done)])])])]))) (by kernel_rfl) ?_)|skip
      all_goals repeat' (first|exact trivial|(with_reducible first|assumption|exact n1|exact n2|exact hib.1|exact hib.2|exact nx hne|exact nx hqg|exact (nx (congrArg Bool.not hqg)))|refine ⟨?_, ?_⟩|intro _)
      all_goals first|(with_reducible apply qq)|(conv=>whnf)
      all_goals first|((with_reducible show ACall _ _ 52 _ _ _);refine Meth.go 13 (mRead hR (ldA R V_.t.names S_ i).2 (atS V_.t.names (Int.toNat (i:Int))) hkli) rfl rfl rfl rfl rfl rfl ?_ ?_ ?_)|skip
      all_goals repeat' (first|exact trivial|(with_reducible first|assumption|exact n1|exact n2|exact hib.1|exact hib.2|exact nx hne|exact nx hqg|exact (nx (congrArg Bool.not hqg)))|refine ⟨?_, ?_⟩|intro _)
      all_goals first|(with_reducible apply qq)|(conv=>whnf)
      all_goals first|((with_reducible show ACall _ _ 52 _ _ _);refine Meth.go 13 (mRead hR (ldA R V_.t.names S_ i).2 (atS V_.t.names (Int.toNat (i:Int))) hkli) rfl rfl rfl rfl rfl rfl ?_ ?_ ?_)|skip
      all_goals repeat' (first|exact trivial|(with_reducible first|assumption|exact n1|exact n2|exact hib.1|exact hib.2|exact nx hne|exact nx hqg|exact (nx (congrArg Bool.not hqg)))|refine ⟨?_, ?_⟩|intro _)
      all_goals first|(with_reducible apply qq)|(conv=>whnf)
      all_goals (try dsimp only)
      all_goals (try simp only [e,gN_lst,gN_canon])
      all_goals first|(exact rfl)|(intro _ _;rfl)|omega|(exact congrArg (Value.int .i64) (by first|(rw [wI_id _ (by omega) (by omega)];omega)|omega|(dsimp only;omega)))|exact hri.1.1.1|exact hri.1.2.1.1.1|exact hri.1.2.1.1.2|exact hri.1.2.1.2.1|exact hri.1.2.1.2.2|exact hri.1.2.2.1.1|exact hri.1.2.2.1.2|exact hri.1.2.2.2.1|exact hri.1.2.2.2.2|exact hvi.1.1|exact hvi.2.1.1.1|exact hvi.2.1.1.2|exact hvi.2.1.2.1|exact hvi.2.1.2.2|exact hvi.2.2.1.1|exact hvi.2.2.1.2|exact hvi.2.2.2.1|exact hvi.2.2.2.2
     |false=>
      have hqg:glI (gGs R.G.length (rwG R.G)) (atS V_.t.names (Int.toNat (i:Int)))=false:=by rw [hgg];exact hq
      have e:ldA R V_.t.names S_ (i+1)=ldA R V_.t.names S_ i:=if_neg (by rw [Int.toNat_natCast] at hq;rw [hq];decide)
      repeat' (first|exact trivial|(with_reducible first|assumption|exact n1|exact n2|exact hib.1|exact hib.2|exact nx hne|exact nx hqg|exact (nx (congrArg Bool.not hqg)))|refine ⟨?_, ?_⟩|intro _)
      all_goals first|(with_reducible apply qq)|(conv=>whnf)
      all_goals (try dsimp only)
      all_goals (try simp only [e,gN_lst,gN_canon])
      all_goals first|(exact rfl)|(intro _ _;rfl)|omega|(exact congrArg (Value.int .i64) (by first|(rw [wI_id _ (by omega) (by omega)];omega)|omega|(dsimp only;omega)))|exact hri.1.1.1|exact hri.1.2.1.1.1|exact hri.1.2.1.1.2|exact hri.1.2.1.2.1|exact hri.1.2.1.2.2|exact hri.1.2.2.1.1|exact hri.1.2.2.1.2|exact hri.1.2.2.2.1|exact hri.1.2.2.2.2|exact hvi.1.1|exact hvi.2.1.1.1|exact hvi.2.1.1.2|exact hvi.2.1.2.1|exact hvi.2.1.2.2|exact hvi.2.2.1.1|exact hvi.2.2.1.2|exact hvi.2.2.2.1|exact hvi.2.2.2.2
   . have hne:decide ((i:Int)<(V_.t.names.length:Int))=false:=decide_eq_false (by omega)
     obtain rfl:i=V_.t.names.length:=by omega
     repeat' (first|exact trivial|(with_reducible first|assumption|exact n1|exact n2|exact nx hne)|refine ⟨?_, ?_⟩|intro _)
     all_goals first|(with_reducible apply qq)|(conv=>whnf)
     all_goals first|(exact rfl)|(intro _ _;rfl)|omega
theorem mul_lo {lo a b c d x y:Int} (ha:a<=x) (hb:x<=b) (hc:c<=y) (hd:y<=d) (h1:lo<=a*c) (h2:lo<=a*d) (h3:lo<=b*c) (h4:lo<=b*d):lo<=x*y:=by
 have e1:lo<=a*y:=by
  rcases Int.le_total 0 a with h|h
  . exact Int.le_trans h1 (Int.mul_le_mul_of_nonneg_left hc h)
  . exact Int.le_trans h2 (Int.mul_le_mul_of_nonpos_left h hd)
 have e2:lo<=b*y:=by
  rcases Int.le_total 0 b with h|h
  . exact Int.le_trans h3 (Int.mul_le_mul_of_nonneg_left hc h)
  . exact Int.le_trans h4 (Int.mul_le_mul_of_nonpos_left h hd)
 rcases Int.le_total 0 y with h|h
 . exact Int.le_trans e1 (Int.mul_le_mul_of_nonneg_right ha h)
 . exact Int.le_trans e2 (Int.mul_le_mul_of_nonpos_right hb h)
theorem mul_hi {hi a b c d x y:Int} (ha:a<=x) (hb:x<=b) (hc:c<=y) (hd:y<=d) (h1:a*c<=hi) (h2:a*d<=hi) (h3:b*c<=hi) (h4:b*d<=hi):x*y<=hi:=by
 have:=mul_lo (lo:= -hi) (a:= -b) (b:= -a) (c:=c) (d:=d) (x:= -x) (y:=y) (by omega) (by omega) hc hd (by rw [Int.neg_mul];omega) (by rw [Int.neg_mul];omega) (by rw [Int.neg_mul];omega) (by rw [Int.neg_mul];omega)
 rw [Int.neg_mul] at this;omega
theorem tm_bound {x y m:Int} (hy:y≠0) (h1:y<=m+1) (h2: -y<=m+1):(0<=x->0<=x.tmod y/\ x.tmod y<=x/\ x.tmod y<=m)/\ (x<=0->x<=x.tmod y/\ x.tmod y<=0/\ -m<=x.tmod y):=by
 have key: ∀x:Int,0<=x->0<=x.tmod y/\ x.tmod y<=x/\ x.tmod y<=m:=by
  intro x hx;rw [Int.tmod_eq_emod_of_nonneg hx];have g1:=Int.emod_nonneg x hy
  have g2:=Int.emod_lt x hy
  refine ⟨g1, ?_,by omega⟩
  rcases Int.lt_or_gt_of_ne hy with h|h
  . rw [<-Int.emod_neg];have:=Int.mul_ediv_add_emod x (-y)
    have h2:=Int.mul_nonneg (show 0<= -y by omega) (Int.ediv_nonneg hx (show 0<= -y by omega))
    omega
  . have:=Int.mul_ediv_add_emod x y
    have h2:=Int.mul_nonneg (show 0<=y by omega) (Int.ediv_nonneg hx (show 0<=y by omega))
    omega
 refine ⟨key x,fun h=> ?_⟩
 have:=key (-x) (by omega)
 rw [Int.neg_tmod] at this;omega
def wr (n:Int):Int:=(n+9223372036854775808)%18446744073709551616-9223372036854775808
theorem wr_r (n:Int): -9223372036854775808<=wr n/\ wr n<9223372036854775808:=by unfold wr;omega
def exI (op a b:Int):Int:=if op=10 then a+b else if op=11 then a-b else if op=7 then a*b else 0
def exB (op:Int):Bool:=op==10||(op==11||op==7)
def cmpB (op a b:Int):Bool:=if op=12 then decide (a<b) else if op=13 then decide (a<=b) else if op=14 then decide (a=b) else if op=15 then decide (a≠b) else if op=16 then decide (a≠0)&&decide (b≠0) else decide (a≠0)||decide (b≠0)
def doI (op a b:Int):Int:=if exB op then wr (exI op a b) else if op=8 then (if b=0 then 0 else wr (a.tdiv b)) else if op=9 then (if b=0 then 0 else a.tmod b) else if 12<=op/\ op<=17 then (if cmpB op a b then 1 else 0) else 0
def doE (op b:Int):Int:=if exB op then 0 else if op=8 \/op=9 then (if b=0 then 10 else 0) else if 12<=op/\ op<=17 then 0 else 2
def allS:Sp:=Sp.of (-9223372036854775808) 9223372036854775807
def noS:Sp:=⟨false,0,0⟩
def wrapI (lo hi:Int):Sp:=if hi-lo≥18446744073709551616 then allS else if wr lo>wr hi then allS else Sp.of (wr lo) (wr hi)
def minL:Int->List Int->Int:=fun a l=>l.foldl (fun a b=>if b<a then b else a) a
def maxL:Int->List Int->Int:=fun a l=>l.foldl (fun a b=>if a<b then b else a) a
theorem minL_le: ∀(l:List Int) (a:Int),minL a l<=a/\ ∀x,x∈l->minL a l<=x
 | [],a=>⟨Int.le_refl _,fun x h=>by cases h⟩
 |b::l,a=>by
  have h:=minL_le l (if b<a then b else a)
  have e:minL a (b::l)=minL (if b<a then b else a) l:=rfl
  rw [e];refine ⟨?_,fun x hx=> ?_⟩
  . have:=h.1;split at this<;>split<;>omega
  . rcases List.mem_cons.1 hx with rfl|hx
    . have:=h.1;split at this<;>split<;>omega
    . exact h.2 x hx
theorem le_maxL: ∀(l:List Int) (a:Int),a<=maxL a l/\ ∀x,x∈l->x<=maxL a l
 | [],a=>⟨Int.le_refl _,fun x h=>by cases h⟩
 |b::l,a=>by
  have h:=le_maxL l (if a<b then b else a)
  have e:maxL a (b::l)=maxL (if a<b then b else a) l:=rfl
  rw [e];refine ⟨?_,fun x hx=> ?_⟩
  . have:=h.1;split at this<;>split<;>omega
  . rcases List.mem_cons.1 hx with rfl|hx
    . have:=h.1;split at this<;>split<;>omega
    . exact h.2 x hx
def around:List Int->Sp
 | []=>noS
 |x::l=>wrapI (minL x (x::l)) (maxL x (x::l))
def corners (f:Int->Int->Int) (a b:Sp):List Int:= [f a.lo b.lo,f a.lo b.hi,f a.hi b.lo,f a.hi b.hi]
def negS (b:Sp):Sp:=b.meet ⟨true, -9223372036854775808, -1⟩
def posS (b:Sp):Sp:=b.meet ⟨true,1,9223372036854775807⟩
def parts (b:Sp):List Sp:=(if (negS b).none then [] else [negS b])++(if (posS b).none then [] else [posS b])
def divS (a b:Sp):Sp:=around ((parts b).flatMap fun p=>corners Int.tdiv a p)
def absI (n:Int):Int:=if n<0 then-n else n
def restM (b:Sp):Int:=(if absI b.lo<absI b.hi then absI b.hi else absI b.lo)-1
def restS (a b:Sp):Sp:=if (parts b).isEmpty then noS else if a.lo=a.hi/\ b.lo=b.hi then Sp.of (doI 9 a.lo b.lo) (doI 9 a.lo b.lo) else Sp.of (if a.lo<0 then (if a.lo< -restM b then-restM b else a.lo) else 0) (if 0<a.hi then (if restM b<a.hi then restM b else a.hi) else 0)
theorem doI_rem {x y:Int} (h:y≠0):doI 9 x y=x.tmod y:=by
 unfold doI;rw [if_neg (by decide),if_neg (by decide),if_pos rfl,if_neg h]
theorem doI_div {x y:Int} (h:y≠0):doI 8 x y=wr (x.tdiv y):=by
 unfold doI;rw [if_neg (by decide),if_pos rfl,if_neg h]
def truthS (always never:Bool):Sp:=if always then Sp.of 1 1 else if never then Sp.of 0 0 else Sp.of 0 1
def aloneS (a:Sp) (n:Int):Bool:=decide (a.lo=n)&&decide (a.hi=n)
def eqS (a b:Sp):Bool:=(a.some==b.some)&&(decide (a.lo=b.lo)&&decide (a.hi=b.hi))
def cmpS (op:Int) (a b:Sp):Sp:=
 if op=12 then truthS (decide (a.hi<b.lo)) (decide (a.lo≥b.hi))
 else if op=13 then truthS (decide (a.hi<=b.lo)) (decide (a.lo>b.hi))
 else if op=14 then truthS (decide (a.lo=a.hi)&&eqS b a) (decide (a.hi<b.lo)||decide (b.hi<a.lo))
 else if op=15 then truthS (decide (a.hi<b.lo)||decide (b.hi<a.lo)) (decide (a.lo=a.hi)&&eqS b a)
 else if op=16 then truthS (!a.has 0&& !b.has 0) (aloneS a 0||aloneS b 0)
 else if op=17 then truthS (!a.has 0|| !b.has 0) (aloneS a 0&&aloneS b 0)
 else noS
def rkDo (op:Int) (a b:Sp):Sp:=
 if a.none||b.none then noS
 else if exB op then around (corners (exI op) a b)
 else if op=8 then divS a b
 else if op=9 then restS a b
 else cmpS op a b
theorem quo_rng {x y:Int} (rx: -9223372036854775808<=x/\ x<9223372036854775808) (ry: -9223372036854775808<=y/\ y<9223372036854775808) (h0:y≠0) (hn: ¬(x= -9223372036854775808/\ y= -1)): -9223372036854775808<=x.tdiv y/\ x.tdiv y<9223372036854775808:=by
 by_cases h1:y= -1
 . subst h1;rw [show (-1:Int)= -(1) from rfl,Int.tdiv_neg,Int.tdiv_one];omega
 by_cases h2:y=1
 . subst h2;rw [Int.tdiv_one];exact rx
 have h3:2<=y.natAbs:=by omega
 have h4:(x.tdiv y).natAbs=x.natAbs/y.natAbs:=Int.natAbs_tdiv x y
 have h5:x.natAbs/y.natAbs<=x.natAbs/2:=Nat.div_le_div_left h3 (by decide)
 omega
theorem part_odd (k a:Nat) (h:a<2^k):(2*a+1)&&&(2^(k+1)-(2*a+1))=1:=by
 have e:(2^(k+1)-(2*a+1))/2=2^k-(a+1):=by rw [Nat.pow_succ];omega
 have e2:(2^(k+1)-(2*a+1))%2=1:=by rw [Nat.pow_succ];omega
 apply Nat.eq_of_testBit_eq
 intro i;rw [Nat.testBit_and];cases i with
 |zero=>rw [Nat.testBit_zero,Nat.testBit_zero,e2];simp
 |succ i=>
  rw [Nat.testBit_succ,Nat.testBit_succ,e,show (2*a+1)/2=a by omega,Nat.testBit_two_pow_sub_succ h,Nat.testBit_succ];cases a.testBit i<;>simp
theorem part_even (k a:Nat) (h:a<2^k):(2*a)&&&(2^(k+1)-2*a)=2*(a&&&(2^k-a)):=by
 have e:(2^(k+1)-2*a)/2=2^k-a:=by rw [Nat.pow_succ];omega
 apply Nat.eq_of_testBit_eq
 intro i;rw [Nat.testBit_and];cases i with
 |zero=>rw [Nat.testBit_zero,Nat.testBit_zero,Nat.testBit_zero];simp
 |succ i=>rw [Nat.testBit_succ,Nat.testBit_succ,Nat.testBit_succ,e,show 2*a/2=a by omega,show 2*(a&&&(2^k-a))/2=a&&&(2^k-a) by omega,Nat.testBit_and]
theorem part_ok: ∀(k m:Nat),0<m->m<2^k->(m&&&(2^k-m))∣m/\ (m&&&(2^k-m))∣2^k/\ 0<(m&&&(2^k-m))
 |0,m,h0,h=>by simp at h;omega
 |k+1,m,h0,h=>by
  rcases Nat.mod_two_eq_zero_or_one m with e|e
  . obtain ⟨a,rfl⟩: ∃a,m=2*a:=⟨m/2,by omega⟩
    have ha:a<2^k:=by rw [Nat.pow_succ] at h;omega
    have ih:=part_ok k a (by omega) ha
    rw [part_even k a ha];refine ⟨Nat.mul_dvd_mul_left 2 ih.1, ?_,by have:=ih.2.2;omega⟩
    rw [Nat.pow_succ,Nat.mul_comm (2^k)];exact Nat.mul_dvd_mul_left 2 ih.2.1
  . obtain ⟨a,rfl⟩: ∃a,m=2*a+1:=⟨m/2,by omega⟩
    have ha:a<2^k:=by rw [Nat.pow_succ] at h;omega
    rw [part_odd k a ha];exact ⟨Nat.one_dvd _,Nat.one_dvd _,by decide⟩
def partI (m:Int):Int:=((m.toNat&&&(2^64-m.toNat):Nat):Int)
theorem partI_ok {m:Int} (h:0<m) (h1:m<9223372036854775808):partI m∣m/\ partI m∣18446744073709551616/\ 0<partI m/\ partI m<=m:=by
 obtain ⟨n,rfl⟩:=Int.eq_ofNat_of_zero_le (Int.le_of_lt h)
 obtain ⟨a,b,c⟩:=part_ok 64 n (by omega) (by omega)
 unfold partI;rw [Int.toNat_natCast];have d:=Nat.le_of_dvd (by omega) a
 generalize n&&&(2^64-n)=p at*
 exact ⟨Int.natCast_dvd_natCast.2 a,Int.natCast_dvd_natCast.2 b,by omega,by omega⟩
theorem partI_0:partI 0=0:=by unfold partI;rw [show Int.toNat 0=0 from rfl,Nat.zero_and];rfl
def Cg.all:Cg:=Cg.of 1 0
def linC (op m:Int) (a b:Cg) (wraps:Bool):Cg:=
 let k:=if wraps then partI m else m
 if exB op=false \/k=0 then Cg.all else Cg.of k (exI op a.r b.r%k)
def sclI (m c:Int):Int:=if sizeI c>9223372036854775807 then m else if wIntB (m*sizeI c)=true then m*sizeI c else m
theorem scl_ok {m c z:Int} (hm:0<=m) (hm1:m<9223372036854775808) (hz:m∣z):0<=sclI m c/\ sclI m c<9223372036854775808/\ sclI m c∣c*z:=by
 have h0:m∣c*z:=Int.dvd_mul_of_dvd_right hz
 unfold sclI;split
 . exact ⟨hm,hm1,h0⟩
 . split
   . rename_i hw
     have hw:=of_decide_eq_true hw
     have hs:0<=sizeI c:=by unfold sizeI;split<;>omega
     refine ⟨Int.mul_nonneg hm hs,hw.2, ?_⟩
     obtain ⟨k,rfl⟩:=hz
     unfold sizeI;split
     . exact ⟨-k,by rw [Int.mul_neg,Int.mul_neg,Int.neg_mul,Int.neg_neg, <-Int.mul_assoc,Int.mul_comm c m]⟩
     . exact ⟨k,by rw [<-Int.mul_assoc,Int.mul_comm c m]⟩
   . exact ⟨hm,hm1,h0⟩
def alC (c:Cg) (n:Int):Bool:=c.m==0&&c.r==n
def prod0 (a b:Cg) (wraps:Bool):Cg:=
 if alC a 0 then Cg.of 0 0 else if a.m=0 then linC 7 (sclI b.m a.r) a b wraps else linC 7 (Int.gcd a.m b.m:Int) a b wraps
def prodC (a b:Cg) (wraps:Bool):Cg:=if a.m≠0/\ b.m=0 then prod0 b a wraps else prod0 a b wraps
def quoC (a b:Cg) (wraps:Bool):Cg:=
 if alC b 0 then Cg.none else if b.m≠0 \/wraps=true then Cg.all
 else if a.m%sizeI b.r≠0 \/sizeI a.r%sizeI b.r≠0 then Cg.all
 else Cg.of (a.m/sizeI b.r) (a.r.tdiv b.r)
def rstC (a b:Cg):Cg:=if alC b 0 then Cg.none else Cg.of (Int.gcd (Int.gcd a.m b.m:Int) (sizeI b.r):Int) a.r
def aptC (a b:Cg):Bool:= !(Cg.meet (Cg.of (Int.gcd a.m b.m:Int) a.r) (Cg.of 0 b.r)).some
def cmpC (op:Int) (a b:Cg):Cg:=
 if op=15 then (if aptC a b then Cg.of 0 1 else Cg.all)
 else if op=14 then (if aptC a b then Cg.of 0 0 else Cg.all)
 else if op=16 then (if alC a 0||alC b 0 then Cg.of 0 0 else if !a.has 0&& !b.has 0 then Cg.of 0 1 else Cg.all)
 else if op=17 then (if !a.has 0|| !b.has 0 then Cg.of 0 1 else Cg.all)
 else if op=12 \/op=13 then Cg.all else Cg.none
def rsDo0 (op:Int) (a b:Cg) (wraps:Bool):Cg:=
 if !a.some|| !b.some then Cg.none
 else if a.m=0/\ b.m=0 then (if doE op b.r≠0 then Cg.none else Cg.of 0 (doI op a.r b.r))
 else if op=10 \/op=11 then linC op (Int.gcd a.m b.m:Int) a b wraps
 else if op=7 then prodC a b wraps
 else if op=8 then quoC a b wraps
 else if op=9 then rstC a b
 else cmpC op a b
def rsDo (op:Int) (a b:Cg) (wraps:Bool):Cg:=rsDo0 op a.clean b.clean wraps
theorem gcd_lt {m n:Int} (hm:0<=m/\ m<9223372036854775808) (hn:0<=n/\ n<9223372036854775808):(Int.gcd m n:Int)<9223372036854775808:=by
 rcases Int.lt_or_eq_of_le hm.1 with h|rfl
 . have:=Int.le_of_dvd h (Int.gcd_dvd_left m n);omega
 . rcases Int.lt_or_eq_of_le hn.1 with h|rfl
   . have:=Int.le_of_dvd h (Int.gcd_dvd_right 0 n);omega
   . decide
theorem cg_clean_tidy (c:Cg):c.clean.tidy:=by
 unfold Cg.clean;split
 . unfold Cg.of;split
   . exact .inr ⟨rfl,by show (0:Int)<=1;decide,fun h=>md_bound _ _ h⟩
   . exact .inr ⟨rfl,by show (0:Int)<=c.m;omega,fun h=>md_bound _ _ h⟩
 . exact .inl rfl
theorem size_pos {c:Int} (h:c≠0):0<sizeI c:=by unfold sizeI;split<;>omega
def wrB (op:Int) (a b:Sp):Bool:=
 if a.none||b.none then false
 else if op=8 then a.has (-9223372036854775808)&&b.has (-1)
 else (corners (exI op) a b).any fun e=>exB op&& !wIntB e
end Go.Proofs.YtokjghkehojenaaGreat
