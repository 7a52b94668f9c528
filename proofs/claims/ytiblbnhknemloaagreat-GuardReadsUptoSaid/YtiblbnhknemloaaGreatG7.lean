/- Statements whose order is open, by one order. No condition. -/
import Derived.Test.YtiblbnhknemloaaGreatG6
set_option linter.all false
set_option maxHeartbeats 8000000
set_option maxRecDepth 100000
namespace Go.Sx
structure Sub (st st':St):Prop where
 nx:st'.next=st.next
 lm:st'.lim=st.lim
 ts: ∀t,aV st'.tmps t=aV st.tmps t \/aV st'.tmps t=iS
 hp: ∀k,aF st'.heap k=aF st.heap k \/aF st'.heap k= .gone
def aG3 (ids:List Nat) (n:Nat) (h1 h:List (Nat×aB)):List (Nat×aB):=h1.map (fun p=>(jD ids ids.length n p.1,tR (jD ids ids.length n) p.2))++h.filter fun p=> !ids.contains p.1
theorem aH1 {ids:List Nat} {k:Nat}: ∀(h:List (Nat×aB)),aF (h.filter fun p=> !ids.contains p.1) k=aF (ids.map (fun k=>(k,aB.gone))++h) k
 | []=>by
   by_cases hk:k∈ids
   . rw [aCT hk];rfl
   . rw [aAP hk];rfl
 |(i,b)::h=>by
  by_cases hk:k∈ids
  . rw [aCT hk];have ih:=aH1 (ids:=ids) (k:=k) h
    rw [aCT hk] at ih;rw [List.filter_cons];split
    . rename_i hi
      rw [cY,if_neg]
      . exact ih
      . rintro rfl;simp [hk] at hi
    . exact ih
  . rw [aAP hk,cY];have ih:=aH1 (ids:=ids) (k:=k) h
    rw [aAP hk] at ih;rw [List.filter_cons];split
    . rw [cY,ih]
    . rename_i hi
      have hi:i∈ids:=by simpa using hi
      rw [if_neg (fun e:i=k=>hk (e▸hi)),ih]
theorem aWS {a b b':List (Nat×aB)} {k:Nat} (h:aF b k=aF b' k):aF (a++b) k=aF (a++b') k:=by
 induction a with
 |nil=>exact h
 |cons p a ih=>obtain ⟨i,x⟩:=p;rw [List.cons_append,List.cons_append,cY,cY,ih]
theorem aQa {ids:List Nat} {n k:Nat} {h1 h:List (Nat×aB)}:aF (aG3 ids n h1 h) k=aF (qA (jD ids ids.length n) h1 ids h) k:=aWS (aH1 h)
section
variable {P:Program} {τ:bF} {base:Nat} {ψ:aJ} {S:Nat→Prop} {w:World} {a:Act} {ops:Array Oper} {Q:Exit→Act→World→Prop}
theorem aC.sub {st st':St} (hs:Sub st st') (hr:aC P base ψ S w st a):aC P base ψ S w st' a:=by
 have lv: ∀k,(aF st'.heap k).live->(aF st.heap k).live:=fun k h=>by
  rcases hs.hp k with e|e
  . rwa [e] at h
  . rw [e] at h;exact h.elim
 refine ⟨by rw [hs.nx];exact hr.bas,⟨by rw [hs.nx];exact hr.sim.dom,fun k l hk=> ?_,fun k k' b m m' e1 e2 l1 l2=>hr.sim.inj k k' b m m' e1 e2 (lv k l1) (lv k' l2),fun k b m e1 l1=>hr.sim.dis k b m e1 (lv k l1),hr.sim.pdom,hr.sim.sdom⟩,by rw [hs.lm];exact hr.lim,hr.defers,fun t=> ?_⟩
 . rcases hs.hp k with e|e
   . rw [e];exact hr.sim.blk k l hk
   . rw [e];cases l<;>trivial
 . rcases hs.ts t with e|e
   . rw [e];exact hr.tmps t
   . rw [e];trivial
theorem aIt (a:Act) (d:Option Tmp) (v:Value):(a.put d v).defers=a.defers:=by cases d<;>rfl
theorem aQb {i:Nat} {o:Oper} (ho:ops[i]? =some o) {next:Act->World->Prop} (h:wpOp P ops Q i (fun a' w'=>a'.defers= []/\ next a' w') a w):
 wpOp P ops Q i (fun a' w'=>(∃v,a'=a.put o.dst v)/\ next a' w') a w:=by
 unfold wpOp at h⊢
 simp only [ho] at h⊢
 split
 . rename_i hw
   rw [if_pos hw] at h;refine h.imp (fun h=> ?_) id
   unfold Oper.wp at h⊢
   generalize (execOp a.eval o).run P w=r at h⊢
   unfold Oper.upon at h⊢
   split at h
   . exact ⟨⟨_,rfl⟩,h.2⟩
   . exact ⟨⟨_,rfl⟩,h.2⟩
   . have h:=h.1;rw [aIt] at h;cases h
   . refine Calls.mono h ?_
     intro e w' he
     cases e with
     |returned v=>exact ⟨⟨_,rfl⟩,he.2⟩
     |panicked ch=>exact he
     |outgrown=>exact he
   . exact Rows.mono h fun v w' he=>⟨⟨_,rfl⟩,he.2⟩
   . exact h
   . exact h
 . rename_i hw
   rw [if_neg hw] at h;exact ⟨⟨_,rfl⟩,h.2⟩
theorem aO6 (n:Nat):qO (List.range n):=fun q hq=>by simp at hq;simp [hq]
theorem bCl {ids:List Nat} (hi:gJ 0 ids=true) (rd:List Nat) (ts:List (Nat×Tm)) (h:List (Nat×aB)) (n m:Nat):mL 0 ids 0 ⟨ts,h,n,m⟩ ⟨xL (List.range ids.length) ids ts rd,aAi (List.range ids.length) ids h ids (List.range ids.length),ids.length,m⟩:=
 ⟨rfl,rfl,hi,aP6 (aO6 _) ids ts rd,aP8 (aO6 _) ids h _ _ 0 (fun i=>by rw [Nat.zero_add]) (fun q hq=>by simp at hq;simp [hq])⟩
def yG:Tm->Tm
 | .va (.c (.d (.v (.bool b))))=> .va (.c (.kb b))
 |x=>x
theorem aRk {x:Tm} {v:Value} (h:dL P ψ S w x v):dL P ψ S w (yG x) v:=by
 unfold yG;split
 . have h:aZ S w _ v:=h
   cases h;exact rfl
 . exact h
def aBz (ids:List Nat) (dst:Option Tmp):St->St->St
 |⟨ts,h,n,m⟩,⟨l7,h1,n1,_⟩=>⟨match dst with
  |some t=>(t,yG (yF (jD ids ids.length n) (aV l7 t)))::ts
  |none=>ts,aG3 ids n h1 h,n+(n1-ids.length),m⟩
def bV (ops:Array Oper) (i:Nat):Option Tmp:=match ops[i]? with
 |some o=>o.dst
 |none=>none
theorem aH8 (a:Act) {d t:Nat} (h:d≠t) (v:Value):(a.put (some d) v).tmps.getD t undef=a.tmps.getD t undef:=by
 simp only [Act.put,Array.getD_eq_getD_getElem?,Array.getElem?_setIfInBounds,h,if_false]
theorem aVK (ab:bE P τ) (hz: ∀t i,τ t=some i->cP i.zero) {ids rd:List Nat} {calls:Nat->List Va->St->(Tm->St->Prop)->Prop} (ai:iY P ids.length calls) {i n m:Nat} {ts:List (Nat×Tm)} {h:List (Nat×aB)}
 (a6:aC P base ψ S w ⟨ts,h,n,m⟩ a) (hi:gJ 0 ids=true) (hid:lW h n=true) (hlt:(ids.all fun k=>Nat.blt k n)=true) (bf:(ids.all fun k=>aAj (aF h k))=true) {K1:St->Prop}
 (hk:aCr P τ calls ops.toList i ⟨xL (List.range ids.length) ids ts rd,aAi (List.range ids.length) ids h ids (List.range ids.length),ids.length,m⟩ K1) {next:Act->World->Prop}
 (hn: ∀st1 az S' w' v,K1 st1->aC P base az S' w' (aBz ids (bV ops i) ⟨ts,h,n,m⟩ st1) (a.put (bV ops i) v)->cH ψ az->aI base ψ S w az S' w'->next (a.put (bV ops i) v) w'):wpOp P ops Q i next a w:=by
 obtain ⟨o,ho⟩: ∃o,ops[i]? =some o:=by
  unfold aCr at hk;rw [Array.getElem?_toList] at hk;cases h:ops[i]? with
  |none=>rw [h] at hk;exact hk.elim
  |some o=>exact ⟨o,rfl⟩
 have hd:bV ops i=o.dst:=by unfold bV;rw [ho]
 have wh:aC P 0 ψ S w ⟨ts,h,n,m⟩ a:=⟨Nat.zero_le _,a6.sim,a6.lim,a6.defers,a6.tmps⟩
 obtain ⟨du,_⟩:=aC.le (bCl hi rd ts h n m) wh
 have A8:aC P ids.length (gE ψ ids 0) S w ⟨xL (List.range ids.length) ids ts rd,aAi (List.range ids.length) ids h ids (List.range ids.length),ids.length,m⟩ a:=⟨Nat.le_refl _,du.sim,du.lim,du.defers,du.tmps⟩
 refine wpOp_mono ?_ (aQb ho (aZ8 (Q:=Q) ab hz ai A8 hk (next:=fun a' w'=>a'.defers= []/\ ∃st' aa S',K1 st'/\ aC P ids.length aa S' w' st' a'/\ aI ids.length (gE ψ ids 0) S w aa S' w') fun st' aa S' w' a' h1 h2 h3=>⟨h2.defers,st',aa,S',h1,h2,h3⟩))
 rintro a' w' ⟨⟨v,rfl⟩,⟨l7,jn,og,l1⟩,aa,S',hK,cg,he⟩
 obtain ⟨az,q1,q2,q3,q4⟩:=aOi a6 hi (Nat.le_refl _) hid hlt bf cg he
 rw [<-hd] at cg⊢
 refine hn _ az S' w' v hK (aC.sub (st:=⟨match bV ops i with
  |some t=>(t,yG (yF (jD ids ids.length n) (aV l7 t)))::ts
  |none=>ts,qA (jD ids ids.length n) jn ids h,n+(og-ids.length),m⟩) ⟨rfl,rfl,fun _=> .inl rfl,fun k=> .inl aQa⟩ ⟨?_,q1, ?_,?_,fun t=> ?_⟩) q2 q4
 . exact Nat.le_trans a6.bas (Nat.le_add_right _ _)
 . have hl:a.tmps.size=m:=a6.lim
   show _=m
   rw [<-hl];cases bV ops i<;>simp [Act.put]
 . rw [aIt];exact a6.defers
 . cases FT:bV ops i with
   |none=>exact (a6.tmps t).later q2 q4.later
   |some d=>
    show dL P az S' w' (aV ((d,yG (yF _ (aV l7 d)))::ts) t) _
    by_cases e:d=t
    . subst e;have:=cg.tmps d
      rw [FT] at this;simp only [aV,Nat.beq_refl];exact aRk (aRj q3 this)
    . rw [aH8 _ e];have e2:Nat.beq d t=false:=by
       cases hq:Nat.beq d t with
       |false=>rfl
       |true=>exact absurd (Nat.eq_of_beq_eq_true hq) e
      simp only [aV,e2];exact (a6.tmps t).later q2 q4.later
def aG4 (op:Op) (aj:Operand->Tm):List Nat:=match op with
 | .load _ x=>match aj x with
   | .va (.c (.own k _))=> [k]
   | .va (.c (.ep k _ _ _))=> [k]
   | .va (.c (.ap k _ _ _))=> [k]
   |_=> []
 | .lookup _ x _ _=>match aj x with
   | .va (.c (.mp k))=> [k]
   |_=> []
 |_=> []
def mN (op:Op) (aj:Operand->Tm):Bool:=match op with
 | .convert _ _ x=>(cZ (aj x)).isSome
 |_=>true
theorem aYF {op:Op} {ty:TypeId} {aj:Operand->Tm} {h h':List (Nat×aB)} {K:Tm->Prop} (hc: ∀k∈aG4 op aj,aF h' k=aF h k) (ub:mN op aj=true) (hk:iU P τ op ty aj h K):iU P τ op ty aj h' K:=by
 cases op with
 |load t x=>
  have hk:sV τ h t (aj x) K:=hk
  show sV τ h' t (aj x) K
  unfold sV at hk⊢
  unfold loadAt at hk⊢
  simp only [aG4] at hc
  generalize aj x=y at hc hk⊢
  cases ht:τ t with
  |none=>rw [ht] at hk;exact hk.elim
  |some ti=>
   rw [ht] at hk;dsimp only at hk⊢
   cases y with
   |tup xs=>exact hk
   |va v=>cases v with
    |agg cs=>exact hk
    |c c=>cases c<;>first|exact hk|exact j6j
 |lookup t x k ok=>
  have hk:mX τ h t (aj x) (aj k) ok K:=hk
  show mX τ h' t (aj x) (aj k) ok K
  unfold mX at hk⊢
  simp only [aG4] at hc
  generalize aj x=y at hc hk⊢
  cases y with
  |tup xs=>split at hk<;>first|contradiction
  |va v=>cases v with
   |agg cs=>split at hk<;>first|contradiction|(rename_i e;cases e;done)
   |c c=>cases c with
    |mp k1=>
     cases ht:τ t with
     |none=>rw [ht] at hk;exact False.elim hk
     |some ti=>
      obtain ⟨d,s,b,z⟩:=ti
      rw [ht] at hk;cases d<;>first|exact False.elim hk|exact j6j
    |_=>split at hk<;>first|contradiction|(rename_i e;cases e;done)
 |convert s t x=>
  have hk:(match cZ (aj x) with|some a=>eF (dY P (convert s t a)) K|_=>False):=hk
  show (match cZ (aj x) with|some a=>eF (dY P (convert s t a)) K|_=>False)
  have ub:(cZ (aj x)).isSome=true:=ub
  cases hp:cZ (aj x) with
  |some v=>rw [hp] at hk;exact hk
  |none=>rw [hp] at ub;cases ub
 |_=>exact hk
def aBA (ops:List Oper) (o:Oper) (st:St):Option Bool:=match o.guard with
 |none=>some true
 |some (j,want)=>match nG ops j with
  |none=>none
  |some s=>match aV st.tmps s with
   | .va (.c (.kb b))=>some (b==want)
   | .va (.c .und)=>some false
   |_=>none
theorem aO7 {ops:Array Oper} {o:Oper} {st:St} {b:Bool} (a6:aC P base ψ S w st a) (h:aBA ops.toList o st=some b):Region.wanted o (yielded ops a.tmps)=b:=by
 unfold aBA at h;split at h
 . rename_i hg;cases h;simp [Region.wanted,hg]
 . rename_i j want hg
   split at h
   . cases h
   . rename_i s hs
     have o5: ∀b',(match aV st.tmps s with| .va (.c (.kb b))=>some b| .va (.c .und)=>none|_=>some false)=b'->(∃b,aV st.tmps s= .va (.c (.kb b))) \/aV st.tmps s= .va (.c .und)->sU st s (fun st' x=>st'=st/\ x=b'):=by
      intro b' e he
      obtain ⟨ts,h,n,m⟩:=st
      unfold sU;dsimp only at e he⊢
      rcases he with ⟨b,he⟩|he
      . rw [he] at e⊢;subst e;cases b<;>exact ⟨rfl,rfl⟩
      . rw [he] at e⊢;subst e;exact ⟨rfl,rfl⟩
     have fin: ∀b',sU st s (fun st' x=>st'=st/\ x=b')->yielded ops a.tmps j=b':=by
      intro b' fu
      obtain ⟨st',b2,⟨rfl,rfl⟩,_,hb,_⟩:=aAT a6 fu
      have hd:(ops[j]?).bind (·.dst)=some s:=by
       unfold nG at hs;rw [Array.getElem?_toList] at hs;split at hs
       . rename_i hj;rw [hj];exact hs
       . simp at hs
      simp only [yielded,hd,Option.bind_some];rw [<-hb];split<;>simp_all
     split at h
     . rename_i b0 e
       cases h;have:=fin (some b0) (o5 _ (by rw [e]) (.inl ⟨_,e⟩))
       simp only [Region.wanted,hg,this];cases b0<;>cases want<;>rfl
     . rename_i e
       cases h;have:=fin none (o5 _ (by rw [e]) (.inr e))
       simp only [Region.wanted,hg,this];rfl
     . cases h
def qB (P:Program) (τ:bF) (ops:List Oper) (i:Nat) (st:St) (K:Tm->Prop):Prop:=match ops[i]? with
 |none=>False
 |some o=>match aBA ops o st with
  |some true=>mN o.op (ev st)=true/\ iU P τ o.op o.type (ev st) st.heap fun x=>K (yG x)
  |some false=>K kU
  |none=>False
theorem aIT {ts:List (Nat×Tm)} {h:List (Nat×aB)} {n m d:Nat} (hm:Nat.blt d m=true) (x:Tm) (K:St->Prop):bG ⟨ts,h,n,m⟩ (some d) x K=K ⟨(d,x)::ts,h,n,m⟩:=by
 show (match Nat.blt d m with|true=>fT x fun x=>K ⟨(d,x)::ts,h,n,m⟩|false=>False)=_
 rw [hm];exact oL _ _
theorem aVL (ab:bE P τ) (hz: ∀t i,τ t=some i->cP i.zero) {i n m d:Nat} {ts:List (Nat×Tm)} {h:List (Nat×aB)} {y:Tm} (a6:aC P base ψ S w ⟨ts,h,n,m⟩ a) (hd:bV ops i=some d) (hm:Nat.blt d m=true)
 (hk:qB P τ ops.toList i ⟨ts,h,n,m⟩ (fun x=>x=y)) {next:Act->World->Prop}
 (hn: ∀aa S' w' v,aC P base aa S' w' ⟨(d,y)::ts,h,n,m⟩ (a.put (some d) v)->aI base ψ S w aa S' w'->next (a.put (some d) v) w'):wpOp P ops Q i next a w:=by
 unfold qB at hk;rw [Array.getElem?_toList] at hk;cases ho:ops[i]? with
 |none=>rw [ho] at hk;exact hk.elim
 |some o=>
  rw [ho] at hk;dsimp only at hk
  have Cx:o.dst=some d:=by unfold bV at hd;rw [ho] at hd;exact hd
  split at hk
  . rename_i hw
    have hw:=aO7 a6 hw
    have hk:=hk.2
    have c6:=aBq (o:=o) (K:=fun st'=> ∃x,yG x=y/\ st'=⟨(d,x)::ts,h,n,m⟩) ab hz a6 rfl (aFj hk fun x hx=>by
     rw [Cx,aIT hm];exact ⟨x,hx,rfl⟩)
    have key:wpOp P ops Q i (fun a' w'=>a'.defers= []/\ ∃x aa S',yG x=y/\ aC P base aa S' w' ⟨(d,x)::ts,h,n,m⟩ a'/\ aI base ψ S w aa S' w') a w:=by
     unfold wpOp;simp only [ho];rw [if_pos hw];refine .inl (c6 _ _ ?_)
     rintro st' aa S' w' a' ⟨x,hx,rfl⟩ h2 h3
     exact ⟨h2.defers,x,aa,S',hx,h2,h3⟩
    refine wpOp_mono ?_ (aQb ho key)
    rintro a' w' ⟨⟨v,rfl⟩,x,aa,S',hx,hr,he⟩
    rw [Cx] at hr⊢;refine hn aa S' w' v ⟨hr.bas,hr.sim,hr.lim,hr.defers,fun t=> ?_⟩ he
    have:=hr.tmps t
    simp only [aV] at this⊢
    cases hq:Nat.beq d t with
    |true=>rw [hq] at this;rw [<-hx];exact aRk this
    |false=>rw [hq] at this;exact this
  . rename_i hw
    have hw:=aO7 a6 hw
    unfold wpOp;simp only [ho];rw [if_neg (by rw [hw];exact Bool.false_ne_true),Cx];obtain ⟨st',h1,h2⟩:=qT (dst:=some d) (x:=kU) (v:=undef) (K:=fun st'=>st'=⟨(d,kU)::ts,h,n,m⟩) (by rw [aIT hm]) a6 rfl
    subst h1;rw [hk] at h2;exact hn ψ S w undef h2 (aI.refl _ _ _ _)
  . exact hk.elim
theorem aWT {ops:List Oper} {i:Nat} {st:St} {K:Tm->Prop} (hk:qB P τ ops i st K): ∃y,K y/\ qB P τ ops i st (fun x=>x=y):=by
 unfold qB at hk⊢
 split at hk
 . exact hk.elim
 . split at hk
   . obtain ⟨y,h1,h2⟩:=yZ _ _ _ _ _ hk.2
     exact ⟨_,h1,hk.1,aFj h2 fun x hx=>by rw [hx]⟩
   . exact ⟨_,hk,rfl⟩
   . exact hk.elim
def mI (ops:Array Oper) (i:Nat):List Nat:=match ops[i]? with
 |some o=>o.looksAt ops
 |none=> []
def aCt (ops:Array Oper) (i:Nat) (ts:List (Nat×Tm)):List Nat:=match ops[i]? with
 |some o=>aG4 o.op (ev ⟨ts,[],0,0⟩)
 |none=> []
theorem aYG {ts ts':List (Nat×Tm)} {h h':List (Nat×aB)} {n n' m m':Nat} {o:Oper} (hl: ∀t∈o.looksAt ops,aV ts' t=aV ts t): ∀x∈o.op.operands.toList,ev ⟨ts',h',n',m'⟩ x=ev ⟨ts,h,n,m⟩ x:=by
 intro x hx;cases x with
 |tmp t=>exact hl t (List.mem_append_left _ (List.mem_filterMap.2 ⟨.tmp t,hx,rfl⟩))
 |const v=>rfl
 |global g=>rfl
 |func f=>rfl
theorem aCJ {i n n' m m':Nat} {ts ts':List (Nat×Tm)} {h h':List (Nat×aB)} {K:Tm->Prop} (hl: ∀t∈mI ops i,aV ts' t=aV ts t) (hh: ∀k∈aCt ops i ts,aF h' k=aF h k)
 (hk:qB P τ ops.toList i ⟨ts,h,n,m⟩ K):qB P τ ops.toList i ⟨ts',h',n',m'⟩ K:=by
 unfold qB at hk⊢
 unfold mI at hl;unfold aCt at hh;rw [Array.getElem?_toList] at hk⊢;cases ho:ops[i]? with
 |none=>rw [ho] at hk;exact hk.elim
 |some o=>
  rw [ho] at hk hl hh;dsimp only at hk hl hh⊢
  have hw:aBA ops.toList o ⟨ts',h',n',m'⟩=aBA ops.toList o ⟨ts,h,n,m⟩:=by
   unfold aBA;cases hg:o.guard with
   |none=>rfl
   |some g=>
    obtain ⟨j,want⟩:=g
    dsimp only;cases hd:nG ops.toList j with
    |none=>rfl
    |some s=>
     dsimp only;rw [hl s ?_];refine List.mem_append_right _ ?_
     rw [hg];unfold nG at hd;rw [Array.getElem?_toList] at hd;cases hj:ops[j]? with
     |none=>rw [hj] at hd;cases hd
     |some oj=>rw [hj] at hd;have hd:oj.dst=some s:=hd;simp [hj,hd]
  rw [hw];have iw:=aYG (ops:=ops) (h:=h) (h':=h') (n:=n) (n':=n') (m:=m) (m':=m') hl
  have ub:mN o.op (ev ⟨ts',h',n',m'⟩)=mN o.op (ev ⟨ts,h,n,m⟩):=by
   cases e:o.op with
   |convert s t x=>show (cZ _).isSome=(cZ _).isSome;rw [iw x (by rw [e];simp [Op.operands])]
   |_=>rfl
  split at hk
  . refine ⟨by rw [ub];exact hk.1,aIO (fun x hx=>(iw x hx).symm) (aYF ?_ hk.1 hk.2)⟩
    exact hh
  . exact hk
  . exact hk
end
inductive yH where
 |take (i:Nat)
 |act (j:Nat) (T rd:List Nat)
 |news (zs:List Nat)
def mJ (ops:Array Oper) (i:Nat):List Nat:=match ops[i]? with
 |some o=>(o.after.toList.filter (Region.binds .any)).map (·.on)
 |none=> []
def fS (ops:Array Oper) (i:Nat):Bool:=match ops[i]? with
 |some o=>(match o.op with
  | .alloc _=>true
  |_=>false)&&o.guard.isNone&&o.dst.isSome&&(mJ ops i).isEmpty
 |none=>false
inductive vV (ops:Array Oper):Nat->Nat->Prop
 |one {j e:Nat}:e∈mJ ops j->vV ops j e
 |more {j e k:Nat}:e∈mJ ops j->vV ops e k->vV ops j k
def tM (k:Nat) (l:List Nat):List Nat:=match l.contains k with
 |true=>l
 |false=>k::l
def mO (ops:Array Oper):Nat->List (List Nat)
 |0=> []
 |n+1=>mO ops n++ [((mJ ops n).flatMap fun e=>e::(mO ops n).getD e []).foldr tM []]
theorem aYH {k x:Nat} {l:List Nat} (h:x∈tM k l):x=k \/x∈l:=by
 unfold tM at h;split at h
 . exact .inr h
 . exact List.mem_cons.1 h
theorem aNx {x:Nat}: ∀{l:List Nat},x∈l.foldr tM []->x∈l
 | [],h=>h
 |k::l,h=>by
  rcases aYH h with h|h
  . exact h▸List.mem_cons_self
  . exact List.mem_cons_of_mem _ (aNx h)
theorem aDg (ops:Array Oper): ∀n,(mO ops n).length=n
 |0=>rfl
 |n+1=>by rw [mO,List.length_append,aDg ops n];rfl
theorem aJu (ops:Array Oper): ∀(n j k:Nat),k∈(mO ops n).getD j []->vV ops j k
 |0,j,k,h=>by simp [mO] at h
 |n+1,j,k,h=>by
  rw [mO] at h;rw [List.getD_eq_getElem?_getD] at h;rcases Nat.lt_trichotomy j n with c|c|c
  . rw [List.getElem?_append_left (by rw [aDg];exact c), <-List.getD_eq_getElem?_getD] at h;exact aJu ops n j k h
  . subst c;rw [List.getElem?_append_right (by rw [aDg];exact Nat.le_refl _),aDg,Nat.sub_self] at h;have h:=aNx (show k∈List.foldr tM [] _ from h)
    obtain ⟨e,he,h⟩:=List.mem_flatMap.1 h
    rcases List.mem_cons.1 h with h|h
    . subst h;exact .one he
    . exact .more he (aJu ops j e k h)
  . rw [List.getElem?_eq_none (by rw [List.length_append,aDg];simp;omega)] at h;cases h
def aAy (tb:List (List Nat)) (j k:Nat):Bool:=(tb.getD j []).contains k
theorem aKl {ops:Array Oper} {n j k:Nat} (h:aAy (mO ops n) j k=true):vV ops j k:=aJu ops n j k (by simpa [aAy] using h)
def xM (ops:Array Oper) (d:Option Tmp) (i:Nat):Bool:=match d with
 |none=>true
 |some t=> !(mI ops i).contains t&& !(bV ops i==some t)
def vA (ops:Array Oper) (k:Nat) (l:List Nat):Bool:=match bV ops k with
 |some d=> !l.contains d
 |none=>true
def aTW (C:List Nat) (l:List Nat):Bool:=l.all fun e=>C.contains e
def tS (ops:Array Oper) (tb:List (List Nat)):List yH->List Nat->List Nat->Bool
 | [],C,_=>(List.range ops.size).all fun i=>C.contains i
 | .take i::p,C,T=>(Nat.blt i ops.size&& !C.contains i&& !fS ops i&&(bV ops i).isSome&&aTW C (mJ ops i)&&vA ops i (mI ops i))&&(T.all fun k=>xM ops (bV ops i) k&&(vA ops k (mI ops i)||aAy tb i k))&&tS ops tb p (i::C) (i::T)
 | .act j T' rd::p,C,T=>(Nat.blt j ops.size&& !C.contains j&& !fS ops j&&aTW C (mJ ops j))&&((List.range ops.size).all fun l=>Nat.beq l j||(C.contains l||(fS ops l|| !(mJ ops l).all fun e=>C.contains e||fS ops e)))&&
    (T'==T.filter (fun k=> !aAy tb j k))&&(rd==mI ops j)&&(T'.all fun k=>xM ops (bV ops j) k&&vA ops k rd)&&tS ops tb p (j::C) T'
 | .news zs::p,C,T=>(zs==(List.range ops.size).filter (fun z=>fS ops z&& !C.contains z))&&(zs.all fun z=>(List.range ops.size).all fun l=>C.contains l||(fS ops l|| !(mJ ops l).all fun e=>C.contains e||(zs.contains e&& !Nat.beq e z)))&&
    (T.all fun k=>zs.all fun z=>xM ops (bV ops z) k)&&tS ops tb p (zs++C) T
def sG (ops:Array Oper):Bool:=(List.range ops.size).all fun i=>((mJ ops i).all fun e=>Nat.blt e i)&&(!fS ops i||(List.range ops.size).all fun k=>Nat.beq k i|| !(bV ops k==bV ops i))
def aBZ (τ:bF) (ops:Array Oper):List Nat->St->(St->Prop)->Prop
 | [],st,K=>K st
 |z::zs,⟨ts,h,n,m⟩,K=>match ops[z]? with
  |some o=>match o.op,o.dst with
   | .alloc t,some d=>match τ t with
     |some ⟨_,_,_,z0⟩=>Nat.blt d m=true/\ aBZ τ ops zs ⟨(d,.va (.c (.own n 0)))::ts,(n,.cells (cW z0))::h,n+1,m⟩ K
     |none=>False
   |_,_=>False
  |none=>False
def iR (ops:Array Oper) (ids T:List Nat) (ts:List (Nat×Tm)) (h:List (Nat×aB)) (n:Nat):Bool:=
 gJ 0 ids&&lW h n&&(ids.all fun k=>Nat.blt k n)&&(ids.all fun k=>aAj (aF h k))&&(T.all fun k=>(aCt ops k ts).all fun b=> !ids.contains b&&Nat.blt b n)
def nS (P:Program) (τ:bF) (calls:Nat->Nat->List Va->St->(Tm->St->Prop)->Prop) (reach:List Nat->St->List Nat) (ops:Array Oper):List yH->List Nat->St->(St->Prop)->Prop
 | [],_,st,K=>K st
 | .take i::p,T,st,K=>qB P τ ops.toList i st fun y=>bG st (bV ops i) y fun st=>nS P τ calls reach ops p (i::T) st K
 | .act j T' rd::p,_,⟨ts,h,n,m⟩,K=>iR ops (reach rd ⟨ts,h,n,m⟩) T' ts h n=true/\
    aCr P τ (calls (reach rd ⟨ts,h,n,m⟩).length) ops.toList j ⟨xL (List.range (reach rd ⟨ts,h,n,m⟩).length) (reach rd ⟨ts,h,n,m⟩) ts rd,aAi (List.range (reach rd ⟨ts,h,n,m⟩).length) (reach rd ⟨ts,h,n,m⟩) h (reach rd ⟨ts,h,n,m⟩) (List.range (reach rd ⟨ts,h,n,m⟩).length),(reach rd ⟨ts,h,n,m⟩).length,m⟩
     fun st1=>nS P τ calls reach ops p T' (aBz (reach rd ⟨ts,h,n,m⟩) (bV ops j) ⟨ts,h,n,m⟩ st1) K
 | .news zs::p,T,⟨ts,h,n,m⟩,K=>(T.all fun k=>(aCt ops k ts).all fun b=>Nat.blt b n)=true/\ aBZ τ ops zs ⟨ts,h,n,m⟩ fun st=>nS P τ calls reach ops p T st K
section
variable {P:Program} {τ:bF} {base:Nat} {ψ aa cw:aJ} {S S' S0:Nat→Prop} {w w' w0:World} {a:Act} {ops:Array Oper} {Q:Exit→Act→World→Prop} {R:Array Bool}
theorem wA {i:Nat} (h:i∈Region.ready .any ops R):i<ops.size/\ R.getD i true=false/\ ∀e∈mJ ops i,R.getD e false=true:=by
 obtain ⟨h1,o,h2,h3⟩:=mem_ready.1 h
 refine ⟨(Array.getElem?_eq_some_iff.1 h2).1,h1,fun e he=> ?_⟩
 unfold mJ at he;rw [h2] at he;obtain ⟨x,hx,rfl⟩:=List.mem_map.1 he
 obtain ⟨hx1,wi⟩:=List.mem_filter.1 hx
 exact h3 x (by simpa using hx1) wi
theorem aYI {i:Nat} (hi:i<ops.size) (h1:R.getD i true=false) (h2: ∀e∈mJ ops i,R.getD e false=true):i∈Region.ready .any ops R:=by
 refine mem_ready.2 ⟨h1,ops[i],Array.getElem?_eq_some_iff.2 ⟨hi,rfl⟩,fun x hx hb=>h2 _ ?_⟩
 unfold mJ;rw [Array.getElem?_eq_some_iff.2 ⟨hi,rfl⟩];exact List.mem_map.2 ⟨x,List.mem_filter.2 ⟨by simpa using hx,hb⟩,rfl⟩
theorem aDC (hs:R.size=ops.size) {i:Nat} (hi:i<ops.size):R.getD i true=R.getD i false:=by
 simp [Array.getD_eq_getD_getElem?,hs,hi]
theorem aDh {i j:Nat} (hi:i<R.size):(R.setIfInBounds i true).getD j false=if j=i then true else R.getD j false:=by
 by_cases e:j=i
 . subst e;simp [Array.getD_eq_getD_getElem?,hi]
 . rw [if_neg e];simp [Array.getD_eq_getD_getElem?,Array.getElem?_setIfInBounds_ne (Ne.symm e)]
theorem aLk (h:sG ops=true) {i e:Nat} (hi:i<ops.size) (he:e∈mJ ops i):e<i:=by
 have:=List.all_eq_true.1 h i (List.mem_range.2 hi)
 simp only [Bool.and_eq_true] at this;have:=List.all_eq_true.1 this.1 e he
 exact Nat.le_of_ble_eq_true this
theorem aEn (h:sG ops=true) {z k:Nat} (hz:fS ops z=true) (l4:z<ops.size) (hk:k<ops.size) (ag:k≠z):bV ops k≠bV ops z:=by
 have:=List.all_eq_true.1 h z (List.mem_range.2 l4)
 simp only [Bool.and_eq_true,Bool.or_eq_true,Bool.not_eq_true'] at this;rcases this.2 with h1|h1
 . rw [hz] at h1;cases h1
 . have:=List.all_eq_true.1 h1 k (List.mem_range.2 hk)
   simp only [Bool.or_eq_true,Bool.not_eq_true',beq_eq_false_iff_ne] at this;rcases this with h2|h2
   . exact absurd (Nat.eq_of_beq_eq_true h2) ag
   . exact h2
theorem aH2 (hr:sG ops=true) (hs:R.size=ops.size) (h:Region.ready .any ops R= []): ∀i,i<ops.size->R.getD i false=true:=by
 intro i
 induction i using Nat.strongRecOn with
 |_ i ih=>
  intro hi;cases e:R.getD i false with
  |true=>rfl
  |false=>
   have:=aYI hi (by rw [aDC hs hi];exact e) fun k hk=>ih k (aLk hr hi hk) (Nat.lt_trans (aLk hr hi hk) hi)
   rw [h] at this;cases this
def Pdg (P:Program) (τ:bF) (ops:Array Oper) (w0:World) (ψ:aJ) (S:Nat->Prop) (w:World) (a:Act) (z b:Nat):Prop:=
 ∃o t d d1 s1 b1 z0 arr e,ops[z]? =some o/\ o.op= .alloc t/\ o.dst=some d/\ τ t=some ⟨d1,s1,b1,z0⟩/\ a.tmps.getD d undef= .pointer (some ⟨b,0,none⟩)/\ w.heap[b]? =some (.cells arr e (0,0))/\
  (∀ψ S w,aG (dK P ψ S w) (cW z0) arr.toList)/\ (∀k m,ψ k≠some (.at b m))/\ ¬S b/\ w0.heap.size<=b/\ b<w.heap.size
theorem Pdg.step {z b:Nat} {dst:Option Tmp} {v:Value} (h:Pdg P τ ops w0 ψ S w a z b) (hd:dst≠bV ops z) (he:aI base ψ S w aa S' w'):Pdg P τ ops w0 aa S' w' (a.put dst v) z b:=by
 obtain ⟨o,t,d,d1,s1,b1,z0,arr,e,h1,h2,h3,h4,h5,h6,h7,h8,h9,Cy,B3⟩:=h
 refine ⟨o,t,d,d1,s1,b1,z0,arr,e,h1,h2,h3,h4, ?_,?_,h7, ?_,?_,Cy,Nat.lt_of_lt_of_le B3 he.grow⟩
 . cases dst with
   |none=>exact h5
   |some c=>
    rw [aH8]
    . exact h5
    . rintro rfl
      apply hd
      unfold bV;rw [h1];exact h3.symm
 . rw [he.old b B3 h8];exact h6
 . intro k m hk;rcases he.newP k b m hk with ⟨k',m',h'⟩|h'
   . exact h8 k' m' h'
   . omega
 . intro hS;rcases he.newS b hS with h'|⟨k,m,h'⟩|h'
   . exact h9 h'
   . exact h8 k m h'
   . omega
theorem aC.intro {ts:List (Nat×Tm)} {h:List (Nat×aB)} {n m b mm:Nat} {blk:aB} (hr:aC P base ψ S w ⟨ts,h,n,m⟩ a) (hb:fE P (ψ.set n (.at b mm)) S w blk (.at b mm)) (ky: ∀k m,ψ k≠some (.at b m)) (hS: ¬S b) (hlt:b<w.heap.size):
 aC P base (ψ.set n (.at b mm)) S w ⟨ts,(n,blk)::h,n+1,m⟩ a:=by
 have hn:ψ n=none:=hr.sim.dom n (Nat.le_refl _)
 have hp:cH ψ (ψ.set n (.at b mm)):=aJ.sub_set hn
 have hl:=cT.refl S w
 refine ⟨Nat.le_succ_of_le hr.bas,⟨?_,?_,?_,?_,?_,hr.sim.sdom⟩,hr.lim,hr.defers,fun t=>(hr.tmps t).later hp hl⟩
 . intro k hk;have:k≠n:=by simp at hk;omega
   have ba:n<=k:=by simp at hk;omega
   simp [aJ.set,this,hr.sim.dom k ba]
 . intro k l hk;rw [cY];by_cases hkn:n=k
   . subst hkn;simp only [aJ.set,if_true,Option.some.injEq] at hk;subst hk
     simpa using hb
   . have yc:k≠n:=fun h=>hkn h.symm
     simp only [aJ.set,yc,if_false] at hk;rw [if_neg hkn];exact (hr.sim.blk k l hk).later hp hl fun b m' e=>rfl
 . intro k k' b' m1 m2 hk ba fw o8
   rw [cY] at fw o8
   simp only [aJ.set] at hk ba
   by_cases h1:k=n
   . by_cases h2:k'=n
     . rw [h1,h2]
     . rw [if_pos h1] at hk;rw [if_neg h2] at ba
       simp at hk
       rw [<-hk.1] at ba
       exact absurd ba (ky _ _)
   . by_cases h2:k'=n
     . rw [if_neg h1] at hk;rw [if_pos h2] at ba
       simp at ba
       rw [<-ba.1] at hk;exact absurd hk (ky _ _)
     . rw [if_neg h1] at hk;rw [if_neg h2] at ba
       rw [if_neg (Ne.symm h1)] at fw;rw [if_neg (Ne.symm h2)] at o8
       exact hr.sim.inj k k' b' m1 m2 hk ba fw o8
 . intro k b' m1 hk fw
   rw [cY] at fw;simp only [aJ.set] at hk;by_cases h1:k=n
   . rw [if_pos h1] at hk;simp at hk;rw [<-hk.1];exact hS
   . rw [if_neg h1] at hk;rw [if_neg (Ne.symm h1)] at fw
     exact hr.sim.dis k b' m1 hk fw
 . intro k b' m1 hk
   simp only [aJ.set] at hk;by_cases h1:k=n
   . rw [if_pos h1] at hk;simp at hk;rw [<-hk.1];exact hlt
   . rw [if_neg h1] at hk;exact hr.sim.pdom k b' m1 hk
theorem aC.tset {ts:List (Nat×Tm)} {h:List (Nat×aB)} {n m d:Nat} {x:Tm} (hr:aC P base ψ S w ⟨ts,h,n,m⟩ a) (hx:dL P ψ S w x (a.tmps.getD d undef)):aC P base ψ S w ⟨(d,x)::ts,h,n,m⟩ a:=by
 refine ⟨hr.bas,hr.sim,hr.lim,hr.defers,fun t=> ?_⟩
 simp only [aV];cases hq:Nat.beq d t with
 |true=>have:=Nat.eq_of_beq_eq_true hq;subst this;exact hx
 |false=>exact hr.tmps t
theorem aRl: ∀(zs:List Nat) (Pd:List (Nat×Nat)) (ψ:aJ) (ts ts':List (Nat×Tm)) (h:List (Nat×aB)) (n m:Nat) (K:St->Prop),zs.Nodup->(Pd.map (·.2)).Nodup->(∀z∈zs, ∃b,(z,b)∈Pd/\ Pdg P τ ops w0 ψ S w a z b)->
 aC P base ψ S w ⟨ts',h,n,m⟩ a->base<=n->aI base cw S0 w0 ψ S w->aBZ τ ops zs ⟨ts,h,n,m⟩ K->
 ∃(ds:List (Nat×Tm)) (hs:List (Nat×aB)) (n':Nat) (aa:aJ),K ⟨ds++ts,hs++h,n',m⟩/\ aC P base aa S w ⟨ds++ts',hs++h,n',m⟩ a/\ aI base cw S0 w0 aa S w/\ (∀p∈ds, ∃z∈zs,bV ops z=some p.1)/\ (∀p∈hs,n<=p.1)
 | [],Pd,ψ,ts,ts',h,n,m,K,_,_,_,hr,_,he,hk=>⟨[],[],n,ψ,hk,hr,he,(fun p hp=>by cases hp),(fun p hp=>by cases hp)⟩
 |z::zs,Pd,ψ,ts,ts',h,n,m,K,xu,hnb,hP,hr,er,he,hk=>by
  obtain ⟨b,jf,o,t,d,d1,s1,b1,z0,arr,e,h1,h2,h3,h4,h5,h6,h7,h8,h9,Cy,B3⟩:=hP z List.mem_cons_self
  simp only [aBZ,h1,h2,h3,h4] at hk;obtain ⟨hlt,hk⟩:=hk
  have hn:ψ n=none:=hr.sim.dom n (Nat.le_refl _)
  have du:=aC.intro (blk:= .cells (cW z0)) (mm:=arr.size) hr ⟨arr,e,h6,h7 _ _ _⟩ h8 h9 B3
  have c9:=du.tset (d:=d) (x:= .va (.c (.own n 0))) (by rw [h5];exact ⟨b,arr.size,by simp [aJ.set],rfl⟩)
  have bp:aI base cw S0 w0 (ψ.set n (.at b arr.size)) S w:=by
   refine ⟨he.os,he.tape,he.output,he.grow,he.old,he.later,he.newS,fun k b' m' hk=> ?_,fun k hk=> ?_⟩
   . simp only [aJ.set] at hk;by_cases c:k=n
     . rw [if_pos c] at hk;simp at hk;rw [<-hk.1];exact .inr Cy
     . rw [if_neg c] at hk;exact he.newP k b' m' hk
   . rw [<-he.agr k hk];simp only [aJ.set];rw [if_neg j3]
  obtain ⟨ds,hs,n',aa,g1,g2,g3,g4,g5⟩:=aRl zs Pd (ψ.set n (.at b arr.size)) ((d,.va (.c (.own n 0)))::ts) ((d,.va (.c (.own n 0)))::ts') ((n,.cells (cW z0))::h) (n+1) m K (List.nodup_cons.1 xu).2 hnb
   (fun z' gk=>by
    obtain ⟨b',Bs,o,t,d,d1,s1,b1,z0,bu,e,q1,q2,q3,q4,q5,q6,q7,q8,q9,qi,r9⟩:=hP z' (List.mem_cons_of_mem _ gk)
    refine ⟨b',Bs,o,t,d,d1,s1,b1,z0,bu,e,q1,q2,q3,q4,q5,q6,q7,fun k m' hk=> ?_,q9,qi,r9⟩
    simp only [aJ.set] at hk;by_cases c:k=n
    . rw [if_pos c] at hk;simp at hk
      have e1:z'≠z:=fun e=>(List.nodup_cons.1 xu).1 (e▸gk)
      have:=hk.1
      subst this;have: ∀(l:List (Nat×Nat)),(l.map (·.2)).Nodup->(z,b)∈l->(z',b)∈l->z'=z:=by
       intro l
       induction l with
       |nil=>intro _ h;cases h
       |cons p l ih=>
        intro rh m1 m2;simp only [List.map_cons,List.nodup_cons] at rh;rcases List.mem_cons.1 m1 with e1|e1
        . rcases List.mem_cons.1 m2 with e2|e2
          . rw [<-e1] at e2;exact congrArg Prod.fst e2
          . exact absurd (List.mem_map.2 ⟨_,e2,by rw [<-e1]⟩) rh.1
        . rcases List.mem_cons.1 m2 with e2|e2
          . exact absurd (List.mem_map.2 ⟨_,e1,by rw [<-e2]⟩) rh.1
          . exact ih rh.2 e1 e2
      exact e1 (this Pd hnb jf Bs)
    . rw [if_neg c] at hk;exact q8 k m' hk)
   c9 j3 bp hk
  refine ⟨ds++ [(d,.va (.c (.own n 0)))],hs++ [(n,.cells (cW z0))],n',aa,by simpa using g1,by simpa using g2,g3,fun p hp=> ?_,fun p hp=> ?_⟩
  . rcases List.mem_append.1 hp with hp|hp
    . obtain ⟨z',q1,q2⟩:=g4 p hp;exact ⟨z',List.mem_cons_of_mem _ q1,q2⟩
    . rw [List.mem_singleton.1 hp];exact ⟨z,List.mem_cons_self,by unfold bV;rw [h1];exact h3⟩
  . rcases List.mem_append.1 hp with hp|hp
    . have:=g5 p hp;omega
    . rw [List.mem_singleton.1 hp];exact Nat.le_refl _
end
theorem aIU {ds ts:List (Nat×Tm)} {t:Nat} (h: ∀p∈ds,p.1≠t):aV (ds++ts) t=aV ts t:=by
 induction ds with
 |nil=>rfl
 |cons p ds ih=>
  obtain ⟨d,x⟩:=p
  have h1:Nat.beq d t=false:=by
   cases hq:Nat.beq d t with
   |false=>rfl
   |true=>exact absurd (Nat.eq_of_beq_eq_true hq) (h (d,x) List.mem_cons_self)
  simp only [List.cons_append,aV,h1];exact ih fun p hp=>h p (List.mem_cons_of_mem _ hp)
theorem aO8 {ds ts ts':List (Nat×Tm)} {t:Nat} (h:aV ts t=aV ts' t):aV (ds++ts) t=aV (ds++ts') t:=by
 induction ds with
 |nil=>exact h
 |cons p ds ih=>obtain ⟨d,x⟩:=p;simp only [List.cons_append,aV,ih]
theorem aWU {hs h:List (Nat×aB)} {n k:Nat} (hh: ∀p∈hs,n<=p.1) (hk:k<n):aF (hs++h) k=aF h k:=by
 induction hs with
 |nil=>rfl
 |cons p hs ih=>
  obtain ⟨d,x⟩:=p
  have h0:=hh (d,x) List.mem_cons_self
  rw [List.cons_append,cY,if_neg (by dsimp only at h0;omega)];exact ih fun p hp=>hh p (List.mem_cons_of_mem _ hp)
theorem uA {ts:List (Nat×Tm)} {d t:Nat} {x:Tm}:aV ((d,x)::ts) t=if d=t then x else aV ts t:=by
 simp only [aV];cases hq:Nat.beq d t with
 |true=>rw [if_pos (Nat.eq_of_beq_eq_true hq)]
 |false=>rw [if_neg (Nat.ne_of_beq_eq_false hq)]
section
variable {P:Program} {τ:bF} {base:Nat} {ψ aa cw:aJ} {S S' S0:Nat→Prop} {w w' w0:World} {a:Act} {ops:Array Oper} {Q:Exit→Act→World→Prop} {R:Array Bool}
def aCu (τ:bF) (m:Nat) (ops:Array Oper):Bool:=(List.range ops.size).all fun z=> !fS ops z||(match ops[z]? with
 |some o=>match o.op,o.dst with
  | .alloc t,some d=>Nat.blt d m&&(τ t).isSome
  |_,_=>false
 |none=>false)
theorem aVM (ab:bE P τ) (jx: ∀t i,τ t=some i->cP i.zero) {z n m:Nat} {ts:List (Nat×Tm)} {h:List (Nat×aB)} (hs:z<ops.size) (hZ:fS ops z=true) (hf:aCu τ m ops=true) (a6:aC P base ψ S w ⟨ts,h,n,m⟩ a)
 (C1:w0.heap.size<=w.heap.size) (E2: ∀d,bV ops z=some d->aV ts d=iS) {next:Act->World->Prop}
 (hn: ∀w' v,aC P base ψ S w' ⟨ts,h,n,m⟩ (a.put (bV ops z) v)->aI base ψ S w ψ S w'->Pdg P τ ops w0 ψ S w' (a.put (bV ops z) v) z w.heap.size->next (a.put (bV ops z) v) w'):wpOp P ops Q z next a w:=by
 have hf:=List.all_eq_true.1 hf z (List.mem_range.2 hs)
 rw [hZ] at hf;simp only [Bool.not_true,Bool.false_or] at hf;have Hd:=hZ
 unfold fS at hZ;cases ho:ops[z]? with
 |none=>rw [ho] at hf;cases hf
 |some o=>
  rw [ho] at hf hZ;dsimp only at hf hZ
  split at hf
  . rename_i t d ae hd
    simp only [Bool.and_eq_true] at hf;obtain ⟨hlt,ht⟩:=hf
    obtain ⟨⟨d1,s1,b1,z0⟩,ht⟩:=Option.isSome_iff_exists.1 ht
    have E3:bV ops z=some d:=by unfold bV;rw [ho];exact hd
    rw [E3] at hn;have hg:o.guard=none:=by
     simp only [Bool.and_eq_true,Option.isNone_iff_eq_none] at hZ;exact hZ.1.1.2
    have bd:(execOp a.eval o).run P w= .ok (.value (.pointer (some ⟨w.heap.size,0,none⟩))) (w.alloc (.cells z0.cells t)):=by
     simp only [execOp,ae,Instr.alloc,Sem.run_bind,sJ ab ht,Result.andThen_ok,newVar,newRow,run_newObj];rfl
    have bq: ∀ψ S w,aG (dK P ψ S w) (cW z0) z0.cells.toList:=fun ψ S w=>sH (jx _ _ ht)
    have hl:=tX a6.sim.sdom (.cells z0.cells t)
    have ud:aI base ψ S w ψ S (w.alloc (.cells z0.cells t)):=⟨rfl,rfl,rfl,by simp,fun b hb _=>vZ _ hb,hl,fun _ h=> .inl h,fun k b' m' hk=> .inl ⟨k,m',hk⟩,fun _ _=>rfl⟩
    unfold wpOp;simp only [ho];rw [if_pos j0x];refine .inl ?_
    simp only [Oper.wp,bd,Oper.upon,hd];have ob:d<a.tmps.size:=by
     have h1:a.tmps.size=m:=a6.lim
     rw [h1];exact Nat.le_of_ble_eq_true hlt
    have cu:(a.put (some d) (.pointer (some ⟨w.heap.size,0,none⟩))).tmps.getD d undef= .pointer (some ⟨w.heap.size,0,none⟩):=by
     simp [Act.put,Array.getD_eq_getD_getElem?,ob]
    refine hn _ _ ⟨a6.bas,⟨a6.sim.dom,fun k l hk=> ?_,a6.sim.inj,a6.sim.dis,fun k b' m' hk=> ?_,?_⟩, ?_,?_,fun u=> ?_⟩ ud ?_
    . exact (a6.sim.blk k l hk).later (cH.refl _) hl fun b' m' e=>by subst e;exact vZ _ (a6.sim.pdom k b' m' hk)
    . have:=a6.sim.pdom k b' m' hk
      simp;omega
    . exact (aC.allocO (o:= .cells z0.cells t) (mm:=0) (blk:= .gone) a6 trivial).1.sim.sdom
    . have h1:a.tmps.size=m:=a6.lim
      show _=m
      rw [<-h1];simp [Act.put]
    . rw [aIt];exact a6.defers
    . by_cases e:d=u
      . subst e;rw [show aV (St.tmps ⟨ts,h,n,m⟩) d=iS from E2 d E3];trivial
      . rw [aH8 _ e];exact (a6.tmps u).later (cH.refl _) hl
    . exact ⟨o,t,d,d1,s1,b1,z0,z0.cells,t,ho,ae,hd,ht,cu,tW _,bq,fun k m' hk=>by have:=a6.sim.pdom k _ _ hk;omega,fun hS=>absurd (a6.sim.sdom.lt _ hS) (Nat.lt_irrefl _),C1,by simp⟩
  . cases hf
theorem aVN {js ids:List Nat} {ts ts':List (Nat×Tm)} {l:List Nat} (h: ∀t∈l,aV ts' t=aV ts t):xL js ids ts' l=xL js ids ts l:=
 List.map_congr_left fun t ht=>by rw [h t ht]
theorem aWV {ids:List Nat} {n k:Nat} {h1 h:List (Nat×aB)} (hlt:(ids.all fun k=>Nat.blt k n)=true) (hk:ids.contains k=false) (hn:k<n):aF (aG3 ids n h1 h) k=aF h k:=by
 have hm:k∉ids:=by simpa using hk
 rw [aQa];unfold qA;rw [aIs,aAP hm];cases ha:((h1.map fun p=>(jD ids ids.length n p.1,tR (jD ids ids.length n) p.2)).any fun p=>Nat.beq p.1 k) with
 |false=>rfl
 |true=>
  obtain ⟨j,e⟩:=aLj ha
  unfold jD at e;split at e
  . rename_i hj
    have hj:=Nat.le_of_ble_eq_true hj
    have:ids.getD j 0∈ids:=by
     rw [List.getD_eq_getElem?_getD,List.getElem?_eq_getElem hj];exact List.getElem_mem _
    exact absurd (e▸this) hm
  . omega
structure kM (P:Program) (τ:bF) (base:Nat) (ops:Array Oper) (cw:aJ) (S0:Nat->Prop) (w0:World) (R:Array Bool) (C T PQ:List Nat) (Pd:List (Nat×Nat)) (c8 fe:List (Nat×Tm)) (h:List (Nat×aB)) (n m:Nat) (ψ:aJ) (S:Nat->Prop) (w:World) (a:Act):Prop where
 sz:R.size=ops.size
 li: ∀i,i<ops.size->(R.getD i false=true↔((i∈C/\ i∉PQ) \/ ∃b,(i,b)∈Pd))
 cs: ∀i∈C,i<ops.size
 pq: ∀i∈PQ,i∈T/\ i∈C/\ fS ops i=false
 qo: ∀i∈PQ, ∃d,bV ops i=some d/\ Nat.blt d m=true/\ qB P τ ops.toList i ⟨c8,h,n,m⟩ (fun y=>y=aV c8 d)
 tc: ∀i∈T,i∈C
 tq: ∀i∈T, ∀k∈T,vA ops k (mI ops i)=true \/vV ops i k
 dc: ∀j k,R.getD j false=true->vV ops j k->R.getD k false=true
 pd: ∀z b,(z,b)∈Pd->fS ops z=true/\ z∉C/\ z<ops.size/\ Pdg P τ ops w0 ψ S w a z b
 nd:(Pd.map (·.2)).Nodup
 ts: ∀t,(∀i∈PQ,bV ops i≠some t)->aV fe t=aV c8 t
 zt: ∀z,z<ops.size->fS ops z=true->z∉C-> ∀d,bV ops z=some d->aV fe d=iS
 rel:aC P base ψ S w ⟨fe,h,n,m⟩ a
 ext:aI base cw S0 w0 ψ S w
theorem aJv {k d:Nat} {l:List Nat} (h:vA ops k l=true) (hd:bV ops k=some d):d∉l:=by
 unfold vA at h;rw [hd] at h;simpa using h
theorem aCU {d:Tmp} {k:Nat} (h:xM ops (some d) k=true):d∉mI ops k/\ bV ops k≠some d:=by
 unfold xM at h
 simpa using h
theorem aKm {l:List Nat} {R:Array Bool} {i:Nat} (hs:R.size=ops.size) (hi:i<ops.size) (hL: ∀j,j<ops.size->R.getD j false=false->j∈l):
 ∀j,j<ops.size->(R.setIfInBounds i true).getD j false=false->j∈l.erase i:=fun j hj h=>by
 rw [aDh j3] at h;by_cases e:j=i
 . rw [if_pos e] at h;cases h
 . rw [if_neg e] at h;exact (List.mem_erase_of_ne e).2 (hL j hj h)
variable {C T PQ:List Nat} {Pd:List (Nat×Nat)} {c8 fe:List (Nat×Tm)} {h:List (Nat×aB)} {n m:Nat}
theorem kM.dc_put (H:kM P τ base ops cw S0 w0 R C T PQ Pd c8 fe h n m ψ S w a) {i:Nat} (hi:i∈Region.ready .any ops R): ∀j k,(R.setIfInBounds i true).getD j false=true->vV ops j k->(R.setIfInBounds i true).getD k false=true:=by
 obtain ⟨h1,h2,h3⟩:=wA hi
 intro j k hj hd;rw [aDh (by rw [H.sz];exact h1)] at hj⊢;by_cases ek:k=i
 . rw [if_pos ek]
 . rw [if_neg ek];by_cases ej:j=i
   . subst ej;cases hd with
     |one he=>exact h3 _ he
     |more he hd=>exact H.dc _ _ (h3 _ he) hd
   . rw [if_neg ej] at hj;exact H.dc j k hj hd
theorem kM.quiet (ab:bE P τ) (hz: ∀t i,τ t=some i->cP i.zero) (gr:sG ops=true) (H:kM P τ base ops cw S0 w0 R C T PQ Pd c8 fe h n m ψ S w a) {i:Nat} (hi:i∈Region.ready .any ops R) (hp:i∈PQ) {next:Act->World->Prop}
 (hn: ∀jt aa S' w' a',kM P τ base ops cw S0 w0 (R.setIfInBounds i true) C T (PQ.filter fun k=>k !=i) Pd c8 jt h n m aa S' w' a'->next a' w'):wpOp P ops Q i next a w:=by
 obtain ⟨h1,h2,h3⟩:=wA hi
 obtain ⟨p1,p2,p3⟩:=H.pq i hp
 obtain ⟨d,hd,hm,hv⟩:=H.qo i hp
 have sd:R.getD i false=false:=by rw [<-aDC H.sz h1];exact h2
 have c5: ∀t∈mI ops i,aV fe t=aV c8 t:=fun t ht=>H.ts t fun k hk e=>by
  rcases H.tq i p1 k (H.pq k hk).1 with g|g
  . exact aJv g e ht
  . have A9:R.getD k false=true:=by
     cases g with
     |one he=>exact h3 _ he
     |more he hd=>exact H.dc _ _ (h3 _ he) hd
    have FU:=H.cs k (H.pq k hk).2.1
    rcases (H.li k FU).1 A9 with ⟨_,g⟩|⟨b,g⟩
    . exact g hk
    . exact (H.pd k b g).2.1 (H.pq k hk).2.1
 refine aVL ab hz H.rel hd hm (aCJ (fun t ht=>c5 t ht) (fun k _=>rfl) hv) fun aa S' w' v hr he=>hn _ aa S' w' _ ⟨by simpa using H.sz,fun j hj=> ?_,H.cs,fun k hk=> ?_,fun k hk=> ?_,H.tc,H.tq,H.dc_put hi,fun z b jf=> ?_,H.nd,fun t ht=> ?_,fun z l4 jx en d' o4=> ?_,by rw [hd] at*;exact hr,H.ext.trans he⟩
 . rw [aDh (by rw [H.sz];exact h1)];by_cases e:j=i
   . subst e;rw [if_pos rfl];exact ⟨fun _=> .inl ⟨p2,by simp⟩,fun _=>rfl⟩
   . rw [if_neg e,H.li j hj];simp [List.mem_filter,e]
 . exact H.pq k (List.mem_filter.1 hk).1
 . exact H.qo k (List.mem_filter.1 hk).1
 . obtain ⟨g1,g2,g3,g4⟩:=H.pd z b jf
   refine ⟨g1,g2,g3, ?_⟩
   rw [<-hd];exact g4.step (aEn gr g1 g3 h1 fun e=>by subst e;rw [g1] at p3;cases p3) he
 . rw [uA];by_cases e:d=t
   . subst e;rw [if_pos rfl]
   . rw [if_neg e];refine H.ts t fun k hk ly=> ?_
     by_cases ek:k=i
     . subst ek;rw [hd] at ly;cases ly;exact e rfl
     . exact ht k (List.mem_filter.2 ⟨hk,by simpa using ek⟩) ly
 . rw [uA,if_neg]
   . exact H.zt z l4 jx en d' o4
   . rintro rfl
     exact aEn gr jx l4 h1 (fun e=>by subst e;rw [jx] at p3;cases p3) (by rw [hd,o4])
theorem kM.made (ab:bE P τ) (hz: ∀t i,τ t=some i->cP i.zero) (gr:sG ops=true) (wj:aCu τ m ops=true) (H:kM P τ base ops cw S0 w0 R C T PQ Pd c8 fe h n m ψ S w a) {i:Nat} (hi:i∈Region.ready .any ops R) (pz:fS ops i=true) (hC:i∉C) {next:Act->World->Prop}
 (hn: ∀aa S' w' a' b,kM P τ base ops cw S0 w0 (R.setIfInBounds i true) C T PQ ((i,b)::Pd) c8 fe h n m aa S' w' a'->next a' w'):wpOp P ops Q i next a w:=by
 obtain ⟨h1,h2,h3⟩:=wA hi
 have sd:R.getD i false=false:=by rw [<-aDC H.sz h1];exact h2
 refine aVM ab hz h1 pz wj H.rel H.ext.grow (H.zt i h1 pz hC) fun w' v hr he hP=>hn ψ S w' _ w.heap.size ⟨by simpa using H.sz,fun j hj=> ?_,H.cs,H.pq,H.qo,H.tc,H.tq,H.dc_put hi,fun z b jf=> ?_,?_,H.ts,H.zt,hr,H.ext.trans he⟩
 . rw [aDh (by rw [H.sz];exact h1)];by_cases e:j=i
   . subst e;rw [if_pos rfl];exact ⟨fun _=> .inr ⟨_,List.mem_cons_self⟩,fun _=>rfl⟩
   . rw [if_neg e,H.li j hj];simp [e]
 . rcases List.mem_cons.1 jf with e|jf
   . cases e;exact ⟨pz,hC,h1,hP⟩
   . obtain ⟨g1,g2,g3,g4⟩:=H.pd z b jf
     refine ⟨g1,g2,g3,g4.step ?_ he⟩
     refine aEn gr g1 g3 h1 fun e=> ?_
     subst e;have:=(H.li i h1).2 (.inr ⟨b,jf⟩)
     rw [sd] at this;cases this
 . simp only [List.map_cons,List.nodup_cons];refine ⟨fun hm=> ?_,H.nd⟩
   obtain ⟨⟨z,b⟩,jf,e⟩:=List.mem_map.1 hm
   dsimp only at e
   subst e;obtain ⟨_,_,_,_,_,_,_,_,_,_,_,_,_,_,_,_,_,_,_,_,_,_,g⟩:=H.pd z _ jf
   exact absurd g (Nat.lt_irrefl _)
end
section
variable {P:Program} {τ:bF} {base:Nat} {ψ aa cw:aJ} {S S' S0:Nat→Prop} {w w' w0:World} {a:Act} {ops:Array Oper} {Q:Exit→Act→World→Prop} {R:Array Bool}
variable {C T PQ:List Nat} {Pd:List (Nat×Nat)} {c8 fe:List (Nat×Tm)} {h:List (Nat×aB)} {n m:Nat}
theorem kM.ahead (H:kM P τ base ops cw S0 w0 R C T PQ Pd c8 fe h n m ψ S w a) {i d:Nat} {y:Tm} (hi:i<ops.size) (hC:i∉C) (hZ:fS ops i=false) (hd:bV ops i=some d) (hm:Nat.blt d m=true) (Bu:vA ops i (mI ops i)=true) (sd:R.getD i false=false)
 (hT: ∀k∈T,xM ops (some d) k=true/\ (vA ops k (mI ops i)=true \/vV ops i k)) (hv:qB P τ ops.toList i ⟨c8,h,n,m⟩ (fun x=>x=y)):
 kM P τ base ops cw S0 w0 R (i::C) (i::T) (i::PQ) Pd ((d,y)::c8) fe h n m ψ S w a:=by
 have old: ∀k∈T, ∀t∈mI ops k,aV ((d,y)::c8) t=aV c8 t:=fun k hk t ht=>by
  rw [uA,if_neg]
  rintro rfl
  exact (aCU (hT k hk).1).1 ht
 refine ⟨H.sz,fun j hj=> ?_,fun j hj=> ?_,fun k hk=> ?_,fun k hk=> ?_,fun k hk=> ?_,fun x hx k hk=> ?_,H.dc,fun z b jf=> ?_,H.nd,fun t ht=> ?_,fun z l4 jx en=>H.zt z l4 jx fun hc=>en (List.mem_cons_of_mem _ hc),H.rel,H.ext⟩
 . rw [H.li j hj];simp only [List.mem_cons,not_or];constructor
   . rintro (⟨h1,h2⟩|h1)
     . exact .inl ⟨.inr h1,fun e=>by subst e;exact hC h1,h2⟩
     . exact .inr h1
   . rintro (⟨h1|h1,h2,h3⟩|h1)
     . exact absurd h1 h2
     . exact .inl ⟨h1,h3⟩
     . exact .inr h1
 . rcases List.mem_cons.1 hj with rfl|hj
   . exact hi
   . exact H.cs j hj
 . rcases List.mem_cons.1 hk with rfl|hk
   . exact ⟨List.mem_cons_self,List.mem_cons_self,hZ⟩
   . obtain ⟨g1,g2,g3⟩:=H.pq k hk;exact ⟨List.mem_cons_of_mem _ g1,List.mem_cons_of_mem _ g2,g3⟩
 . rcases List.mem_cons.1 hk with rfl|hk
   . refine ⟨d,hd,hm, ?_⟩
     have:=aCJ (ts':=(d,y)::c8) (h':=h) (n':=n) (m':=m) (fun t ht=>by rw [uA,if_neg];rintro rfl;exact aJv Bu hd ht) (fun k _=>rfl) hv
     have e:aV ((d,y)::c8) d=y:=by rw [uA,if_pos rfl]
     rw [e];exact this
   . obtain ⟨d',g1,g2,g3⟩:=H.qo k hk
     refine ⟨d',g1,g2, ?_⟩
     have:=aCJ (ts':=(d,y)::c8) (h':=h) (n':=n) (m':=m) (old k (H.pq k hk).1) (fun k _=>rfl) g3
     have e:aV ((d,y)::c8) d'=aV c8 d':=by
      rw [uA,if_neg];rintro rfl;exact (aCU (hT k (H.pq k hk).1).1).2 g1
     rw [e];exact this
 . rcases List.mem_cons.1 hk with rfl|hk
   . exact List.mem_cons_self
   . exact List.mem_cons_of_mem _ (H.tc k hk)
 . rcases List.mem_cons.1 hx with ex|hx'
   . rcases List.mem_cons.1 hk with ek|ba
     . rw [ex,ek];exact .inl Bu
     . rw [ex];exact (hT k ba).2
   . rcases List.mem_cons.1 hk with ek|ba
     . left
       rw [ek];unfold vA;rw [hd]
       simpa using (aCU (hT x hx').1).1
     . exact H.tq x hx' k ba
 . obtain ⟨g1,g2,g3,g4⟩:=H.pd z b jf
   refine ⟨g1,fun hc=> ?_,g3,g4⟩
   rcases List.mem_cons.1 hc with rfl|hc
   . rw [hZ] at g1;cases g1
   . exact g2 hc
 . rw [uA,if_neg]
   . exact H.ts t fun k hk=>ht k (List.mem_cons_of_mem _ hk)
   . rintro rfl;exact ht i List.mem_cons_self hd
theorem kM.did (gr:sG ops=true) (H:kM P τ base ops cw S0 w0 R C T PQ Pd c8 fe h n m ψ S w a) {j:Nat} {T' ids:List Nat} {st1:St} {aa:aJ} {S':Nat->Prop} {w':World} {v:Value} (hj:j∈Region.ready .any ops R) (hC:j∉C) (hZ:fS ops j=false)
 (E4:T'=T.filter fun k=> !aAy (mO ops ops.size) j k) (iy: ∀k∈T',xM ops (bV ops j) k=true) (jy:iR ops ids T' c8 h n=true)
 (hr:aC P base aa S' w' (aBz ids (bV ops j) ⟨fe,h,n,m⟩ st1) (a.put (bV ops j) v)) (he:aI base ψ S w aa S' w'):
 ∃lp jt h' n',aBz ids (bV ops j) ⟨c8,h,n,m⟩ st1=⟨lp,h',n',m⟩/\ kM P τ base ops cw S0 w0 (R.setIfInBounds j true) (j::C) T' PQ Pd lp jt h' n' m aa S' w' (a.put (bV ops j) v):=by
 obtain ⟨r1,r2,r3⟩:=wA hj
 obtain ⟨l7,h1,n1,m1⟩:=st1
 simp only [iR,Bool.and_eq_true] at jy;obtain ⟨⟨⟨⟨f1,f2⟩,f3⟩,f4⟩,f5⟩:=jy
 have E5: ∀k∈PQ,k∈T':=fun k hk=>by
  rw [E4];refine List.mem_filter.2 ⟨(H.pq k hk).1, ?_⟩
  cases hb:aAy (mO ops ops.size) j k with
  |false=>rfl
  |true=>
   have hd:=aKl hb
   have A9:R.getD k false=true:=by
    cases hd with
    |one he=>exact r3 _ he
    |more he hd=>exact H.dc _ _ (r3 _ he) hd
   rcases (H.li k (H.cs k (H.pq k hk).2.1)).1 A9 with ⟨_,g⟩|⟨b,g⟩
   . exact absurd hk g
   . exact absurd (H.pq k hk).2.1 (H.pd k b g).2.1
 have Cz: ∀k∈T',k∈T:=fun k hk=>by rw [E4] at hk;exact (List.mem_filter.1 hk).1
 -- the new slot
 obtain ⟨ds,qg,Bv⟩: ∃ds:List (Nat×Tm),(∀ts,aBz ids (bV ops j) ⟨ts,h,n,m⟩ ⟨l7,h1,n1,m1⟩=⟨ds++ts,aG3 ids n h1 h,n+(n1-ids.length),m⟩)/\ ∀p∈ds,bV ops j=some p.1:=by
  cases hd:bV ops j with
  |none=>exact ⟨[],fun ts=>rfl,fun p hp=>by cases hp⟩
  |some d=>exact ⟨[(d,_)],fun ts=>rfl,fun p hp=>by rw [List.mem_singleton.1 hp]⟩
 rw [qg] at hr;refine ⟨_,ds++fe,_,_,qg c8,by simpa using H.sz,fun i hi=> ?_,fun i hi=> ?_,fun k hk=> ?_,fun k hk=> ?_,fun k hk=> ?_,fun x hx k hk=> ?_,H.dc_put hj,fun z b jf=> ?_,H.nd,fun t ht=> ?_,fun z l4 jx en d hd=> ?_,hr,H.ext.trans he⟩
 . rw [aDh (by rw [H.sz];exact r1)];by_cases e:i=j
   . subst e;rw [if_pos rfl];exact ⟨fun _=> .inl ⟨List.mem_cons_self,fun hq=>hC (H.pq i hq).2.1⟩,fun _=>rfl⟩
   . rw [if_neg e,H.li i hi];simp [List.mem_cons,e]
 . rcases List.mem_cons.1 hi with rfl|hi
   . exact r1
   . exact H.cs i hi
 . obtain ⟨g1,g2,g3⟩:=H.pq k hk
   exact ⟨E5 k hk,List.mem_cons_of_mem _ g2,g3⟩
 . obtain ⟨d,g1,g2,g3⟩:=H.qo k hk
   refine ⟨d,g1,g2, ?_⟩
   have ba:=E5 k hk
   have E6:=iy k ba
   have ag: ∀t,(t∈mI ops k \/t=d)->aV (ds++c8) t=aV c8 t:=fun t ht=>aIU fun p hp e=>by
    have:=Bv p hp
    rw [this] at E6;obtain ⟨q1,q2⟩:=aCU E6
    rcases ht with ht|ht
    . exact q1 (e▸ht)
    . exact q2 (by rw [g1, <-ht,e])
   rw [ag d (.inr rfl)];refine aCJ (fun t ht=>ag t (.inl ht)) (fun b hb=> ?_) g3
   have:=List.all_eq_true.1 (List.all_eq_true.1 f5 k ba) b hb
   simp only [Bool.and_eq_true,Bool.not_eq_true'] at this;exact aWV f3 this.1 (Nat.le_of_ble_eq_true this.2)
 . exact List.mem_cons_of_mem _ (H.tc k (Cz k hk))
 . exact H.tq x (Cz x hx) k (Cz k hk)
 . obtain ⟨g1,g2,g3,g4⟩:=H.pd z b jf
   have ag:z≠j:=fun e=>by subst e;rw [g1] at hZ;cases hZ
   refine ⟨g1,fun hc=> ?_,g3,g4.step (aEn gr g1 g3 r1 (Ne.symm ag)) he⟩
   rcases List.mem_cons.1 hc with e|hc
   . exact ag e
   . exact g2 hc
 . exact aO8 (H.ts t ht)
 . have ag:z≠j:=fun e=>en (e▸List.mem_cons_self)
   rw [aIU]
   . exact H.zt z l4 jx (fun hc=>en (List.mem_cons_of_mem _ hc)) d hd
   . rintro p hp rfl
     exact aEn gr jx l4 r1 (Ne.symm ag) (by rw [Bv p hp,hd])
theorem kM.told (gr:sG ops=true) (H:kM P τ base ops cw S0 w0 R C T PQ Pd c8 fe h n m ψ S w a) {zs:List Nat} {K:St->Prop} (l4:zs=(List.range ops.size).filter (fun z=>fS ops z&& !C.contains z)) (hall: ∀z∈zs, ∃b,(z,b)∈Pd)
 (iy: ∀k∈T, ∀z∈zs,xM ops (bV ops z) k=true) (hlt: ∀k∈T, ∀b∈aCt ops k c8,b<n) (hk:aBZ τ ops zs ⟨c8,h,n,m⟩ K):
 ∃lp jt h' n' aa,K ⟨lp,h',n',m⟩/\ kM P τ base ops cw S0 w0 R (zs++C) T PQ [] lp jt h' n' m aa S w a:=by
 have wk: ∀z,z∈zs↔(z<ops.size/\ fS ops z=true/\ z∉C):=fun z=>by rw [l4];simp [List.mem_filter]
 obtain ⟨ds,hs,n',aa,g1,g2,g3,g4,g5⟩:=aRl zs Pd ψ c8 fe h n m K (by rw [l4];exact List.filter_sublist.nodup List.nodup_range) H.nd
  (fun z hz=>by obtain ⟨b,hb⟩:=hall z hz;exact ⟨b,hb,(H.pd z b hb).2.2.2⟩) H.rel H.rel.bas H.ext hk
 have E7: ∀i b,(i,b)∈Pd->i∈zs:=fun i b hb=>by
  obtain ⟨q1,q2,q3,_⟩:=H.pd i b hb
  exact (wk i).2 ⟨q3,q1,q2⟩
 have FV: ∀i∈PQ,i∉zs:=fun i hi hz=>by
  have:=((wk i).1 hz).2.1
  rw [(H.pq i hi).2.2] at this;cases this
 have ag: ∀k∈T, ∀t,(t∈mI ops k \/bV ops k=some t)->aV (ds++c8) t=aV c8 t:=fun k hk t ht=>aIU fun p hp e=>by
  obtain ⟨z,hz,hd⟩:=g4 p hp
  have:=iy k hk z hz
  rw [hd] at this;obtain ⟨q1,q2⟩:=aCU this
  rcases ht with ht|ht
  . exact q1 (e▸ht)
  . exact q2 (by rw [ht,e])
 refine ⟨_,ds++fe,_,n',aa,g1,H.sz,fun i hi=> ?_,fun i hi=> ?_,fun k hk=> ?_,fun k hk=> ?_,fun k hk=>List.mem_append_right _ (H.tc k hk),H.tq,H.dc,fun z b jf=>(by cases jf),j8,fun t ht=>aO8 (H.ts t ht),fun z ru rv E8 d hd=> ?_,g2,g3⟩
 . rw [H.li i hi];constructor
   . rintro (⟨q1,q2⟩|⟨b,q⟩)
     . exact .inl ⟨List.mem_append_right _ q1,q2⟩
     . exact .inl ⟨List.mem_append_left _ (E7 i b q),fun hp=>FV i hp (E7 i b q)⟩
   . rintro (⟨q1,q2⟩|⟨b,q⟩)
     . rcases List.mem_append.1 q1 with q1|q1
       . exact .inr (hall i q1)
       . exact .inl ⟨q1,q2⟩
     . cases q
 . rcases List.mem_append.1 hi with hi|hi
   . exact ((wk i).1 hi).1
   . exact H.cs i hi
 . obtain ⟨q1,q2,q3⟩:=H.pq k hk
   exact ⟨q1,List.mem_append_right _ q2,q3⟩
 . obtain ⟨d,q1,q2,q3⟩:=H.qo k hk
   refine ⟨d,q1,q2, ?_⟩
   have CA:=(H.pq k hk).1
   rw [ag k CA d (.inr q1)];exact aCJ (fun t ht=>ag k CA t (.inl ht)) (fun b hb=>aWU g5 (hlt k CA b hb)) q3
 . exact absurd (List.mem_append_left _ ((wk z).2 ⟨ru,rv,fun hc=>E8 (List.mem_append_right _ hc)⟩)) E8
theorem aYJ (ab:bE P τ) (hz: ∀t i,τ t=some i->cP i.zero) {calls:Nat->Nat->List Va->St->(Tm->St->Prop)->Prop} (ai: ∀b,iY P b (calls b)) {reach:List Nat->St->List Nat} (gr:sG ops=true) (wj:aCu τ m ops=true) {K:St->Prop}
 (hq: ∀st' aa S' w' a',K st'->aC P base aa S' w' st' a'->aI base cw S0 w0 aa S' w'->Q .normal a' w'):
 ∀(N:Nat) (p:List yH) (fuel:Nat) (L:List Nat) (R:Array Bool) (C T PQ:List Nat) (Pd:List (Nat×Nat)) (c8 fe:List (Nat×Tm)) (h:List (Nat×aB)) (n:Nat) (ψ:aJ) (S:Nat->Prop) (w:World) (a:Act),
  p.length+fuel<=N->tS ops (mO ops ops.size) p C T=true->nS P τ calls reach ops p T ⟨c8,h,n,m⟩ K->kM P τ base ops cw S0 w0 R C T PQ Pd c8 fe h n m ψ S w a->
  (∀i,i<ops.size->R.getD i false=false->i∈L)->L.length<=fuel->wpAny P .any ops Q fuel R a w:=by
 intro N
 induction N with
 |zero=>
  intro p fuel L R C T PQ Pd c8 fe h n ψ S w a hN hp hk H hL CB;have a7:p= []:=List.eq_nil_of_length_eq_zero j3
  have FW:fuel=0:=j3
  subst a7;subst FW
  have wm:L= []:=List.eq_nil_of_length_eq_zero j3
  subst wm;have hall: ∀i,i<ops.size->R.getD i false=true:=fun i hi=>by
   cases e:R.getD i false with
   |true=>rfl
   |false=>cases hL i hi e
  have CC: ∀i,i∉PQ:=fun i hi=>by
   rcases (H.li i (H.cs i (H.pq i hi).2.1)).1 (hall i (H.cs i (H.pq i hi).2.1)) with ⟨_,g⟩|⟨b,g⟩
   . exact g hi
   . exact (H.pd i b g).2.1 (H.pq i hi).2.1
  refine ⟨?_,hq _ ψ S w a hk ⟨H.rel.bas,H.rel.sim,H.rel.lim,H.rel.defers,fun t=> ?_⟩ H.ext⟩
  . rw [List.eq_nil_iff_forall_not_mem];intro i hi;obtain ⟨h1,h2,_⟩:=wA hi
    have:=hall i h1
    rw [<-aDC H.sz h1,h2] at this;cases this
  . have:=H.rel.tmps t
    rw [show aV (St.tmps ⟨fe,h,n,m⟩) t=aV c8 t from H.ts t fun i hi=>absurd hi (CC i)] at this;exact this
 |succ N IH=>
  intro p fuel L R C T PQ Pd c8 fe h n ψ S w a hN hp hk H hL CB
  -- rounds of the run itself
  have wo: ∀i,i∈Region.ready .any ops R->i<ops.size/\ R.getD i false=false:=fun i hi=>by
   obtain ⟨h1,h2,_⟩:=wA hi
   exact ⟨h1,by rw [<-aDC H.sz h1];exact h2⟩
  have Aa: ∀i,i∈Region.ready .any ops R->i∈C->i∈PQ:=fun i hi hc=>by
   obtain ⟨h1,h2⟩:=wo i hi
   by_cases hq:i∈PQ
   . exact hq
   . have:=(H.li i h1).2 (.inl ⟨hc,hq⟩)
     rw [h2] at this;cases this
  have sf: ∀f i,f+1=fuel->i∈Region.ready .any ops R->i∈PQ->wpOp P ops Q i (wpAny P .any ops Q f (R.setIfInBounds i true)) a w:=fun f i hf hi FX=>by
   obtain ⟨h1,h2⟩:=wo i hi
   exact H.quiet ab hz gr hi FX fun jt aa S' w' a' H'=>IH p f (L.erase i) _ C T _ Pd c8 jt h n aa S' w' a' j3 hp hk H' (aKm H.sz h1 hL) j2j
  have Ab: ∀f i,f+1=fuel->i∈Region.ready .any ops R->fS ops i=true->i∉C->wpOp P ops Q i (wpAny P .any ops Q f (R.setIfInBounds i true)) a w:=fun f i hf hi pz hC=>by
   obtain ⟨h1,h2⟩:=wo i hi
   exact H.made ab hz gr wj hi pz hC fun aa S' w' a' b H'=>IH p f (L.erase i) _ C T PQ _ c8 fe h n aa S' w' a' j3 hp hk H' (aKm H.sz h1 hL) j2j
  have Ac: ∀i,i∈Region.ready .any ops R-> ∀e∈mJ ops i,e∈C \/ ∃b,(e,b)∈Pd:=fun i hi e he=>by
   obtain ⟨h1,_,h3⟩:=wA hi
   have Az:=Nat.lt_trans (aLk gr h1 he) h1
   rcases (H.li e Az).1 (h3 e he) with ⟨g,_⟩|g
   . exact .inl g
   . exact .inr g
  match p,hN,hp,hk with
  | [],hN,hp,hk=>
    have hC: ∀i,i<ops.size->i∈C:=fun i hi=>by simpa using List.all_eq_true.1 hp i (List.mem_range.2 hi)
    have done:Region.ready .any ops R= []->Q .normal a w:=fun h0=>by
     have hall:=aH2 gr H.sz h0
     have CC: ∀i,i∉PQ:=fun i hi=>by
      rcases (H.li i (H.cs i (H.pq i hi).2.1)).1 (hall i (H.cs i (H.pq i hi).2.1)) with ⟨_,g⟩|⟨b,g⟩
      . exact g hi
      . exact (H.pd i b g).2.1 (H.pq i hi).2.1
     refine hq _ ψ S w a hk ⟨H.rel.bas,H.rel.sim,H.rel.lim,H.rel.defers,fun t=> ?_⟩ H.ext
     have:=H.rel.tmps t
     rw [show aV (St.tmps ⟨fe,h,n,m⟩) t=aV c8 t from H.ts t fun i hi=>absurd hi (CC i)] at this;exact this
    cases fuel with
    |zero=>
     have wm:L= []:=List.eq_nil_of_length_eq_zero j3
     have h0:Region.ready .any ops R= []:=by
      rw [List.eq_nil_iff_forall_not_mem];intro i hi;obtain ⟨h1,h2⟩:=wo i hi
      have:=hL i h1 h2
      rw [wm] at this;cases this
     exact ⟨h0,done h0⟩
    |succ f=>exact ⟨done,fun i hi=>sf f i rfl hi (Aa i hi (hC i (wo i hi).1))⟩
  | .take i::p,hN,hp,hk=>
    simp only [tS,Bool.and_eq_true,Bool.not_eq_true',Bool.or_eq_true] at hp;obtain ⟨⟨⟨⟨⟨⟨⟨p1,p2⟩,p3⟩,p4⟩,p5⟩,p6⟩,p7⟩,p8⟩:=hp
    obtain ⟨d,hd⟩:=Option.isSome_iff_exists.1 p4
    simp only [nS] at hk;obtain ⟨y,hk,hv⟩:=aWT hk
    rw [hd] at hk;have hm:Nat.blt d m=true:=by
     cases hb:Nat.blt d m with
     |true=>rfl
     |false=>
      have hk:(match Nat.blt d m with|true=>fT y fun x=>nS P τ calls reach ops p (i::T) ⟨(d,x)::c8,h,n,m⟩ K|false=>False):=hk
      rw [hb] at hk;exact hk.elim
    rw [aIT hm] at hk;have hC:i∉C:=by simpa using p2
    have E9:i<ops.size:=Nat.le_of_ble_eq_true p1
    have sd:R.getD i false=false:=by
     cases e:R.getD i false with
     |false=>rfl
     |true=>
      rcases (H.li i E9).1 e with ⟨g,_⟩|⟨b,g⟩
      . exact absurd g hC
      . have:=(H.pd i b g).1;rw [p3] at this;cases this
    exact IH p fuel L R _ _ _ Pd _ fe h n ψ S w a (by simp at hN;omega) p8 hk (H.ahead E9 hC p3 hd hm p6 sd (fun k hk=>by
     have:=List.all_eq_true.1 p7 k hk
     simp only [Bool.and_eq_true,Bool.or_eq_true] at this;rw [hd] at this;exact ⟨this.1,this.2.imp id aKl⟩) hv) hL CB
  | .news zs::p,hN,hp,hk=>
    simp only [tS,Bool.and_eq_true] at hp;obtain ⟨⟨⟨p1,p2⟩,p3⟩,p4⟩:=hp
    have p1:=beq_iff_eq.1 p1
    simp only [nS] at hk;obtain ⟨hlt,hk⟩:=hk
    have wk: ∀z,z∈zs↔(z<ops.size/\ fS ops z=true/\ z∉C):=fun z=>by rw [p1];simp [List.mem_filter]
    by_cases hall: ∀z∈zs, ∃b,(z,b)∈Pd
    . obtain ⟨lp,jt,h',n',aa,hk,H'⟩:=H.told gr p1 hall (fun k hk z hz=>List.all_eq_true.1 (List.all_eq_true.1 p3 k hk) z hz) (fun k hk b hb=>Nat.le_of_ble_eq_true (List.all_eq_true.1 (List.all_eq_true.1 hlt k hk) b hb)) hk
      exact IH p fuel L R _ T PQ [] lp jt h' n' aa S w a (by simp at hN;omega) p4 hk H' hL CB
    . obtain ⟨z,jx⟩:=Classical.not_forall.1 hall
      obtain ⟨ru,rv⟩:=Classical.not_imp.1 jx
      obtain ⟨q1,q2,q3⟩:=(wk z).1 ru
      have Bw:R.getD z false=false:=by
       cases e:R.getD z false with
       |false=>rfl
       |true=>
        rcases (H.li z q1).1 e with ⟨g,_⟩|g
        . exact absurd g q3
        . exact absurd g rv
      cases fuel with
      |zero=>
       have wm:L= []:=List.eq_nil_of_length_eq_zero j3
       have:=hL z q1 Bw
       rw [wm] at this;cases this
      |succ f=>
       refine ⟨fun h0=> ?_,fun i hi=> ?_⟩
       . have:=aH2 gr H.sz h0 z q1
         rw [Bw] at this;cases this
       . by_cases hc:i∈C
         . exact sf f i rfl hi (Aa i hi hc)
         . cases pz:fS ops i with
           |true=>exact Ab f i rfl hi pz hc
           |false=>
            exfalso
            have:=List.all_eq_true.1 (List.all_eq_true.1 p2 z ru) i (List.mem_range.2 (wo i hi).1)
            rw [pz] at this;simp only [Bool.false_or,Bool.or_eq_true,Bool.not_eq_true'] at this;rcases this with g|g
            . exact hc (by simpa using g)
            . rw [<-Bool.not_eq_true] at g;apply g
              rw [List.all_eq_true];intro e he;rcases Ac i hi e he with g1|⟨b,g1⟩
              . simp [g1]
              . have FY:e∈zs:=(wk e).2 ⟨(H.pd e b g1).2.2.1,(H.pd e b g1).1,(H.pd e b g1).2.1⟩
                have ag:e≠z:=fun e1=>rv ⟨b,e1▸g1⟩
                have:Nat.beq e z=false:=by
                 cases hb:Nat.beq e z with
                 |false=>rfl
                 |true=>exact absurd (Nat.eq_of_beq_eq_true hb) ag
                simp [FY,this]
  | .act j T' rd::p,hN,hp,hk=>
    simp only [tS,Bool.and_eq_true,Bool.not_eq_true'] at hp;obtain ⟨⟨⟨⟨⟨⟨⟨⟨p1,p2⟩,p3⟩,p4⟩,p5⟩,p6⟩,p7⟩,p8⟩,p9⟩:=hp
    have p6:=beq_iff_eq.1 p6
    have p7:=beq_iff_eq.1 p7
    have Ad:j<ops.size:=Nat.le_of_ble_eq_true p1
    have Ea:j∉C:=by simpa using p2
    have Ae:R.getD j false=false:=by
     cases e:R.getD j false with
     |false=>rfl
     |true=>
      rcases (H.li j Ad).1 e with ⟨g,_⟩|⟨b,g⟩
      . exact absurd g Ea
      . have:=(H.pd j b g).1;rw [p3] at this;cases this
    simp only [nS] at hk;obtain ⟨jy,hk⟩:=hk
    cases fuel with
    |zero=>
     have wm:L= []:=List.eq_nil_of_length_eq_zero j3
     have:=hL j Ad Ae
     rw [wm] at this;cases this
    |succ f=>
     refine ⟨fun h0=> ?_,fun i hi=> ?_⟩
     . have:=aH2 gr H.sz h0 j Ad
       rw [Ae] at this;cases this
     . by_cases hc:i∈C
       . exact sf f i rfl hi (Aa i hi hc)
       . cases pz:fS ops i with
         |true=>exact Ab f i rfl hi pz hc
         |false=>
          have cy:i=j:=by
           have:=List.all_eq_true.1 p5 i (List.mem_range.2 (wo i hi).1)
           rw [pz] at this;simp only [Bool.false_or,Bool.or_eq_true,Bool.not_eq_true'] at this;rcases this with g|g|g
           . exact Nat.eq_of_beq_eq_true g
           . exact absurd (by simpa using g) hc
           . exfalso
             rw [<-Bool.not_eq_true] at g;apply g
             rw [List.all_eq_true];intro e he;rcases Ac i hi e he with g1|⟨b,g1⟩
             . simp [g1]
             . simp [(H.pd e b g1).1]
          subst cy
          -- the act
          have c5: ∀t∈rd,aV fe t=aV c8 t:=fun t ht=>H.ts t fun k B4 ly=>by
           have Eb:k∈T':=by
            rw [p6];refine List.mem_filter.2 ⟨(H.pq k B4).1, ?_⟩
            cases hb:aAy (mO ops ops.size) i k with
            |false=>rfl
            |true=>
             obtain ⟨_,_,r3⟩:=wA hi
             have A9:R.getD k false=true:=by
              cases aKl hb with
              |one he=>exact r3 _ he
              |more he hd=>exact H.dc _ _ (r3 _ he) hd
             rcases (H.li k (H.cs k (H.pq k B4).2.1)).1 A9 with ⟨_,g⟩|⟨b,g⟩
             . exact absurd B4 g
             . exact absurd (H.pq k B4).2.1 (H.pd k b g).2.1
           have:=List.all_eq_true.1 p8 k Eb
           rw [Bool.and_eq_true] at this;exact aJv this.2 ly ht
          have Af:=jy
          simp only [iR,Bool.and_eq_true] at Af
          obtain ⟨⟨⟨⟨f1,f2⟩,f3⟩,f4⟩,_⟩:=Af
          rw [<-aVN c5] at hk;refine aVK ab hz (ai _) H.rel f1 f2 f3 f4 hk fun st1 az S' w' v ia hr uf he=> ?_
          obtain ⟨lp,jt,h',n',e1,H'⟩:=H.did gr hi Ea p3 p6 (fun k hk=>by
           have:=List.all_eq_true.1 p8 k hk
           rw [Bool.and_eq_true] at this;exact this.1) jy hr he
          rw [e1] at ia;exact IH p f (L.erase i) _ _ T' PQ Pd lp jt h' n' az S' w' _ (by simp at hN;omega) p9 ia H' (aKm H.sz Ad hL) (by rw [List.length_erase_of_mem (hL i Ad Ae)];omega)
theorem aVO {P:Program} {o:Oper} {a:Act} {next next':Act->World->Prop} {Q Q':Exit->Act->World->Prop} (hn: ∀a w,next a w->next' a w) (hq: ∀e a w,Q e a w->Q' e a w)
 {r:Result Next} (h:o.upon P a next Q r):o.upon P a next' Q' r:=by
 unfold Oper.upon at h⊢
 split at h
 . exact hn _ _ h
 . exact hn _ _ h
 . exact hn _ _ h
 . refine Calls.mono h ?_
   intro e w' he
   cases e with
   |returned v=>exact hn _ _ he
   |panicked ch=>exact hq _ _ _ he
   |outgrown=>obtain ⟨a0,w0,h0⟩:=he;exact ⟨_,_,hq _ _ _ h0⟩
 . refine Rows.mono h ?_
   intro v w' he
   exact hn _ _ he
 . exact hq _ _ _ h
 . exact h.elim
theorem aEM {P:Program} {ops:Array Oper} {Q Q':Exit->Act->World->Prop} (hq: ∀e a w,Q e a w->Q' e a w): ∀(l:List Nat) (a:Act) (w:World),wpOps P ops Q l a w->wpOps P ops Q' l a w
 | [],a,w,h=>hq _ _ _ h
 |i::rest,a,w,h=>by
  simp only [wpOps] at h⊢
  cases ho:ops[i]? with
  |none=>simp only [ho] at h⊢;exact aEM hq rest a w h
  |some o=>
   simp only [ho] at h⊢
   split at h
   . rename_i hw
     rw [if_pos hw];rcases h with h|⟨h1,a0,w0,h2⟩
     . refine .inl ?_
       unfold Oper.wp at h⊢
       exact aVO (fun a w h=>aEM hq rest a w h) hq h
     . exact .inr ⟨h1,_,_,hq _ _ _ h2⟩
   . rename_i hw
     rw [if_neg hw];exact aEM hq rest _ w h
theorem bCm (ab:bE P τ) (hz: ∀t i,τ t=some i->cP i.zero) (b7:P.follows .mixedOrders=true) {calls:Nat->Nat->List Va->St->(Tm->St->Prop)->Prop} (ai: ∀b,iY P b (calls b)) {reach:List Nat->St->List Nat} {p:List yH} {ts:List (Nat×Tm)} {Q:Exit->St->Prop}
 (gr:sG ops=true) (wj:aCu τ m ops=true) (hp:tS ops (mO ops ops.size) p [] []=true)
 (hk:nS P τ calls reach ops p [] ⟨((List.range ops.size).filter (fS ops)).filterMap (fun z=>(bV ops z).map fun d=>(d,iS))++ts,h,n,m⟩ (Q .normal)) {ψ:aJ} {S:Nat->Prop} {w:World} {a:Act} (hr:aC P base ψ S w ⟨ts,h,n,m⟩ a):
 ∀s,wpOps P ops (fun e a' w'=> ∃st' aa S',Q e st'/\ aC P base aa S' w' st' a'/\ aI base ψ S w aa S' w') (Region.schedule (P.follows .mixedOrders) ops s) a {w with drawn:=w.drawn+1}:=by
 obtain ⟨b9,kj⟩:aC P base ψ S {w with drawn:=w.drawn+1} ⟨ts,h,n,m⟩ a/\ aI base ψ S w ψ S {w with drawn:=w.drawn+1}:=
  hr.ext0 ⟨rfl,rfl,rfl,Nat.le_refl _,fun _ _=>rfl,fun _ h=>h,fun _ h=> .inl h,hr.sim.sdom⟩
 obtain ⟨zd,xy⟩: ∃zd,zd=((List.range ops.size).filter (fS ops)).filterMap (fun z=>(bV ops z).map fun d=>(d,iS)):=⟨_,rfl⟩
 rw [<-xy] at hk;have c5: ∀t,aV (zd++ts) t=iS \/aV (zd++ts) t=aV ts t:=by
  have hall: ∀p∈zd,p.2=iS:=fun p hp=>by
   rw [xy] at hp;obtain ⟨z,_,e⟩:=List.mem_filterMap.1 hp
   obtain ⟨d,_,e⟩:=Option.map_eq_some_iff.1 e
   rw [<-e]
  clear xy hk;intro t
  induction zd with
  |nil=>exact .inr rfl
  |cons p zd ih=>
   obtain ⟨d,x⟩:=p
   rw [List.cons_append,uA];by_cases e:d=t
   . rw [if_pos e];exact .inl (hall _ List.mem_cons_self)
   . rw [if_neg e];exact ih fun p hp=>hall p (List.mem_cons_of_mem _ hp)
 have fl:aC P base ψ S {w with drawn:=w.drawn+1} ⟨zd++ts,h,n,m⟩ a:=⟨b9.bas,b9.sim,b9.lim,b9.defers,fun t=>by
  rcases c5 t with e|e
  . rw [show aV (St.tmps ⟨zd++ts,h,n,m⟩) t=iS from e];trivial
  . rw [show aV (St.tmps ⟨zd++ts,h,n,m⟩) t=aV ts t from e];exact b9.tmps t⟩
 have Ec: ∀i,(Array.replicate ops.size false).getD i false=false:=fun i=>by
  rw [Array.getD_eq_getD_getElem?];cases e:(Array.replicate ops.size false)[i]? with
  |none=>rfl
  |some b=>
   have:=(Array.getElem?_eq_some_iff.1 e).2
   simp at this;subst this;rfl
 have key:=aYJ (Q:=fun e a' w'=>e= .normal/\ ∃st' aa S',Q e st'/\ aC P base aa S' w' st' a'/\ aI base ψ S {w with drawn:=w.drawn+1} aa S' w') ab hz ai (reach:=reach) gr wj (K:=Q .normal) (fun st' aa S' w' a' h1 h2 h3=>⟨rfl,st',aa,S',h1,h2,h3⟩)
  (p.length+ops.size) p ops.size (List.range ops.size) (Array.replicate ops.size false) [] [] [] [] (zd++ts) (zd++ts) h n ψ S {w with drawn:=w.drawn+1} a (Nat.le_refl _) hp hk
  ⟨by simp,fun i hi=>(by rw [Ec];simp),fun i hi=>(by cases hi),fun i hi=>(by cases hi),fun i hi=>(by cases hi),fun i hi=>(by cases hi),fun i hi=>(by cases hi),fun j k hj=>(by rw [Ec] at hj;cases hj),fun z b jf=>(by cases jf),j8,fun t _=>rfl,fun z ru rv _ d hd=> ?_,fl,aI.refl _ _ _ _⟩
  (fun i hi _=>List.mem_range.2 hi) j8
 . intro s;simp only [Region.schedule,b7,Bool.true_or,if_true];refine aEM ?_ _ _ _ (wpAny_sound ops.size s _ a _ key)
   rintro e a' w' ⟨rfl,st',aa,S',h1,h2,h3⟩
   exact ⟨st',aa,S',h1,h2,kj.trans h3⟩
 . have hm:(d,iS)∈zd:=by
    rw [xy];exact List.mem_filterMap.2 ⟨z,List.mem_filter.2 ⟨List.mem_range.2 ru,rv⟩,by rw [hd];rfl⟩
   have hall: ∀p∈zd,p.2=iS:=fun p hp=>by
    rw [xy] at hp;obtain ⟨z,_,e⟩:=List.mem_filterMap.1 hp
    obtain ⟨d,_,e⟩:=Option.map_eq_some_iff.1 e
    rw [<-e]
   clear xy hk c5 fl
   induction zd with
   |nil=>cases hm
   |cons p zd ih=>
    obtain ⟨d',x⟩:=p
    rw [List.cons_append,uA];by_cases e:d'=d
    . rw [if_pos e];exact hall _ List.mem_cons_self
    . rw [if_neg e];rcases List.mem_cons.1 hm with e1|e1
      . cases e1;exact absurd rfl e
      . exact ih e1 fun p hp=>hall p (List.mem_cons_of_mem _ hp)
theorem bCn (ab:bE P τ) (hz: ∀t i,τ t=some i->cP i.zero) (b7:P.follows .mixedOrders=true) {calls:Nat->Nat->List Va->St->(Tm->St->Prop)->Prop} (ai: ∀b,iY P b (calls b)) {reach:List Nat->St->List Nat} {p:List yH} {id:Nat} {ts:List (Nat×Tm)} {Q:Exit->St->Prop}
 (gr:sG ops=true) (wj:aCu τ m ops=true) (hp:tS ops (mO ops ops.size) p [] []=true)
 (hk:nS P τ calls reach ops p [] ⟨((List.range ops.size).filter (fS ops)).filterMap (fun z=>(bV ops z).map fun d=>(d,iS))++ts,h,n,m⟩ (Q .normal)):aO P base (.region id ops true) ⟨ts,h,n,m⟩ Q:=
 ⟨fun ψ S w a hr=>wp_region_draw (bCm ab hz b7 ai (reach:=reach) (p:=p) gr wj hp hk hr)⟩
end
def aLl:aL->List Nat
 | .own k _=> [k]
 | .osl k _ _ _=> [k]
 | .osc k _ _ _ _=> [k]
 | .ep k _ _ _=> [k]
 | .ap k _ _ _=> [k]
 | .fn _ aq=>aq.map (·.1)
 | .mp k=> [k]
 | .fb _ k _=> [k]
 |_=> []
def aLm:Va->List Nat
 | .c x=>aLl x
 | .agg cs=>cs.flatMap aLl
def bCo:Tm->List Nat
 | .va x=>aLm x
 | .tup xs=>xs.flatMap aLm
def bCp:aB->List Nat
 | .cells cs=>cs.flatMap aLl
 | .map es _=>es.flatMap fun p=>aLm p.2
 |_=> []
def aGt (h:List (Nat×aB)):Nat->List Nat->List Nat->List Nat
 |0,_,acc=>acc
 |_+1,[],acc=>acc
 |f+1,k::todo,acc=>match acc.contains k with
  |true=>aGt h f todo acc
  |false=>match aAj (aF h k) with
   |true=>aGt h f (bCp (aF h k)++todo) (k::acc)
   |false=>aGt h f todo acc
def aTX (k:Nat):List Nat->List Nat
 | []=> [k]
 |x::l=>match Nat.ble k x with
  |true=>k::x::l
  |false=>x::aTX k l
def aSo (rd:List Nat) (st:St):List Nat:=(aGt st.heap 1000 (rd.flatMap fun t=>bCo (aV st.tmps t)) []).foldr aTX []
def nN {α:Type}:Nat->(Nat->α)->α
 |0,k=>k 0
 |n+1,k=>nN n fun m=>k (m+1)
theorem aB0 {α:Type}: ∀(n:Nat) (k:Nat->α),nN n k=k n
 |0,_=>rfl
 |n+1,k=>aB0 n fun m=>k (m+1)
def oNs {α:Type}:List Nat->(List Nat->α)->α
 | [],k=>k []
 |x::xs,k=>nN x fun x=>oNs xs fun xs=>k (x::xs)
theorem aSp {α:Type}: ∀(l:List Nat) (k:List Nat->α),oNs l k=k l
 | [],_=>rfl
 |x::xs,k=>by simp only [oNs,aB0,aSp xs]
def nC {α:Type} (x:aL) (k:aL->α):α:=match x with
 | .own a b=>nN a fun a=>k (.own a b)
 | .osl a b c d=>nN a fun a=>k (.osl a b c d)
 | .osc a b c d e=>nN a fun a=>k (.osc a b c d e)
 | .ep a b c d=>nN a fun a=>k (.ep a b c d)
 | .ap a b c d=>nN a fun a=>k (.ap a b c d)
 | .mp a=>nN a fun a=>k (.mp a)
 | .top=>k .top
 | .und=>k .und
 | .kb b=>k (.kb b)
 | .d a=>k (.d a)
 | .rp cs=>k (.rp cs)
 | .fn f cs=>k (.fn f cs)
 | .fv g=>k (.fv g)
 | .fb f a b=>k (.fb f a b)
theorem aTp {α:Type} (x:aL) (k:aL->α):nC x k=k x:=by cases x<;>simp only [nC,aB0]
def nCs {α:Type}:List aL->(List aL->α)->α
 | [],k=>k []
 |x::xs,k=>nC x fun x=>nCs xs fun xs=>k (x::xs)
theorem aLn {α:Type}: ∀(l:List aL) (k:List aL->α),nCs l k=k l
 | [],_=>rfl
 |x::xs,k=>by simp only [nCs,aTp,aLn xs]
def nT {α:Type} (x:Tm) (k:Tm->α):α:=match x with
 | .va (.c x)=>nC x fun x=>k (.va (.c x))
 | .va (.agg cs)=>nCs cs fun cs=>k (.va (.agg cs))
 | .tup xs=>aAm xs fun xs=>k (.tup xs)
theorem bDt {α:Type} (x:Tm) (k:Tm->α):nT x k=k x:=by
 unfold nT;split
 . rw [aTp]
 . rw [aLn]
 . rw [uD]
def nTs {α:Type}:List (Nat×Tm)->(List (Nat×Tm)->α)->α
 | [],k=>k []
 |(t,x)::xs,k=>nT x fun x=>nTs xs fun xs=>k ((t,x)::xs)
theorem aGu {α:Type}: ∀(l:List (Nat×Tm)) (k:List (Nat×Tm)->α),nTs l k=k l
 | [],_=>rfl
 |(t,x)::xs,k=>by simp only [nTs,bDt,aGu xs]
def yI {α:Type}:List (Nat×aB)->(List (Nat×aB)->α)->α
 | [],k=>k []
 |(b,.cells cs)::xs,k=>nN b fun b=>nCs cs fun cs=>yI xs fun xs=>k ((b,.cells cs)::xs)
 |(b,.row a c f)::xs,k=>nN b fun b=>yI xs fun xs=>k ((b,.row a c f)::xs)
 |(b,x)::xs,k=>nN b fun b=>yI xs fun xs=>k ((b,x)::xs)
theorem aGv {α:Type}: ∀(l:List (Nat×aB)) (k:List (Nat×aB)->α),yI l k=k l
 | [],_=>rfl
 |(b,x)::xs,k=>by cases x<;>simp only [yI,aB0,aLn,aGv xs]
def nSt (st:St) (k:St->Prop):Prop:=match st with
 |⟨ts,h,n,m⟩=>nTs ts fun ts=>yI h fun h=>nN n fun n=>k ⟨ts,h,n,m⟩
theorem bCq (st:St) (k:St->Prop):nSt st k=k st:=by
 obtain ⟨ts,h,n,m⟩:=st;simp only [nSt,aGu,aGv,aB0]
section
variable (P:Program) (τ:bF)
def xY (calls:Nat->Nat->List Va->St->(Tm->St->Prop)->Prop) (ops:Array Oper):List yH->List Nat->St->(St->Prop)->Prop
 | [],_,st,K=>K st
 | .take i::p,T,st,K=>qB P τ ops.toList i st fun y=>bG st (bV ops i) y fun st=>xY calls ops p (i::T) st K
 | .act j T' rd::p,_,⟨ts,h,n,m⟩,K=>oNs (aSo rd ⟨ts,h,n,m⟩) fun ids=>iR ops ids T' ts h n=true/\
    nTs (xL (List.range ids.length) ids ts rd) fun l7=>yI (aAi (List.range ids.length) ids h ids (List.range ids.length)) fun h1=>
     aCr P τ (calls ids.length) ops.toList j ⟨l7,h1,ids.length,m⟩ fun st1=>nSt (aBz ids (bV ops j) ⟨ts,h,n,m⟩ st1) fun st2=>xY calls ops p T' st2 K
 | .news zs::p,T,⟨ts,h,n,m⟩,K=>(T.all fun k=>(aCt ops k ts).all fun b=>Nat.blt b n)=true/\ aBZ τ ops zs ⟨ts,h,n,m⟩ fun st=>xY calls ops p T st K
end
section
variable {P:Program} {τ:bF}
theorem aFp {calls:Nat->Nat->List Va->St->(Tm->St->Prop)->Prop} {ops:Array Oper}: ∀{p:List yH} {T:List Nat} {st:St} {K:St->Prop},xY P τ calls ops p T st K=nS P τ calls aSo ops p T st K
 | [],_,_,_=>rfl
 | .take i::p,T,st,K=>by
   unfold xY nS
   congr 1;funext y;congr 1;funext st;exact aFp
 | .act j T' rd::p,T,⟨ts,h,n,m⟩,K=>by
   unfold xY nS;rw [aSp,aGu,aGv]
   congr 2;funext st1
   rw [bCq];exact aFp
 | .news zs::p,T,⟨ts,h,n,m⟩,K=>by
   unfold xY nS
   congr 2;funext st;exact aFp
end
def bDu (ops:Array Oper):List (Nat×Tm):=((List.range ops.size).filter (fS ops)).filterMap fun z=>(bV ops z).map fun d=>(d,iS)
theorem cO {P:Program} {t:TT} (ht:t.ok P) {l:List (Nat×Sm)} (hl:gX P l) (p:List yH) {base id n m:Nat} {ops:Array Oper} {ts:List (Nat×Tm)} {h:List (Nat×aB)} {Q:Exit->St->Prop}
 (c6:(P.follows .mixedOrders&&(sG ops&&(aCu t.get m ops&&tS ops (mO ops ops.size) p [] [])))=true)
 (hk:nTs (bDu ops++ts) fun ts=>yI h fun h=>nN n fun n=>xY P t.get (fun b=>jK P (cJ l) b) ops p [] ⟨ts,h,n,m⟩ (Q .normal)):aO P base (.region id ops true) ⟨ts,h,n,m⟩ Q:=by
 simp only [Bool.and_eq_true] at c6;rw [aGu,aGv,aB0,aFp] at hk;exact bCn (TT.tysOk ht) (TT.zeros ht) c6.1 (fun b=>nX (gC hl) b) c6.2.1 c6.2.2.1 c6.2.2.2 hk
theorem bET {P : Program} {x : TT} (hx : x.ok P) {base f : Nat} {fn : Func} {c : Code} (hf : P.funcs[f]? = some fn) (hb : fn.body = some c) (db : (fn.name == "runtime.NumGoroutine") = false) {bk : List Va} {ts : List (Nat × Tm)} {h : List (Nat × aB)} {n m : Nat} {K : Tm -> St -> Prop}
 (hlen:Nat.ble bk.length fn.ntmps=true) (hk:aO P n c ⟨nP 0 (bk.map .va),h,n,fn.ntmps⟩ (aHy x.get fn.results.toList ts m K)):bM P base f bk ⟨ts,h,n,m⟩ K:=
 aNH (TT.tysOk hx) hf hb db (Nat.le_of_ble_eq_true hlen) hk
end Go.Sx
namespace Go.Proofs.YtiblbnhknemloaaGreat
open Tryz
open Go.Sx
def gF (f:Nat->List DV):Nat->Bd:=fun k=>gB (f k)
theorem bAz {α:Type} [Inhabited α] {lt:α->α->Bool} (x:α):bO lt [x]= [x]:=oG _
theorem aRm {α:Type} [Inhabited α] {lt:α->α->Bool} (g:Nat->α) (a:Nat):put g a (bO lt (aD g a (a+1)))=g:=by rw [aBd,bAz];have:=aBe g a (a+1);rwa [aBd] at this
theorem aYK {α:Type} [Inhabited α] {lt:α->α->Bool} (g:Nat->α) {a b:Nat} (h:b<=a):put g a (bO lt (aD g a b))=g:=by
 rw [zE g h];funext k;unfold put;rw [if_neg (by simp only [bO,List.foldl_nil,List.length_nil];omega)]
theorem aVP {α:Type} (l:List α):l= [] \/ ∃p y,l=p++ [y]:=by
 rcases List.eq_nil_or_concat l with h|⟨p,y,h⟩
 . exact .inl h
 . exact .inr ⟨p,y,by rw [h,List.concat_eq_append]⟩
theorem aSq {a b:Bd} {p:Bool} (h:decide (bR a.name.data.toList b.name.data.toList<0)=p):aQ a b=p:=h
theorem sK (f:Nat->List DV) (i:Nat) (r:List DV) (k:Nat):mB f i r k=if k=i then r else f k:=by
 unfold mB;cases h:Nat.beq k i with
 |true=>rw [if_pos (Nat.eq_of_beq_eq_true h)]
 |false=>rw [if_neg (Nat.ne_of_beq_eq_false h)]
theorem aFW {g g':Nat->Bd} {i j:Nat} {x y:List DV} (hx:x=aT (g j)) (hy:y=aT (g i)) (h:pB g i j=g') (k:Nat):mB (mB (fun k=>aT (g k)) i x) j y k=aT (g' k):=by
 subst h;subst hx;subst hy
 rw [sK,sK];unfold pB;split
 . rfl
 . split<;>rfl
theorem uK {n:Nat} {f:Nat->List DV} (h: ∀i,i<n->jC (f i)):icE (.ow 9 n f) (.ow 9 n fun k=>aT (gF f k)):=⟨rfl,rfl,fun i hi=>aRf (h i hi)⟩
theorem rH (G:Nat->Bd):gF (fun k=>aT (G k))=G:=funext fun k=>aLi (G k)
theorem aYL {P:Program} {f:Nat} {F:List Ar->Option Rs} (hc:aAV P f) (h: ∀xs pre r us,F xs=some ⟨pre,r,us⟩->pre->
 ∃(vs:List Value) (v:Value),xs=vs.map (fun x=>Ar.c (.d (.v x)))/\ us= []/\ (∀w,Calls P f vs.toArray w fun e w'=>e= .returned v/\ w'=w)/\ ∀S w,oO P S w r v []):FC P f F:=by
 intro xs pre r us hF dO S w ak ls hS hr gf;obtain ⟨vs,v,rfl,rfl,bd,bh⟩:=h _ _ _ _ hF dO
 have kr: ∀(vs:List Value),dE (vs.map fun x=>Ar.c (.d (.v x)))= []:=by
  intro vs
  induction vs with
  |nil=>rfl
  |cons v vs ih=>simp [dE,pR,jJ,ih]
 have e:=aEL hr (kr vs)
 subst e;have hv:ak=vs:=by
  clear bd hF kr
  induction vs generalizing ak with
  |nil=>cases ak with|nil=>rfl|cons _ _=>simp [cC] at hr
  |cons x vs ih=>cases ak with
   |nil=>simp [cC] at hr
   |cons u ak=>
    simp only [List.map_cons,cC] at hr;obtain ⟨l1,l2,e,h1,h2⟩:=hr
    obtain ⟨rfl,rfl⟩:=List.append_eq_nil_iff.1 e.symm
    have h1:bC S w [.d (.v x)] [u] []:=h1
    have h1:aZ S w (.v x) u:=h1.1
    cases h1;rw [ih _ h2]
 subst hv;refine .inl ⟨hc,(bd w).mono ?_⟩
 rintro e w' ⟨rfl,rfl⟩
 refine ⟨v,S,[],rfl,bh S w', ?_,trivial,⟨rfl,rfl,rfl,Nat.le_refl _,fun _ _ _=>rfl,cT.refl _ _,fun _ h=> .inl h,fun b hb=> .inl hb,hS⟩⟩
 rw [kr];trivial
def aDD:List Ar->Option Rs
 | [.c (.d (.v (.string x))),.c (.d (.v (.string y)))]=>some ⟨True,.va (.c (.d (it (bR x.data.toList y.data.toList)))),[]⟩
 |_=>none
theorem aJw:FC prog 75 aDD:=by
 refine aYL (aEK func75 rfl rfl) fun xs pre r us h hp=> ?_
 unfold aDD at h;split at h
 . rename_i x y
   cases h;exact ⟨[.string x,.string y],_,rfl,rfl,fun w=>Tryz.strings_Compare x y w,fun S w=>And.intro (.v trivial) trivial⟩
 . cases h
def aAk:List Ar->Option Rs
 | [.agg [.d (.v (.string x0)),.d (.v (.bool _)),.d (.v (.int .i64 _)),.d (.v (.int .i64 _)),.d (.v (.bool _)),.d (.v (.int .i64 _)),.d (.v (.int .i64 _)),.d (.v (.bool _)),.d (.lst 1 _ _)],.agg [.d (.v (.string x1)),.d (.v (.bool _)),.d (.v (.int .i64 _)),.d (.v (.int .i64 _)),.d (.v (.bool _)),.d (.v (.int .i64 _)),.d (.v (.int .i64 _)),.d (.v (.bool _)),.d (.lst 1 _ _)]]=>some ⟨True,.va (.c (.d (it (bR x0.data.toList x1.data.toList)))),[]⟩
 |_=>none
theorem aGw:FC prog 74 aAk:=by
 intro xs pre r us h hp;unfold aAk at h;split at h
 . rename_i x0 s0 l0 h0 b0 m0 r0 z0 n0 f0 x1 s1 l1 h1 b1 m1 r1 z1 n1 f1
   cases h;refine aE aA (l:= [(75,⟨[],aDD⟩)]) ⟨aJw,trivial⟩ func74 rfl j4 false ?_
   repeat' (first|exact trivial|refine ⟨?_,?_⟩|intro _)
   all_goals first|(conv=>whnf)
   all_goals grind
 . cases h
abbrev mK:List Cv->Option Gs:=nO (cJ [(74,⟨[],aAk⟩)]) 74 []
def aAZ:List Ar->Option Rs
 | [.c (.ow 9 n0 f0),.c (.d (.v (.int .i64 i1))),.c (.d (.v (.int .i64 i2))),.fv g3]=>some ⟨(n0<=1099511627776/\ ∀i,i<n0->jC (f0 i))/\ (-9223372036854775808<=i1/\ i1<9223372036854775808)/\ (-9223372036854775808<=i2/\ i2<9223372036854775808)/\ ((0<=i1/\ i1<=i2/\ i2<=n0)/\ g3=mK),.tup [],[some fun k=>aT (put (gF f0) (i1).toNat (bO aQ (aD (gF f0) (i1).toNat (i2).toNat)) k)]⟩
 |_=>none
theorem aEZ:FC prog 173 aAZ:=by
 intro xs pre r us h hp;unfold aAZ at h;split at h
 . rename_i n0 f0 i1 i2 g3
   cases h;obtain ⟨a7,a8,af,di⟩:=hp
   refine aU.deep (ys:= [.c (.ow 9 n0 fun k=>aT (gF f0 k)),.c (.d (.v (.int .i64 i1))),.c (.d (.v (.int .i64 i2))),.fv g3]) ?_ ?_
   . repeat' (first|exact j3z|refine ⟨?_,?_⟩|fail)
     all_goals first|exact j5v
   refine aE aA (l:= []) trivial func173 rfl j4 false ?_
   obtain ⟨⟨ha,mw,hb⟩,rfl⟩:=di
   obtain ⟨a,rfl⟩:=Int.eq_ofNat_of_zero_le ha
   obtain ⟨b,rfl⟩:=Int.eq_ofNat_of_zero_le (Int.le_trans ha mw)
   have hn:=a7.1
   clear a7
   generalize gF f0=G
   simp only [Int.toNat_natCast]
   repeat' (fail)
   all_goals first|(conv=>whnf)
   refine dM aA (l:= []) trivial j4 (X:=Nat)
    (fun i=>⟨[(8,vx (.int .i64 i)),(0,.va (.c (.osl 0 9 0 n0))),(1,vx (.int .i64 a)),(2,vx (.int .i64 b)),(3,.va (.c (.fv mK)))],[(0,.row 9 n0 fun k=>aT (put G a (bO aQ (aD G a i)) k))],1,53⟩)
    (fun i=>b-i) (fun i=>a<i/\ (i<=b \/i=a+1)) [] [] (fun i _ _=>i+1) [0] [0] 0 0 (a+1) ?_ ?_ ?_
   . exact ⟨by omega,.inr rfl⟩
   . rw [aRm]
     repeat' (first|exact j2w|refine ⟨?_,?_⟩|fail)
     all_goals (exact congrArg (Value.int .i64) (aR _ j3 j3))
   . rintro i ⟨k1,k2⟩
     (repeat' (first|exact trivial|refine ⟨?_,?_⟩|intro _));all_goals first|apply qq|conv=>whnf
     . have hi:i<b:=by have:=of_decide_eq_true ‹decide ((i:Int)<(b:Int))=true›;omega
       have hs:=zD cN (aD G a i)
       have hl:(bO aQ (aD G a i)).length=i-a:=by rw [wE,dD]
       have hG:G (a+(bO aQ (aD G a i)).length)=G i:=by rw [hl];congr 1;omega
       refine dM aA (l:= []) trivial j4 (X:=List Bd×List Bd)
        (fun x=>⟨[(9,vx (.int .i64 (a+x.1.length:Nat))),(8,vx (.int .i64 i)),(0,.va (.c (.osl 0 9 0 n0))),(1,vx (.int .i64 a)),(2,vx (.int .i64 b)),(3,.va (.c (.fv mK)))],[(0,.row 9 n0 fun k=>aT (put G a (x.1++G i::x.2) k))],1,53⟩)
        (fun x=>x.1.length) (fun x=>mg aQ (bO aQ (aD G a i)) [G i]=mg aQ x.1 [G i]++x.2/\ cK aQ x.1/\ x.1.length+x.2.length=i-a) [] [] (fun x _ _=>(x.1.dropLast,x.1.getLastD default::x.2)) [0] [0] 0 0 (bO aQ (aD G a i),[]) ?_ ?_ ?_
       . exact ⟨by simp,hs,by dsimp only;rw [hl];rfl⟩
       . have hp:=aYA G a (bO aQ (aD G a i))
         rw [hG] at hp;rw [hp]
         repeat' (first|exact j2w|refine ⟨?_,?_⟩|fail)
         all_goals (exact congrArg (Value.int .i64) (by dsimp only;omega))
       . rintro ⟨p,q⟩ ⟨k3,k4,k5⟩
         dsimp only at k3 k4 k5
         rcases aVP p with rfl|⟨p,y,rfl⟩
         . have ky:decide (((a+([]:List Bd).length:Nat):Int)>(a:Int))=false:=by simp
           have hE:put G a ([]++G i::q)=put G a (bO aQ (aD G a (i+1))):=by rw [wR G j3,yW,k3,oG];rfl
           (repeat' (first|exact trivial|refine ⟨?_,?_⟩|intro _));all_goals first|apply qq|conv=>whnf
           all_goals first|(exact absurd (ky.symm.trans ‹_=true›) j5)|skip
           all_goals first|rfl|(dsimp only;omega)|(exact congrArg aT (congrFun hE _))|(exact congrArg (Value.int .i64) (aR _ j3 j3))
         . have bz:(p++ [y]).length=p.length+1:=by simp
           have Ed:decide (((a+(p++ [y]).length:Nat):Int)>(a:Int))=true:=by rw [bz];exact decide_eq_true j3
           have hw:IntKind.wrap .i64 (((a+(p++ [y]).length:Nat):Int)-1)=((a+p.length:Nat):Int):=by rw [bz,aR _ j3 j3];omega
           have hL:(p++ [y])++G i::q=p++y::G i::q:=j8
           have e1:put G a ((p++ [y])++G i::q) (a+p.length)=y:=by rw [hL];exact zF _ _ _ _ _
           have e2:put G a ((p++ [y])++G i::q) (a+(p++ [y]).length)=G i:=zF _ _ _ _ _
           have FZ:pB (put G a ((p++ [y])++G i::q)) (a+(p++ [y]).length) (a+p.length)=put G a (p++G i::y::q):=by rw [hL,aP4,bz];exact aKh _ _ _ _ _ _
           have hE:aQ (G i) y=false->put G a ((p++ [y])++G i::q)=put G a (bO aQ (aD G a (i+1))):=by
            intro h;rw [wR G j3,yW,k3,bCh _ _ (aU7 cN k4 h)];simp
           have hN:aQ (G i) y=true->mg aQ (bO aQ (aD G a i)) [G i]=mg aQ p [G i]++y::q:=by
            intro h;rw [k3,bAv _ _ _ h,List.append_assoc];rfl
           (repeat' (first|exact trivial|refine ⟨?_,?_⟩|intro _));all_goals first|apply qq|conv=>whnf
           all_goals first|(exact absurd (Ed.symm.trans ‹_=false›) j5)|skip
           all_goals first|((with_reducible show aO _ _ (.region 6 _ _) _ _);refine cO aA (l:= []) trivial ([.take 0,.take 1,.take 2,.take 3,.take 4,.take 5,.take 6,.take 7,.take 8,.take 9,.take 10,.take 11,.take 12,.take 13,.take 14,.act 15 [4,3,2] [51,46],.take 16,.act 17 [] [52,50]]) j4 ?_)|skip
           all_goals (repeat' (first|refine ⟨?_,?_⟩|intro _));all_goals first|apply qq|conv=>whnf
           all_goals (try simp only [hw,Int.toNat_natCast,Nat.zero_add,e1,e2,List.dropLast_concat,List.getLastD_concat])
           all_goals (try rw [sK,if_neg (by rw [bz];omega)])
           all_goals (repeat' (first|exact trivial|refine ⟨?_,?_⟩|intro _));all_goals first|apply qq|conv=>whnf
           all_goals (try simp only [hw,Int.toNat_natCast,Nat.zero_add,e1,e2,List.dropLast_concat,List.getLastD_concat])
           all_goals first|rfl|omega|(simp only [bz] at k5;simp only [List.length_cons];omega)|(exact (List.pairwise_append.1 k4).1)|(have hd:=‹decide (bR _ _<0)=_›;simp only [hw,Int.toNat_natCast,Nat.zero_add,e1,e2] at hd;first|(exact hN (aSq hd))|(exact congrArg aT (congrFun (hE (aSq hd)) _)))|(exact congrArg (Value.int .i64) (aR _ j3 j3))|(exact aFW (by rw [e1]) (by rw [e2]) FZ _)
     . exact Nat.le_refl _
     . have h2:=of_decide_eq_false ‹decide ((i:Int)<(b:Int))=false›
       rcases (j3:i=b \/(i=a+1/\ b=a)) with k2|⟨k2,k3⟩
       . subst k2;rfl
       . subst k2;subst k3
         exact congrArg aT (congrFun ((aRm G b).trans (aYK G (Nat.le_refl b)).symm) _)
 . cases h
end Go.Proofs.YtiblbnhknemloaaGreat
