/- A symbolic executor for function bodies of the model, and that it is right: whatever it computes of a body is so of every call: part 3 of 3. No condition. -/
import Derived.Test.YtiblbnhknemloaaGreatG2
import Derived.KernelRfl
import Derived.Orders
import Derived.ScopeJumps
import Derived.ProofKit
import Derived.JoinedCond
set_option linter.all false
set_option maxHeartbeats 8000000
set_option maxRecDepth 100000
namespace Go.Sx
inductive Cl (ops:Array Oper):Nat->Nat->Prop
 |one {i:Nat} {o:Oper} {e:Edge}:ops[i]? =some o->e∈o.after.toList->Region.binds .any e=true->Cl ops i e.on
 |more {i j:Nat} {o:Oper} {e:Edge}:ops[i]? =some o->e∈o.after.toList->Region.binds .any e=true->Cl ops e.on j->Cl ops i j
theorem aOX {acc:List Nat} (Pj:Nat->Nat->Prop) (pn: ∀i j,(acc.getD i 0).testBit j=true->Pj i j): ∀(l:List Edge) (s j:Nat),
 (l.foldl (fun s e=>if Region.binds .any e then s|||2^e.on|||acc.getD e.on 0 else s) s).testBit j=true->s.testBit j=true \/ ∃e∈l,Region.binds .any e=true/\ (e.on=j \/Pj e.on j)
 | [],s,j,h=> .inl h
 |e::l,s,j,h=>by
  simp only [List.foldl_cons] at h;rcases aOX Pj pn l _ j h with h1|⟨e',h2,h3,h4⟩
  . split at h1
    . rename_i hb
      rw [Nat.testBit_or,Nat.testBit_or,Bool.or_eq_true,Bool.or_eq_true] at h1;rcases h1 with (h1|h1)|h1
      . exact .inl h1
      . rw [Nat.testBit_two_pow] at h1;exact .inr ⟨e,by simp,hb,.inl j0i⟩
      . exact .inr ⟨e,by simp,hb,.inr (pn _ _ h1)⟩
    . exact .inl h1
  . exact .inr ⟨e',by simp [h2],h3,h4⟩
theorem aN2 (ops:Array Oper): ∀(rest:List Oper) (acc:List Nat),(∀i o,rest[i]? =some o->ops[acc.length+i]? =some o)->(∀i j,(acc.getD i 0).testBit j=true->Cl ops i j)->
 ∀i j,((aGY rest acc).getD i 0).testBit j=true->Cl ops i j
 | [],acc,_,pn,i,j,h=>pn i j h
 |o::rest,acc,hall,pn,i,j,h=>by
  simp only [aGY] at h;refine aN2 ops rest _ ?_ ?_ i j h
  . intro i o' ho
    have:=hall (i+1) o' j2m
    simp only [List.length_append,List.length_cons,List.length_nil]
    rwa [show acc.length+(0+1)+i=acc.length+(i+1) by omega]
  . intro i j cy;by_cases h1:i<acc.length
    . simp only [List.getD,List.getElem?_append_left h1] at cy;exact pn i j cy
    . by_cases h2:i=acc.length
      . subst h2;simp only [List.getD,List.getElem?_append_right (Nat.le_refl _),Nat.sub_self,List.getElem?_cons_zero,Option.getD_some] at cy;have ho:ops[acc.length]? =some o:=by simpa using hall 0 o j8
        rcases aOX (fun i j=>Cl ops i j) pn _ _ _ cy with h3|⟨e,h3,h4,h5⟩
        . simp at h3
        . rcases h5 with h5|h5
          . subst h5;exact .one ho h3 h4
          . exact .more ho h3 h4 h5
      . have:(acc++ [o.after.toList.foldl (fun s e=>if Region.binds .any e then s|||2^e.on|||acc.getD e.on 0 else s) 0]).getD i 0=0:=by
         simp only [List.getD];rw [List.getElem?_eq_none y7];rfl
        rw [this] at cy;simp at cy
def aM9 (ops:Array Oper) (D:Nat->Bool):Prop:= ∀i o,ops[i]? =some o->D i=true-> ∀e∈o.after.toList,Region.binds .any e=true->D e.on=true
theorem Cl.down {ops:Array Oper} {D:Nat->Bool} (hd:aM9 ops D) {i j:Nat} (h:Cl ops i j):(∀o,ops[i]? =some o-> ∀e∈o.after.toList,Region.binds .any e=true->D e.on=true)->D j=true:=by
 induction h with
 |one ho he hb=>intro h;exact h _ ho _ he hb
 |more ho he hb _ ih=>intro h;exact ih fun o' po=>hd _ o' po (h _ ho _ he hb)
theorem aU0 {ops:Array Oper} {m:Nat} (h:zN ops.toList m=true):
 (∀i o,ops[i]? =some o-> ∀e∈o.after.toList,Region.binds .any e=true->e.on<i)/\
 ∀i j x o,ops[i]? =some o->ops[j]? =some x->j<i->Cl ops i j \/(i<m/\ aGZ ops.toList x o=false):=by
 simp only [zN,List.all_eq_true,List.mem_range,Array.length_toList] at h;have fk:=aN2 ops ops.toList [] (fun i o ho=>by simpa using ho) (fun i j h=>by simp at h)
 refine ⟨?_,?_⟩
 . intro i o ho e he hb;have hi:i<ops.size:=(Array.getElem?_eq_some_iff.1 ho).1
   have:=h i hi
   simp only [Array.getElem?_toList,ho,Bool.and_eq_true,List.all_eq_true] at this;have:=this.1 e he
   simpa [hb] using this
 . intro i j x o ho hx hj;have hi:i<ops.size:=(Array.getElem?_eq_some_iff.1 ho).1
   have:=h i hi
   simp only [Array.getElem?_toList,ho,Bool.and_eq_true,List.all_eq_true] at this;have:=this.2 j u6
   simp only [hx,Bool.or_eq_true,Bool.and_eq_true,decide_eq_true_eq,Bool.not_eq_true'] at this;rcases this with h1|h1
   . exact .inl (fk i j h1)
   . exact .inr h1
theorem aIn {all:List Oper} {x y:Oper} (h:aGZ all x y=false):
 (∀t,x.dst=some t->t∉wT all y/\ y.dst≠some t)/\ ∀t,y.dst=some t->t∉wT all x:=by
 simp only [aGZ,Bool.or_eq_false_iff] at h;refine ⟨fun t ht=> ?_,fun t ht=> ?_⟩
 . have:=h.1
   rw [ht] at this;simp only [Bool.or_eq_false_iff] at this;refine ⟨by simpa using this.1,fun e=> ?_⟩
   rw [e] at this;simp at this
 . have:=h.2
   rw [ht] at this
   simpa using this
section
variable {P:Program} {τ:bF} {Γ:dQ} {base:Nat} {ψ aa:aJ} {S S':Nat→Prop} {w w':World} {a:Act}
def aEf (x y:Tm):Prop:=y=x \/ ∃b c,x= .va (.c (.d (.v (.bool b))))/\ b=c/\ y= .va (.c (.kb c))
theorem aEf.rep {x y:Tm} {v:Value} (h:aEf x y) (hx:dL P ψ S w x v):dL P ψ S w y v:=by
 rcases h with rfl|⟨b,c,rfl,rfl,rfl⟩
 . exact hx
 . cases hx;rfl
theorem aQ8 {i:Nat} {gs:List Nat} {x:Tm} {k:Tm->Prop} (h:aCq i gs x k): ∃y,aEf x y/\ k y:=by
 unfold aCq at h;split at h
 . rename_i b _
   cases hb:b with
   |true=>exact ⟨_,.inr ⟨true,true,by rw [],rfl,rfl⟩,h.1 hb⟩
   |false=>exact ⟨_,.inr ⟨false,false,by rw [],rfl,rfl⟩,h.2 hb⟩
 . exact ⟨_,.inl rfl,h⟩
def aAa (P:Program) (τ:bF) (Γ:dQ) (n0:Nat) (all:List Oper) (i:Nat) (o:Oper) (y:Tm) (blk:Option (List aL)) (st st':St):Prop:=
 xG o.dst st.lim=true/\ st'=⟨kY o.dst y st.tmps,(match blk with|some cs=> [(n0+i,aB.cells cs)]|none=> [])++st.heap,st.next,st.lim⟩/\
  ((uT all st o (fun w=>w=false)/\ y=kU/\ blk=none) \/
   ∃x,uT all st o (fun w=>w=true)/\ qM P τ Γ (n0+i) o st (fun x' b'=>x'=x/\ b'=blk.map aB.cells)/\ aEf x y)
theorem aWA (all:List Oper) (st:St) (o:Oper):gQ (uT all st o):=by
 intro K hk;unfold uT at hk⊢
 split at hk
 . exact ⟨_,hk,rfl⟩
 . split at hk
   . exact hk.elim
   . split at hk
     . exact ⟨_,hk,rfl⟩
     . exact ⟨_,hk,rfl⟩
     . exact ⟨_,hk,rfl⟩
     . exact hk.elim
theorem aQ9 {n0:Nat} {gs:List Nat} {all:List Oper}: ∀(rest:List Oper) (i:Nat) (st:St) (K:St->Prop),dGo P τ Γ n0 gs all i rest st K->
 ∃(f:Nat->St) (y:Nat->Tm) (B:Nat->Option (List aL)),f 0=st/\ K (f rest.length)/\ ∀j o,rest[j]? =some o->aAa P τ Γ n0 all (i+j) o (y j) (B j) (f j) (f (j+1))
 | [],i,st,K,hk=>⟨fun _=>st,fun _=>kU,fun _=>none,rfl,hk,fun j o h=>by simp at h⟩
 |o::rest,i,⟨ts,h,n,m⟩,K,hk=>by
  rw [aX1] at hk;split at hk
  . exact hk.elim
  . rename_i ug
    have cons: ∀y0 B0 st1,aAa P τ Γ n0 all i o y0 B0 ⟨ts,h,n,m⟩ st1->dGo P τ Γ n0 gs all (i+1) rest st1 K-> ∃(f:Nat->St) (y:Nat->Tm) (B:Nat->Option (List aL)),f 0=⟨ts,h,n,m⟩/\ K (f (o::rest).length)/\
     ∀j o',(o::rest)[j]? =some o'->aAa P τ Γ n0 all (i+j) o' (y j) (B j) (f j) (f (j+1)):=by
     intro y0 B0 st1 hs hk;obtain ⟨f,y,B,g1,g2,g3⟩:=aQ9 rest (i+1) st1 K hk
     refine ⟨fun j=>match j with|0=>⟨ts,h,n,m⟩|j+1=>f j,fun j=>match j with|0=>y0|j+1=>y j,fun j=>match j with|0=>B0|j+1=>B j,rfl,g2, ?_⟩
     intro j o' ho
     cases j with
     |zero=>simp at ho;subst ho;simp only [g1];exact hs
     |succ j=>have:=g3 j o' j2m;rw [show i+(j+1)=i+1+j by omega];exact this
    obtain ⟨wt,g1,g2⟩:=aWA _ _ _ _ hk
    cases wt with
    |false=>exact cons kU none _ ⟨ug,rfl,.inl ⟨g2,rfl,rfl⟩⟩ g1
    |true=>
     obtain ⟨x,b,g3,g4⟩:=aZ4 _ _ _ _ g1
     simp only [oL] at g3;cases b with
     |none=>
      obtain ⟨y0,k1,k2⟩:=aQ8 g3
      exact cons y0 none _ ⟨ug,rfl,.inr ⟨x,g2,g4,k1⟩⟩ k2
     |some b=>
      cases b with
      |cells cs=>
       simp only [zJ] at g3;obtain ⟨y0,k1,k2⟩:=aQ8 g3
       exact cons y0 (some cs) _ ⟨ug,rfl,.inr ⟨x,g2,g4,k1⟩⟩ k2
      |_=>exact g3.elim
theorem aC.allocAt {ts:List (Nat×Tm)} {h:List (Nat×aB)} {n m id:Nat} {cs:List aL} {arr:Array Value} {e:TypeId}
 (hr:aC P base ψ S w ⟨ts,h,n,m⟩ a) (hid:ψ id=none) (hb:base<=id) (hlt:id<n) (c5:aF h id= .cells cs) (hcs:aG (dK P ψ S w) cs arr.toList):
 aC P base (ψ.set id (.at w.heap.size arr.size)) S (w.alloc (.cells arr e)) ⟨ts,h,n,m⟩ a/\ aI base ψ S w (ψ.set id (.at w.heap.size arr.size)) S (w.alloc (.cells arr e)):=by
 have hl:=tX hr.sim.sdom (Obj.cells arr e)
 have hp:cH ψ (ψ.set id (.at w.heap.size arr.size)):=aJ.sub_set hid
 have get: ∀k l',(ψ.set id (.at w.heap.size arr.size)) k=some l'->(k=id/\ l'= .at w.heap.size arr.size) \/(k≠id/\ ψ k=some l'):=by
  intro k l' hk
  simp only [aJ.set] at hk;by_cases e:k=id
  . rw [if_pos e] at hk;simp at hk;exact .inl ⟨e,hk.symm⟩
  . rw [if_neg e] at hk;exact .inr ⟨e,hk⟩
 refine ⟨⟨hr.bas,⟨?_,?_,?_,?_,?_,?_⟩,hr.lim,hr.defers,fun t=>(hr.tmps t).later hp hl⟩,⟨rfl,rfl,rfl,by simp,fun b hb _=>vZ _ hb,hl,fun _ h=> .inl h, ?_,?_⟩⟩
 . intro k hk;have:k≠id:=by simp at hk;omega
   simp [aJ.set,this,hr.sim.dom k hk]
 . intro k l hk;rcases get k l hk with ⟨rfl,rfl⟩|⟨h1,h2⟩
   . show fE _ _ _ _ (aF h k) _
     rw [c5];exact ⟨arr,e,tW _,hcs.mono fun _ _ h=>h.later hp hl⟩
   . refine (hr.sim.blk k l h2).later hp hl fun b m' e'=> ?_
     subst e'
     exact vZ _ (hr.sim.pdom k b m' h2)
 . intro k k' b m1 m2 hk ba l1 l2
   rcases get k _ hk with ⟨rfl,e1⟩|⟨g1,g2⟩
   . rcases get k' _ ba with ⟨rfl,_⟩|⟨g3,g4⟩
     . rfl
     . simp at e1;have:=hr.sim.pdom k' b m2 g4;omega
   . rcases get k' _ ba with ⟨rfl,e1⟩|⟨g3,g4⟩
     . simp at e1;have:=hr.sim.pdom k b m1 g2;omega
     . exact hr.sim.inj k k' b m1 m2 g2 g4 l1 l2
 . intro k b m1 hk l1 hS;rcases get k _ hk with ⟨rfl,e1⟩|⟨g1,g2⟩
   . simp at e1;have:=hr.sim.sdom b hS;omega
   . exact hr.sim.dis k b m1 g2 l1 hS
 . intro k b m1 hk;rcases get k _ hk with ⟨rfl,e1⟩|⟨g1,g2⟩
   . simp at e1;simp [e1.1]
   . have:=hr.sim.pdom k b m1 g2;simp;omega
 . exact hr.sim.sdom.later hl fun b hb=>by have:=hr.sim.sdom b hb;simp;omega
 . intro k b m1 hk;rcases get k _ hk with ⟨rfl,e1⟩|⟨g1,g2⟩
   . simp at e1;right;omega
   . exact .inl ⟨k,m1,g2⟩
 . intro k hk;have:k≠id:=by omega
   simp [aJ.set,this]
theorem aZ5 (ab:bE P τ) (hz: ∀t i,τ t=some i->cP i.zero) {id:Nat} {o:Oper} {ts:List (Nat×Tm)} {h:List (Nat×aB)} {n m:Nat} {x:Tm} {cs:List aL} (a6:aC P base ψ S w ⟨ts,h,n,m⟩ a)
 (hid:ψ id=none) (hb:base<=id) (hlt:id<n) (c5:aF h id= .cells cs)
 (hl:xG o.dst m=true) (hk:qM P τ Γ id o ⟨ts,h,n,m⟩ fun x' b=>x'=x/\ b=some (.cells cs)):
 ∀(next:Act->World->Prop) (Q:Exit->Act->World->Prop),(∀aa S' w' a',aC P base aa S' w' ⟨kY o.dst x ts,h,n,m⟩ a'->aI base ψ S w aa S' w'->(∀k,k≠id->aa k=ψ k)->next a' w')->o.wp P a w next Q:=by
 have fin: ∀(arr:Array Value) (e:TypeId),aG (dK P ψ S w) cs arr.toList->(execOp a.eval o).run P w= .ok (.value (.pointer (some ⟨w.heap.size,0,none⟩))) (w.alloc (.cells arr e))->x= .va (.c (.own id 0))->
  ∀(next:Act->World->Prop) (Q:Exit->Act->World->Prop),(∀aa S' w' a',aC P base aa S' w' ⟨kY o.dst x ts,h,n,m⟩ a'->aI base ψ S w aa S' w'->(∀k,k≠id->aa k=ψ k)->next a' w')->o.wp P a w next Q:=by
  intro arr e hcs bd hx next Q hn;subst hx;obtain ⟨g1,g2⟩:=a6.allocAt (e:=e) hid hb hlt c5 hcs
  have bh:dL P (ψ.set id (.at w.heap.size arr.size)) S (w.alloc (.cells arr e)) (.va (.c (.own id 0))) (.pointer (some ⟨w.heap.size,0,none⟩)):=⟨w.heap.size,arr.size,by simp [aJ.set],rfl⟩
  obtain ⟨st',k1,k2⟩:=qT (yT (x:= .va (.c (.own id 0))) hl) g1 bh
  simp only [Oper.wp,bd,Oper.upon];subst k1;exact hn _ _ _ _ k2 g2 fun k hk=>by simp [aJ.set,hk]
 unfold qM at hk;split at hk
 . rename_i e ae
   split at hk
   . rename_i d s b z ht
     obtain ⟨hx,hcs⟩:=hk
     simp at hcs
     refine fin z.cells e (hcs▸sH (hz _ _ ht)) ?_ hx.symm
     simp only [execOp,ae,Instr.alloc,Sem.run_bind,sJ ab ht,Result.andThen_ok,newVar,newRow,run_newObj];rfl
   . exact hk.elim
 . rename_i e xo ae
   split at hk
   . rename_i y hy
     split at hk
     . rename_i jh
       obtain ⟨hx,hcs⟩:=hk
       simp at hcs
       have su:=cL a6 xo
       rw [hy] at su;refine fin (a.eval xo).cells e (hcs▸bB.cells su jh) ?_ hx.symm
       simp only [execOp,ae,Instr.box,Sem.run_bind,Result.andThen_ok,newVar,newRow,run_newObj];rfl
     . exact hk.elim
   . exact hk.elim
 . rename_i c ae
   split at hk
   . split at hk
     . rw [uD] at hk;obtain ⟨r,g1,_⟩:=aOV _ _ _ _ hk
       exact absurd g1.2 j8
     . obtain ⟨r,g1,_⟩:=aQ7 _ _ _ _ hk
       exact absurd g1.2 j8
     . exact hk.elim
   . obtain ⟨r,g1,_⟩:=yZ _ _ _ _ _ hk
     exact absurd g1.2 j8
 . obtain ⟨r,g1,_⟩:=aNF _ _ _ _ _ _ hk
   exact absurd g1.2 j8
 . obtain ⟨r,g1,_⟩:=yZ _ _ _ _ _ hk
   exact absurd g1.2 j8
end
def hQ (y:Nat->Tm) (dst:Nat->Option Tmp) (ts0:List (Nat×Tm)) (D:Nat->Bool):Nat->List (Nat×Tm)
 |0=>ts0
 |j+1=>match D j with
  |true=>kY (dst j) (y j) (hQ y dst ts0 D j)
  |false=>hQ y dst ts0 D j
theorem aCQ {dst:Option Tmp} {x:Tm} {ts:List (Nat×Tm)} {t:Nat}:aV (kY dst x ts) t=if dst=some t then x else aV ts t:=by
 cases dst with
 |none=>simp [kY]
 |some u=>
  simp only [kY,aV];cases hb:Nat.beq u t with
  |true=>simp [Nat.eq_of_beq_eq_true hb]
  |false=>simp [Nat.ne_of_beq_eq_false hb]
section
variable {y:Nat→Tm} {dst:Nat→Option Tmp} {ts0:List (Nat×Tm)} {D D':Nat→Bool}
theorem aC3 {t:Nat}: ∀(m:Nat),(∀j,j<m->dst j=some t->D j=D' j)->aV (hQ y dst ts0 D m) t=aV (hQ y dst ts0 D' m) t
 |0,_=>rfl
 |m+1,h=>by
  have ih:=aC3 m fun j hj=>h j j3
  simp only [hQ];by_cases hd:dst m=some t
  . rw [h m j3 hd];cases D' m with
    |true=>simp only [aCQ,if_pos hd]
    |false=>exact ih
  . cases D m<;>cases D' m<;>simp only [aCQ,if_neg hd]<;>exact ih
theorem aJh {t:Nat} {i:Nat}: ∀(m:Nat),i<=m->(∀j,i<=j->j<m->dst j=some t->D j=false)->aV (hQ y dst ts0 D m) t=aV (hQ y dst ts0 D i) t
 |0,hi,_=>by
  have:i=0:=j3
  subst this;rfl
 |m+1,hi,h=>by
  by_cases he:i=m+1
  . rw [he]
  . have ih:=aJh m j3 fun j h1 h2=>h j h1 j3
    simp only [hQ];cases hD:D m with
    |false=>exact ih
    |true=>
     simp only [aCQ];rw [if_neg fun hd=>by have:=h m j3 j3 hd;rw [hD] at this;cases this];exact ih
theorem aYb {i m t:Nat} (hi:i<m) (_:D i=false) (ko: ∀j,D' j=(D j||j==i)) (h: ∀j,i<j->j<m->dst j=some t->dst i=some t->D j=false):
 aV (hQ y dst ts0 D' m) t=if dst i=some t then y i else aV (hQ y dst ts0 D m) t:=by
 by_cases hd:dst i=some t
 . rw [if_pos hd,aJh (i:=i+1) m j3 (fun j h1 h2 h3=>by
    have:=h j j3 h2 h3 hd
    rw [ko j,this];simp;omega)]
   simp only [hQ];have:D' i=true:=by rw [ko i];simp
   simp only [this,aCQ,if_pos hd]
 . rw [if_neg hd];refine aC3 m fun j hj Fw=> ?_
   rw [ko j];have:j≠i:=fun e=>hd (e▸Fw)
   simp [this]
end
def lW (h:List (Nat×aB)) (n:Nat):Bool:=h.all fun p=>Nat.blt p.1 n
theorem aHW: ∀{h:List (Nat×aB)} {n k:Nat},lW h n=true->n<=k->aF h k= .gone
 | [],_,_,_,_=>rfl
 |(i,b)::h,n,k,hh,hk=>by
  simp only [lW,List.all_cons,Bool.and_eq_true] at hh;rw [cY,if_neg,aHW hh.2 hk];have:i<n:=by simpa [Nat.blt_eq] using hh.1
  omega
section
variable {P:Program} {τ:bF} {Γ:dQ} {base:Nat} {ψ aa:aJ} {S S':Nat→Prop} {w w':World} {a:Act}
theorem aVx {ops:Array Oper} {st:St} {o:Oper} {b:Bool} (h:uT ops.toList st o (fun w=>w=b))
 (hr: ∀j want s,o.guard=some (j,want)->nG ops.toList j=some s->dL P ψ S w (aV st.tmps s) (a.tmps.getD s undef)):Region.wanted o (yielded ops a.tmps)=b:=by
 unfold uT at h;split at h
 . rename_i hg;subst h;simp [Region.wanted,hg]
 . rename_i j want hg
   split at h
   . exact h.elim
   . rename_i s hs
     have bh:=hr j want s hg hs
     have hd:(ops[j]?).bind (·.dst)=some s:=by
      unfold nG at hs;rw [Array.getElem?_toList] at hs;split at hs
      . rename_i hj;rw [hj];exact hs
      . simp at hs
     have get: ∀v,v≠undef->a.tmps.getD s undef=v->a.tmps[s]? =some v:=by
      intro v hv h;rw [Array.getD_eq_getD_getElem?] at h;cases hg:a.tmps[s]? with
      |none=>rw [hg] at h;exact absurd h.symm hv
      |some x=>rw [hg] at h;simp at h;rw [h]
     simp only [Region.wanted,hg,yielded,hd,Option.bind_some];split at h
     . rename_i e;rw [e] at bh;rw [get _ j1h bh];subst h;cases want<;>rfl
     . rename_i e;rw [e] at bh;rw [get _ j1h bh];subst h;cases want<;>rfl
     . rename_i e;rw [e] at bh
       have bh:a.tmps.getD s undef=undef:=bh
       rw [Array.getD_eq_getD_getElem?] at bh;subst h;cases hg:a.tmps[s]? with
       |none=>rfl
       |some x=>rw [hg] at bh;simp at bh;subst bh;rfl
     . exact h.elim
theorem aAU {t:Tmp}: ∀{xs:List Operand},Operand.tmp t∈xs->t∈rN xs
 | .tmp u::xs,h=>by
   simp only [rN,List.mem_cons] at h⊢
   rcases h with h|h
   . cases h;exact .inl rfl
   . exact .inr (aAU h)
 | .const _::xs,h=>by
   simp only [rN,List.mem_cons] at h⊢
   rcases h with h|h
   . cases h
   . exact aAU h
 | .global _::xs,h=>by
   simp only [rN,List.mem_cons] at h⊢
   rcases h with h|h
   . cases h
   . exact aAU h
 | .func _::xs,h=>by
   simp only [rN,List.mem_cons] at h⊢
   rcases h with h|h
   . cases h
   . exact aAU h
theorem aUA {all:List Oper} {o:Oper} {t:Tmp} (h:Operand.tmp t∈o.op.operands.toList):t∈wT all o:=by
 simp only [wT,List.mem_append]
 left
 unfold aSd;split
 . rename_i c hc
   rw [hc] at h;simp only [Op.operands,Call.operands] at h;split<;>rename_i DO<;>rw [DO] at h<;>exact aAU w7
 . exact aAU h
theorem aVy (ab:bE P τ) (hz: ∀t i,τ t=some i->cP i.zero) {calls:Nat->List Va->St->(Tm->St->Prop)->Prop} (ai:iY P base calls)
 {ops:Array Oper} {Q:Exit->Act->World->Prop} {o:Oper} {rest:List Oper} {k:Nat} {st:St} {K:St->Prop} {N:Act->World->Prop}
 (ho:ops[k]? =some o) (a6:aC P base ψ S w st a) (hk:nH P τ calls ops.toList (o::rest) st K)
 (hn: ∀st' aa S' w' a',nH P τ calls ops.toList rest st' K->aC P base aa S' w' st' a'->aI base ψ S w aa S' w'->N a' w'):wpOp P ops Q k N a w:=by
 unfold wpOp;rw [ho];simp only
 have go: ∀st,aC P base ψ S w st a->sZ P τ calls o st (fun st=>nH P τ calls ops.toList rest st K)->o.wp P a w N Q:=by
  intro st a6 h;exact aFJ ab hz ai a6 h _ _ hn
 rw [aNR] at hk;split at hk
 . rename_i hg
   have:Region.wanted o (yielded ops a.tmps)=true:=j0x
   rw [if_pos this];exact .inl (go st a6 hk)
 . rename_i j want hg
   split at hk
   . exact hk.elim
   . rename_i s hs
     obtain ⟨st',b,hk,cn,hb,_⟩:=aAT a6 hk
     have hy:yielded ops a.tmps j=b:=by
      have hd:(ops[j]?).bind (·.dst)=some s:=by
       unfold nG at hs;rw [Array.getElem?_toList] at hs;split at hs
       . rename_i hj;rw [hj];exact hs
       . simp at hs
      simp only [yielded,hd,Option.bind_some];rw [<-hb];split<;>simp_all
     split at hk
     . rename_i he
       have:Region.wanted o (yielded ops a.tmps)=true:=j0l
       rw [if_pos this];exact .inl (go st' cn hk)
     . rename_i he
       have: ¬Region.wanted o (yielded ops a.tmps)=true:=u9
       rw [if_neg this];obtain ⟨st2,h1,h2⟩:=qT (v:=undef) hk cn rfl
       exact hn _ _ _ _ _ h1 h2 (aI.refl _ _ _ _)
theorem aN3 (Γ:dQ) (bs:Bool): ∀(l:List Oper),uE Γ bs l<=l.length
 | []=>by simp [uE]
 |o::l=>by
  simp only [uE];split
  . have:=aN3 Γ bs l;simp;omega
  . simp
theorem aOY (ab:bE P τ) (hz: ∀t i,τ t=some i->cP i.zero) {calls:Nat->List Va->St->(Tm->St->Prop)->Prop} (ai:iY P base calls)
 {ops:Array Oper} {Q:Exit->Act->World->Prop} {m:Nat} (nh: ∀i j x o,ops[i]? =some o->ops[j]? =some x->j<i->m<=i->Cl ops i j) (hback: ∀i o,ops[i]? =some o-> ∀e∈o.after.toList,Region.binds .any e=true->e.on<i)
 {K:St->Prop}: ∀(fuel k:Nat) (ah:Array Bool) (ψ:aJ) (S:Nat->Prop) (w:World) (st:St) (a:Act),m<=k->k+fuel=ops.size->ah.size=ops.size->(∀j,ah.getD j false=decide (j<k))->
 aC P base ψ S w st a->nH P τ calls ops.toList (ops.toList.drop k) st K->(∀st' aa S' w' a',K st'->aC P base aa S' w' st' a'->aI base ψ S w aa S' w'->Q .normal a' w')->
 wpAny P .any ops Q fuel ah a w:=by
 intro fuel
 induction fuel with
 |zero=>
  intro k ah ψ S w st a Fx Fy hsz hl a6 hk hq;have hkn:k=ops.size:=j3
  have hr:Region.ready .any ops ah= []:=by
   cases hr:Region.ready .any ops ah with
   |nil=>rfl
   |cons j _=>
    have hj:j∈Region.ready .any ops ah:=by rw [hr];simp
    obtain ⟨h1,o,ho,_⟩:=mem_ready.1 hj
    have AP:j<ops.size:=(Array.getElem?_eq_some_iff.1 ho).1
    have:=hl j
    have h2:ah.getD j false=ah.getD j true:=by simp [Array.getD,hsz,AP]
    rw [h2,h1] at this;simp at this;omega
  refine ⟨hr, ?_⟩
  rw [hkn,List.drop_eq_nil_of_le j8] at hk;exact hq st ψ S w a hk a6 (aI.refl _ _ _ _)
 |succ fuel ih=>
  intro k ah ψ S w st a Fx Fy hsz hl a6 hk hq;have hkn:k<ops.size:=j3
  have getD: ∀j,j<ops.size->ah.getD j true=decide (j<k):=by
   intro j hj;rw [<-hl j];simp [Array.getD,hsz,hj]
  have tz:ops[k]? =some ops[k]:=by simp [hkn]
  have only: ∀j,j∈Region.ready .any ops ah->j=k:=by
   intro j hj;obtain ⟨h1,o,ho,hd⟩:=mem_ready.1 hj
   have AP:j<ops.size:=(Array.getElem?_eq_some_iff.1 ho).1
   rw [getD j AP] at h1;simp at h1
   rcases Nat.lt_or_eq_of_le h1 with h2|h2
   . have fk:=nh j k ops[k] o ho tz h2 j3
     have jb:aM9 ops (fun j=>ah.getD j false):=by
      intro i oi Fz hi e he hb;have h3:=hback i oi Fz e he hb
      simp only [hl,decide_eq_true_eq] at hi⊢
      omega
     have:=fk.down jb (by intro o' po e he hb;rw [ho] at po;cases po;exact hd e j2n hb)
     simp only [hl,decide_eq_true_eq] at this;omega
   . exact h2.symm
  have ll:k∈Region.ready .any ops ah:=by
   refine mem_ready.2 ⟨by rw [getD k hkn];simp,ops[k],tz,fun e he hb=> ?_⟩
   rw [hl];simpa using hback k _ tz e j2n hb
  refine ⟨fun h=>by rw [h] at ll;simp at ll, ?_⟩
  intro i hi;have:=only i hi
  subst this;have Ch:ops.toList.drop i=ops[i]::ops.toList.drop (i+1):=by
   rw [List.drop_eq_getElem_cons (by simpa using hkn)];simp
  rw [Ch] at hk;refine aVy ab hz ai tz a6 hk ?_
  intro st' aa S' w' a' h1 h2 h3
  refine ih (i+1) _ aa S' w' st' a' j3 j3 (by simp [hsz]) ?_ h2 h1 fun st2 az S2 w2 a2 q1 q2 q3=>hq _ _ _ _ _ q1 q2 (h3.trans q3)
  intro j;by_cases cy:i=j
  . subst cy;simp [Array.getD,hsz,hkn]
  . rw [getD_set_ne _ cy,hl];simp only [decide_eq_decide];omega
end
def kL (D:Nat->Bool):Nat->Nat
 |0=>0
 |m+1=>kL D m+(match D m with|true=>1|false=>0)
theorem aDu {D:Nat->Bool}: ∀(m:Nat),kL D m<=m
 |0=>Nat.le_refl _
 |m+1=>by have:=aDu (D:=D) m;simp only [kL];split<;>omega
theorem aEY {D:Nat->Bool}: ∀(m:Nat),kL D m=m-> ∀j,j<m->D j=true
 |0,_,j,hj=>by omega
 |m+1,h,j,hj=>by
  have hle:=aDu (D:=D) m
  simp only [kL] at h;cases hm:D m with
  |true=>
   rw [hm] at h;rcases Nat.lt_succ_iff_lt_or_eq.1 hj with h1|rfl
   . exact aEY m (by simp at h;omega) j h1
   . exact hm
  |false=>rw [hm] at h;simp at h;omega
theorem aRa {D:Nat->Bool}: ∀(m:Nat),kL D m<m-> ∃j,j<m/\ D j=false/\ ∀j',j'<j->D j'=true
 |0,h=>by omega
 |m+1,h=>by
  have hle:=aDu (D:=D) m
  rcases Nat.lt_or_eq_of_le hle with h1|h1
  . obtain ⟨j,g1,g2⟩:=aRa m h1;exact ⟨j,by omega,g2⟩
  . refine ⟨m,by omega, ?_,aEY m h1⟩
    simp only [kL] at h;cases hm:D m with
    |true=>rw [hm] at h;simp at h;omega
    |false=>rfl
theorem aOZ {D D':Nat->Bool}: ∀(m:Nat),(∀j,j<m->D j=D' j)->kL D m=kL D' m
 |0,_=>rfl
 |m+1,h=>by simp only [kL,h m j3,aOZ m fun j hj=>h j j3]
theorem aPP {D D':Nat->Bool} {i:Nat} (hD:D i=false) (ko: ∀j,D' j=(D j||j==i)): ∀(m:Nat),i<m->kL D' m=kL D m+1
 |0,h=>by omega
 |m+1,h=>by
  simp only [kL];rcases Nat.lt_succ_iff_lt_or_eq.1 h with h1|rfl
  . have:D' m=D m:=by
     rw [ko m];have:(m==i)=false:=j2d
     simp [this]
    rw [this,aPP hD ko m h1];omega
  . have:kL D' i=kL D i:=aOZ i fun j hj=>by
     rw [ko j];have:(j==i)=false:=j2d
     simp [this]
    rw [this,hD,ko i];simp
theorem aI.weaken {base zr:Nat} {ψ aa:aJ} {S S':Nat->Prop} {w w':World} (hb:base<=zr) (h:aI zr ψ S w aa S' w'):aI base ψ S w aa S' w':=
 ⟨h.os,h.tape,h.output,h.grow,h.old,h.later,h.newS,h.newP,fun k hk=>h.agr k j3⟩
section
variable {P:Program} {τ:bF} {Γ:dQ} {base:Nat} {ψ aa:aJ} {S S':Nat→Prop} {w w':World} {a:Act}
theorem aPQ {n0:Nat} {ops:List Oper} {f:Nat->St} {y:Nat->Tm} {B:Nat->Option (List aL)} {m:Nat}
 (hw: ∀j o,j<m->ops[j]? =some o->aAa P τ Γ n0 ops j o (y j) (B j) (f j) (f (j+1))) (DP:m<=ops.length) (hid:lW (f 0).heap n0=true):
 ∀i,i<=m->(∀k,n0+i<=k->aF (f i).heap k= .gone)/\ (∀k,k<n0->aF (f i).heap k=aF (f 0).heap k)/\ (∀i',i'<=i->mR (f i').heap (f i).heap)/\
  (∀j cs,j<i->B j=some cs->aF (f i).heap (n0+j)= .cells cs)/\ (f i).next=(f 0).next/\ (f i).lim=(f 0).lim:=by
 intro i
 induction i with
 |zero=>
  intro _
  exact ⟨fun k hk=>aHW hid hk,fun _ _=>rfl,fun i' uz=>by
   have:i'=0:=j3
   subst this;exact fun _ _ h _=>h,fun j cs hj=>by omega,rfl,rfl⟩
 |succ i ih=>
  intro hi;obtain ⟨h1,h2,h3,h4,h5,h6⟩:=ih j3
  have ho:ops[i]? =some (ops[i]'j3):=j8
  obtain ⟨_,e,_⟩:=hw i _ j3 ho
  have look: ∀k,aF (f (i+1)).heap k=match B i with|some cs=>if n0+i=k then .cells cs else aF (f i).heap k|none=>aF (f i).heap k:=by
   intro k;rw [e];cases B i with
   |none=>rfl
   |some cs=>show aF ((n0+i,aB.cells cs)::(f i).heap) k=_;rw [cY]
  have hn:(f (i+1)).next=(f i).next:=by rw [e]
  have hl:(f (i+1)).lim=(f i).lim:=by rw [e]
  have ne: ∀k,k≠n0+i->aF (f (i+1)).heap k=aF (f i).heap k:=by
   intro k hk;rw [look];cases B i with
   |none=>rfl
   |some cs=>simp only;rw [if_neg j3]
  have sup:mR (f i).heap (f (i+1)).heap:=by
   intro k b hb hg;by_cases hk:k=n0+i
   . rw [h1 k j3] at hb;exact (hg hb.symm).elim
   . rw [ne k hk];exact hb
  refine ⟨?_,?_,?_,?_,by rw [hn,h5],by rw [hl,h6]⟩
  . intro k hk;rw [ne k j3];exact h1 k j3
  . intro k hk;rw [ne k j3];exact h2 k hk
  . intro i' uz
    rcases Nat.lt_or_eq_of_le uz with h|rfl
    . intro k b hb hg;have:=h3 i' j3 k b hb hg
      exact sup k b this hg
    . exact fun _ _ h _=>h
  . intro j cs hj hB;rcases Nat.lt_succ_iff_lt_or_eq.1 hj with h|rfl
    . rw [ne _ j3];exact h4 j cs h hB
    . rw [look,hB];simp
theorem aYc {n0:Nat} {ops:List Oper} {f:Nat->St} {y:Nat->Tm} {B:Nat->Option (List aL)} {m:Nat} {dst:Nat->Option Tmp} (ni: ∀j o,ops[j]? =some o->dst j=o.dst)
 (hw: ∀j o,j<m->ops[j]? =some o->aAa P τ Γ n0 ops j o (y j) (B j) (f j) (f (j+1))) (DP:m<=ops.length):
 ∀i,i<=m->(f i).tmps=hQ y dst (f 0).tmps (fun _=>true) i:=by
 intro i
 induction i with
 |zero=>intro _;rfl
 |succ i ih=>
  intro hi;have ho:ops[i]? =some (ops[i]'j3):=j8
  obtain ⟨_,e,_⟩:=hw i _ j3 ho
  rw [e];simp only [hQ,ni i _ ho,ih j3]
theorem aWB (ab:bE P τ) (hz: ∀t i,τ t=some i->cP i.zero) (ck:lH P Γ) {calls:Nat->List Va->St->(Tm->St->Prop)->Prop} (ai:iY P base calls)
 {ops:Array Oper} {Q:Exit->Act->World->Prop} {n0 m:Nat} {f:Nat->St} {y:Nat->Tm} {B:Nat->Option (List aL)} {dst:Nat->Option Tmp}
 (hm:m<=ops.size) (mz:zN ops.toList m=true) (ni: ∀j o,ops[j]? =some o->dst j=o.dst)
 (hw: ∀j o,j<m->ops.toList[j]? =some o->aAa P τ Γ n0 ops.toList j o (y j) (B j) (f j) (f (j+1))) (hid:lW (f 0).heap n0=true) (hb:base<=n0) {K:St->Prop}
 (hk:nH P τ calls ops.toList (ops.toList.drop m) ⟨(f m).tmps,(f m).heap,n0+m,(f m).lim⟩ K):
 ∀(fuel:Nat) (ah:Array Bool) (ψ:aJ) (S:Nat->Prop) (w:World) (a:Act),ah.size=ops.size->kL (fun j=>ah.getD j false) m+fuel=ops.size->
 (∀j,ah.getD j false=true->j<m)->aM9 ops (fun j=>ah.getD j false)->(∀j,j<m->ah.getD j false=false->ψ (n0+j)=none)->
 aC P base ψ S w ⟨hQ y dst (f 0).tmps (fun j=>ah.getD j false) m,(f m).heap,n0+m,(f m).lim⟩ a->
 (∀st' aa S' w' a',K st'->aC P base aa S' w' st' a'->aI base ψ S w aa S' w'->Q .normal a' w')->wpAny P .any ops Q fuel ah a w:=by
 obtain ⟨hback,nh⟩:=aU0 mz
 have gy:=aPQ hw j0s hid
 have wa:=aYc (dst:=dst) (fun j o ho=>ni j o j2m) hw j0s
 intro fuel
 induction fuel with
 |zero=>
  intro ah ψ S w a hsz DQ xc jb sd a6 hq;have hle:=aDu (D:=fun j=>ah.getD j false) m
  have pr:=aEY (D:=fun j=>ah.getD j false) m j3
  refine aOY ab hz ai (m:=m) (fun i j x o ho hx hj FA=>by
   rcases nh i j x o ho hx hj with h|h
   . exact h
   . omega) hback 0 m ah ψ S w _ a (Nat.le_refl _) j3 hsz ?_ ?_ hk hq
  . intro j;by_cases hj:j<m
    . simp only [hj,decide_true];exact pr j hj
    . simp only [hj,decide_false];cases h:ah.getD j false with
      |false=>rfl
      |true=>exact absurd (xc j h) hj
  . refine ⟨a6.bas,a6.sim,a6.lim,a6.defers,fun t=> ?_⟩
    have:=a6.tmps t
    rw [wa m (Nat.le_refl _)]
    rwa [aC3 (D':=fun _=>true) m fun j hj _=>pr j hj] at this
 |succ fuel ih=>
  intro ah ψ S w a hsz DQ xc jb sd a6 hq;have hle:=aDu (D:=fun j=>ah.getD j false) m
  rcases Nat.lt_or_eq_of_le hle with hlt|heq
  . obtain ⟨j0,DR,Ci,jv⟩:=aRa (D:=fun j=>ah.getD j false) m hlt
    have getD: ∀j,j<ops.size->ah.getD j true=ah.getD j false:=by
     intro j hj;simp [Array.getD,hsz,hj]
    have Cj:ops[j0]? =some (ops[j0]'j3):=j2d
    have ll:j0∈Region.ready .any ops ah:=by
     refine mem_ready.2 ⟨by rw [getD j0 j3];exact Ci,_,Cj,fun e he qy=> ?_⟩
     exact jv e.on (hback j0 _ Cj e j2n qy)
    refine ⟨fun h=>by rw [h] at ll;simp at ll, ?_⟩
    intro i hi;obtain ⟨ed,o,ho,ir⟩:=mem_ready.1 hi
    have ee:i<ops.size:=(Array.getElem?_eq_some_iff.1 ho).1
    rw [getD i ee] at ed;have fk: ∀j,Cl ops i j->ah.getD j false=true:=fun j h=>h.down jb fun o' po e he qy=>by
     rw [ho] at po;cases po;exact ir e j2n qy
    have xv:i<m:=by
     rcases Nat.lt_or_ge i m with h|h
     . exact h
     . rcases nh i j0 _ o ho Cj j3 with h1|h1
       . have:=fk _ h1;simp only [this] at Ci;cases Ci
       . exact h1.1
    have qm:ops.toList[i]? =some o:=j2m
    -- the slots that it reads are as in the text's order
    have reads: ∀t,t∈wT ops.toList o->aV (hQ y dst (f 0).tmps (fun j=>ah.getD j false) m) t=aV (f i).tmps t:=by
     intro t ht;rw [wa i j3,aJh (i:=i) m j3,aC3 (D':=fun _=>true) i]
     . intro j hj hd;have nj:ops[j]? =some (ops[j]'j3):=by simp<;>omega
       rcases nh i j _ o ho nj hj with h1|h1
       . exact fk j h1
       . rw [ni j _ nj] at hd;exact absurd ht ((aIn h1.2).1 t hd).1
     . intro j h1 h2 hd;rcases Nat.lt_or_eq_of_le h1 with h3|rfl
       . have nj:ops[j]? =some (ops[j]'j3):=by simp<;>omega
         rcases nh j i o _ nj ho h3 with h4|h4
         . cases hD:ah.getD j false with
           |false=>rfl
           |true=>
            have:ah.getD i false=true:=h4.down jb fun o' po e he qy=>jb j o' po hD e he qy
            rw [this] at ed;cases ed
         . rw [ni j _ nj] at hd;exact absurd ht ((aIn h4.2).2 t hd)
       . exact ed
    have ko: ∀j,(ah.setIfInBounds i true).getD j false=(ah.getD j false||j==i):=by
     intro j;by_cases cy:i=j
     . subst cy;simp [Array.getD,hsz,ee]
     . rw [getD_set_ne _ cy];have:(j==i)=false:=by simp<;>omega
       simp [this]
    have DS: ∀t,aV (hQ y dst (f 0).tmps (fun j=>(ah.setIfInBounds i true).getD j false) m) t=if dst i=some t then y i else aV (hQ y dst (f 0).tmps (fun j=>ah.getD j false) m) t:=by
     intro t;refine aYb xv ed ko fun j h1 h2 hd o4=> ?_
     have nj:ops[j]? =some (ops[j]'j3):=j2d
     rcases nh j i o _ nj ho h1 with h4|h4
     . cases hD:ah.getD j false with
       |false=>rfl
       |true=>
        have:ah.getD i false=true:=h4.down jb fun o' po e he qy=>jb j o' po hD e he qy
        rw [this] at ed;cases ed
     . rw [ni j _ nj] at hd;rw [ni i _ ho] at o4
       exact absurd hd ((aIn h4.2).1 t o4).2
    obtain ⟨ug,ij,fp⟩:=hw i o xv qm
    have wb:xG o.dst (f m).lim=true:=by
     rw [(gy m (Nat.le_refl _)).2.2.2.2.2, <-(gy i j3).2.2.2.2.2];exact ug
    -- on with the next ones
    have next: ∀x,aEf x (y i)-> ∀aa S' w' a',aC P base aa S' w' ⟨kY o.dst x (hQ y dst (f 0).tmps (fun j=>ah.getD j false) m),(f m).heap,n0+m,(f m).lim⟩ a'->aI base ψ S w aa S' w'->
     (∀k,n0<=k->k<n0+m->k≠n0+i->aa k=ψ k)->wpAny P .any ops Q fuel (ah.setIfInBounds i true) a' w':=by
     intro x hkn aa S' w' a' hr he hp
     refine ih _ aa S' w' a' (by simp [hsz]) ?_ ?_ ?_ ?_ ?_ fun st2 az S2 w2 a2 q1 q2 q3=>hq _ _ _ _ _ q1 q2 (he.trans q3)
     . have:=aPP (D:=fun j=>ah.getD j false) (D':=fun j=>(ah.setIfInBounds i true).getD j false) (i:=i) ed ko m xv
       omega
     . intro j hj;have hj:=(ko j).symm.trans hj
       simp only [Bool.or_eq_true,beq_iff_eq] at hj;rcases hj with hj|rfl
       . exact xc j hj
       . exact xv
     . intro j oj Ck hj e he' qy
       have hj:=(ko j).symm.trans hj
       refine (ko e.on).trans ?_
       simp only [Bool.or_eq_true,beq_iff_eq] at hj⊢
       rcases hj with hj|rfl
       . exact .inl (jb j oj Ck hj e he' qy)
       . rw [ho] at Ck;cases Ck
         exact .inl (ir e (by simpa using he') qy)
     . intro j hj AY;have AY:=(ko j).symm.trans AY
       simp only [Bool.or_eq_false_iff,beq_eq_false_iff_ne] at AY;rw [hp (n0+j) j3 j3 j3];exact sd j hj AY.1
     . refine ⟨hr.bas,hr.sim,hr.lim,hr.defers,fun t=> ?_⟩
       have:=hr.tmps t
       rw [DS];rw [aCQ] at this;rw [<-ni i o ho] at this;by_cases hd:dst i=some t
       . rw [if_pos hd] at this⊢;exact hkn.rep this
       . rw [if_neg hd] at this⊢;exact this
    have guard: ∀b,uT ops.toList (f i) o (fun w=>w=b)->Region.wanted o (yielded ops a.tmps)=b:=by
     intro b hb;refine aVx (P:=P) (ψ:=ψ) (S:=S) (w:=w) hb fun j want s hg hs=> ?_
     rw [<-reads s (by simp only [wT,hg,hs];simp)];exact a6.tmps s
    unfold wpOp;rw [ho];simp only
    rcases fp with ⟨h1,h2,h3⟩|⟨x,h1,h2,h3⟩
    . rw [if_neg (by rw [guard _ h1];simp)];obtain ⟨st2,g1,g2⟩:=qT (v:=undef) (yT (x:=kU) wb) a6 rfl
      subst g1;exact next kU (.inl h2) ψ S w _ g2 (aI.refl _ _ _ _) fun _ _ _ _=>rfl
    . rw [if_pos (guard _ h1)]
      left
      have iw: ∀z∈o.op.operands.toList,ev (f i) z=ev ⟨hQ y dst (f 0).tmps (fun j=>ah.getD j false) m,(f m).heap,n0+m,(f m).lim⟩ z:=by
       intro z hz;cases z with
       |tmp t=>exact (reads t (aUA hz)).symm
       |_=>rfl
      have ae:=aWz (st':=⟨hQ y dst (f 0).tmps (fun j=>ah.getD j false) m,(f m).heap,n0+m,(f m).lim⟩) iw ((gy m (Nat.le_refl _)).2.2.1 i j3) h2
      have fl:aC P (n0+m) ψ S w ⟨hQ y dst (f 0).tmps (fun j=>ah.getD j false) m,(f m).heap,n0+m,(f m).lim⟩ a:=⟨Nat.le_refl _,a6.sim,a6.lim,a6.defers,a6.tmps⟩
      cases hB:B i with
      |none=>
       rw [hB] at ae;refine bBL ab hz ck fl wb ae _ _ ?_
       rintro st' aa S' w' a' rfl g1 g2
       exact next x h3 aa S' w' a' ⟨by have:=hb;show base<=n0+m;omega,g1.sim,g1.lim,g1.defers,g1.tmps⟩ (g2.weaken j3) fun k _ hk _=>g2.agr k hk
      |some cs=>
       rw [hB] at ae;refine aZ5 (base:=base) ab hz a6 (sd i xv ed) j3 j3 ((gy m (Nat.le_refl _)).2.2.2.1 i cs xv hB) wb ae _ _ ?_
       intro aa S' w' a' g1 g2 g3
       exact next x h3 aa S' w' a' g1 g2 fun k _ _ hk=>g3 k hk
  . have pr:=aEY (D:=fun j=>ah.getD j false) m heq
    refine aOY ab hz ai (m:=m) (fun i j x o ho hx hj FA=>by
     rcases nh i j x o ho hx hj with h|h
     . exact h
     . omega) hback (fuel+1) m ah ψ S w _ a (Nat.le_refl _) j3 hsz ?_ ?_ hk hq
    . intro j;by_cases hj:j<m
      . simp only [hj,decide_true];exact pr j hj
      . simp only [hj,decide_false];cases h:ah.getD j false with
        |false=>rfl
        |true=>exact absurd (xc j h) hj
    . refine ⟨a6.bas,a6.sim,a6.lim,a6.defers,fun t=> ?_⟩
      have:=a6.tmps t
      rw [wa m (Nat.le_refl _)]
      rwa [aC3 (D':=fun _=>true) m fun j hj _=>pr j hj] at this
theorem aU1 (ab:bE P τ) (hz: ∀t i,τ t=some i->cP i.zero) (ck:lH P Γ) {calls:Nat->List Va->St->(Tm->St->Prop)->Prop} (ai:iY P base calls)
 {ops:Array Oper} {Q:Exit->Act->World->Prop} {st:St} {K:St->Prop} (a6:aC P base ψ S w st a) (hid:lW st.heap st.next=true) {mm:Nat} (hm:mm<=ops.size) (mz:zN ops.toList mm=true) (hk:aDb P τ Γ calls mm ops.toList st K)
 (hq: ∀st' aa S' w' a',K st'->aC P base aa S' w' st' a'->aI base ψ S w aa S' w'->Q .normal a' w'):wpAny P .any ops Q ops.size (Array.replicate ops.size false) a {w with drawn:=w.drawn+1}:=by
 unfold aDb at hk;obtain ⟨f,y,B,h1,h2,h3⟩:=aQ9 _ _ _ _ hk
 have hlen:(ops.toList.take (mm)).length=mm:=j2d
 rw [hlen] at h2;have hw: ∀j o,j<mm->ops.toList[j]? =some o->aAa P τ Γ st.next ops.toList j o (y j) (B j) (f j) (f (j+1)):=by
  intro j o hj ho;have:=h3 j o (by rw [List.getElem?_take];simp [hj];simpa using ho)
  simpa using this
 have gy:=aPQ hw j0s (by rw [h1];exact hid) _ (Nat.le_refl _)
 obtain ⟨g1,g2,g3,g4,g5,g6⟩:=gy
 obtain ⟨b9,kj⟩:aC P base ψ S {w with drawn:=w.drawn+1} st a/\ aI base ψ S w ψ S {w with drawn:=w.drawn+1}:=
  a6.ext0 ⟨rfl,rfl,rfl,Nat.le_refl _,fun _ _=>rfl,fun _ h=>h,fun _ h=> .inl h,a6.sim.sdom⟩
 refine aWB ab hz ck ai hm mz (dst:=fun j=>(ops[j]?).bind (·.dst)) (fun j o ho=>by simp [ho]) hw (by rw [h1];exact hid) a6.bas (K:=K) ?_ ops.size _ ψ S _ a j8 ?_ ?_ ?_ ?_ ?_ ?_
 . have e:(f (mm)).next=st.next:=by rw [g5,h1]
   rw [<-e];exact h2
 . have: ∀m,kL (fun j=>(Array.replicate ops.size false).getD j false) m=0:=by
    intro m
    induction m with
    |zero=>rfl
    |succ m ih=>
     simp only [kL,ih];have:(Array.replicate ops.size false)[m]?.getD false=false:=by by_cases h:m<ops.size<;>simp [h]
     simp [this]
   rw [this];simp
 . intro j hj;simp [Array.getD] at hj
 . intro i o _ hi;simp [Array.getD] at hi
 . intro j _ _;exact a6.sim.dom _ j3
 . have hts:hQ y (fun j=>(ops[j]?).bind (·.dst)) (f 0).tmps (fun j=>(Array.replicate ops.size false).getD j false) (mm)=st.tmps:=by
    rw [h1]
    clear hk h2 h3 hw g1 g2 g3 g4 g5 g6
    clear hm mz hlen
    generalize mm=m
    induction m with
    |zero=>rfl
    |succ m ih=>
     simp only [hQ];have:(Array.replicate ops.size false).getD m false=false:=by simp [Array.getD]
     rw [this];exact ih
   rw [hts,g6,h1];have c5: ∀k l,ψ k=some l->aF (f (mm)).heap k=aF st.heap k:=by
    intro k l hk;have:k<st.next:=by
     rcases Nat.lt_or_ge k st.next with h|h
     . exact h
     . rw [a6.sim.dom k h] at hk;cases hk
    rw [g2 k this,h1]
   have hs:=b9.sim
   refine ⟨by have:=a6.bas;show base<=st.next+_;omega,⟨fun k hk=>hs.dom k (by have hk:st.next+mm<=k:=hk;omega),fun k l hk=>by rw [c5 k l hk];exact hs.blk k l hk,fun k k' b m1 m2 e1 e2 l1 l2=> ?_,fun k b m1 e1 l1=> ?_,hs.pdom,hs.sdom⟩,b9.lim,b9.defers,b9.tmps⟩
   . rw [c5 _ _ e1] at l1;rw [c5 _ _ e2] at l2;exact hs.inj k k' b m1 m2 e1 e2 l1 l2
   . rw [c5 _ _ e1] at l1;exact hs.dis k b m1 e1 l1
 . intro st' aa S' w' a' q1 q2 q3
   exact hq _ _ _ _ _ q1 q2 (kj.trans q3)
theorem aN4 (ab:bE P τ) (hz: ∀t i,τ t=some i->cP i.zero) (ck:lH P Γ) {calls:Nat->List Va->St->(Tm->St->Prop)->Prop} (ai:iY P base calls) (b7:P.follows .mixedOrders=true)
 {ops:Array Oper} {id:Nat} {Q:Exit->Act->World->Prop} {st:St} {K:St->Prop} (a6:aC P base ψ S w st a) (hid:lW st.heap st.next=true) {mm:Nat} (hm:mm<=ops.size) (mz:zN ops.toList mm=true) (hk:aDb P τ Γ calls mm ops.toList st K)
 (hq: ∀st' aa S' w' a',K st'->aC P base aa S' w' st' a'->aI base ψ S w aa S' w'->Q .normal a' w'):(Code.region id ops true).wp P Q a w:=
 wp_region_any b7 (aU1 ab hz ck ai a6 hid hm mz hk hq)
theorem aZ6 (ab:bE P τ) (hz: ∀t i,τ t=some i->cP i.zero) (ck:lH P Γ) {calls:Nat->List Va->St->(Tm->St->Prop)->Prop} (ai:iY P base calls) (b7:P.follows .mixedOrders=true)
 {ops:Array Oper} {id:Nat} {Q:Exit->Act->World->Prop} {st:St} {K:St->Prop} (a6:aC P base ψ S w st a) (hid:lW st.heap st.next=true) {other:Prop} (ho:other->(Code.region id ops true).wp P Q a w) (hk:aGj P τ Γ calls ops.toList st K other)
 (hq: ∀st' aa S' w' a',K st'->aC P base aa S' w' st' a'->aI base ψ S w aa S' w'->Q .normal a' w'):(Code.region id ops true).wp P Q a w:=by
 have hm: ∀bs,uE Γ bs ops.toList<=ops.size:=fun bs=>by have:=aN3 Γ bs ops.toList;simpa using this
 unfold aGj at hk;split at hk
 . rename_i hd;exact aN4 ab hz ck ai b7 a6 hid (hm _) hd hk hq
 . split at hk
   . rename_i hd;exact aN4 ab hz ck ai b7 a6 hid (hm _) hd hk hq
   . exact ho hk
end
section
variable {P:Program} {τ:bF} {Γ:dQ} {base:Nat} {ψ aa:aJ} {S S':Nat→Prop} {w w':World} {st st1:St} {a:Act} {o:Oper} {K:St→Prop}
structure aO (P:Program) (base:Nat) (c:Code) (st:St) (Q:Exit->St->Prop):Prop where
 run: ∀ψ S w a,aC P base ψ S w st a->c.wp P (fun e a' w'=> ∃st' aa S',Q e st'/\ aC P base aa S' w' st' a'/\ aI base ψ S w aa S' w') a w
def aLV (c:Operand) (A B:St->(Exit->St->Prop)->Prop) (st:St) (Q:Exit->St->Prop):Prop:=match c with
 | .tmp s=>sU st s fun st t=>match t with
   |some true=>A st Q
   |some false=>B st Q
   |none=>False
 | .const (.bool true)=>A st Q
 | .const (.bool false)=>B st Q
 |_=>False
def vc (P:Program) (τ:bF) (Γ:dQ) (calls:Nat->List Va->St->(Tm->St->Prop)->Prop) (base:Nat) (c:Code):St->(Exit->St->Prop)->Prop:=
 Code.rec (motive:=fun _=>St->(Exit->St->Prop)->Prop)
  (skip:=fun st Q=>Q .normal st)
  (region:=fun id ops draw st Q=>match draw with
   |true=>match lW st.heap st.next with
    |true=>aGj P τ Γ calls ops.toList st (Q .normal) (aO P base (.region id ops true) st Q)
    |false=>aO P base (.region id ops true) st Q
   |false=>nH P τ calls ops.toList ops.toList st (Q .normal))
  (seq:=fun _ _ ha hb st Q=>ha st fun e st=>match e with
   | .normal=>hb st Q
   | .exit id=>Q (.exit id) st
   | .goto l=>Q (.goto l) st
   | .ret=>Q .ret st
   |_=>False)
  (cond:=fun c _ _ ha hb st Q=>aLV c ha hb st Q)
  (block:=fun id _ hc st Q=>hc st fun e st=>match e with
   | .exit id'=>match Nat.beq id' id with
     |true=>Q .normal st
     |false=>Q (.exit id') st
   | .normal=>Q .normal st
   | .goto l=>Q (.goto l) st
   | .ret=>Q .ret st
   |_=>False)
  (exit:=fun id st Q=>Q (.exit id) st)
  (goto:=fun l st Q=>Q (.goto l) st)
  (label:=fun _ st Q=>Q .normal st)
  (ret:=fun st Q=>Q .ret st)
  (loop:=fun c _ st Q=>aO P base (.loop c) st Q)
  (scope:=fun c _ st Q=>aO P base (.scope c) st Q)
  (rangeFunc:=fun f ps x y _ _ st Q=>aO P base (.rangeFunc f ps x y) st Q)
  (refuse:=fun _ _ _=>False) c
theorem kT (ab:bE P τ) (hz: ∀t i,τ t=some i->cP i.zero) (ck:lH P Γ) (b7:P.follows .mixedOrders=true) {calls:Nat->List Va->St->(Tm->St->Prop)->Prop} (ai:iY P base calls):
 ∀(c:Code) (st:St) (Q:Exit->St->Prop),vc P τ Γ calls base c st Q->aO P base c st Q
 | .skip,st,Q,h=> .mk fun ψ S w a hr=>wp_skip ⟨st,ψ,S,h,hr,aI.refl _ _ _ _⟩
 | .region id ops draw,st,Q,h=> .mk fun ψ S w a hr=>by
   cases draw with
   |true=>
    have h:(match lW st.heap st.next with|true=>aGj P τ Γ calls ops.toList st (Q .normal) (aO P base (.region id ops true) st Q)|false=>aO P base (.region id ops true) st Q):=h
    split at h
    . rename_i hid
      exact aZ6 ab hz ck ai b7 hr hid (fun h=>h.run ψ S w a hr) h fun st' aa S' w' a' h1 h2 h3=>⟨st',aa,S',h1,h2,h3⟩
    . exact h.run ψ S w a hr
   |false=>
    have h:nH P τ calls ops.toList ops.toList st (Q .normal):=h
    refine wp_region ?_
    have:=aJe ab hz ai (ops:=ops) (Q:=fun e a' w'=> ∃st' aa S',Q e st'/\ aC P base aa S' w' st' a'/\ aI base ψ S w aa S' w') ops.toList 0 ψ S w st a (Q .normal) (fun i o ho=>by simpa using ho) hr h
     (fun st' aa S' w' a' h1 h2 h3=>⟨st',aa,S',h1,h2,h3⟩)
    rw [List.range_eq_range']
    simpa using this
 | .seq x y,st,Q,h=> .mk fun ψ S w a hr=>by
   have h:vc P τ Γ calls base x st (fun e st=>match e with
    | .normal=>vc P τ Γ calls base y st Q
    | .exit id=>Q (.exit id) st
    | .goto l=>Q (.goto l) st
    | .ret=>Q .ret st
    |_=>False):=h
   refine wp_seq (wp_mono ((kT ab hz ck b7 ai x _ _ h).run ψ S w a hr) ?_)
   rintro e a' w' ⟨st',aa,S',hq,cg,he⟩
   cases e with
   |normal=>
    refine wp_mono ((kT ab hz ck b7 ai y _ _ hq).run aa S' w' a' cg) ?_
    rintro e a2 w2 ⟨st2,az,S2,ji,c9,bp⟩
    exact ⟨st2,az,S2,ji,c9,he.trans bp⟩
   |exit id=>exact ⟨st',aa,S',hq,cg,he⟩
   |goto l=>exact ⟨st',aa,S',hq,cg,he⟩
   |ret=>exact ⟨st',aa,S',hq,cg,he⟩
   |panic ch=>exact hq.elim
   |outgrown=>exact hq.elim
 | .cond c x y,st,Q,h=> .mk fun ψ S w a hr=>by
   have h:aLV c (vc P τ Γ calls base x) (vc P τ Γ calls base y) st Q:=h
   unfold aLV at h;split at h
   . rename_i s
     obtain ⟨st',b,hk,cn,_,hb⟩:=aAT hr h
     split at hk
     . exact wp_cond_true (hb true rfl) ((kT ab hz ck b7 ai x _ _ hk).run ψ S w a cn)
     . exact wp_cond_false (hb false rfl) ((kT ab hz ck b7 ai y _ _ hk).run ψ S w a cn)
     . exact hk.elim
   . exact wp_cond_true rfl ((kT ab hz ck b7 ai x _ _ h).run ψ S w a hr)
   . exact wp_cond_false rfl ((kT ab hz ck b7 ai y _ _ h).run ψ S w a hr)
   . exact h.elim
 | .block id c,st,Q,h=> .mk fun ψ S w a hr=>by
   have h:vc P τ Γ calls base c st (fun e st=>match e with
    | .exit id'=>match Nat.beq id' id with
      |true=>Q .normal st
      |false=>Q (.exit id') st
    | .normal=>Q .normal st
    | .goto l=>Q (.goto l) st
    | .ret=>Q .ret st
    |_=>False):=h
   refine wp_block (wp_mono ((kT ab hz ck b7 ai c _ _ h).run ψ S w a hr) ?_)
   rintro e a' w' ⟨st',aa,S',hq,cg,he⟩
   cases e with
   |normal=>exact ⟨st',aa,S',hq,cg,he⟩
   |exit id'=>
    simp only at hq
    simp only [Exit.inBlock];cases hb:Nat.beq id' id with
    |true=>
     rw [hb] at hq;rw [if_pos (Nat.eq_of_beq_eq_true hb)];exact ⟨st',aa,S',hq,cg,he⟩
    |false=>
     rw [hb] at hq;rw [if_neg (Nat.ne_of_beq_eq_false hb)];exact ⟨st',aa,S',hq,cg,he⟩
   |goto l=>exact ⟨st',aa,S',hq,cg,he⟩
   |ret=>exact ⟨st',aa,S',hq,cg,he⟩
   |panic ch=>exact hq.elim
   |outgrown=>exact hq.elim
 | .exit id,st,Q,h=> .mk fun ψ S w a hr=>wp_exit ⟨st,ψ,S,h,hr,aI.refl _ _ _ _⟩
 | .goto l,st,Q,h=> .mk fun ψ S w a hr=>wp_goto ⟨st,ψ,S,h,hr,aI.refl _ _ _ _⟩
 | .label l,st,Q,h=> .mk fun ψ S w a hr=>wp_label ⟨st,ψ,S,h,hr,aI.refl _ _ _ _⟩
 | .ret,st,Q,h=> .mk fun ψ S w a hr=>wp_ret ⟨st,ψ,S,h,hr,aI.refl _ _ _ _⟩
 | .loop c,st,Q,h=>h
 | .scope c,st,Q,h=>h
 | .rangeFunc f ps x y,st,Q,h=>h
 | .refuse _,_,_,h=>h.elim
end
section
variable {P:Program} {τ:bF} {base:Nat} {ψ aa:aJ} {S S':Nat→Prop} {w w':World} {a:Act}
def nP {α:Type}:Nat->List α->List (Nat×α)
 |_,[]=> []
 |i,x::xs=>(i,x)::nP (i+1) xs
def aDP (c:Nat):List Va->List Va
 | .c (.osl k z o len)::xs=> .c (.osc k z o len c)::xs
 |xs=>xs
def aEg (c:Nat):List Va->Prop
 | .c (.osl _ _ _ len)::_=>len<=c
 |_=>True
theorem aVz {xs:List Va} {vs:List Value} (h:aG (bB P ψ S w) xs vs): ∃c,aEg c xs/\ aG (bB P ψ S w) (aDP c xs) vs:=by
 unfold aDP aEg;split
 . rename_i k z o len xs
   cases vs with
   |nil=>exact h.elim
   |cons v vs=>
    rcases h.1 with ⟨h1,rfl,a0,h2⟩|⟨b,m,c,off,h1,h2,h3,h4⟩
    . exact ⟨0,Nat.le_refl _,.inl ⟨h1,rfl,rfl,a0,h2⟩,h.2⟩
    . exact ⟨c,h3,.inr ⟨b,m,off,h1,h2,h3,h4⟩,h.2⟩
 . exact ⟨0,trivial,h⟩
def vcF (P:Program) (τ:bF) (Γ:dQ) (calls:Nat->Nat->List Va->St->(Tm->St->Prop)->Prop) (fr:Bool) (fn:Func) (as:List Ar) (K:Rt->List (Option (Nat->List DV))->Prop):Prop:=
 match fn,oP 0 as with
 |⟨_,_,_,_,_,_,ntmps,results,some c,_,_,_,_,_,_,_⟩,(bk,h,n)=>match Nat.ble as.length ntmps with
  |true=>vc P τ Γ (calls n) n c ⟨nP 0 (bk.map .va),h,n,ntmps⟩ (aM2 τ fr (dE as) results.toList K)
  |false=>False
 |_,_=>False
def aNa (P:Program) (τ:bF) (Γ:dQ) (calls:Nat->Nat->List Va->St->(Tm->St->Prop)->Prop) (fr:Bool) (fn:Func) (as:List Ar) (K:Rt->List (Option (Nat->List DV))->Prop):Prop:=
 match fn,oP 0 as with
 |⟨_,_,_,_,_,_,ntmps,results,some c,_,_,_,_,_,_,_⟩,(bk,h,n)=>match Nat.ble as.length ntmps with
  |true=> ∀cap,aEg cap bk->vc P τ Γ (calls n) n c ⟨nP 0 ((aDP cap bk).map .va),h,n,ntmps⟩ (aM2 τ fr (dE as) results.toList K)
  |false=>False
 |_,_=>False
def aHw (P:Program) (τ:bF) (Γ:dQ) (calls:Nat->Nat->List Va->St->(Tm->St->Prop)->Prop) (fr:Bool) (fn:Func) (as:List Ar) (K:Rt->List (Option (Nat->List DV))->Prop):Prop:=
 match fn,oP 0 as with
 |⟨_,_,_,_,_,_,ntmps,results,some c,_,_,_,_,_,_,_⟩,(bk,h,n)=>as.length<=ntmps/\ ∀ψ S w ak,aG (bB P ψ S w) bk ak-> ∃uh,uh.length=bk.length/\ aG (bB P ψ S w) uh ak/\
   vc P τ Γ (calls n) n c ⟨nP 0 (uh.map .va),h,n,ntmps⟩ (aM2 τ fr (dE as) results.toList K)
 |_,_=>False
theorem aN5: ∀(xs:List Tm) (i t:Nat),aV (nP i xs) t=if i<=t/\ t<i+xs.length then xs.getD (t-i) iS else iS
 | [],i,t=>by simp [nP,aV]
 |x::xs,i,t=>by
  simp only [nP,aV];cases hb:Nat.beq i t with
  |true=>
   have:=Nat.eq_of_beq_eq_true hb
   subst this;simp
  |false=>
   have:=Nat.ne_of_beq_eq_false hb
   simp only [aN5 xs (i+1) t,List.length_cons];by_cases h:i+1<=t/\ t<i+1+xs.length
   . rw [if_pos h,if_pos j3];obtain ⟨q,rfl⟩: ∃q,t=i+(q+1):=⟨t-i-1,by omega⟩
     rw [show i+(q+1)-(i+1)=q by omega,show i+(q+1)-i=q+1 by omega];simp
   . rw [if_neg h,if_neg j3]
theorem aN6 {xs:List Va} {ak:List Value} (h:aG (bB P ψ S w) xs ak) (n:Nat) (t:Nat):
 dL P ψ S w (aV (nP 0 (xs.map .va)) t) ((ak.toArray++Array.replicate (n-ak.toArray.size) undef).getD t undef):=by
 rw [aN5];have hl:=h.length
 by_cases ht:t<xs.length
 . rw [if_pos y7];obtain ⟨y,h1,h2⟩:=h.get t (xs[t]) (by simp [ht])
   have e1:(xs.map Tm.va).getD (t-0) iS= .va xs[t]:=by simp [List.getD,ht]
   have e2:(ak.toArray++Array.replicate (n-ak.toArray.size) undef).getD t undef=y:=by
    rw [Array.getD_eq_getD_getElem?,Array.getElem?_append_left y7];simp [h1]
   rw [e1,e2];exact h2
 . rw [if_neg y7];trivial
theorem aO0 (ab:bE P τ) (hz: ∀t i,τ t=some i->cP i.zero) {Γ:dQ} (ck:lH P Γ) (b7:P.follows .mixedOrders=true) {calls:Nat->Nat->List Va->St->(Tm->St->Prop)->Prop} (ai: ∀base,iY P base (calls base))
 {f : Nat} {fn : Func} (hf : P.funcs[f]? = some fn) (db : (fn.name == "runtime.NumGoroutine") = false) {fr : Bool} {as : List Ar} {r : Rt} {us : List (Option (Nat -> List DV))}
 (hk:aHw P τ Γ calls fr fn as fun r' us'=>vM r' r/\ kK (dE as) us' us):aU P f as r us:=by
 unfold aHw at hk;split at hk
 . rename_i nm ui targs params zu nfree ntmps rs c nr ours file el ln met tn bk h n wu
   . obtain ⟨hlen,hk⟩:=hk
     intro S w ak ls hS av gf;obtain ⟨g1,g2,g3⟩:=aJ6 (ψ:=lZ 0 ls) as ak ls 0 av (fun j l hj=>by simpa [lZ] using hj)
     have AZ:=aNW as 0
     rw [wu] at g1 g2 AZ;simp only [Nat.zero_add] at g1 g2 AZ;have uj:=aWt (P:=P) hS g2 gf
     rw [g3, <-AZ] at uj;have FB:ak.length=as.length:=by
      have h1:=g1.length
      have: ∀(xs:List Ar) (i:Nat),(oP i xs).1.length=xs.length:=by
       intro xs
       induction xs with
       |nil=>intro i;rfl
       |cons x xs ih=>intro i;simp [oP,ih]
      have h2:=this as 0
      rw [wu] at h2;simp only at h2
      omega
     obtain ⟨uh,Gr,A0,hk⟩:=hk _ _ _ _ g1
     refine .inl ⟨⟨_,c,hf,rfl,db⟩,calls_of_wp hf rfl ?_⟩
     have a6:aC P n (lZ 0 ls) S w ⟨nP 0 (uh.map .va),h,n,ntmps⟩ {tmps:=ak.toArray++Array.replicate (ntmps-ak.toArray.size) undef,defers:= []}:=
      ⟨Nat.le_refl _,uj,by simp;omega,rfl,fun t=>aN6 A0 ntmps t⟩
     refine wp_mono ((kT ab hz ck b7 (ai n) c _ _ hk).run _ S w _ a6) ?_
     rintro e a' w' ⟨st',aa,S',hq,cg,he⟩
     have main:fin τ fr (dE as) rs.toList (fun r' us'=>vM r' r/\ kK (dE as) us' us) st'->
      a'.defers= []/\ ∃v,(results ⟨nm,ui,targs,params,zu,nfree,ntmps,rs,some c,nr,ours,file,el,ln,met,tn⟩ a'.tmps).run P w'= .ok v w'/\
       ∃v2 S' b6,Ending.returned v= .returned v2/\ oO P S' w' r v2 b6/\ kF S' w' (dE as) us ls/\ iL S' w' (lV us ls++b6)/\ aM0 S w ls S' w' b6:=by
      intro hq;refine ⟨cg.defers, ?_⟩
      unfold fin at hq;obtain ⟨xs,vs,k1,k2,k3⟩:=aIl ab cg hq
      refine ⟨_,aNM k3, ?_⟩
      -- one state, frozen or not
      have go: ∀(S2:Nat->Prop) (h2:List (Nat×aB)),aC P n aa S2 w' ⟨st'.tmps,h2,st'.next,st'.lim⟩ a'->aI n (lZ 0 ls) S w aa S2 w'->aG (bB P aa S2 w') xs vs->
       (aDM h2 [] xs fun xs used=>wP h2 used 0 (dE as) fun us'=>vM (aHt xs) r/\ kK (dE as) us' us)->
       ∃v2 S' b6,Ending.returned (aEd vs)= .returned v2/\ oO P S' w' r v2 b6/\ kF S' w' (dE as) us ls/\ iL S' w' (lV us ls++b6)/\ aM0 S w ls S' w' b6:=by
       intro S2 h2 c9 bp qp A1;obtain ⟨dq,ids,ls2,p1,p2,p3,p4⟩:=aOM c9.sim (used:= []) ⟨by simp,by simp⟩ qp A1
       simp only [List.append_nil] at p3 p4;obtain ⟨FD,DT,q1,q2,q3,q4,q5,q6⟩:=aH6 c9.sim (i:=0) (ls:=ls) (by simpa using g3.symm) (fun j l hj=>by
        rw [bp.agr (0+j) (by rw [AZ, <-g3];simpa using (List.getElem?_eq_some_iff.1 hj).1)]
        simpa [lZ] using hj) p3 p4
       have Cm:iL S2 w' (lV FD ls++ls2):=by
        refine aNY (h:=h2) c9.sim (ids:=DT++ids) (q2.append p2) ⟨?_,?_⟩
        . have:=q3.1
          rw [List.nodup_append] at this⊢;refine ⟨this.1,(List.Perm.nodup_iff (List.reverse_perm ids)).1 this.2.1,fun a ha b hb=>this.2.2 a ha b (by simpa using hb)⟩
        . intro k hk;exact q3.2 k (by simpa using hk)
       have rl:oO P S2 w' (aHt dq) (aEd vs) ls2:=by
        cases dq with
        |nil=>cases vs with
         |nil=>exact ⟨#[],rfl,p1⟩
         |cons _ _=>exact p1.elim
        |cons x dq=>cases vs with
         |nil=>exact p1.elim
         |cons v vs=>cases dq with
          |nil=>cases vs with
           |nil=>
            obtain ⟨l1,l2,e,p5,p6⟩:=p1
            have:l2= []:=p6
            subst this;simp at e;subst e
            exact p5
           |cons _ _=>obtain ⟨l1,l2,e,p5,p6⟩:=p1;exact p6.elim
          |cons y dq=>cases vs with
           |nil=>obtain ⟨l1,l2,e,p5,p6⟩:=p1;exact p6.elim
           |cons u vs=>exact ⟨(v::u::vs).toArray,rfl,p1⟩
       obtain ⟨FE,r1,r2⟩:=q5.rep rl
       obtain ⟨r3,r4⟩:=q6.rep q1
       refine ⟨_,S2,FE,rfl,r1,r3, ?_,?_⟩
       . exact ((gM.refl _).append r2).sep (aZ1 (r4.append (List.Sublist.refl _)) Cm)
       . have pj: ∀k m b,lZ 0 ls k=some (.at b m)->blkIn ls b:=fun k m b hk=>⟨m,List.mem_of_getElem? (by simpa [lZ] using hk)⟩
         refine ⟨bp.os,bp.tape,bp.output,bp.grow,fun b hb ky=>bp.old b hb fun k m hk=>ky (pj k m b hk),bp.later, ?_,?_,c9.sim.sdom⟩
         . intro b hb;rcases bp.newS b hb with h1|⟨k,m,h1⟩|h1
           . exact .inl h1
           . exact .inr (.inl (pj k m b h1))
           . exact .inr (.inr h1)
         . intro b hb;obtain ⟨m,hm⟩:=r2.blkIn hb
           obtain ⟨j,hj,e⟩:=List.mem_iff_getElem.1 hm
           have zb:=p2.length
           obtain ⟨y,e1,e2⟩:=p2.get j (ids[j]'j3) j8
           have e3:ls2[j]? =some (.at b m):=x8
           rw [e3] at e1;cases e1
           rcases bp.newP _ b m e2 with ⟨k,m',h1⟩|h1
           . exact .inl (pj k m' b h1)
           . exact .inr h1
      cases fr with
      |false=>exact go S' st'.heap cg he k1 k2
      |true=>
       obtain ⟨h2,S2,p1,p2,p3⟩:=aJf (ts:=st'.tmps) (n:=st'.next) (m:=st'.lim) xs vs st'.heap S' cg k1 k2
       exact go S2 h2 p2 (he.trans p3) (k1.mono fun _ _ h=>h.later (cH.refl _) p3.later) p1
     cases e with
     |normal=>exact main hq
     |ret=>exact main hq
     |exit id=>exact hq.elim
     |goto l=>exact hq.elim
     |panic ch=>exact hq.elim
     |outgrown=>exact hq.elim
 . exact hk.elim
theorem aU2 (ab:bE P τ) (hz: ∀t i,τ t=some i->cP i.zero) {Γ:dQ} (ck:lH P Γ) (b7:P.follows .mixedOrders=true) {calls:Nat->Nat->List Va->St->(Tm->St->Prop)->Prop} (ai: ∀base,iY P base (calls base))
 {f : Nat} {fn : Func} (hf : P.funcs[f]? = some fn) (db : (fn.name == "runtime.NumGoroutine") = false) {fr : Bool} {as : List Ar} {r : Rt} {us : List (Option (Nat -> List DV))}
 (hk:vcF P τ Γ calls fr fn as fun r' us'=>vM r' r/\ kK (dE as) us' us):aU P f as r us:=by
 refine aO0 ab hz ck b7 ai hf db (fr:=fr) ?_
 unfold vcF at hk;unfold aHw;obtain ⟨nm,ui,targs,params,zu,nfree,ntmps,rs,body,nr,ours,file,el,ln,met,tn⟩:=fn
 generalize oP 0 as=A at hk⊢
 obtain ⟨bk,h,n⟩:=A
 cases body with
 |none=>exact hk
 |some c=>
  simp only at hk⊢
  split at hk
  . rename_i hlen
    exact ⟨Nat.le_of_ble_eq_true hlen,fun ψ S w ak hv=>⟨_,rfl,hv,hk⟩⟩
  . exact hk.elim
theorem aUB (c:Nat) (xs:List Va):(aDP c xs).length=xs.length:=by
 unfold aDP;split<;>rfl
theorem aUH (ab:bE P τ) (hz: ∀t i,τ t=some i->cP i.zero) {Γ:dQ} (ck:lH P Γ) (b7:P.follows .mixedOrders=true) {calls:Nat->Nat->List Va->St->(Tm->St->Prop)->Prop} (ai: ∀base,iY P base (calls base))
 {f : Nat} {fn : Func} (hf : P.funcs[f]? = some fn) (db : (fn.name == "runtime.NumGoroutine") = false) {fr : Bool} {as : List Ar} {r : Rt} {us : List (Option (Nat -> List DV))}
 (hk:aNa P τ Γ calls fr fn as fun r' us'=>vM r' r/\ kK (dE as) us' us):aU P f as r us:=by
 refine aO0 ab hz ck b7 ai hf db (fr:=fr) ?_
 unfold aNa at hk;unfold aHw;obtain ⟨nm,ui,targs,params,zu,nfree,ntmps,rs,body,nr,ours,file,el,ln,met,tn⟩:=fn
 generalize oP 0 as=A at hk⊢
 obtain ⟨bk,h,n⟩:=A
 cases body with
 |none=>exact hk
 |some c=>
  simp only at hk⊢
  split at hk
  . rename_i hlen
    refine ⟨Nat.le_of_ble_eq_true hlen,fun ψ S w ak hv=> ?_⟩
    obtain ⟨c,h1,h2⟩:=aVz hv
    exact ⟨_,aUB _ _,h2,hk c h1⟩
  . exact hk.elim
end
def aGk (ids:List Nat):List (Nat×Nat)->List (Nat×Nat)->Prop
 | [],[]=>True
 |(k,o)::xs,(j,o')::ys=>(ids[j]? =some k/\ o=o')/\ aGk ids xs ys
 |_,_=>False
def zO (ids:List Nat) (nv:Nat):aL->aL->Prop
 |_,.top=>True
 | .und,.und=>True
 | .kb b,.kb b'=>b=b'
 | .kb b,.d (.v x)=>x= .bool b
 | .d x,.d y=>tJ x y
 | .d (.v x),.osl j _ _ len=>x= .slice none 0 0/\ len=0/\ ids.length<=j/\ j<ids.length+nv
 | .own k off,.own j dk=>ids[j]? =some k/\ off=dk
 | .osl k sz o len,.osl j cd o' len'=>ids[j]? =some k/\ sz=cd/\ o=o'/\ len=len'
 | .ep k sz i off,.ep j cd i' dk=>ids[j]? =some k/\ sz=cd/\ i=i'/\ off=dk
 | .rp cs,.rp ib=>cs=ib
 | .fn f aq,.fn f' caps'=>f=f'/\ aGk ids aq caps'
 | .fv g,.fv g'=>g=g'
 | .mp k,.mp j=>ids[j]? =some k
 | .fb f k off,.fb f' j dk=>ids[j]? =some k/\ f=f'/\ off=dk
 |_,_=>False
def aDv (ids:List Nat) (nv:Nat):List aL->List aL->Prop
 | [],[]=>True
 |x::xs,y::ys=>zO ids nv x y/\ aDv ids nv xs ys
 |_,_=>False
def aAu (ids:List Nat) (nv:Nat):Va->Va->Prop
 |_,.c .top=>True
 | .c x,.c y=>zO ids nv x y
 | .agg xs,.agg ys=>aDv ids nv xs ys
 |_,_=>False
def vN (ids:List Nat) (nv:Nat):Tm->Tm->Prop
 |_,.va (.c .top)=>True
 | .va x,.va y=>aAu ids nv x y
 |_,_=>False
def aGl (ids:List Nat) (nv:Nat):List (List Value×Va)->List (List Value×Va)->Prop
 | [],[]=>True
 |p::xs,q::ys=>(p.1=q.1/\ aAu ids nv p.2 q.2)/\ aGl ids nv xs ys
 |_,_=>False
def aAb (ids:List Nat) (nv:Nat):aB->aB->Prop
 |_,.gone=>True
 | .cells xs,.cells ys=>aDv ids nv xs ys
 | .row sz n f,.row cd n' f'=>sz=cd/\ n=n'/\ ∀i,i<n->f i=f' i
 | .fzr sz n f,.fzr cd n' f'=>sz=cd/\ n=n'/\ ∀i,i<n->f i=f' i
 | .fz cs,.fz ib=>cs=ib
 | .it s p,.it s' p'=>s=s'/\ p=p'
 | .map es bc,.map es' bc'=>bc=bc'/\ aGl ids nv es es'
 |_,_=>False
def aGm (ids:List Nat) (nv:Nat) (ts:List (Nat×Tm)):List (Nat×Tm)->Prop
 | []=>True
 |(t,x)::l=>vN ids nv (aV ts t) x/\ aGm ids nv ts l
def zP (ids:List Nat) (nv:Nat) (h:List (Nat×aB)):List (Nat×aB)->Prop
 | []=>True
 |(j,b)::l=>(match ids[j]? with
  |some k=>aAb ids nv (aF h k) b
  |none=>(match b with| .row _ n _=>n=0| .gone=>True|_=>False))/\ zP ids nv h l
def gJ (base:Nat) (ids:List Nat):Bool:=Nat.ble base ids.length&&(List.range base).all (fun j=>ids[j]? ==some j)&&(List.range ids.length).all fun i=>(List.range i).all fun j=>ids[i]? !=ids[j]?
def mL (base:Nat) (ids:List Nat) (nv:Nat) (st st':St):Prop:=
 st'.lim=st.lim/\ st'.next=ids.length+nv/\ gJ base ids=true/\ aGm ids nv st.tmps st'.tmps/\ zP ids nv st.heap st'.heap
section
variable {P:Program} {τ:bF} {base:Nat} {ψ aa:aJ} {S S':Nat→Prop} {w w':World} {a:Act} {ids:List Nat} {nv:Nat}
def gE (ψ:aJ) (ids:List Nat) (nv:Nat):aJ:=fun j=>match ids[j]? with
 |some k=>ψ k
 |none=>if j<ids.length+nv then some .virt else none
theorem tY {j k:Nat} (h:ids[j]? =some k):gE ψ ids nv j=ψ k:=by simp [gE,h]
theorem aN7 {w:World}: ∀{xs ys:List (Nat×Nat)} {l:List Value},aGk ids xs ys->aG (fun (p:Nat×Nat) y=> ∃b m,ψ p.1=some (.at b m)/\ y= .pointer (some ⟨b,p.2,none⟩)) xs l->aG (fun (p:Nat×Nat) y=> ∃b m,gE ψ ids nv p.1=some (.at b m)/\ y= .pointer (some ⟨b,p.2,none⟩)) ys l
 | [],[],[],_,_=>trivial
 | [],[],_::_,_,h=>h.elim
 | [],_::_,_,h,_=>h.elim
 |_::_,[],_,h,_=>h.elim
 |_::_,_::_,[],_,h=>h.elim
 |(k,o)::_,(j,o')::_,_::_,⟨⟨h1,h2⟩,h3⟩,⟨⟨b,m,g1,g2⟩,g3⟩=>⟨⟨b,m,by rw [tY h1];exact g1,by rw [g2,h2]⟩,aN7 (w:=w) h3 g3⟩
theorem aN8 {x y:aL} {v:Value} (h:zO ids nv x y) (hx:kI P ψ S w x v):kI P (gE ψ ids nv) S w y v:=by
 unfold zO at h;split at h
 . trivial
 . exact hx
 . subst h;exact hx
 . subst h;rw [show v=_ from hx];exact .v trivial
 . exact tJ.rep h hx
 . rename_i j sz o len
   obtain ⟨rfl,rfl,hj,hlt⟩:=h
   cases hx;refine .inl ⟨?_,rfl,none,rfl⟩
   have:ids[j]? =none:=by simp [hj]
   simp [gE,this,hlt]
 . obtain ⟨h1,rfl⟩:=h;obtain ⟨b,m,h2,h3⟩:=hx;exact ⟨b,m,by rw [tY h1];exact h2,h3⟩
 . obtain ⟨h1,rfl,rfl,rfl⟩:=h
   rcases hx with ⟨h2,h3⟩|⟨b,m,c,off,h2,h3⟩
   . exact .inl ⟨by rw [tY h1];exact h2,h3⟩
   . exact .inr ⟨b,m,c,off,by rw [tY h1];exact h2,h3⟩
 . obtain ⟨h1,rfl,rfl,rfl⟩:=h;obtain ⟨b,m,h2,h3⟩:=hx;exact ⟨b,m,by rw [tY h1];exact h2,h3⟩
 . subst h;exact hx
 . obtain ⟨rfl,hc⟩:=h;obtain ⟨vs,h1,h2⟩:=hx;exact ⟨vs,h1,aN7 (w:=w) hc h2⟩
 . subst h;exact hx
 . obtain ⟨b,m,h2,h3⟩:=hx;exact ⟨b,m,by rw [tY h];exact h2,h3⟩
 . obtain ⟨h1,rfl,rfl⟩:=h;obtain ⟨b,m,h2,h3⟩:=hx;exact ⟨b,m,by rw [tY h1];exact h2,h3⟩
 . exact h.elim
theorem aH7: ∀{xs ys:List aL} {vs:List Value},aDv ids nv xs ys->aG (dK P ψ S w) xs vs->aG (dK P (gE ψ ids nv) S w) ys vs
 | [],[],[],_,_=>trivial
 | [],[],_::_,_,h=>h.elim
 | [],_::_,_,h,_=>h.elim
 |_::_,[],_,h,_=>h.elim
 |_::_,_::_,[],_,h=>h.elim
 |_::_,_::_,_::_,⟨h1,h2⟩,⟨g1,g2⟩=>⟨⟨aN8 h1 g1.1,g1.2⟩,aH7 h2 g2⟩
theorem aJi {x y:Va} {v:Value} (h:aAu ids nv x y) (hx:bB P ψ S w x v):bB P (gE ψ ids nv) S w y v:=by
 unfold aAu at h;split at h
 . trivial
 . exact aN8 h hx
 . obtain ⟨arr,rfl,hx⟩:=hx;exact ⟨arr,rfl,aH7 h hx⟩
 . exact h.elim
theorem aPR {x y:Tm} {v:Value} (h:vN ids nv x y) (hx:dL P ψ S w x v):dL P (gE ψ ids nv) S w y v:=by
 unfold vN at h;split at h
 . trivial
 . exact aJi h hx
 . exact h.elim
theorem aN9: ∀{xs ys:List (List Value×Va)} {vs:List MapEntry},aGl ids nv xs ys->aG (fun p (e:MapEntry)=>e.key=iH p.1/\ bB P ψ S w p.2 e.val) xs vs->aG (fun p (e:MapEntry)=>e.key=iH p.1/\ bB P (gE ψ ids nv) S w p.2 e.val) ys vs
 | [],[],[],_,_=>trivial
 | [],[],_::_,_,h=>h.elim
 | [],_::_,_,h,_=>h.elim
 |_::_,[],_,h,_=>h.elim
 |_::_,_::_,[],_,h=>h.elim
 |_::_,_::_,_::_,⟨h1,h2⟩,⟨g1,g2⟩=>⟨⟨by rw [g1.1,h1.1],aJi h1.2 g1.2⟩,aN9 h2 g2⟩
theorem aWC {x y:aB} {l:Loc} (h:aAb ids nv x y) (hx:fE P ψ S w x l):fE P (gE ψ ids nv) S w y l:=by
 unfold aAb at h;split at h
 . cases l<;>trivial
 . cases l with
   |virt=>exact hx.elim
   | «at» b m=>obtain ⟨arr,e,h1,h2⟩:=hx;exact ⟨arr,e,h1,aH7 h h2⟩
 . obtain ⟨rfl,rfl,h⟩:=h;exact gV.blk.1 ((gV.blk.2 hx).congr h)
 . obtain ⟨rfl,rfl,h⟩:=h
   cases l with
   |virt=>exact hx
   | «at» b m=>obtain ⟨h0,arr,e,fr,h1,h2,h3,h4,h5⟩:=hx;exact ⟨h0,arr,e,fr,h1,h2,h3,fun i hi=>by rw [<-h i hi];exact h4 i hi,fun i j hi hj=>by rw [<-h i hi];exact h5 i j hi hj⟩
 . subst h;cases l with
   |virt=>exact hx
   | «at» b m=>exact hx
 . obtain ⟨rfl,rfl⟩:=h
   cases l with
   |virt=>exact hx
   | «at» b m=>exact hx
 . cases l with
   |virt=>exact hx.elim
   | «at» b m=>obtain ⟨arr,c,h1,h0,h2⟩:=hx;exact ⟨arr,c,h1,by rw [<-h.1];exact h0,aN9 h.2 h2⟩
 . exact h.elim
theorem aVA {x y:aB} (h:aAb ids nv x y) (hy:y.live):x.live:=by
 unfold aAb at h;split at h
 . exact hy.elim
 . trivial
 . trivial
 . exact hy.elim
 . exact hy.elim
 . trivial
 . trivial
 . exact h.elim
theorem aOa {ts:List (Nat×Tm)}: ∀{ts':List (Nat×Tm)},aGm ids nv ts ts'-> ∀t,vN ids nv (aV ts t) (aV ts' t)
 | [],_,t=>by simp [aV,vN]
 |(i,x)::l,h,t=>by
  simp only [aV];cases hb:Nat.beq i t with
  |true=>have:=Nat.eq_of_beq_eq_true hb;subst this;exact h.1
  |false=>exact aOa h.2 t
theorem aIo {h:List (Nat×aB)}: ∀{h':List (Nat×aB)},zP ids nv h h'-> ∀j,(match ids[j]? with
 |some k=>aAb ids nv (aF h k) (aF h' j)
 |none=>(match aF h' j with| .row _ n _=>n=0| .gone=>True|_=>False))
 | [],_,j=>by
   cases ids[j]? with
   |none=>trivial
   |some k=>simp only [aF];cases aF h k<;>trivial
 |(i,b)::l,hh,j=>by
  simp only [aF];cases hb:Nat.beq i j with
  |true=>have:=Nat.eq_of_beq_eq_true hb;subst this;exact hh.1
  |false=>exact aIo hh.2 j
theorem aOb (h:gJ base ids=true):base<=ids.length/\ (∀j,j<base->ids[j]? =some j)/\ ∀(i j k:Nat),ids[i]? =some k->ids[j]? =some k->i=j:=by
 simp only [gJ,Bool.and_eq_true,List.all_eq_true,List.mem_range] at h;obtain ⟨⟨h1,h2⟩,h3⟩:=h
 have h1:=Nat.le_of_ble_eq_true h1
 refine ⟨h1,fun j hj=>by simpa using h2 j hj, ?_⟩
 intro i j k hi hj;have li:=(List.getElem?_eq_some_iff.1 hi).1
 have lj:=(List.getElem?_eq_some_iff.1 hj).1
 rcases Nat.lt_trichotomy i j with h|h|h
 . have:=h3 j lj i h;rw [hi,hj] at this;simp at this
 . exact h
 . have:=h3 i li j h;rw [hi,hj] at this;simp at this
theorem aC.le {st st':St} (h:mL base ids nv st st') (hr:aC P base ψ S w st a):
 aC P base (gE ψ ids nv) S w st' a/\ aI base ψ S w (gE ψ ids nv) S w:=by
 obtain ⟨h1,h2,h3,h4,h5⟩:=h
 obtain ⟨i1,i2,i3⟩:=aOb h3
 have get: ∀j l,gE ψ ids nv j=some l->(∃k,ids[j]? =some k/\ ψ k=some l) \/(ids[j]? =none/\ l= .virt):=by
  intro j l hj;simp only [gE] at hj;cases hk:ids[j]? with
  |some k=>rw [hk] at hj;exact .inl ⟨k,rfl,hj⟩
  |none=>
   rw [hk] at hj;simp only at hj
   split at hj
   . simp at hj;exact .inr ⟨rfl,hj.symm⟩
   . simp at hj
 have live: ∀j k,ids[j]? =some k->(aF st'.heap j).live->(aF st.heap k).live:=by
  intro j k hj hl;have:=aIo h5 j
  rw [hj] at this;exact aVA this hl
 refine ⟨⟨by omega,⟨?_,?_,?_,?_,?_,hr.sim.sdom⟩,by rw [h1];exact hr.lim,hr.defers,fun t=>aPR (aOa h4 t) (hr.tmps t)⟩,
  ⟨rfl,rfl,rfl,Nat.le_refl _,fun _ _ _=>rfl,cT.refl _ _,fun _ h=> .inl h, ?_,?_⟩⟩
 . intro k hk;rw [h2] at hk;have:ids[k]? =none:=by simp;omega
   simp only [gE,this];rw [if_neg j3]
 . intro j l hj;have hg:=aIo h5 j
   rcases get j l hj with ⟨k,e1,e2⟩|⟨e1,rfl⟩
   . rw [e1] at hg;exact aWC hg (hr.sim.blk k l e2)
   . rw [e1] at hg;simp only at hg
     cases hb:aF st'.heap j with
     |row sz n f=>rw [hb] at hg;exact hg
     |gone=>trivial
     |cells _=>rw [hb] at hg;exact hg.elim
     |it _ _=>rw [hb] at hg;exact hg.elim
     |map _ _=>rw [hb] at hg;exact hg.elim
     |fz _=>rw [hb] at hg;exact hg.elim
     |fzr _ _ _=>rw [hb] at hg;exact hg.elim
 . intro j j' b m m' e1 e2 l1 l2
   rcases get j _ e1 with ⟨k,g1,g2⟩|⟨_,g⟩
   . rcases get j' _ e2 with ⟨k',g3,g4⟩|⟨_,g⟩
     . have:=hr.sim.inj k k' b m m' g2 g4 (live j k g1 l1) (live j' k' g3 l2)
       subst this;exact i3 j j' k g1 g3
     . cases g
   . cases g
 . intro j b m e1 l1;rcases get j _ e1 with ⟨k,g1,g2⟩|⟨_,g⟩
   . exact hr.sim.dis k b m g2 (live j k g1 l1)
   . cases g
 . intro j b m e1;rcases get j _ e1 with ⟨k,g1,g2⟩|⟨_,g⟩
   . exact hr.sim.pdom k b m g2
   . cases g
 . intro j b m e1;rcases get j _ e1 with ⟨k,g1,g2⟩|⟨_,g⟩
   . exact .inl ⟨k,m,g2⟩
   . cases g
 . intro k hk;exact tY (i2 k hk)
theorem aO.le {c:Code} {st st':St} {Q:Exit->St->Prop} (ids:List Nat) (nv:Nat) (h:mL base ids nv st st') (hs:aO P base c st' Q):aO P base c st Q:=by
 refine ⟨fun ψ S w a hr=> ?_⟩
 obtain ⟨h1,h2⟩:=hr.le h
 refine wp_mono (hs.run _ _ _ _ h1) ?_
 rintro e a' w' ⟨st2,az,S2,q,r,x⟩
 exact ⟨st2,az,S2,q,r,h2.trans x⟩
theorem aO.mono {c:Code} {st:St} {Q Q':Exit->St->Prop} (hs:aO P base c st Q) (h: ∀e st,Q e st->Q' e st):aO P base c st Q':=by
 refine ⟨fun ψ S w a hr=> ?_⟩
 refine wp_mono (hs.run _ _ _ _ hr) ?_
 rintro e a' w' ⟨st2,az,S2,q,r,x⟩
 exact ⟨st2,az,S2,h _ _ q,r,x⟩
theorem aIp {c:Code} {Q:Exit->Act->World->Prop} (I:Nat->Act->World->Prop)
 (round: ∀n a w,I n a w->c.wp P (Exit.then (fun a' w'=> ∃n',n'<n/\ I n' a' w') Q) a w) {n:Nat} {a:Act} {w:World} (DU:I n a w):(Code.loop c).wp P Q a w:=by
 intro b k cs;have key: ∀n a w,I n a w-> ∃e a' w',Q e a' w'/\ Arrives P (lone (b.at a (.code c:: .inLoop c::k)) cs w) b k cs e a' w':=by
  intro n
  induction n using Nat.strongRecOn with
  |_ n ih=>
   intro a w hI;obtain ⟨e,dr,dt,hq,bm⟩:=round n a w hI b (.inLoop c::k) cs
   cases e with
   |normal=>
    obtain ⟨n',hlt,Cn⟩:=hq
    obtain ⟨uk,um,uo,pt,jr⟩:=ih n' hlt dr dt Cn
    exact ⟨uk,um,uo,pt,.of_steps (Steps.trans bm (.one step_inLoop)) jr⟩
   |exit id=>exact ⟨_,dr,dt,hq,.pass (x:= .inLoop c) rfl (fun _ _=> .inl j8) bm⟩
   |goto l=>exact ⟨_,dr,dt,hq,.pass (x:= .inLoop c) rfl (fun _ _=> .inl j8) bm⟩
   |ret=>exact ⟨_,dr,dt,hq,.pass (x:= .inLoop c) rfl (fun _ _=> .inl j8) bm⟩
   |panic ch=>exact ⟨_,dr,dt,hq,.pass (x:= .inLoop c) rfl (fun _ _=> .inl j8) bm⟩
   |outgrown=>exact ⟨_,dr,dt,hq,.pass (x:= .inLoop c) rfl (fun _ _=> .inl j8) bm⟩
 obtain ⟨e,a',w',hq,bm⟩:=key n a w DU
 exact ⟨e,a',w',hq,.of_steps (.one step_loop) bm⟩
def bDi {X:Type} (base:Nat) (I:X->St) (μ:X->Nat) (Inv:X->Prop) (Q:Exit->St->Prop) (x:X):Exit->St->Prop
 | .normal,st=> ∃x',Inv x'/\ μ x'<μ x/\ ∃ids nv,mL base ids nv st (I x')
 |e,st=>Q e st
theorem aO.loop {c:Code} {Q:Exit->St->Prop} {X:Type} (I:X->St) (μ:X->Nat) (Inv:X->Prop) (round: ∀x,Inv x->aO P base c (I x) (bDi base I μ Inv Q x)) (x:X) (hx:Inv x):
 aO P base (.loop c) (I x) Q:=by
 refine ⟨fun ψ S w a hr=> ?_⟩
 refine aIp (P:=P) (fun n a' w'=> ∃x aa S',Inv x/\ μ x=n/\ aC P base aa S' w' (I x) a'/\ aI base ψ S w aa S' w') ?_ ⟨x,ψ,S,hx,rfl,hr,aI.refl _ _ _ _⟩
 rintro n a1 w1 ⟨x,fm,S1,hx,rfl,du,fo⟩
 refine wp_mono ((round x hx).run fm S1 w1 a1 du) ?_
 rintro e a2 w2 ⟨st,az,S2,hq,c9,bp⟩
 cases e with
 |normal=>
  obtain ⟨x',hx',hlt,ids,nv,hle⟩:=hq
  obtain ⟨g1,g2⟩:=c9.le hle
  exact ⟨μ x',hlt,x',_,_,hx',rfl,g1,(fo.trans bp).trans g2⟩
 |exit id=>exact ⟨st,az,S2,hq,c9,fo.trans bp⟩
 |goto l=>exact ⟨st,az,S2,hq,c9,fo.trans bp⟩
 |ret=>exact ⟨st,az,S2,hq,c9,fo.trans bp⟩
 |panic ch=>exact ⟨st,az,S2,hq,c9,fo.trans bp⟩
 |outgrown=>exact ⟨st,az,S2,hq,c9,fo.trans bp⟩
end
inductive TT where
 |nil
 |leaf (k:Nat) (i u:TypeInfo) (cmp:Bool)
 |node (l r:TT)
def aNb (i u:TypeInfo) (cmp:Bool):Option TI:=match i,u with
 |⟨_,_,size,bytes,_,_,_,some z,_,_⟩,⟨desc,_,_,_,_,_,_,_,_,_⟩=>some ⟨desc,size,⟨bytes,cmp⟩,z⟩
 |_,_=>none
def TT.find:TT->Nat->Nat->Option TI
 | .nil,_,_=>none
 | .leaf k i u cmp,_,t=>match Nat.beq k t with
   |true=>aNb i u cmp
   |false=>none
 | .node l r,d,t=>match Nat.beq (d%2) 0 with
   |true=>l.find (d/2) t
   |false=>r.find (d/2) t
def TT.get (x:TT):bF:=fun t=>x.find t t
def aLW:Value->Bool
 | .agg cs=>cs.toList.all fun| .agg _=>false| .tuple _=>false|_=>true
 | .tuple _=>false
 |_=>true
def tyB (P:Program) (k:Nat) (i u:TypeInfo):Prop:=P.info? k=some i/\ P.underlying k=some u.desc/\ (match i.zero with|some z=>aLW z|none=>true)=true
def aZ7:TypeDesc->Bool
 | .struct fs => fs.toList.all fun f => f.name != "_"
 |_=>true
def aEr (P:Program) (k:Nat) (u:TypeInfo):Prop:=P.stoodInHeld k=false/\ P.eqGuardType P.depth k=false/\ aZ7 u.desc=true
def TT.ok (P:Program):TT->Prop
 | .nil=>True
 | .leaf k i u cmp=>tyB P k i u/\ match cmp with
   |true=>aEr P k u
   |false=>True
 | .node l r=>l.ok P/\ r.ok P
theorem aYd {z:Value} (h:aLW z=true):cP z:=by
 cases z with
 |agg cs=>
  intro x hx;have:=(List.all_eq_true.1 h) x hx
  cases x<;>first|trivial
 |tuple _=>simp [aLW] at h
 |_=>trivial
theorem TT.find_ok {P:Program}: ∀{x:TT} {d t:Nat} {ti:TI},x.ok P->x.find d t=some ti->
 (∃info,P.info? t=some info/\ P.underlying t=some ti.desc/\ info.size=ti.size/\ info.bytes=ti.bytes.n/\ info.zero=some ti.zero)/\ cP ti.zero/\
  (ti.bytes.cmp = true -> P.stoodInHeld t = false /\ P.eqGuardType P.depth t = false /\ ∀ fs, ti.desc = .struct fs -> ∀ f ∈ fs.toList, f.name ≠ "_")
 | .nil,_,_,_,_,h=>by simp [TT.find] at h
 | .leaf k i u cmp,d,t,ti,c6,h=>by
   simp only [TT.find] at h;split at h
   . rename_i hk
     have hk:=Nat.eq_of_beq_eq_true hk
     subst hk;obtain ⟨⟨h1,h2,h3⟩,h4⟩:=c6
     obtain ⟨a,b,size,bytes,c,al,fa,zero,Gt,ms⟩:=i
     obtain ⟨desc,b2,c2,d2,e2,f2,g2,i2,j2,k2⟩:=u
     cases zero with
     |none=>simp [aNb] at h
     |some z=>
      simp only [aNb,Option.some.injEq] at h;subst h;refine ⟨⟨_,h1,h2,rfl,rfl,rfl⟩,aYd h3,fun hc=> ?_⟩
      have hc:cmp=true:=hc
      subst hc;obtain ⟨g1,g2,g3⟩:=h4
      refine ⟨g1,g2,fun fs Co f hf=> ?_⟩
      have Co:desc= .struct fs:=Co
      subst Co
      simpa using (List.all_eq_true.1 g3) f hf
   . simp at h
 | .node l r,d,t,ti,c6,h=>by
   simp only [TT.find] at h;split at h
   . exact TT.find_ok c6.1 h
   . exact TT.find_ok c6.2 h
theorem TT.tysOk {P:Program} {x:TT} (h:x.ok P):bE P x.get:=⟨fun _ _ ht=>(TT.find_ok h ht).1,fun _ _ ht=>(TT.find_ok h ht).2.2⟩
theorem TT.zeros {P:Program} {x:TT} (h:x.ok P): ∀t i,x.get t=some i->cP i.zero:=fun _ _ ht=>(TT.find_ok h ht).2.1
def cJ:List (Nat×Sm)->dQ
 | [],_=>none
 |(k,s)::l,t=>match Nat.beq k t with
  |true=>some s
  |false=>cJ l t
def gX (P:Program):List (Nat×Sm)->Prop
 | []=>True
 |(k,s)::l=>FC P k s.F/\ gX P l
theorem gC {P:Program}: ∀{l:List (Nat×Sm)},gX P l->lH P (cJ l)
 | [],_,f,sm,h=>by simp [cJ] at h
 |(k,s)::l,c6,f,sm,h=>by
  simp only [cJ] at h;split at h
  . rename_i hk
    have:=Nat.eq_of_beq_eq_true hk
    subst this;simp at h;subst h
    exact c6.1
  . exact gC c6.2 f sm h
theorem aEK {P : Program} {f : Nat} {fn : Func} (hf : P.funcs[f]? = some fn) (hb : fn.body.isSome = true) (hn : (fn.name == "runtime.NumGoroutine") = false) : aAV P f := by
 cases hc:fn.body with
 |none=>rw [hc] at hb;simp at hb
 |some c=>exact ⟨fn,c,hf,hc,hn⟩
theorem aE {P : Program} {x : TT} (hx : x.ok P) {l : List (Nat × Sm)} (hl : gX P l) {f : Nat} {fn : Func} (hf : P.funcs[f]? = some fn) (db : (fn.name == "runtime.NumGoroutine") = false)
 (b7:P.follows .mixedOrders=true) (fr:Bool) {as:List Ar} {r:Rt} {us:List (Option (Nat->List DV))}
 (hk:vcF P x.get (cJ l) (fun base=>jK P (cJ l) base) fr fn as fun r' us'=>vM r' r/\ kK (dE as) us' us):aU P f as r us:=
 aU2 (TT.tysOk hx) (TT.zeros hx) (gC hl) b7 (fun base=>nX (gC hl) base) hf db hk
theorem bDj {P : Program} {x : TT} (hx : x.ok P) {l : List (Nat × Sm)} (hl : gX P l) {f : Nat} {fn : Func} (hf : P.funcs[f]? = some fn) (db : (fn.name == "runtime.NumGoroutine") = false)
 (b7:P.follows .mixedOrders=true) (fr:Bool) {as:List Ar} {r:Rt} {us:List (Option (Nat->List DV))}
 (hk:aNa P x.get (cJ l) (fun base=>jK P (cJ l) base) fr fn as fun r' us'=>vM r' r/\ kK (dE as) us' us):aU P f as r us:=
 aUH (TT.tysOk hx) (TT.zeros hx) (gC hl) b7 (fun base=>nX (gC hl) base) hf db hk
def aHx:List Va->Tm
 | [x]=> .va x
 |xs=> .tup xs
def aHy (τ:bF) (rs:List ResultVar) (ts:List (Nat×Tm)) (m:Nat) (K:Tm->St->Prop):Exit->St->Prop
 | .ret,⟨ts',h,n,m'⟩=>aBa τ ⟨ts',h,n,m'⟩ rs fun xs=>K (aHx xs) ⟨ts,h,n,m⟩
 | .normal,⟨ts',h,n,m'⟩=>aBa τ ⟨ts',h,n,m'⟩ rs fun xs=>K (aHx xs) ⟨ts,h,n,m⟩
 |_,_=>False
section
variable {P:Program} {τ:bF} {base:Nat}
theorem aYe {ψ:aJ} {S:Nat->Prop} {w:World} {xs:List Va} {vs:List Value} (h:aG (bB P ψ S w) xs vs):dL P ψ S w (aHx xs) (aEd vs):=by
 match xs,vs,h with
 | [],[],h=>exact ⟨#[],rfl,h⟩
 | [x],[v],h=>exact h.1
 |x::y::xs,v::u::vs,h=>exact ⟨(v::u::vs).toArray,rfl,h⟩
theorem aNH (ab:bE P τ)
 {f : Nat} {fn : Func} {c : Code} (hf : P.funcs[f]? = some fn) (hb : fn.body = some c) (db : (fn.name == "runtime.NumGoroutine") = false) {bk : List Va} {ts : List (Nat × Tm)} {h : List (Nat × aB)} {n m : Nat} {K : Tm -> St -> Prop} (hlen : bk.length <= fn.ntmps)
 (hk:aO P n c ⟨nP 0 (bk.map .va),h,n,fn.ntmps⟩ (aHy τ fn.results.toList ts m K)):bM P base f bk ⟨ts,h,n,m⟩ K:=by
 refine ⟨fun ψ S w a ak a6 cr=> ?_⟩
 obtain ⟨nm,ui,targs,params,zu,nfree,ntmps,rs,body,nr,ours,file,el,ln,met,tn⟩:=fn
 have hb:body=some c:=hb
 subst hb;have FB:=cr.length
 have hlen:bk.length<=ntmps:=hlen
 refine .inl ⟨⟨_,c,hf,rfl,db⟩,calls_of_wp hf rfl ?_⟩
 have fl:aC P n ψ S w ⟨nP 0 (bk.map .va),h,n,ntmps⟩ {tmps:=ak.toArray++Array.replicate (ntmps-ak.toArray.size) undef,defers:= []}:=
  ⟨Nat.le_refl _,a6.sim,by simp;omega,rfl,fun t=>aN6 cr ntmps t⟩
 refine wp_mono (hk.run _ S w _ fl) ?_
 rintro e a' w' ⟨⟨ts',h',n',m'⟩,aa,S',hq,cg,he⟩
 have A2: ∀k l,ψ k=some l->k<n:=fun k l hk=>by
  rcases Nat.lt_or_ge k n with h1|h1
  . exact h1
  . have:=a6.sim.dom k h1
    rw [hk] at this;cases this
 have uf:cH ψ aa:=fun k l hk=>by rw [he.agr k (A2 k l hk)];exact hk
 have main:aBa τ ⟨ts',h',n',m'⟩ rs.toList (fun xs=>K (aHx xs) ⟨ts,h',n',m⟩)->
  a'.defers= []/\ ∃v,(results ⟨nm,ui,targs,params,zu,nfree,ntmps,rs,some c,nr,ours,file,el,ln,met,tn⟩ a'.tmps).run P w'= .ok v w'/\
   ∃r st' v' aa S',Ending.returned v= .returned v'/\ K r st'/\ aC P base aa S' w' st' a/\ dL P aa S' w' r v'/\ aI base ψ S w aa S' w':=by
  intro hq;refine ⟨cg.defers, ?_⟩
  obtain ⟨xs,vs,k1,k2,k3⟩:=aIl ab cg hq
  refine ⟨_,aNM k3,_,_,_,aa,S',rfl,k2,⟨Nat.le_trans a6.bas cg.bas,cg.sim,a6.lim,a6.defers,fun t=>(a6.tmps t).later uf he.later⟩,aYe k1, ?_⟩
  exact ⟨he.os,he.tape,he.output,he.grow,he.old,he.later,he.newS,he.newP,fun k hk=>he.agr k (Nat.lt_of_lt_of_le hk a6.bas)⟩
 cases e with
 |normal=>exact main hq
 |ret=>exact main hq
 |exit id=>exact hq.elim
 |goto l=>exact hq.elim
 |panic ch=>exact hq.elim
 |outgrown=>exact hq.elim
theorem aU3 (ab:bE P τ) (hz: ∀t i,τ t=some i->cP i.zero) {Γ:dQ} (ck:lH P Γ) (b7:P.follows .mixedOrders=true) {calls:Nat->Nat->List Va->St->(Tm->St->Prop)->Prop} (ai: ∀base,iY P base (calls base))
 {f : Nat} {fn : Func} {c : Code} (hf : P.funcs[f]? = some fn) (hb : fn.body = some c) (db : (fn.name == "runtime.NumGoroutine") = false) {bk : List Va} {ts : List (Nat × Tm)} {h : List (Nat × aB)} {n m : Nat} {K : Tm -> St -> Prop} (hlen : bk.length <= fn.ntmps)
 (hk:vc P τ Γ (calls n) n c ⟨nP 0 (bk.map .va),h,n,fn.ntmps⟩ (aHy τ fn.results.toList ts m K)):bM P base f bk ⟨ts,h,n,m⟩ K:=by
 exact aNH ab hf hb db hlen (kT ab hz ck b7 (ai n) c _ _ hk)
end
theorem inl {P : Program} {x : TT} (hx : x.ok P) {l : List (Nat × Sm)} (hl : gX P l) {base f : Nat} {fn : Func} {c : Code} (hf : P.funcs[f]? = some fn) (hb : fn.body = some c) (db : (fn.name == "runtime.NumGoroutine") = false)
 (b7:P.follows .mixedOrders=true) {bk:List Va} {ts:List (Nat×Tm)} {h:List (Nat×aB)} {n m:Nat} {K:Tm->St->Prop} (hlen:Nat.ble bk.length fn.ntmps=true)
 (hk:vc P x.get (cJ l) (jK P (cJ l) n) n c ⟨nP 0 (bk.map .va),h,n,fn.ntmps⟩ (aHy x.get fn.results.toList ts m K)):bM P base f bk ⟨ts,h,n,m⟩ K:=
 aU3 (TT.tysOk hx) (TT.zeros hx) (gC hl) b7 (calls:=fun base=>jK P (cJ l) base) (fun base=>nX (gC hl) base) hf hb db (Nat.le_of_ble_eq_true hlen) hk
def bFk (P:Program) (τ:bF) (o:Oper) (st:St) (K:St->Prop):Prop:=
 match o.op with
 | .move x=>bG st o.dst (ev st x) K
 | .assign x=>bG st o.dst (ev st x) K
 | .indexAddr t x ix=>aAM τ t (ev st x) (ev st ix) fun y=>bG st o.dst y K
 | .slice t x lo hi mx=>match ev st x, !mx.isSome||hi.isSome with
   | .va (.c (.own _ _)),_=>False
   |x',true=>aBk τ t x' (lo.map (ev st)) (hi.map (ev st)) (mx.map (ev st)) fun y=>bG st o.dst y K
   |_,false=>False
 | .binOp op t x y _=>match cZ (ev st x),cZ (ev st y) with
   |some (.int k a),some (.int k' b)=>eF (dY P (do eqGuard op t x y (.int k a) (.int k' b);binOp op t (.int k a) (.int k' b))) fun y=>bG st o.dst y K
   |_,_=>False
 |_=>False
def aCr (P:Program) (τ:bF) (calls:Nat->List Va->St->(Tm->St->Prop)->Prop) (ops:List Oper) (i:Nat) (st:St) (K:St->Prop):Prop:=
 match ops[i]? with
 |none=>False
 |some o=>match o.guard with
  |none=>sZ P τ calls o st K
  |some (j,want)=>match nG ops j with
   |none=>False
   |some s=>sU st s fun st b=>match b==some want with
    |true=>sZ P τ calls o st K
    |false=>bG st o.dst kU K
section
variable {P:Program} {τ:bF} {Γ:dQ} {base:Nat} {ψ aa:aJ} {S S':Nat→Prop} {w w':World} {st st1:St} {a:Act} {o:Oper} {K:St→Prop}
theorem aZ8 (ab:bE P τ) (hz: ∀t i,τ t=some i->cP i.zero) {calls:Nat->List Va->St->(Tm->St->Prop)->Prop} (ai:iY P base calls) {ops:Array Oper} {i:Nat}
 (a6:aC P base ψ S w st a) (hk:aCr P τ calls ops.toList i st K) {Q:Exit->Act->World->Prop} {next:Act->World->Prop}
 (hn: ∀st' aa S' w' a',K st'->aC P base aa S' w' st' a'->aI base ψ S w aa S' w'->next a' w'):wpOp P ops Q i next a w:=by
 unfold aCr at hk;unfold wpOp;rw [<-Array.getElem?_toList];split at hk
 . exact hk.elim
 . rename_i o ho
   rw [ho];simp only
   split at hk
   . rename_i hg
     have:Region.wanted o (yielded ops a.tmps)=true:=j0x
     rw [if_pos this];exact .inl (aFJ ab hz ai a6 hk _ _ hn)
   . rename_i j want hg
     split at hk
     . exact hk.elim
     . rename_i s hs
       obtain ⟨st',b,hk,cn,hb,_⟩:=aAT a6 hk
       have hy:yielded ops a.tmps j=b:=by
        have hd:(ops[j]?).bind (·.dst)=some s:=by
         unfold nG at hs;rw [Array.getElem?_toList] at hs;split at hs
         . rename_i hj;rw [hj];exact hs
         . simp at hs
        simp only [yielded,hd,Option.bind_some];rw [<-hb];split<;>simp_all
       split at hk
       . rename_i he
         have:Region.wanted o (yielded ops a.tmps)=true:=j0l
         rw [if_pos this];exact .inl (aFJ ab hz ai cn hk _ _ hn)
       . rename_i he
         have: ¬Region.wanted o (yielded ops a.tmps)=true:=u9
         rw [if_neg this];obtain ⟨st2,h1,h2⟩:=qT (v:=undef) hk cn rfl
         exact hn _ _ _ _ _ h1 h2 (aI.refl _ _ _ _)
end
def iT:Tm->Int
 | .va (.c (.d (.v (.int _ n))))=>n
 |_=>0
def bT:Tm->Bool
 | .va (.c (.d (.v (.bool b))))=>b
 | .va (.c (.kb b))=>b
 |_=>false
def xU:aB->Nat->List DV
 | .row _ _ f=>f
 | .fzr _ _ f=>f
 |_=>fun _=> []
def fB {α:Type} (b:aB) (K:aB->α):α:=match b with
 | .cells cs=>tO cs fun cs=>K (.cells cs)
 | .row a n f=>K (.row a n f)
 | .fz ds=>oW ds fun ds=>K (.fz ds)
 | .fzr a n f=>K (.fzr a n f)
 | .it s p=>K (.it s p)
 | .map es bc=>fEs es fun es=>K (.map es bc)
 | .gone=>K .gone
theorem bDk {α:Type} (b:aB) (K:aB->α):fB b K=K b:=by
 cases b<;>simp only [fB,zJ,fJ,aR9]
def aAv (st:St):List Nat->(List Tm->Prop)->Prop
 | [],K=>K []
 |t::l,K=>fT (aV st.tmps t) fun x=>aAv st l fun xs=>K (x::xs)
def xV (st:St):List Nat->(List aB->Prop)->Prop
 | [],K=>K []
 |t::l,K=>fB (aF st.heap t) fun x=>xV st l fun xs=>K (x::xs)
theorem aDw (st:St): ∀(l:List Nat) (K:List Tm->Prop),aAv st l K=K (l.map (aV st.tmps))
 | [],_=>rfl
 |t::l,K=>by simp only [aAv,oL,aDw st l,List.map_cons]
theorem aBb (st:St): ∀(l:List Nat) (K:List aB->Prop),xV st l K=K (l.map (aF st.heap))
 | [],_=>rfl
 |t::l,K=>by simp only [xV,bDk,aBb st l,List.map_cons]
def aTg {X:Type} (base:Nat) (I:X->St) (μ:X->Nat) (Inv:X->Prop) (ts hs:List Nat) (nx:X->List Tm->List aB->X) (ids:List Nat) (nv:Nat) (Q:Exit->St->Prop) (x:X):Exit->St->Prop
 | .normal,st=>aAv st ts fun xs=>xV st hs fun bs=>Inv (nx x xs bs)/\ μ (nx x xs bs)<μ x/\ mL base ids nv st (I (nx x xs bs))
 | .exit i,st=>Q (.exit i) st
 | .goto i,st=>Q (.goto i) st
 | .ret,st=>Q .ret st
 |_,_=>False
theorem dM {P:Program} {t:TT} (ht:t.ok P) {l:List (Nat×Sm)} (hl:gX P l) (b7:P.follows .mixedOrders=true) {base:Nat} {c:Code} {Q:Exit->St->Prop} {st:St} {X:Type}
 (I:X->St) (μ:X->Nat) (Inv:X->Prop) (ts hs:List Nat) (nx:X->List Tm->List aB->X) (ids c7:List Nat) (nv qu:Nat) (x0:X) (h0:Inv x0) (ij:mL base c7 qu st (I x0))
 (round: ∀x,Inv x->vc P t.get (cJ l) (jK P (cJ l) base) base c (I x) (aTg base I μ Inv ts hs nx ids nv Q x)):aO P base (.loop c) st Q:=by
 refine aO.le c7 qu ij (aO.loop I μ Inv (fun x hx=> ?_) x0 h0)
 refine (kT (TT.tysOk ht) (TT.zeros ht) (gC hl) b7 (nX (gC hl) base) c _ _ (round x hx)).mono ?_
 intro e st' h
 cases e with
 |normal=>
  simp only [aTg,aDw,aBb] at h;exact ⟨_,h.1,h.2.1,ids,nv,h.2.2⟩
 |exit i=>exact h
 |goto i=>exact h
 |ret=>exact h
 |panic _=>exact h.elim
 |outgrown=>exact h.elim
theorem aEL {P:Program} {S:Nat->Prop} {w:World} {as:List Ar} {vs:List Value} {ls:List Loc} (h:cC P S w as vs ls) (h0:dE as= []):ls= []:=by
 have:=(aJ6 (ψ:=lZ 0 ls) as vs ls 0 h (fun j l hj=>by simpa [lZ] using hj)).2.2
 rw [h0] at this;exact List.eq_nil_of_length_eq_zero this
theorem aU.of_eq {P:Program} {f:Nat} {as as':List Ar} {r:Rt} (he:uS as as') (h0:dE as= []) (h1:dE as'= []) (h:aU P f as' r []):aU P f as r []:=by
 intro S w ak ls hS hr gf;have e:=aEL hr h0
 subst e;obtain ⟨b6,g1,_⟩:=uS.rep he hr
 have e:=aEL g1 h1
 subst e;refine (h S w ak [] hS g1 trivial).mono ?_
 rintro e w' ⟨v,S',b6,k1,k2,k3,k4,k5⟩
 exact ⟨v,S',b6,k1,k2,by rw [h0];rw [h1] at k3;exact k3,k4,k5⟩
section
variable {P:Program} {base:Nat} {a:Act} {w:World}
theorem aU4 {c rest:Code} {Q:Exit->Act->World->Prop} (l:Nat) (J:Nat->Act->World->Prop) (hf:findLabel c l=some rest)
 (first:c.wp P (Exit.jump l (fun a w=> ∃n,J n a w) Q) a w)
 (pass: ∀n a w,J n a w->rest.wp P (Exit.jump l (fun a' w'=> ∃n',n'<n/\ J n' a' w') Q) a w):(Code.scope c).wp P Q a w:=by
 intro b k cs;have hg:gotoIn l (.inScope c::k)=some (.code rest:: .inScope c::k):=by simp [gotoIn,hf]
 have key: ∀n a w,J n a w-> ∃e a' w',Q e a' w'/\ Arrives P (lone (b.at a (.code rest:: .inScope c::k)) cs w) b k cs e a' w':=by
  intro n
  induction n using Nat.strongRecOn with
  |_ n ih=>
   intro a w hJ;obtain ⟨e,dr,dt,hq,bm⟩:=pass n a w hJ b (.inScope c::k) cs
   cases e with
   |normal=>exact ⟨.normal,dr,dt,hq,Steps.trans bm (.one step_inScope)⟩
   |exit id=>exact ⟨.exit id,dr,dt,hq,fun k' hk=>bm k' (by simp [exitTo,hk])⟩
   |goto l'=>
    obtain ⟨rfl,n',hlt,Cp⟩:=hq
    obtain ⟨uk,um,uo,pt,jr⟩:=ih n' hlt dr dt Cp
    exact ⟨uk,um,uo,pt,.of_steps (bm _ hg) jr⟩
   |ret=>exact ⟨_,dr,dt,hq,bm⟩
   |panic ch=>exact ⟨_,dr,dt,hq,bm⟩
   |outgrown=>exact ⟨_,dr,dt,hq,bm⟩
 obtain ⟨e,dr,dt,hq,bm⟩:=first b (.inScope c::k) cs
 cases e with
 |normal=>exact ⟨.normal,dr,dt,hq,.head step_scope (Steps.trans bm (.one step_inScope))⟩
 |exit id=>exact ⟨.exit id,dr,dt,hq,fun k' hk=> .head step_scope (bm k' (by simp [exitTo,hk]))⟩
 |goto l'=>
  obtain ⟨rfl,n',Cp⟩:=hq
  obtain ⟨uk,um,uo,pt,jr⟩:=key n' dr dt Cp
  exact ⟨uk,um,uo,pt,.of_steps (.head step_scope (bm _ hg)) jr⟩
 |ret=>exact ⟨_,dr,dt,hq,.of_steps (.one step_scope) bm⟩
 |panic ch=>exact ⟨_,dr,dt,hq,.of_steps (.one step_scope) bm⟩
 |outgrown=>exact ⟨_,dr,dt,hq,.of_steps (.one step_scope) bm⟩
def aLX {X:Type} (base:Nat) (l:Nat) (I:X->St) (Ok:X->Prop) (Q:Exit->St->Prop):Exit->St->Prop
 | .goto l',st=>l'=l/\ ∃x',Ok x'/\ ∃ids nv,mL base ids nv st (I x')
 |e,st=>Q e st
theorem aO.scope {c rest:Code} {Q:Exit->St->Prop} {st:St} {X:Type} (l:Nat) (hf:findLabel c l=some rest) (I:X->St) (μ:X->Nat) (Inv:X->Prop) (first:aO P base c st (aLX base l I Inv Q))
 (round: ∀x,Inv x->aO P base rest (I x) (aLX base l I (fun x'=>Inv x'/\ μ x'<μ x) Q)):aO P base (.scope c) st Q:=by
 refine ⟨fun ψ S w a hr=> ?_⟩
 refine aU4 (P:=P) l (fun n a' w'=> ∃x aa S',Inv x/\ μ x=n/\ aC P base aa S' w' (I x) a'/\ aI base ψ S w aa S' w') hf ?_ ?_
 . refine wp_mono (first.run ψ S w a hr) ?_
   rintro e a2 w2 ⟨st2,az,S2,hq,c9,bp⟩
   cases e with
   |goto l'=>
    obtain ⟨rfl,x',hx',ids,nv,hle⟩:=hq
    obtain ⟨g1,g2⟩:=c9.le hle
    exact ⟨rfl,μ x',x',_,_,hx',rfl,g1,bp.trans g2⟩
   |normal=>exact ⟨st2,az,S2,hq,c9,bp⟩
   |exit id=>exact ⟨st2,az,S2,hq,c9,bp⟩
   |ret=>exact ⟨st2,az,S2,hq,c9,bp⟩
   |panic ch=>exact ⟨st2,az,S2,hq,c9,bp⟩
   |outgrown=>exact ⟨st2,az,S2,hq,c9,bp⟩
 . rintro n a1 w1 ⟨x,fm,S1,hx,rfl,du,fo⟩
   refine wp_mono ((round x hx).run fm S1 w1 a1 du) ?_
   rintro e a2 w2 ⟨st2,az,S2,hq,c9,bp⟩
   cases e with
   |goto l'=>
    obtain ⟨rfl,x',⟨hx',hlt⟩,ids,nv,hle⟩:=hq
    obtain ⟨g1,g2⟩:=c9.le hle
    exact ⟨rfl,μ x',hlt,x',_,_,hx',rfl,g1,(fo.trans bp).trans g2⟩
   |normal=>exact ⟨st2,az,S2,hq,c9,fo.trans bp⟩
   |exit id=>exact ⟨st2,az,S2,hq,c9,fo.trans bp⟩
   |ret=>exact ⟨st2,az,S2,hq,c9,fo.trans bp⟩
   |panic ch=>exact ⟨st2,az,S2,hq,c9,fo.trans bp⟩
   |outgrown=>exact ⟨st2,az,S2,hq,c9,fo.trans bp⟩
def aEh {X:Type} (base l:Nat) (I:X->St) (Ok:X->Prop) (ts hs:List Nat) (nx:List Tm->List aB->X) (ids:List Nat) (nv:Nat) (Q:Exit->St->Prop):Exit->St->Prop
 | .normal,st=>Q .normal st
 | .exit i,st=>Q (.exit i) st
 | .goto i,st=>match Nat.beq i l with
   |true=>aAv st ts fun xs=>xV st hs fun bs=>Ok (nx xs bs)/\ mL base ids nv st (I (nx xs bs))
   |false=>False
 | .ret,st=>Q .ret st
 |_,_=>False
theorem aEh.q {X:Type} {l:Nat} {I:X->St} {Ok:X->Prop} {ts hs:List Nat} {nx:List Tm->List aB->X} {ids:List Nat} {nv:Nat} {Q:Exit->St->Prop} {e:Exit} {st:St}
 (h:aEh base l I Ok ts hs nx ids nv Q e st):aLX base l I Ok Q e st:=by
 cases e with
 |goto i=>
  simp only [aEh] at h;split at h
  . rename_i hb
    simp only [aDw,aBb] at h;exact ⟨Nat.eq_of_beq_eq_true hb,_,h.1,ids,nv,h.2⟩
  . exact h.elim
 |normal=>exact h
 |exit i=>exact h
 |ret=>exact h
 |panic _=>exact h.elim
 |outgrown=>exact h.elim
theorem aJj {t:TT} (ht:t.ok P) {ls:List (Nat×Sm)} (hl:gX P ls) (b7:P.follows .mixedOrders=true) {c rest:Code} {Q:Exit->St->Prop} {st:St} {X:Type}
 (l:Nat) (hf:findLabel c l=some rest) (I:X->St) (μ:X->Nat) (Inv:X->Prop) (ts hs:List Nat) (FF:List Tm->List aB->X) (nx:X->List Tm->List aB->X) (ids c7:List Nat) (nv qu:Nat)
 (first:vc P t.get (cJ ls) (jK P (cJ ls) base) base c st (aEh base l I Inv ts hs FF c7 qu Q))
 (round: ∀x,Inv x->vc P t.get (cJ ls) (jK P (cJ ls) base) base rest (I x) (aEh base l I (fun x'=>Inv x'/\ μ x'<μ x) ts hs (nx x) ids nv Q)):aO P base (.scope c) st Q:=by
 refine aO.scope l hf I μ Inv ?_ fun x hx=> ?_
 . exact (kT (TT.tysOk ht) (TT.zeros ht) (gC hl) b7 (nX (gC hl) base) c _ _ first).mono fun e st' h=>h.q
 . exact (kT (TT.tysOk ht) (TT.zeros ht) (gC hl) b7 (nX (gC hl) base) rest _ _ (round x hx)).mono fun e st' h=>h.q
theorem aPS {P:Program} {f:Nat} {F:List Ar->Option Rs} (h: ∀as pre r us,F as=some ⟨pre,r,us⟩->pre->
 ∃(vs:List Value) (v:Value),as=vs.map (fun x=>Ar.c (.d (.v x)))/\ us= []/\ (∀w,(callFunc f vs.toArray).run P w= .ok (.value v) w)/\ ∀S w,oO P S w r v []):FC P f F:=by
 intro as pre r us hF dO S w ak ls hS hr gf;obtain ⟨vs,v,rfl,rfl,bd,bh⟩:=h _ _ _ _ hF dO
 have kr: ∀(vs:List Value),dE (vs.map fun x=>Ar.c (.d (.v x)))= []:=by
  intro vs
  induction vs with
  |nil=>rfl
  |cons v vs ih=>simp [dE,pR,jJ,ih]
 have e:=aEL hr (kr vs)
 subst e;have hv:ak=vs:=by
  clear bd hF kr
  induction vs generalizing ak with
  |nil=>cases ak with|nil=>rfl|cons _ _=>simp [cC] at hr
  |cons x vs ih=>cases ak with
   |nil=>simp [cC] at hr
   |cons u ak=>
    simp only [List.map_cons,cC] at hr;obtain ⟨l1,l2,e,h1,h2⟩:=hr
    obtain ⟨rfl,rfl⟩:=List.append_eq_nil_iff.1 e.symm
    have h1:bC S w [.d (.v x)] [u] []:=h1
    have h1:aZ S w (.v x) u:=h1.1
    cases h1;rw [ih _ h2]
 subst hv;refine .inr ⟨v,w,bd w,v,S,[],rfl,bh S w, ?_,trivial,⟨rfl,rfl,rfl,Nat.le_refl _,fun _ _ _=>rfl,cT.refl _ _,fun _ h=> .inl h,fun b hb=> .inl hb,hS⟩⟩
 rw [kr];trivial
end
def oI:Tm->Nat
 | .va (.c (.osl k _ _ _))=>k
 | .va (.c (.own k _))=>k
 |_=>0
def aTh {X:Type} (base:Nat) (I:X->St) (μ:X->Nat) (Inv:X->Prop) (ts hs:List Nat) (nx:X->List Tm->List aB->X) (ids:List Tm->List Nat) (nv:Nat) (Q:Exit->St->Prop) (x:X):Exit->St->Prop
 | .normal,st=>aAv st ts fun xs=>xV st hs fun bs=>Inv (nx x xs bs)/\ μ (nx x xs bs)<μ x/\ mL base (ids xs) nv st (I (nx x xs bs))
 | .exit i,st=>Q (.exit i) st
 | .goto i,st=>Q (.goto i) st
 | .ret,st=>Q .ret st
 |_,_=>False
theorem yU {P:Program} {t:TT} (ht:t.ok P) {l:List (Nat×Sm)} (hl:gX P l) (b7:P.follows .mixedOrders=true) {base:Nat} {c:Code} {Q:Exit->St->Prop} {st:St} {X:Type}
 (I:X->St) (μ:X->Nat) (Inv:X->Prop) (ts hs:List Nat) (nx:X->List Tm->List aB->X) (ids:List Tm->List Nat) (c7:List Nat) (nv qu:Nat) (x0:X) (h0:Inv x0) (ij:mL base c7 qu st (I x0))
 (round: ∀x,Inv x->vc P t.get (cJ l) (jK P (cJ l) base) base c (I x) (aTh base I μ Inv ts hs nx ids nv Q x)):aO P base (.loop c) st Q:=by
 refine aO.le c7 qu ij (aO.loop I μ Inv (fun x hx=> ?_) x0 h0)
 refine (kT (TT.tysOk ht) (TT.zeros ht) (gC hl) b7 (nX (gC hl) base) c _ _ (round x hx)).mono ?_
 intro e st' h
 cases e with
 |normal=>
  simp only [aTh,aDw,aBb] at h;exact ⟨_,h.1,h.2.1,_,nv,h.2.2⟩
 |exit i=>exact h
 |goto i=>exact h
 |ret=>exact h
 |panic _=>exact h.elim
 |outgrown=>exact h.elim
open Go.ChangeShapes Go.WideShapes Go.RowKit
def aEv {H:Type} (R:TypeId->List DV->DataW H->Prop):List Field->List DV->List (DataW H)->Prop
 | [],cs,xs=>cs= []/\ xs= []
 |f::fs,cs,xs=> ∃c1 c2 x ga,cs=c1++c2/\ xs=x::ga/\ R f.type c1 x/\ aEv R fs c2 ga
def Rd {H:Type} (τ:bF):Nat->TypeId->List DV->DataW H->Prop
 |0,_,_,_=>False
 |n+1,t,cs,d=>match τ t with
  |none=>False
  |some ⟨desc,_,_,_⟩=>match desc with
   | .bool=> ∃b,cs= [.v (.bool b)]/\ d= .lit (.bool b)
   | .int k=> ∃i,cs= [.v (.int k i)]/\ (Lit.int k i).wf=true/\ d= .lit (.int k i)
   | .float k=> ∃i,cs= [.v (.float k i)]/\ (Lit.float k i).wf=true/\ d= .lit (.float k i)
   | .string=> ∃s,cs= [.v (.string s)]/\ s.size<=maxLen/\ d= .lit (.string s.data.toList)
   | .slice e=> ∃sz m f,cs= [.lst sz m f]/\ (match τ e with|some ⟨_,cd,_,_⟩=>sz=cd|none=>False)/\ m<=maxLen/\
      ((m=0/\ d= .nil) \/ ∃xs spare,d= .slice xs spare/\ xs.length=m/\ ∀(i:Nat) (x:DataW H),xs[i]? =some x->Rd τ n e (f i) x)
   | .struct fs=> ∃xs,d= .agg xs/\ aEv (Rd τ n) fs.toList cs xs
   |_=>False
def aAw {H:Type} (τ:bF) (n:Nat) (t:TypeId) (a:Ar) (d:DataW H):Prop:=match τ t with
 |none=>False
 |some ⟨desc,_,_,_⟩=>match jZ desc with
  |true=> ∃ds:List DV,a= .agg (ds.map .d)/\ Rd τ n t ds d
  |false=> ∃x,a= .c (.d x)/\ Rd τ n t [x] d
def aEi {H:Type} (τ:bF) (n:Nat):List TypeId->List Ar->List (DataW H)->Prop
 | [],as,ds=>as= []/\ ds= []
 |t::ts,as,ds=> ∃a as' d xt,as=a::as'/\ ds=d::xt/\ aAw τ n t a d/\ aEi τ n ts as' xt
def aDQ (τ:bF) (ok:TypeId->Bool):Nat->List Field->Nat->Bool
 |o,[],total=>Nat.beq o total
 |o,f::fs,total=>match τ f.type with
  |some ⟨_,sz,_,_⟩=>Nat.beq f.offset o&&ok f.type&&aDQ τ ok (o+sz) fs total
  |none=>false
def aJk (τ:bF) (ts:List TypeId):Bool:=ts.all fun t=>match τ t with
 |some ⟨.bool,sz,_,_⟩=>Nat.beq sz 1
 |some ⟨.int _,sz,_,_⟩=>Nat.beq sz 1
 |some ⟨.float _,sz,_,_⟩=>Nat.beq sz 1
 |some ⟨.string,sz,_,_⟩=>Nat.beq sz 1
 |some ⟨.slice e,sz,_,_⟩=>Nat.beq sz 1&&ts.contains e&&(match τ e with|some ⟨_,cd,_,_⟩=>Nat.blt 0 cd|none=>false)
 |some ⟨.struct fs,sz,_,_⟩=>aDQ τ ts.contains 0 fs.toList sz
 |_=>false
section
variable {P:Program} {τ:bF} {H:Type} {enc:TypeId×Value→H} {w:World} {sp:Nat→Bool}
theorem aLY: ∀{n:Nat} {t:TypeId} {cs:List DV} {d:DataW H},Rd τ n t cs d->Rd τ (n+1) t cs d
 |0,_,_,_,h=>h.elim
 |n+1,t,cs,d,h=>by
  have DW: ∀(fs:List Field) (cs:List DV) (xs:List (DataW H)),aEv (Rd τ n) fs cs xs->aEv (Rd τ (n+1)) fs cs xs:=by
   intro fs
   induction fs with
   |nil=>intro cs xs h;exact h
   |cons f fs ih=>
    rintro cs xs ⟨c1,c2,x,ga,h1,h2,h3,h4⟩
    exact ⟨c1,c2,x,ga,h1,h2,aLY h3,ih _ _ h4⟩
  rw [Rd] at h⊢;cases ht:τ t with
  |none=>rw [ht] at h;exact h.elim
  |some ti=>
   rw [ht] at h;obtain ⟨desc,size,bytes,z⟩:=ti
   simp only at h⊢
   cases desc with
   |slice e=>
    obtain ⟨sz,m,f,h1,h2,h3,h4⟩:=h
    refine ⟨sz,m,f,h1,h2,h3, ?_⟩
    rcases h4 with h4|⟨xs,spare,h5,h6,h7⟩
    . exact .inl h4
    . exact .inr ⟨xs,spare,h5,h6,fun i x hx=>aLY (h7 i x hx)⟩
   |struct fs=>obtain ⟨xs,h1,h2⟩:=h;exact ⟨xs,h1,DW _ _ _ h2⟩
   |_=>exact h
theorem aLZ {n m:Nat} (qw:n<=m) {t:TypeId} {cs:List DV} {d:DataW H} (h:Rd τ n t cs d):Rd τ m t cs d:=by
 induction m with
 |zero=>
  have:n=0:=j3
  subst this;exact h
 |succ m ih=>
  rcases Nat.lt_or_eq_of_le qw with h1|rfl
  . exact aLY (ih j3)
  . exact h
theorem aJl {n m:Nat} (qw:n<=m): ∀{ts:List TypeId} {as:List Ar} {ds:List (DataW H)},aEi τ n ts as ds->aEi τ m ts as ds
 | [],_,_,h=>h
 |t::ts,as,ds,h=>by
  obtain ⟨a,as',d,xt,h1,h2,h3,h4⟩:=h
  refine ⟨a,as',d,xt,h1,h2, ?_,aJl qw h4⟩
  unfold aAw at h3⊢
  split
  . rename_i ht;rw [ht] at h3;exact h3
  . rename_i desc _ _ _ ht
    rw [ht] at h3;simp only at h3
    split
    . rename_i hw;rw [hw] at h3;obtain ⟨ds,e,h⟩:=h3;exact ⟨ds,e,aLZ qw h⟩
    . rename_i hw;rw [hw] at h3;obtain ⟨x,e,h⟩:=h3;exact ⟨x,e,aLZ qw h⟩
theorem aJ7 (ab:bE P τ) {ts:List TypeId} (hts:aJk τ ts=true): ∀(n:Nat) (t:TypeId) (cs:List Value) (x:DataW H×List MemPlace),t∈ts->DataW.trod enc P w 0 sp true n t cs=some x->
 ∃ds,aG (aZ (fun b=>b<w.heap.size) w) ds cs/\ Rd τ n t ds x.1
 |0,t,cs,x,_,h=>by simp [DataW.trod] at h
 |n+1,t,cs,x,ht,h=>by
  have hc:=(List.all_eq_true.1 hts) t ht
  cases uq:τ t with
  |none=>rw [uq] at hc;simp at hc
  |some ti=>
   obtain ⟨info,ed,hu,hsz,hby,hz⟩:=ab.ok t _ uq
   obtain ⟨desc,size,bytes,z⟩:=ti
   rw [uq] at hc;simp only at hc hu hsz
   have bq:P.cellsOf t=size:=by simp [Program.cellsOf,ed,hsz]
   simp only [Rd,uq];unfold DataW.trod at h;rw [hu] at h;cases desc with
   |bool=>
    rcases cs with _|⟨c,_|⟨c2,rest⟩⟩
    . simp at h
    . cases c with
      |bool b=>
       simp only [Option.some.injEq] at h;exact ⟨[.v (.bool b)],⟨.v trivial,trivial⟩,b,rfl,by rw [<-h]⟩
      |_=>simp at h
    . simp at h
   |int k=>
    rcases cs with _|⟨c,_|⟨c2,rest⟩⟩
    . simp at h
    . cases c with
      |int k' i=>
       simp only [Option.ite_none_right_eq_some,Option.some.injEq] at h;obtain ⟨⟨rfl,hw⟩,h⟩:=h
       exact ⟨[.v (.int _ i)],⟨.v trivial,trivial⟩,i,rfl,hw,by rw [<-h]⟩
      |_=>simp at h
    . simp at h
   |float k=>
    rcases cs with _|⟨c,_|⟨c2,rest⟩⟩
    . simp at h
    . cases c with
      |float k' i=>
       simp only [Option.ite_none_right_eq_some,Option.some.injEq] at h;obtain ⟨⟨rfl,hw⟩,h⟩:=h
       exact ⟨[.v (.float _ i)],⟨.v trivial,trivial⟩,i,rfl,hw,by rw [<-h]⟩
      |_=>simp at h
    . simp at h
   |string=>
    rcases cs with _|⟨c,_|⟨c2,rest⟩⟩
    . simp at h
    . cases c with
      |string s=>
       simp only [Option.ite_none_right_eq_some,Option.some.injEq] at h;obtain ⟨hs,h⟩:=h
       exact ⟨[.v (.string s)],⟨.v trivial,trivial⟩,s,rfl,hs,by rw [<-h]⟩
      |_=>simp at h
    . simp at h
   |slice e=>
    simp only [Bool.and_eq_true,List.contains_iff_mem] at hc;obtain ⟨⟨_,he⟩,hpos⟩:=hc
    cases bw:τ e with
    |none=>rw [bw] at hpos;simp at hpos
    |some te=>
     rw [bw] at hpos;obtain ⟨Gu,fo,_,Bp,_⟩:=ab.ok e _ bw
     obtain ⟨FG,gm,Ek,ze⟩:=te
     simp only at hpos Bp
     have hpos:0<gm:=j0j
     have A3:P.cellsOf e=gm:=by simp [Program.cellsOf,fo,Bp]
     have main: ∀(a:Addr) (len cap:Nat),cs= [.slice (some a) len cap]-> ∃ds,aG (aZ (fun b=>b<w.heap.size) w) ds cs/\ ∃sz m f,ds= [.lst sz m f]/\ (match τ e with|some ⟨_,cd,_,_⟩=>sz=cd|none=>False)/\ m<=maxLen/\
      ((m=0/\ x.1= .nil) \/ ∃xs spare,x.1= .slice xs spare/\ xs.length=m/\ ∀(i:Nat) (x:DataW H),xs[i]? =some x->Rd τ n e (f i) x):=by
      intro a len cap hcs;subst hcs;simp only [A3] at h;split at h
      . rename_i hb
        obtain ⟨l5,au,ie⟩:=hb
        cases B1:(List.range len).mapM (fun i=>(w.cells? 0 (a.add (i*gm)) gm).bind (DataW.trod enc P w 0 sp true n e)) with
        |none=>rw [B1] at h;simp at h
        |some elems=>
         rw [B1] at h;simp only [Option.bind_some] at h;have hlen:elems.length=len:=by have:=mapM_some_length B1;simpa using this
         have cu: ∀i,i<len-> ∃y,elems[i]? =some y/\ (w.cells? 0 (a.add (i*gm)) gm).bind (DataW.trod enc P w 0 sp true n e)=some y:=by
          intro i hi;have h1:=mapM_some_get B1 i i (by simp [hi])
          have h2:elems[i]? =some (elems[i]'j3):=j8
          exact ⟨_,h2,by rw [h1,h2]⟩
         have hx1: ∃spare,x.1= .slice (elems.map (·.1)) spare:=by
          split at h
          all_goals
           obtain ⟨rest,_,h⟩:=Option.map_eq_some_iff.1 h
           exact ⟨_,by rw [<-h]⟩
         obtain ⟨spare,hx1⟩:=hx1
         rcases Nat.eq_zero_or_pos len with h0|hlpos
         . subst h0;have:elems= []:=List.eq_nil_of_length_eq_zero hlen
           subst this;exact ⟨[.lst gm 0 fun _=> []],⟨.nil,trivial⟩,gm,0,_,rfl,by rw [bw],Nat.zero_le _,.inr ⟨[],spare,hx1,rfl,by simp⟩⟩
         . -- the rows
           have b8: ∀i,i<len-> ∃(row:List Value) (ds:List DV) (y:DataW H×List MemPlace),elems[i]? =some y/\ row.length=gm/\ (∀j,j<gm->w.cell? ((a.add (i*gm)).add j)=row[j]?)/\
            aG (aZ (fun b=>b<w.heap.size) w) ds row/\ Rd τ n e ds y.1:=by
            intro i hi;obtain ⟨y,h1,h2⟩:=cu i hi
            obtain ⟨row,h3,h4⟩:=Option.bind_eq_some_iff.1 h2
            unfold World.cells? at h3
            rw [if_pos (Nat.zero_le _)] at h3;have h5:row.length=gm:=by have:=mapM_some_length h3;simpa using this
            obtain ⟨ds,h6,h7⟩:=aJ7 ab hts n e row y he h4
            exact ⟨row,ds,y,h1,h5,fun j hj=>mapM_some_get h3 j j (by simp [hj]),h6,h7⟩
           have Cq:a.spot=none/\ a.block<w.heap.size:=by
            obtain ⟨row,ds,y,_,h2,h3,_⟩:=b8 0 hlpos
            have h4:=h3 0 hpos
            have h5:row[0]? =some (row[0]'j3):=j8
            rw [h5] at h4;simp only [Nat.zero_mul,Addr.add,if_true] at h4;unfold World.cell? at h4
            split at h4
            . rename_i hh
              refine ⟨?_,(Array.getElem?_eq_some_iff.1 hh).1⟩
              cases FH:a.spot with
              |none=>rfl
              |some _=>rw [FH] at h4;simp at h4
            . simp at h4
           obtain ⟨b,off,spot⟩:=a
           obtain ⟨rfl,hblk⟩:=Cq
           have yd: ∀i j,((Addr.mk b off none).add (i*gm)).add j=⟨b,off+i*gm+j,none⟩:=by
            intro i j;by_cases h1:i*gm=0<;>by_cases h2:j=0<;>simp [Addr.add,h1,h2]
           have aSF: ∃(g:Nat->List Value) (f:Nat->List DV), ∀i,i<len-> ∃y,elems[i]? =some y/\ (g i).length=gm/\ (∀j,j<gm->w.cell? ⟨b,off+i*gm+j,none⟩=(g i)[j]?)/\
            aG (aZ (fun b=>b<w.heap.size) w) (f i) (g i)/\ Rd τ n e (f i) y.1:=by
            refine ⟨fun i=>if h:i<len then (b8 i h).choose else [],fun i=>if h:i<len then (b8 i h).choose_spec.choose else [],fun i hi=> ?_⟩
            simp only [dif_pos hi];obtain ⟨y,h1,h2,h3,h4,h5⟩:=(b8 i hi).choose_spec.choose_spec
            exact ⟨y,h1,h2,fun j hj=>by rw [<-yd];exact h3 j hj,h4,h5⟩
           obtain ⟨g,f,vt⟩:=aSF
           refine ⟨[.lst gm len f],⟨.lst (fun i j=>(g i).getD j undef) hblk ?_ ?_ ?_ au,trivial⟩,gm,len,f,rfl,by rw [bw],by omega,.inr ⟨_,spare,hx1,by simp [hlen], ?_⟩⟩
           . intro i hi;obtain ⟨y,_,h2,_,h4,_⟩:=vt i hi;rw [h4.length,h2]
           . intro i j hi hj;obtain ⟨y,_,h2,h3,_⟩:=vt i hi
             rw [h3 j hj];have:j<(g i).length:=j3
             simp [List.getD,this]
           . intro i j hi hj;obtain ⟨y,_,h2,_,h4,_⟩:=vt i hi
             have hl:=h4.length
             have DX:j<(f i).length:=j3
             obtain ⟨v,h5,h6⟩:=h4.get j ((f i)[j]) (by simp [DX])
             have Hb:j<(g i).length:=j3
             simpa [List.getD,DX,h5] using h6
           . intro i x' hx'
             have hi:i<len:=by
              have:=(List.getElem?_eq_some_iff.1 hx').1
              simpa [hlen] using this
             obtain ⟨y,h1,_,_,_,h5⟩:=vt i hi
             have:x'=y.1:=by
              rw [List.getElem?_map,h1] at hx'
              simpa using hx'.symm
             rw [this];exact h5
      . simp at h
     rcases cs with _|⟨c,_|⟨c2,rest⟩⟩
     . simp at h
     . cases c with
       |slice a len cap=>
        cases a with
        |some a=>exact main a len cap rfl
        |none=>cases len with
         |zero=>cases cap with
          |zero=>
           simp only [Option.some.injEq] at h;exact ⟨[.lst gm 0 fun _=> []],⟨.nil,trivial⟩,gm,0,_,rfl,by rw [bw],Nat.zero_le _,.inl ⟨rfl,by rw [<-h]⟩⟩
          |succ _=>simp at h
         |succ _=>simp at h
       |_=>simp at h
     . simp at h
   |struct fs=>
    simp only at hc
    simp only at h
    rw [bq] at h;split at h
    . rename_i hlen
      obtain ⟨xs,qp,hx⟩:=Option.map_eq_some_iff.1 h
      have go: ∀(l:List Field) (o:Nat) (ys:List (DataW H×List MemPlace)),aDQ τ ts.contains o l size=true->l.mapM (fun f=>DataW.trod enc P w 0 sp true n f.type ((cs.drop f.offset).take (P.cellsOf f.type)))=some ys->
       ∃ds,aG (aZ (fun b=>b<w.heap.size) w) ds (cs.drop o)/\ aEv (Rd τ n) l ds (ys.map (·.1)):=by
       intro l
       induction l with
       |nil=>
        intro o ys hp hm;simp only [aDQ] at hp;have:=Nat.eq_of_beq_eq_true hp
        simp at hm
        subst hm;exact ⟨[],by rw [List.drop_eq_nil_of_le j3];trivial,rfl,rfl⟩
       |cons f l ih=>
        intro o ys hp hm;simp only [aDQ] at hp;split at hp
        . rename_i d' cd _ _ FI
          simp only [Bool.and_eq_true,List.contains_iff_mem] at hp;obtain ⟨⟨h1,h2⟩,h3⟩:=hp
          have h1:=Nat.eq_of_beq_eq_true h1
          rw [List.mapM_cons] at hm;obtain ⟨y,hy,hm⟩:=Option.bind_eq_some_iff.1 hm
          obtain ⟨ff,iu,hm⟩:=Option.bind_eq_some_iff.1 hm
          simp only [Option.pure_def,Option.some.injEq] at hm;subst hm;obtain ⟨Gv,FJ,_,DY,_⟩:=ab.ok _ _ FI
          have FK:P.cellsOf f.type=cd:=by simp [Program.cellsOf,FJ,DY]
          rw [h1,FK] at hy;obtain ⟨C9,g1,g2⟩:=aJ7 ab hts n f.type _ y h2 hy
          obtain ⟨Ca,g3,g4⟩:=ih (o+cd) ff h3 iu
          refine ⟨C9++Ca, ?_,C9,Ca,y.1,ff.map (·.1),rfl,by simp,g2,g4⟩
          have:=g1.append g3
          rwa [<-List.drop_drop,List.take_append_drop] at this
        . simp at hp
      obtain ⟨ds,g1,g2⟩:=go fs.toList 0 xs hc qp
      refine ⟨ds,by simpa using g1,xs.map (·.1), ?_,g2⟩
      rw [<-hx]
    . simp at h
   |_=>simp at hc
theorem aO1: ∀{ds:List DV} {vs:List Value} {S:Nat->Prop},aG (aZ S w) ds vs->bC S w (ds.map Ic.d) vs []
 | [],[],_,_=>trivial
 |_::_,_::_,_,⟨h1,h2⟩=>And.intro h1 (aO1 h2)
theorem aOc (ab:bE P τ) {ts0:List TypeId} (hts:aJk τ ts0=true) {base:Nat}: ∀{ts:List TypeId} {vs:List Value} {ds:List (DataW H)} {ps:List MemPlace},(∀t∈ts,t∈ts0)->DataW.TrodAll enc P w 0 sp true ts vs ds ps->
 (∀(j:Nat) t v,ts[j]? =some t->vs[j]? =some v->Value.okWide P w .any base t v)-> ∃n as,cC P (fun b=>b<w.heap.size) w as vs []/\ aEi τ n ts as ds
 | [],[],[],_,_,_,_=>⟨0,[],rfl,rfl,rfl⟩
 | [],[],_::_,_,_,h,_=>h.elim
 | [],_::_,_,_,_,h,_=>h.elim
 |_::_,[],_,_,_,h,_=>h.elim
 |_::_,_::_,[],_,_,h,_=>h.elim
 |t::ts,v::vs,d::ds,ps,ee,h,c6=>by
  obtain ⟨p,q,⟨m,h1⟩,h2,rfl⟩:=h
  obtain ⟨n,as,g1,g2⟩:=aOc ab hts (base:=base) (fun t ht=>ee t (by simp [ht])) h2 (fun j t v a b=>c6 (j+1) t v (by simpa using a) (by simpa using b))
  obtain ⟨cs,g3,g4⟩:=aJ7 ab hts m t _ _ (ee t j8) h1
  have hv:=c6 0 t v j8 j8
  have hc:=(List.all_eq_true.1 hts) t (ee t j8)
  have g4:=aLZ (Nat.le_max_left m n) g4
  have g2:=aJl (Nat.le_max_right m n) g2
  have: ∃a,kE P (fun b=>b<w.heap.size) w a v []/\ aAw τ (max m n) t a d:=by
   unfold aAw;cases uq:τ t with
   |none=>rw [uq] at hc;simp at hc
   |some ti=>
    obtain ⟨info,ed,hu,hsz,hby,hz⟩:=ab.ok t _ uq
    obtain ⟨desc,size,bytes,z⟩:=ti
    simp only at hu⊢
    rw [uq] at hc;unfold Value.okWide at hv;rw [hu] at hv;have one:(∀arr,v≠ .agg arr)-> ∃x,kE P (fun b=>b<w.heap.size) w (.c (.d x)) v []/\ Rd τ (max m n) t [x] d:=by
     intro ag;have fk:v.cells.toList= [v]:=by cases v<;>first|rfl|exact absurd rfl (ag _)
     rw [fk] at g3;cases cs with
     |nil=>exact g3.elim
     |cons x xs=>cases xs with
      |cons _ _=>exact g3.2.elim
      |nil=>exact ⟨x,And.intro g3.1 trivial,g4⟩
    cases desc with
    |struct fs=>
     simp only at hv
     obtain ⟨arr,rfl,_⟩:=hv
     exact ⟨.agg (cs.map .d),⟨arr,rfl,aO1 g3⟩,cs,rfl,g4⟩
    |bool=>obtain ⟨x,a,b⟩:=one x3;exact ⟨_,a,x,rfl,b⟩
    |int k=>obtain ⟨x,a,b⟩:=one x3;exact ⟨_,a,x,rfl,b⟩
    |float k=>obtain ⟨x,a,b⟩:=one x3;exact ⟨_,a,x,rfl,b⟩
    |string=>obtain ⟨x,a,b⟩:=one x3;exact ⟨_,a,x,rfl,b⟩
    |slice e=>obtain ⟨x,a,b⟩:=one x3;exact ⟨_,a,x,rfl,b⟩
    |_=>simp at hc
  obtain ⟨a,g5,g6⟩:=this
  exact ⟨_,a::as,⟨[],[],rfl,g5,g1⟩,a,as,d,ds,rfl,rfl,g6,g2⟩
theorem aNy {W W':World} (hl:laidOutB P=true) (hb:Below W.heap.size W W') {se:Nat->Bool}: ∀{ts:List TypeId} {vs:List Value} {ds:List (DataW H)} {ps:List MemPlace},
 (∀t∈ts,P.readableRec t=true/\ t<P.types.size)->(∀p∈ps,p.block<W.heap.size)->(∀p∈ps,se p.block=true)->DataW.TrodAll enc P W 0 (fun _=>true) true ts vs ds ps->DataW.TrodAll enc P W' 0 se true ts vs ds ps
 | [],[],[],_,_,_,_,h=>h
 | [],[],_::_,_,_,_,_,h=>h.elim
 | [],_::_,_,_,_,_,_,h=>h.elim
 |_::_,[],_,_,_,_,_,h=>h.elim
 |_::_,_::_,[],_,_,_,_,h=>h.elim
 |t::ts,v::vs,d::ds,ps,hr,hlt,hs,h=>by
  obtain ⟨p,q,h1,h2,rfl⟩:=h
  refine ⟨p,q, ?_,aNy hl hb (fun t ht=>hr t (by simp [ht])) (fun x hx=>hlt x j0n) (fun x hx=>hs x j0n) h2,rfl⟩
  exact WideElems.Trod_stays hl (hr t j8).1 (hr t j8).2 h1 (fun x hx=>hb.same (hlt x j0n)) (fun x hx=>hs x j0n)
theorem aYf (ab:bE P τ) (hl:laidOutB P=true) {f:Nat} {fn:Func} {s:ChangeSpec} {ts0:List TypeId} (hts:aJk τ ts0=true) {tb:TypeId}
 (ee:fn.params.toList.all (fun t=>ts0.contains t)=true) (B2:fn.params.toList.all (fun t=>P.readableRec t&&decide (t<P.types.size))=true) (A1:fn.resultTypes= #[tb]) (FL:P.underlying tb=some .bool) (A4:s.vars= [])
 (Cr: ∀(H:Type) (ds:List (DataW H)),ds.length=fn.params.size->(s.fn H (ds++ [])).results= [.lit (.bool true)]/\ (s.fn H (ds++ [])).args=ds/\ (s.fn H (ds++ [])).vars= [])
 {W:World} {base:Nat} {args:Array Value} {ds gs:List (DataW H)} {before:List MemPlace}
 (hG:xO P (fun b=>b<W.heap.size) W) (AV:aAV P f) (vw: ∀n as,aEi τ n fn.params.toList as ds->aU P f as (.va (.c (.d (.v (.bool true))))) [])
 (kz: ∀(j:Nat) t v,fn.params[j]? =some t->args[j]? =some v->Value.okWide P W .any base t v)
 (hW:DataW.Whole enc P fn.params.toList s.vars false W args.toList ds gs before):
 Calls P f args W fun e W'=> ∃v,e= .returned v/\ s.post enc P fn false true false false W args v W':=by
 have Cs:=hW
 obtain ⟨p,q,hA,hV,rfl,FM,xu⟩:=hW
 rw [A4] at hV;have FO:gs= []/\ q= []:=by
  cases gs with
  |nil=>exact ⟨rfl,hV⟩
  |cons _ _=>exact hV.elim
 obtain ⟨rfl,rfl⟩:=FO
 simp only [List.append_nil] at Cs FM
 have hlt: ∀x∈p,x.block<W.heap.size:=fun x hx=>Cs.lt x hx
 have B2: ∀t∈fn.params.toList,P.readableRec t=true/\ t<P.types.size:=by
  simp only [List.all_eq_true,Bool.and_eq_true,decide_eq_true_eq] at B2;exact B2
 obtain ⟨n,as,h1,h2⟩:=aOc ab hts (base:=base) (by simp only [List.all_eq_true,List.contains_iff_mem] at ee;exact ee) hA (fun j t v a b=>kz j t v (by simpa using a) (by simpa using b))
 have hlen:ds.length=fn.params.size:=by
  have: ∀(ts:List TypeId) (vs:List Value) (ds:List (DataW H)) (ps:List MemPlace),DataW.TrodAll enc P W 0 (fun _=>true) true ts vs ds ps->ds.length=ts.length:=by
   intro ts
   induction ts with
   |nil=>intro vs ds ps h;cases vs<;>cases ds<;>first|rfl|exact h.elim
   |cons t ts ih=>intro vs ds ps h;cases vs<;>cases ds<;>first|exact h.elim|(obtain ⟨_,_,_,h,_⟩:=h;simp [ih _ _ _ h])
  simpa using this _ _ _ _ hA
 obtain ⟨e1,e2,e3⟩:=Cr H ds hlen
 have pg:=(vw n as h2 (fun b=>b<W.heap.size) W args.toList [] ⟨fun _ h=>h,hG⟩ h1 trivial).calls AV
 simp only [Array.toArray_toList] at pg;refine pg.mono ?_
 rintro e W' ⟨v,S',b6,rfl,hr,_,_,hx⟩
 have hb:Below W.heap.size W W':=⟨hx.os,hx.tape,hx.output,hx.grow,fun b hb=>hx.old b hb j1v⟩
 have hv:v= .bool true:=by
  have hr:bC S' W' [.d (.v (.bool true))] [v] b6:=hr
  have:=hr.1
  cases this;rfl
 subst hv;have av: ∀se:Nat->Bool,(∀x∈p,se x.block=true)->DataW.TrodAll enc P W' 0 se true fn.params.toList args.toList ds p:=fun se hs=>aNy hl hb B2 hlt hs hA
 have Cu: ∀(b:Nat) (se:Nat->Bool) (hd:Bool),DataW.TrodAll enc P W' b se hd fn.resultTypes.toList ((Value.bool true).resultList fn.resultTypes.size) [.lit (.bool true)] []:=by
  intro b se hd
  rw [A1];exact ⟨[],[],⟨1,by simp [DataW.trod,FL,Value.cells]⟩,rfl,rfl⟩
 have hold: ∀x∈p,(fun b=>decide (b<W.heap.size)) x.block=true:=fun x hx=>by simpa using hlt x hx
 refine ⟨_,rfl,ds,[],p,[],p,[],Cs, ?_,?_,?_,World.keptBut_mono (fun x hx=>hx) (hb.frame _),fun h=>by cases h⟩
 . rw [e1];exact Cu _ _ _
 . rw [e2];exact av _ hold
 . rw [e3,A4];rfl
end
end Go.Sx
