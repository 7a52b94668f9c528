/- What texts and rows of texts are, in plain words. No condition. -/
import Derived.Test.YtkfjfgabianfhaaGreatB5
import Derived.Lib.Bytealg
import Derived.Shelf.Small.Strs
set_option linter.all false
set_option maxHeartbeats 8000000
set_option maxRecDepth 100000
namespace Go.Proofs.YtkfjfgabianfhaaGreat
open Go.Sx
inductive DvE:DV->DV->Prop
 |refl (x:DV):DvE x x
 |nil {sz:Nat} {f:Nat->List DV}:DvE (.v (.slice none 0 0)) (.lst sz 0 f)
 |lst {sz n:Nat} {f g:Nat->List DV}:(∀i,i<n->(f i).length=(g i).length)->(∀(i j:Nat) (x y:DV),i<n->(f i)[j]? =some x->(g i)[j]? =some y->DvE x y)->DvE (.lst sz n f) (.lst sz n g)
theorem DvE.rep {S:Nat->Prop} {w:World} {x y:DV} (h:DvE x y): ∀{v:Value},RepD S w x v->RepD S w y v:=by
 induction h with
 |refl x=>exact fun h=>h
 |nil=>intro v hx;cases hx;exact .nil
 | @lst sz n f g hl hr ih=>
   intro v hx;cases hx with
   |nil=>exact .nil
   |lst c h1 h2 h3 h4 h5=>
    refine .lst c h1 (fun i hi=>by rw [<-hl i hi];exact h2 i hi) h3 (fun i j hi hj=> ?_) h5
    have e1:j<(f i).length:=by rw [h2 i hi];exact hj
    have e2:j<(g i).length:=by rw [<-hl i hi];exact e1
    have h:=h4 i j hi hj
    rw [List.getD_eq_getElem?_getD,List.getElem?_eq_getElem e1] at h;rw [List.getD_eq_getElem?_getD,List.getElem?_eq_getElem e2];exact ih i j _ _ hi (List.getElem?_eq_getElem e1) (List.getElem?_eq_getElem e2) h
def rowE (x y:List DV):Prop:=x.length=y.length/\ ∀(j:Nat) a b,x[j]? =some a->y[j]? =some b->DvE a b
theorem DvE.rows {sz n:Nat} {f g:Nat->List DV} (h: ∀i,i<n->rowE (f i) (g i)):DvE (.lst sz n f) (.lst sz n g):= .lst (fun i hi=>(h i hi).1) fun i j x y hi=>(h i hi).2 j x y
def icE:Ic->Ic->Prop
 | .d x,.d y=>DvE x y
 | .ow sz n f,.ow sz' n' g=>sz=sz'/\ n=n'/\ ∀i,i<n->rowE (f i) (g i)
 |_,_=>False
def icsE:List Ic->List Ic->Prop
 | [],[]=>True
 |x::xs,y::ys=>icE x y/\ icsE xs ys
 |_,_=>False
def arE:Ar->Ar->Prop
 | .c x,.c y=>icE x y
 | .agg xs,.agg ys=>icsE xs ys
 | .rp cs,.rp cs'=>cs=cs'
 | .fv g,.fv g'=>g=g'
 |_,_=>False
def arsE:List Ar->List Ar->Prop
 | [],[]=>True
 |x::xs,y::ys=>arE x y/\ arsE xs ys
 |_,_=>False
theorem RowRep.deep {S:Nat->Prop} {w:World} {sz n:Nat} {f g:Nat->List DV} {l:Go.Sx.Loc} (h: ∀i,i<n->rowE (f i) (g i)) (hr:RowRep S w sz n f l):RowRep S w sz n g l:=by
 cases l with
 |virt=>exact hr
 | «at» b m=>
   obtain ⟨arr,e,h1,h2,h3,h4,h5⟩:=hr
   refine ⟨arr,e,h1,h2,h3,fun i hi=>by rw [<-(h i hi).1];exact h4 i hi,fun i j hi hj=> ?_⟩
   have e1:j<(f i).length:=by rw [h4 i hi];exact hj
   have e2:j<(g i).length:=by rw [<-(h i hi).1];exact e1
   have h6:=h5 i j hi hj
   rw [List.getD_eq_getElem?_getD,List.getElem?_eq_getElem e1] at h6;rw [List.getD_eq_getElem?_getD,List.getElem?_eq_getElem e2];exact ((h i hi).2 j _ _ (List.getElem?_eq_getElem e1) (List.getElem?_eq_getElem e2)).rep h6
theorem icsE.rep {S:Nat->Prop} {w:World}: ∀{xs ys:List Ic} {vs:List Value} {ls:List Go.Sx.Loc},icsE xs ys->RepIcs S w xs vs ls->RepIcs S w ys vs ls
 | [],[],vs,ls,_,h=>h
 | .d x::xs,.d y::ys,[],ls,_,h=>by simp [RepIcs] at h
 | .d x::xs,.d y::ys,v::vs,ls,h,h'=>by
   simp only [RepIcs] at h'⊢
   exact ⟨DvE.rep h.1 h'.1,icsE.rep h.2 h'.2⟩
 | .ow _ _ _::xs,.ow _ _ _::ys,[],_,_,h=>by simp [RepIcs] at h
 | .ow _ _ _::xs,.ow _ _ _::ys,_::_,[],_,h=>by simp [RepIcs] at h
 | .ow sz n f::xs,.ow sz' n' g::ys,v::vs,l::ls,h,h'=>by
   simp only [RepIcs] at h'⊢
   obtain ⟨⟨rfl,rfl,h1⟩,h2⟩:=h
   exact ⟨h'.1,RowRep.deep h1 h'.2.1,icsE.rep h2 h'.2.2⟩
 | [],_::_,_,_,h,_=>h.elim
 |_::_,[],_,_,h,_=>h.elim
 | .d _::_,.ow _ _ _::_,_,_,h,_=>h.1.elim
 | .ow _ _ _::_,.d _::_,_,_,h,_=>h.1.elim
theorem arE.rep {P:Program} {S:Nat->Prop} {w:World} {x y:Ar} {v:Value} {ls:List Go.Sx.Loc} (h:arE x y) (h':RepAr P S w x v ls):RepAr P S w y v ls:=by
 cases x<;>cases y<;>first|exact h.elim|skip
 . exact icsE.rep (xs:= [_]) (ys:= [_]) ⟨h,trivial⟩ h'
 . obtain ⟨arr,e,h'⟩:=h';exact ⟨arr,e,icsE.rep h h'⟩
 . have:_=_:=h;subst this;exact h'
 . have:_=_:=h;subst this;exact h'
theorem arsE.rep {P:Program} {S:Nat->Prop} {w:World}: ∀{xs ys:List Ar} {vs:List Value} {ls:List Go.Sx.Loc},arsE xs ys->RepArs P S w xs vs ls->RepArs P S w ys vs ls
 | [],[],_,_,_,h=>h
 | [],_::_,_,_,h,_=>h.elim
 |_::_,[],_,_,h,_=>h.elim
 |x::xs,y::ys,[],_,_,h=>by simp [RepArs] at h
 |x::xs,y::ys,v::vs,ls,h,h'=>by
  obtain ⟨l1,l2,e,h1,h2⟩:=h'
  exact ⟨l1,l2,e,arE.rep h.1 h1,arsE.rep h.2 h2⟩
theorem icsE.rows: ∀{xs ys:List Ic},icsE xs ys->icRows xs=icRows ys
 | [],[],_=>rfl
 | .d _::xs,.d _::ys,h=>icsE.rows (xs:=xs) (ys:=ys) h.2
 | .ow _ _ _::xs,.ow _ _ _::ys,h=>by obtain ⟨⟨rfl,rfl,_⟩,h2⟩:=h;simp only [icRows,icsE.rows h2]
 | [],_::_,h=>h.elim
 |_::_,[],h=>h.elim
 | .d _::_,.ow _ _ _::_,h=>h.1.elim
 | .ow _ _ _::_,.d _::_,h=>h.1.elim
theorem arsE.rows: ∀{xs ys:List Ar},arsE xs ys->arsRows xs=arsRows ys
 | [],[],_=>rfl
 | [],_::_,h=>h.elim
 |_::_,[],h=>h.elim
 |x::xs,y::ys,h=>by
  have e1:arRows x=arRows y:=by
   have h1:=h.1
   cases x<;>cases y<;>first|exact h1.elim|rfl|skip
   . exact icsE.rows (xs:= [_]) (ys:= [_]) ⟨h1,trivial⟩
   . exact icsE.rows h1
  simp only [arsRows,e1,arsE.rows h.2]
theorem FCat.deep {P:Program} {f:Nat} {xs ys:List Ar} {r:Rt} {us:List (Option (Nat->List DV))} (he:arsE xs ys) (h:FCat P f ys r us):FCat P f xs r us:=by
 intro S w vals ls hS hr hsep;have:=h S w vals ls hS (he.rep hr) hsep
 rw [<-he.rows] at this;exact this
def unr (P:Program) (τ:Tys) (Γ:Sums) (calls:Nat->List Va->St->(Tm->St->Prop)->Prop) (base:Nat) (c:Code) (Q:Exit->St->Prop):Nat->St->Prop
 |0,_=>False
 |n+1,st=>vc P τ Γ calls base c st fun e st'=>match e with
  | .normal=>unr P τ Γ calls base c Q n st'
  | .exit i=>Q (.exit i) st'
  | .goto i=>Q (.goto i) st'
  | .ret=>Q .ret st'
  |_=>False
theorem loop_unr {P:Program} {t:TT} (ht:t.ok P) {l:List (Nat×Sm)} (hl:sumsOk P l) (hmix:P.follows .mixedOrders=true) {base:Nat} {c:Code} {Q:Exit->St->Prop} {st:St} (n:Nat)
 (h:unr P t.get (sums l) (vcCall P (sums l) base) base c Q n st):ASat P base (.loop c) st Q:=by
 refine ⟨fun ψ S w a hr=> ?_⟩
 refine wp_loop_by (P:=P) (fun k a' w'=> ∃st ψ' S',unr P t.get (sums l) (vcCall P (sums l) base) base c Q k st/\ Rel P base ψ' S' w' st a'/\ Ext base ψ S w ψ' S' w') ?_ ⟨st,ψ,S,h,hr,Ext.refl _ _ _ _⟩
 rintro k a1 w1 ⟨st1,ψ1,S1,hk,hr1,he1⟩
 cases k with
 |zero=>exact hk.elim
 |succ k=>
  refine wp_mono ((vc_ok (TT.tysOk ht) (TT.zeros ht) (sums_ok hl) hmix (vcCall_ok (sums_ok hl) base) c _ _ hk).run ψ1 S1 w1 a1 hr1) ?_
  rintro e a2 w2 ⟨st2,ψ2,S2,hq,hr2,he2⟩
  cases e with
  |normal=>exact ⟨k,Nat.lt_succ_self k,st2,ψ2,S2,hq,hr2,he1.trans he2⟩
  |exit id=>exact ⟨st2,ψ2,S2,hq,hr2,he1.trans he2⟩
  |goto l=>exact ⟨st2,ψ2,S2,hq,hr2,he1.trans he2⟩
  |ret=>exact ⟨st2,ψ2,S2,hq,hr2,he1.trans he2⟩
  |panic ch=>exact hq.elim
  |outgrown=>exact hq.elim
def gS9 (l:List DV):ByteArray:=match l[(0:Nat)]? with
 |some (.v (.string s))=>s
 |_=>ByteArray.empty
def gI9 (l:List DV) (j:Nat):Int:=match l[j]? with
 |some (.v (.int _ n))=>n
 |_=>0
theorem snocRec {α:Type} {p:List α->Prop} (h0:p []) (h1: ∀l x,p l->p (l++ [x])) (l:List α):p l:=by
 have: ∀m:List α,p m.reverse:=by
  intro m
  induction m with
  |nil=>exact h0
  |cons x m ih=>rw [List.reverse_cons];exact h1 _ _ ih
 have:=this l.reverse
 rwa [List.reverse_reverse] at this
theorem cfL_eq: ∀(x y:List UInt8),(cfL x y=0)↔x=y
 | [],[]=>by simp [cfL,Lib.compareBytes]
 | [],_::_=>by simp [cfL,Lib.compareBytes]
 |_::_,[]=>by simp [cfL,Lib.compareBytes]
 |a::x,b::y=>by
  have ih:=cfL_eq x y
  unfold cfL at ih⊢
  rw [Lib.compareBytes];split
  . rename_i h
    constructor
    . intro h;omega
    . intro h;cases h;exact absurd h (UInt8.lt_irrefl _)
  . split
    . rename_i h
      constructor
      . intro h;omega
      . intro h;cases h;exact absurd h (UInt8.lt_irrefl _)
    . rename_i h1 h2
      have:a=b:=UInt8.le_antisymm (UInt8.not_lt.1 h2) (UInt8.not_lt.1 h1)
      subst this;rw [ih];simp
def nilIp:List Nat->List Ic->List Ic
 |_,[]=> []
 | [],x::xs=>nilI 1 x::nilIp [] xs
 |z::zs,x::xs=>nilI z x::nilIp zs xs
def nilAp:List Nat->Ar->Ar
 | [],.c x=> .c (nilI 1 x)
 |z::_,.c x=> .c (nilI z x)
 |zs,.agg xs=> .agg (nilIp zs xs)
 |_,x=>x
def nilP:List (List Nat)->List Ar->List Ar
 |_,[]=> []
 | [],x::xs=>nilAp [] x::nilP [] xs
 |z::zs,x::xs=>nilAp z x::nilP zs xs
theorem nilIp_eq: ∀(zs:List Nat) (xs:List Ic),icsEq xs (nilIp zs xs)
 |_,[]=>by unfold nilIp;trivial
 | [],x::xs=>by unfold nilIp;exact ⟨nilI_eq 1 x,nilIp_eq [] xs⟩
 |z::zs,x::xs=>by unfold nilIp;exact ⟨nilI_eq z x,nilIp_eq zs xs⟩
theorem nilAp_eq: ∀(zs:List Nat) (x:Ar),arEq x (nilAp zs x)
 | [],.c x=>nilI_eq 1 x
 |z::_,.c x=>nilI_eq z x
 | [],.agg xs=>nilIp_eq [] xs
 |z::zs,.agg xs=>nilIp_eq (z::zs) xs
 | [],.rp _=>rfl
 |_::_,.rp _=>rfl
 | [],.fv _=>rfl
 |_::_,.fv _=>rfl
theorem nilP_eq: ∀(zs:List (List Nat)) (xs:List Ar),arsEq xs (nilP zs xs)
 |_,[]=>by unfold nilP;trivial
 | [],x::xs=>by unfold nilP;exact ⟨nilAp_eq [] x,nilP_eq [] xs⟩
 |z::zs,x::xs=>by unfold nilP;exact ⟨nilAp_eq z x,nilP_eq zs xs⟩
theorem nilI_rows (z:Nat) (x:Ic) (xs ys:List Ic) (h:icRows xs=icRows ys):icRows (nilI z x::xs)=icRows (x::ys):=by
 cases x with
 |d x=>simp only [nilI,icRows];exact h
 |ow a b c=>simp only [nilI,icRows];rw [h]
theorem nilIp_rows: ∀(zs:List Nat) (xs:List Ic),icRows (nilIp zs xs)=icRows xs
 |_,[]=>by unfold nilIp;rfl
 | [],x::xs=>by unfold nilIp;exact nilI_rows 1 x _ _ (nilIp_rows [] xs)
 |z::zs,x::xs=>by unfold nilIp;exact nilI_rows z x _ _ (nilIp_rows zs xs)
theorem nilAp_rows: ∀(zs:List Nat) (x:Ar),arRows (nilAp zs x)=arRows x
 | [],.c x=>by cases x<;>rfl
 |z::_,.c x=>by cases x<;>rfl
 | [],.agg xs=>nilIp_rows [] xs
 |z::zs,.agg xs=>nilIp_rows (z::zs) xs
 | [],.rp _=>rfl
 |_::_,.rp _=>rfl
 | [],.fv _=>rfl
 |_::_,.fv _=>rfl
theorem nilP_rows: ∀(zs:List (List Nat)) (xs:List Ar),arsRows (nilP zs xs)=arsRows xs
 |_,[]=>by unfold nilP;rfl
 | [],x::xs=>by unfold nilP;simp only [arsRows];rw [nilAp_rows,nilP_rows [] xs]
 |z::zs,x::xs=>by unfold nilP;simp only [arsRows];rw [nilAp_rows,nilP_rows zs xs]
structure Ky where
 name:ByteArray
 node:Int
instance:Inhabited Ky:=⟨⟨ByteArray.empty,0⟩⟩
theorem Ky.ext_iff' {a b:Ky}:a=b↔a.name=b.name/\ a.node=b.node:=by
 cases a;cases b;simp
instance:DecidableEq Ky:=fun a b=>decidable_of_iff (a.name=b.name/\ a.node=b.node) Ky.ext_iff'.symm
namespace Ky
def cl (k:Ky):Ky:=⟨k.name,if k.node<0 then-1 else k.node⟩
def lt (a b:Ky):Bool:=if a.name=b.name then decide (a.cl.node<b.cl.node) else decide (kS a.name<kS b.name)
theorem cl_cl (k:Ky):k.cl.cl=k.cl:=by unfold cl;simp only;split<;>rename_i h<;>simp [h]
theorem lt_cl1 (a b:Ky):lt a.cl b=lt a b:=by unfold lt;rw [cl_cl];rfl
theorem lt_cl2 (a b:Ky):lt a b.cl=lt a b:=by unfold lt;rw [cl_cl];rfl
theorem lt_iff {a b:Ky}:lt a b=true↔(a.name=b.name/\ a.cl.node<b.cl.node) \/kS a.name<kS b.name:=by
 unfold lt;split
 . rename_i h
   rw [decide_eq_true_eq];constructor
   . exact fun q=> .inl ⟨h,q⟩
   . rintro (q|q)
     . exact q.2
     . rw [h] at q;exact absurd q (List.lt_irrefl _)
 . rename_i h
   rw [decide_eq_true_eq];constructor
   . exact .inr
   . rintro (q|q)
     . exact absurd q.1 h
     . exact q
theorem lt_irrefl (a:Ky):lt a a=false:=by
 cases h:lt a a with
 |false=>rfl
 |true=>
  rcases lt_iff.1 h with q|q
  . omega
  . exact absurd q (List.lt_irrefl _)
theorem lt_trans {a b c:Ky} (h1:lt a b=true) (h2:lt b c=true):lt a c=true:=by
 rw [lt_iff] at*
 rcases h1 with q|q<;>rcases h2 with p|p
 . exact .inl ⟨q.1.trans p.1,by omega⟩
 . exact .inr (by rw [q.1];exact p)
 . exact .inr (by rw [<-p.1];exact q)
 . exact .inr (List.lt_trans q p)
theorem lt_tri {a b:Ky} (h1:lt a b=false) (h2:lt b a=false):a.cl=b.cl:=by
 have n1: ¬lt a b=true:=by rw [h1];exact Bool.false_ne_true
 have n2: ¬lt b a=true:=by rw [h2];exact Bool.false_ne_true
 rw [lt_iff] at n1 n2;have e:a.name=b.name:=by
  have hle: ¬kS a.name<kS b.name:=fun q=>n1 (.inr q)
  have hge: ¬kS b.name<kS a.name:=fun q=>n2 (.inr q)
  exact kS_inj (List.le_antisymm (List.not_lt.1 hge) (List.not_lt.1 hle))
 refine Ky.ext_iff'.2 ⟨e, ?_⟩
 have m1: ¬a.cl.node<b.cl.node:=fun q=>n1 (.inl ⟨e,q⟩)
 have m2: ¬b.cl.node<a.cl.node:=fun q=>n2 (.inl ⟨e.symm,q⟩)
 omega
theorem lt_ne {a b:Ky} (h:lt a b=true):a.cl≠b.cl:=fun e=>by
 rw [<-lt_cl1,e,lt_cl1,lt_irrefl] at h;cases h
end Ky
def SK (l:List Ky):Prop:=l.Pairwise (fun a b=>Ky.lt a b=true)/\ ∀k,k∈l->k.cl=k
theorem SK.tail {x:Ky} {l:List Ky} (h:SK (x::l)):SK l:=⟨(List.pairwise_cons.1 h.1).2,fun k hk=>h.2 k (List.mem_cons_of_mem _ hk)⟩
theorem sk_split: ∀{l:List Ky},SK l-> ∀k:Ky, ∃A B,l=A++B/\ (∀a,a∈A->Ky.lt a k=true)/\ ∀b,b∈B->Ky.lt b k=false
 | [],_,k=>⟨[],[],rfl,fun a h=>(by cases h),fun a h=>(by cases h)⟩
 |x::l,h,k=>by
  cases hx:Ky.lt x k with
  |true=>
   obtain ⟨A,B,rfl,h1,h2⟩:=sk_split h.tail k
   exact ⟨x::A,B,rfl,fun a ha=>by rcases List.mem_cons.1 ha with rfl|ha;exact hx;exact h1 a ha,h2⟩
  |false=>
   refine ⟨[],x::l,rfl,fun a ha=>(by cases ha),fun b hb=> ?_⟩
   rcases List.mem_cons.1 hb with rfl|hb
   . exact hx
   . cases hb2:Ky.lt b k with
     |false=>rfl
     |true=>have:=Ky.lt_trans ((List.pairwise_cons.1 h.1).1 b hb) hb2;rw [hx] at this;cases this
def putK (l:List Ky) (k:Ky):List Ky:=l.takeWhile (fun x=>Ky.lt x k)++k.cl::(l.dropWhile fun x=>Ky.lt x k).filter fun x=>decide (x≠k.cl)
theorem tw_split {A B:List Ky} {k:Ky} (h1: ∀a,a∈A->Ky.lt a k=true) (h2: ∀b,b∈B->Ky.lt b k=false):(A++B).takeWhile (fun x=>Ky.lt x k)=A/\ (A++B).dropWhile (fun x=>Ky.lt x k)=B:=by
 rw [List.takeWhile_append_of_pos h1,List.dropWhile_append_of_pos h1];cases B with
 |nil=>exact ⟨by simp,rfl⟩
 |cons b B=>
  have:=h2 b List.mem_cons_self
  rw [List.takeWhile_cons_of_neg (by rw [this];exact Bool.false_ne_true),List.dropWhile_cons_of_neg (by rw [this];exact Bool.false_ne_true)];exact ⟨List.append_nil _,rfl⟩
theorem put_split {A B:List Ky} {k:Ky} (h1: ∀a,a∈A->Ky.lt a k=true) (h2: ∀b,b∈B->Ky.lt b k=false):putK (A++B) k=A++k.cl::B.filter fun x=>decide (x≠k.cl):=by
 unfold putK;rw [(tw_split h1 h2).1,(tw_split h1 h2).2]
theorem sk_behind {A B:List Ky} {k:Ky} (h:SK (A++B)) (h2: ∀b,b∈B->Ky.lt b k=false):
 (∃B',B=k.cl::B'/\ ∀b,b∈B'->b≠k.cl) \/(∀b,b∈B->Ky.lt k b=true):=by
 cases B with
 |nil=>exact .inr fun b hb=>(by cases hb)
 |cons b B=>
  have hs:=(List.pairwise_append.1 h.1).2.1
  have hb:=List.pairwise_cons.1 hs
  have hcl:b.cl=b:=h.2 b (List.mem_append_right _ List.mem_cons_self)
  cases hk:Ky.lt k b with
  |false=>
   have e:=Ky.lt_tri (h2 b List.mem_cons_self) hk
   rw [hcl] at e;refine .inl ⟨B,by rw [e],fun c hc q=> ?_⟩
   have:=hb.1 c hc
   rw [q, <-e,Ky.lt_irrefl] at this;cases this
  |true=>
   refine .inr fun c hc=> ?_
   rcases List.mem_cons.1 hc with rfl|hc
   . exact hk
   . exact Ky.lt_trans hk (hb.1 c hc)
theorem filt_ne {B:List Ky} {k:Ky} (h: ∀b,b∈B->b≠k):(B.filter fun x=>decide (x≠k))=B:=
 List.filter_eq_self.2 fun b hb=>decide_eq_true (h b hb)
theorem ne_behind {B:List Ky} {k:Ky} (hc: ∀b,b∈B->b.cl=b) (h: ∀b,b∈B->Ky.lt k b=true): ∀b,b∈B->b≠k.cl:=fun b hb q=>by
 have:=Ky.lt_ne (h b hb)
 rw [hc b hb,q] at this;exact this rfl
theorem mem_put {l:List Ky} {k x:Ky} (h:SK l):x∈putK l k↔x=k.cl \/x∈l:=by
 obtain ⟨A,B,rfl,h1,h2⟩:=sk_split h k
 rw [put_split h1 h2,List.mem_append,List.mem_cons,List.mem_filter,List.mem_append,decide_eq_true_eq];constructor
 . rintro (q|q|q)
   . exact .inr (.inl q)
   . exact .inl q
   . exact .inr (.inr q.1)
 . rintro (q|q|q)
   . exact .inr (.inl q)
   . exact .inl q
   . by_cases e:x=k.cl
     . exact .inr (.inl e)
     . exact .inr (.inr ⟨q,e⟩)
theorem put_sk {l:List Ky} (h:SK l) (k:Ky):SK (putK l k):=by
 refine ⟨?_,fun x hx=> ?_⟩
 . obtain ⟨A,B,rfl,h1,h2⟩:=sk_split h k
   rw [put_split h1 h2];have hp:=List.pairwise_append.1 h.1
   have hcA: ∀a,a∈A->Ky.lt a k.cl=true:=fun a ha=>by rw [Ky.lt_cl2];exact h1 a ha
   rcases sk_behind h h2 with ⟨B',rfl,hn⟩|hn
   . have e:((k.cl::B').filter fun x=>decide (x≠k.cl))=B':=by
      rw [List.filter_cons_of_neg (by simp),filt_ne hn]
     rw [e];exact h.1
   . rw [filt_ne (ne_behind (fun b hb=>h.2 b (List.mem_append_right _ hb)) hn)];refine List.pairwise_append.2 ⟨hp.1,List.pairwise_cons.2 ⟨fun b hb=>by rw [Ky.lt_cl1];exact hn b hb,hp.2.1⟩,fun a ha b hb=> ?_⟩
     rcases List.mem_cons.1 hb with rfl|hb
     . exact hcA a ha
     . exact hp.2.2 a ha b hb
 . rcases (mem_put h).1 hx with rfl|hx
   . exact Ky.cl_cl k
   . exact h.2 x hx
theorem put_len (l:List Ky) (k:Ky):(putK l k).length<=l.length+1:=by
 unfold putK;rw [List.length_append,List.length_cons];have h1:=List.length_filter_le (fun x=>decide (x≠k.cl)) (l.dropWhile fun x=>Ky.lt x k)
 have h2:(l.takeWhile fun x=>Ky.lt x k).length+(l.dropWhile fun x=>Ky.lt x k).length=l.length:=by
  rw [<-List.length_append,List.takeWhile_append_dropWhile]
 omega
abbrev Ky.ar (k:Ky):Ar:= .agg [.d (st k.name),.d (it k.node)]
def gSx (l:List DV) (j:Nat):ByteArray:=match l[j]? with
 |some (.v (.string s))=>s
 |_=>ByteArray.empty
def icmp (x y:Int):Int:=if x<y then-1 else if x>y then 1 else 0
def Ky.cmp (a b:Ky):Int:=if cfL a.name.data.toList b.name.data.toList=0 then icmp a.cl.node b.cl.node else cfL a.name.data.toList b.name.data.toList
theorem icmp_lt {x y:Int}:icmp x y<0↔x<y:=by unfold icmp;split;omega;split<;>omega
theorem icmp_eq {x y:Int}:icmp x y=0↔x=y:=by unfold icmp;split;omega;split<;>omega
theorem Ky.cmp_lt (a b:Ky):Ky.cmp a b<0↔Ky.lt a b=true:=by
 rw [Ky.lt_iff];unfold Ky.cmp;split
 . rename_i h
   have e:=kS_inj (a:=a.name) (b:=b.name) ((cfL_eq _ _).1 h)
   rw [icmp_lt];constructor
   . exact fun q=> .inl ⟨e,q⟩
   . rintro (q|q)
     . exact q.2
     . rw [e] at q;exact absurd q (List.lt_irrefl _)
 . rename_i h
   rw [cfL_lt];constructor
   . exact .inr
   . rintro (q|q)
     . rw [q.1] at h;exact absurd ((cfL_eq _ _).2 rfl) h
     . exact q
theorem Ky.cmp_eq (a b:Ky):Ky.cmp a b=0↔a.cl=b.cl:=by
 rw [Ky.ext_iff'];unfold Ky.cmp;split
 . rename_i h
   have e:=kS_inj (a:=a.name) (b:=b.name) ((cfL_eq _ _).1 h)
   rw [icmp_eq];exact ⟨fun q=>⟨e,q⟩,fun q=>q.2⟩
 . rename_i h
   exact ⟨fun q=>absurd q h,fun q=>absurd ((cfL_eq _ _).2 (congrArg kS q.1)) h⟩
theorem Ky.cl_r {k:Ky} (h:rI k.node):rI k.cl.node:=by unfold rI at*;unfold Ky.cl;simp only;split<;>omega
theorem canon2 {f:Nat->List DV} (h0:f 0= [it (gI (f 0))]) (h1:f 1= [it (gI (f 1))]):DvE (.lst 1 2 f) (.lst 1 2 fun i=> [it (gI (f i))]):=
 .rows fun i hi=>by
  have:i=0 \/i=1:=by omega
  rcases this with rfl|rfl
  . rw [<-h0];exact ⟨rfl,fun j a b ha hb=>by rw [ha] at hb;cases hb;exact .refl _⟩
  . rw [<-h1];exact ⟨rfl,fun j a b ha hb=>by rw [ha] at hb;cases hb;exact .refl _⟩
theorem cmp_lt (a b:Ky):decide (Ky.cmp a b<0)=Ky.lt a b:=by
 cases h:Ky.lt a b with
 |true=>exact decide_eq_true ((Ky.cmp_lt a b).2 h)
 |false=>exact decide_eq_false fun q=>by rw [(Ky.cmp_lt a b).1 q] at h;cases h
theorem cmp_eq (a b:Ky):(Ky.cmp a b==0)=decide (a.cl=b.cl):=by
 by_cases h:a.cl=b.cl
 . rw [decide_eq_true h,(Ky.cmp_eq a b).2 h];rfl
 . rw [decide_eq_false h];exact beq_eq_false_iff_ne.2 fun q=>h ((Ky.cmp_eq a b).1 q)
def atK (l:List Ky) (i:Nat):Ky:=l.getD i default
abbrev kyC (k:Ky):List DV:= [st k.name,it k.node]
abbrev rwK (l:List Ky):Nat->List DV:=fun i=>kyC (atK l i)
abbrev lstK (l:List Ky):DV:= .lst 2 l.length (rwK l)
def gKy (l:List DV):Ky:=⟨gSx l 0,gI9 l 1⟩
def gKs (n:Nat) (f:Nat->List DV):List Ky:=(List.range n).map fun i=>gKy (f i)
theorem gKs_length (n:Nat) (f:Nat->List DV):(gKs n f).length=n:=by simp [gKs]
theorem atK_gKs {n i:Nat} {f:Nat->List DV} (h:i<n):atK (gKs n f) i=gKy (f i):=by
 simp [atK,gKs,List.getD_eq_getElem?_getD,h]
theorem gKs_row (l:List Ky):gKs l.length (rwK l)=l:=by
 unfold gKs;apply List.ext_getElem
 . simp
 . intro i h1 h2;have:gKy (kyC (atK l i))=atK l i:=rfl
   simp [this,atK,List.getD_eq_getElem?_getD,h2]
structure RowsK (n:Nat) (f:Nat->List DV):Prop where
 h: ∀i,i<n->f i=kyC (gKy (f i))/\ rI (gKy (f i)).node
theorem canonK {n:Nat} {f:Nat->List DV} (h: ∀i,i<n->f i=kyC (gKy (f i))/\ rI (gKy (f i)).node):DvE (.lst 2 n f) (.lst 2 n (rwK (gKs n f))):=
 .rows fun i hi=>by
  have e:rwK (gKs n f) i=f i:=by
   show kyC (atK (gKs n f) i)=f i
   rw [atK_gKs hi];exact (h i hi).1.symm
  rw [e];exact ⟨rfl,fun j a b ha hb=>by rw [ha] at hb;cases hb;exact .refl _⟩
theorem atK_mem {l:List Ky} {i:Nat} (h:i<l.length):atK l i∈l:=by
 unfold atK;rw [List.getD_eq_getElem?_getD,List.getElem?_eq_getElem h];exact List.getElem_mem h
theorem mem_atK {l:List Ky} {x:Ky} (h:x∈l): ∃i,i<l.length/\ atK l i=x:=by
 obtain ⟨i,hi,e⟩:=List.mem_iff_getElem.1 h
 exact ⟨i,hi,by unfold atK;rw [List.getD_eq_getElem?_getD,List.getElem?_eq_getElem hi];exact e⟩
theorem rowsK_of {l:List Ky} (h: ∀x,x∈l->rI x.node):RowsK l.length (rwK l):=⟨fun i hi=>⟨rfl,h _ (atK_mem hi)⟩⟩
theorem rowsK_r {n:Nat} {f:Nat->List DV} (h:RowsK n f): ∀x,x∈gKs n f->rI x.node:=fun x hx=>by
 obtain ⟨i,hi,rfl⟩:=mem_atK hx
 rw [gKs_length] at hi;rw [atK_gKs hi];exact (h.h i hi).2
end Go.Proofs.YtkfjfgabianfhaaGreat
namespace Go.Sx
def drawOk2 (all:List Oper) (m:Nat):Bool:=
 let b:=cloGo all []
 (List.range all.length).all fun i=>
  match all[i]? with
  |none=>false
  |some o=>o.after.toList.all (fun e=> !Region.binds .any e||decide (e.on<i))&&
   (List.range i).all fun j=>(b.getD i 0).testBit j||decide (m<=j)||(decide (i<m)&&match all[j]? with
    |some x=> !clash all x o
    |none=>false)
theorem drawOk2_spec {ops:Array Oper} {m:Nat} (h:drawOk2 ops.toList m=true):
 (∀i o,ops[i]? =some o-> ∀e∈o.after.toList,Region.binds .any e=true->e.on<i)/\
 ∀i j x o,ops[i]? =some o->ops[j]? =some x->j<i->j<m->Cl ops i j \/(i<m/\ clash ops.toList x o=false):=by
 simp only [drawOk2,List.all_eq_true,List.mem_range,Array.length_toList] at h;have hcl:=cloGo_spec ops ops.toList [] (fun i o ho=>by simpa using ho) (fun i j h=>by simp at h)
 refine ⟨?_, ?_⟩
 . intro i o ho e he hb;have hi:i<ops.size:=(Array.getElem?_eq_some_iff.1 ho).1
   have:=h i hi
   simp only [Array.getElem?_toList,ho,Bool.and_eq_true,List.all_eq_true] at this;have:=this.1 e he
   simpa [hb] using this
 . intro i j x o ho hx hj hjm;have hi:i<ops.size:=(Array.getElem?_eq_some_iff.1 ho).1
   have:=h i hi
   simp only [Array.getElem?_toList,ho,Bool.and_eq_true,List.all_eq_true] at this;have:=this.2 j (by simpa using hj)
   simp only [hx,Bool.or_eq_true,Bool.and_eq_true,decide_eq_true_eq,Bool.not_eq_true'] at this;rcases this with (h1|h1)|h1
   . exact .inl (hcl i j h1)
   . omega
   . exact .inr h1
def normH (h:List (Nat×Blk)):Nat->List (Nat×Blk)->List (Nat×Blk)
 |0,acc=>acc
 |k+1,acc=>match lookB h k with
  | .gone=>normH h k acc
  |b=>normH h k ((k,b)::acc)
def norm (live:List Nat):St->St
 |⟨ts,h,n,m⟩=>⟨live.map fun t=>(t,lookT ts t),normH h n [],n,m⟩
def normTs (ts:List (Nat×Tm)):List Nat->(List (Nat×Tm)->Prop)->Prop
 | [],K=>K []
 |t::l,K=>fT (lookT ts t) fun x=>normTs ts l fun r=>K ((t,x)::r)
def normHs (h:List (Nat×Blk)):Nat->List (Nat×Blk)->(List (Nat×Blk)->Prop)->Prop
 |0,acc,K=>K acc
 |k+1,acc,K=>fB (lookB h k) fun b=>match b with
  | .gone=>normHs h k acc K
  | .cells cs=>normHs h k ((k,.cells cs)::acc) K
  | .row a b c=>normHs h k ((k,.row a b c)::acc) K
  | .fz cs=>normHs h k ((k,.fz cs)::acc) K
  | .fzr a b c=>normHs h k ((k,.fzr a b c)::acc) K
  | .it a b=>normHs h k ((k,.it a b)::acc) K
  | .map a=>normHs h k ((k,.map a)::acc) K
def normK (live:List Nat) (st:St) (K:St->Prop):Prop:=match st with
 |⟨ts,h,n,m⟩=>normTs ts live fun ts'=>normHs h n [] fun h'=>K ⟨ts',h',n,m⟩
theorem normTs_eq (ts:List (Nat×Tm)): ∀(l:List Nat) (K:List (Nat×Tm)->Prop),normTs ts l K=K (l.map fun t=>(t,lookT ts t))
 | [],K=>rfl
 |t::l,K=>by simp only [normTs,fT_eq,normTs_eq ts l,List.map_cons]
theorem normHs_eq (h:List (Nat×Blk)): ∀(n:Nat) (acc:List (Nat×Blk)) (K:List (Nat×Blk)->Prop),normHs h n acc K=K (normH h n acc)
 |0,acc,K=>rfl
 |k+1,acc,K=>by
  simp only [normHs,normH,fB_eq];cases lookB h k<;>simp only [normHs_eq h k]
theorem normK_eq (live:List Nat) (st:St) (K:St->Prop):normK live st K=K (norm live st):=by
 obtain ⟨ts,h,n,m⟩:=st
 simp only [normK,norm,normTs_eq,normHs_eq]
theorem lookT_live (ts:List (Nat×Tm)) (t:Nat): ∀(l:List Nat),lookT (l.map fun t=>(t,lookT ts t)) t=lookT ts t \/lookT (l.map fun t=>(t,lookT ts t)) t=topT
 | []=> .inr rfl
 |u::l=>by
  simp only [List.map_cons,lookT];cases hu:Nat.beq u t with
  |true=>left;rw [Nat.eq_of_beq_eq_true hu]
  |false=>exact lookT_live ts t l
theorem lookB_normH (h:List (Nat×Blk)) (k:Nat): ∀(n:Nat) (acc:List (Nat×Blk)),(k<n->lookB h k≠ .gone->lookB (normH h n acc) k=lookB h k)/\ (n<=k \/lookB h k= .gone->lookB (normH h n acc) k=lookB acc k)
 |0,acc=>⟨fun h=>absurd h (Nat.not_lt_zero k),fun _=>rfl⟩
 |n+1,acc=>by
  simp only [normH];split
  . rename_i hg
    obtain ⟨h1,h2⟩:=lookB_normH h k n acc
    refine ⟨fun hk hn=>h1 ?_ hn,fun hk=>h2 ?_⟩
    . rcases Nat.lt_succ_iff_lt_or_eq.1 hk with h|h
      . exact h
      . subst h;exact absurd hg hn
    . rcases hk with hk|hk
      . exact .inl (by omega)
      . exact .inr hk
  . rename_i hg
    obtain ⟨h1,h2⟩:=lookB_normH h k n ((n,lookB h n)::acc)
    refine ⟨fun hk hn=> ?_,fun hk=> ?_⟩
    . rcases Nat.lt_succ_iff_lt_or_eq.1 hk with h|h
      . exact h1 h hn
      . subst h;rw [h2 (.inl (Nat.le_refl _)),lookB_cons,if_pos rfl]
    . rcases hk with hk|hk
      . rw [h2 (.inl (by omega)),lookB_cons,if_neg (by omega)]
      . rw [h2 (.inr hk),lookB_cons,if_neg (fun e=>by subst e;exact hg hk)]
section
variable {P:Program} {τ:Tys} {Γ:Sums} {base:Nat} {ψ ψ':Psi} {S S':Nat→Prop} {w w':World} {a:Act} {st:St}
theorem Rel.norm (live:List Nat) (hr:Rel P base ψ S w st a):Rel P base ψ S w (norm live st) a:=by
 obtain ⟨ts,h,n,m⟩:=st
 have hl: ∀k l,ψ k=some l->lookB (normH h n []) k=lookB h k:=by
  intro k l hk;have hk2:k<n:=by
   rcases Nat.lt_or_ge k n with h1|h1
   . exact h1
   . have:=hr.sim.dom k h1;rw [hk] at this;cases this
  by_cases c:lookB h k= .gone
  . rw [(lookB_normH h k n []).2 (.inr c),c];rfl
  . exact (lookB_normH h k n []).1 hk2 c
 have hs:=hr.sim
 refine ⟨hr.bas,⟨hs.dom,fun k l hk=> ?_,fun k k' b m1 m2 e1 e2 l1 l2=> ?_,fun k b m1 e1 l1=> ?_,hs.pdom,hs.sdom⟩,hr.lim,hr.defers,fun t=> ?_⟩
 . show BlkRep P ψ S w (lookB (normH h n []) k) l
   rw [hl k l hk];exact hs.blk k l hk
 . rw [show lookB (norm live ⟨ts,h,n,m⟩).heap k=lookB h k from hl k _ e1] at l1;rw [show lookB (norm live ⟨ts,h,n,m⟩).heap k'=lookB h k' from hl k' _ e2] at l2;exact hs.inj k k' b m1 m2 e1 e2 l1 l2
 . rw [show lookB (norm live ⟨ts,h,n,m⟩).heap k=lookB h k from hl k _ e1] at l1;exact hs.dis k b m1 e1 l1
 . show RepT P ψ S w (lookT (live.map fun t=>(t,lookT ts t)) t) _
   rcases lookT_live ts t live with e|e
   . rw [e];exact hr.tmps t
   . rw [e];trivial
end
def stoOf:List (Nat×Nat)->Nat->Option Nat
 | [],_=>none
 |(j,ia)::l,i=>match Nat.beq j i with
  |true=>some ia
  |false=>stoOf l i
def hidOf (sto:List (Nat×Nat)) (i:Nat):Bool:=sto.any fun p=>Nat.beq p.2 i
def visB (sto:List (Nat×Nat)) (i:Nat):Bool:= !hidOf sto i&&(stoOf sto i).isNone
def dSto (τ:Tys) (n0:Nat) (all:List Oper) (ia:Nat) (o:Oper) (st:St) (K:List Cell->Prop):Prop:=
 match o.op,o.guard,all[ia]? with
 | .store t ad x,none,some oa=>match oa.op,oa.guard with
   | .alloc e,none=>match ev st ad,ev st x,τ t,τ e with
     | .va (.c (.own k 0)),.va y,some ⟨_,size,_,_⟩,some ⟨_,_,_,z⟩=>match Nat.beq k (n0+ia),y.lays,Nat.beq y.cells.length size,Nat.beq (zeroCells' z).length size with
       |true,true,true,true=>K y.cells
       |_,_,_,_=>False
     |_,_,_,_=>False
   |_,_=>False
 |_,_,_=>False
def dGo3 (P:Program) (τ:Tys) (Γ:Sums) (n0:Nat) (gs:List Nat) (all:List Oper) (sto:List (Nat×Nat)) (i:Nat) (l:List Oper):St->List (Nat×Blk)->(St->List (Nat×Blk)->Prop)->Prop:=
 List.rec (motive:=fun _=>Nat->St->List (Nat×Blk)->(St->List (Nat×Blk)->Prop)->Prop) (fun _ st sp K=>K st sp) (fun o _ ih i st sp K=>match st with
  |⟨ts,h,n,m⟩=>match inLim o.dst m with
   |false=>False
   |true=>match stoOf sto i with
    |some ia=>dSto τ n0 all ia o ⟨ts,h,n,m⟩ fun cs=>fCs cs fun cs=>ih (i+1) ⟨putT o.dst undT ts,h,n,m⟩ ((n0+ia,.cells cs)::sp) K
    |none=>dWant all ⟨ts,h,n,m⟩ o fun w=>match w with
     |false=>ih (i+1) ⟨putT o.dst undT ts,h,n,m⟩ sp K
     |true=>dOp P τ Γ (n0+i) o ⟨ts,h,n,m⟩ fun x b=>fT x fun x=>match b with
      |some (.cells cs)=>fCs cs fun cs=>dPut i gs x fun x=>match hidOf sto i with
       |true=>ih (i+1) ⟨putT o.dst x ts,h,n,m⟩ sp K
       |false=>ih (i+1) ⟨putT o.dst x ts,(n0+i,.cells cs)::h,n,m⟩ sp K
      |some _=>False
      |none=>dPut i gs x fun x=>ih (i+1) ⟨putT o.dst x ts,h,n,m⟩ sp K) l i
theorem dGo3_cons (P:Program) (τ:Tys) (Γ:Sums) (n0:Nat) (gs:List Nat) (all:List Oper) (sto:List (Nat×Nat)) (i:Nat) (o:Oper) (rest:List Oper) (ts:List (Nat×Tm)) (h:List (Nat×Blk)) (n m:Nat) (sp:List (Nat×Blk)) (K:St->List (Nat×Blk)->Prop):
 dGo3 P τ Γ n0 gs all sto i (o::rest) ⟨ts,h,n,m⟩ sp K=(match inLim o.dst m with
  |false=>False
  |true=>match stoOf sto i with
   |some ia=>dSto τ n0 all ia o ⟨ts,h,n,m⟩ fun cs=>fCs cs fun cs=>dGo3 P τ Γ n0 gs all sto (i+1) rest ⟨putT o.dst undT ts,h,n,m⟩ ((n0+ia,.cells cs)::sp) K
   |none=>dWant all ⟨ts,h,n,m⟩ o fun w=>match w with
    |false=>dGo3 P τ Γ n0 gs all sto (i+1) rest ⟨putT o.dst undT ts,h,n,m⟩ sp K
    |true=>dOp P τ Γ (n0+i) o ⟨ts,h,n,m⟩ fun x b=>fT x fun x=>match b with
     |some (.cells cs)=>fCs cs fun cs=>dPut i gs x fun x=>match hidOf sto i with
      |true=>dGo3 P τ Γ n0 gs all sto (i+1) rest ⟨putT o.dst x ts,h,n,m⟩ sp K
      |false=>dGo3 P τ Γ n0 gs all sto (i+1) rest ⟨putT o.dst x ts,(n0+i,.cells cs)::h,n,m⟩ sp K
     |some _=>False
     |none=>dPut i gs x fun x=>dGo3 P τ Γ n0 gs all sto (i+1) rest ⟨putT o.dst x ts,h,n,m⟩ sp K):=rfl
def hfOf (n0:Nat) (B:Nat->Option (List Cell)) (sto:List (Nat×Nat)) (D:Nat->Bool) (h:List (Nat×Blk)):List (Nat×Blk):=
 sto.map (fun p=>(n0+p.2,Blk.cells (if D p.1=true then (B p.1).getD [] else (B p.2).getD [])))++h
structure StoOk (ops:Array Oper) (sto:List (Nat×Nat)) (m:Nat):Prop where
 lt: ∀p∈sto,p.1<m/\ p.2<p.1
 nd:sto.Pairwise fun p q=>p.1≠q.1/\ p.2≠q.2
 cl: ∀p∈sto,Cl ops p.1 p.2
 na: ∀p∈sto,stoOf sto p.2=none
def stoB (all:List Oper) (sto:List (Nat×Nat)) (m:Nat):Bool:=
 sto.all (fun p=>Nat.blt p.1 m&&Nat.blt p.2 p.1&&Nat.blt p.1 all.length&&((cloGo all []).getD p.1 0).testBit p.2&&(stoOf sto p.2).isNone)&&decide (sto.Pairwise fun p q=>p.1≠q.1/\ p.2≠q.2)
theorem stoB_ok {ops:Array Oper} {sto:List (Nat×Nat)} {m:Nat} (h:stoB ops.toList sto m=true):StoOk ops sto m:=by
 simp only [stoB,Bool.and_eq_true,List.all_eq_true,decide_eq_true_eq] at h;obtain ⟨h1,h2⟩:=h
 have hcl:=cloGo_spec ops ops.toList [] (fun i o ho=>by simpa using ho) (fun i j h=>by simp at h)
 refine ⟨fun p hp=> ?_,h2,fun p hp=> ?_,fun p hp=> ?_⟩
 . have:=h1 p hp;exact ⟨by simpa [Nat.blt_eq] using this.1.1.1.1,by simpa [Nat.blt_eq] using this.1.1.1.2⟩
 . exact hcl _ _ (h1 p hp).1.2
 . simpa using (h1 p hp).2
theorem stoOf_get: ∀{sto:List (Nat×Nat)} {i ia:Nat},stoOf sto i=some ia->(i,ia)∈sto
 | [],_,_,h=>by cases h
 |(j,ia')::l,i,ia,h=>by
  simp only [stoOf] at h;split at h
  . rename_i e;cases h;rw [<-Nat.eq_of_beq_eq_true e];exact List.mem_cons_self
  . exact List.mem_cons_of_mem _ (stoOf_get h)
theorem stoOf_nd: ∀{sto:List (Nat×Nat)} {p:Nat×Nat},(sto.Pairwise fun p q=>p.1≠q.1/\ p.2≠q.2)->p∈sto->stoOf sto p.1=some p.2
 |(j,ia)::l,p,hn,hp=>by
  rw [List.pairwise_cons] at hn;simp only [stoOf];rcases List.mem_cons.1 hp with rfl|hp
  . simp
  . have h:=(hn.1 p hp).1
    cases hb:Nat.beq j p.1 with
    |true=>exact absurd (Nat.eq_of_beq_eq_true hb) h
    |false=>exact stoOf_nd hn.2 hp
theorem stoOf_mem {ops:Array Oper} {sto:List (Nat×Nat)} {m:Nat} (hs:StoOk ops sto m) {p:Nat×Nat} (hp:p∈sto):stoOf sto p.1=some p.2:=stoOf_nd hs.nd hp
theorem hidOf_mem {sto:List (Nat×Nat)} {p:Nat×Nat} (hp:p∈sto):hidOf sto p.2=true:=List.any_eq_true.2 ⟨p,hp,by simp⟩
theorem hidOf_get {sto:List (Nat×Nat)} {i:Nat} (h:hidOf sto i=true): ∃p∈sto,p.2=i:=by
 obtain ⟨p,hp,e⟩:=List.any_eq_true.1 h
 exact ⟨p,hp,Nat.eq_of_beq_eq_true e⟩
theorem hf_congr {n0:Nat} {B:Nat->Option (List Cell)} {sto:List (Nat×Nat)} {D D':Nat->Bool} {h:List (Nat×Blk)} (hd: ∀p∈sto,D p.1=D' p.1):hfOf n0 B sto D h=hfOf n0 B sto D' h:=by
 unfold hfOf
 congr 1
 exact List.map_congr_left fun p hp=>by rw [hd p hp]
theorem hf_miss {n0:Nat} {B:Nat->Option (List Cell)} {D:Nat->Bool} {h:List (Nat×Blk)} {k:Nat}: ∀{sto:List (Nat×Nat)},(∀p∈sto,k≠n0+p.2)->lookB (hfOf n0 B sto D h) k=lookB h k
 | [],_=>rfl
 |q::l,hn=>by
  show lookB ((n0+q.2,_)::hfOf n0 B l D h) k=_
  rw [lookB_cons,if_neg (fun e=>hn q List.mem_cons_self e.symm),hf_miss fun p hp=>hn p (List.mem_cons_of_mem _ hp)]
theorem hf_hit' {n0:Nat} {B:Nat->Option (List Cell)} {D:Nat->Bool} {h:List (Nat×Blk)} {p:Nat×Nat}: ∀{sto:List (Nat×Nat)},(sto.Pairwise fun p q=>p.1≠q.1/\ p.2≠q.2)->p∈sto->lookB (hfOf n0 B sto D h) (n0+p.2)= .cells (if D p.1=true then (B p.1).getD [] else (B p.2).getD [])
 |q::l,hn,hp=>by
  rw [List.pairwise_cons] at hn;show lookB ((n0+q.2,_)::hfOf n0 B l D h) _=_
  rw [lookB_cons];rcases List.mem_cons.1 hp with rfl|hp
  . rw [if_pos rfl]
  . rw [if_neg (fun e=>(hn.1 p hp).2 (by omega))];exact hf_hit' hn.2 hp
theorem hf_hit {ops:Array Oper} {m n0:Nat} {B:Nat->Option (List Cell)} {sto:List (Nat×Nat)} {D:Nat->Bool} {h:List (Nat×Blk)} (hs:StoOk ops sto m) {p:Nat×Nat} (hp:p∈sto):lookB (hfOf n0 B sto D h) (n0+p.2)= .cells (if D p.1=true then (B p.1).getD [] else (B p.2).getD []):=hf_hit' hs.nd hp
theorem setAt_all {α:Type}: ∀{l r:List α},l.length=r.length->setAt l 0 r=some r
 |l,[],h=>by
  have:l= []:=List.eq_nil_of_length_eq_zero (by simpa using h)
  subst this;rfl
 | [],y::ys,h=>by cases h
 |x::l,y::ys,h=>by
  simp only [setAt];rw [setAt_all (by simpa using h)]
section
variable {P:Program} {τ:Tys} {Γ:Sums} {base:Nat} {ψ ψ':Psi} {S S':Nat→Prop} {w w':World} {a:Act}
theorem Rel.heapCg {ts:List (Nat×Tm)} {h h':List (Nat×Blk)} {n m:Nat} (he: ∀k,lookB h k=lookB h' k) (hr:Rel P base ψ S w ⟨ts,h,n,m⟩ a):Rel P base ψ S w ⟨ts,h',n,m⟩ a:=by
 have hs:=hr.sim
 refine ⟨hr.bas,⟨hs.dom,fun k l hk=> ?_,fun k k' b m1 m2 e1 e2 l1 l2=> ?_,fun k b m1 e1 l1=> ?_,hs.pdom,hs.sdom⟩,hr.lim,hr.defers,hr.tmps⟩
 . show BlkRep P ψ S w (lookB h' k) l
   rw [<-he];exact hs.blk k l hk
 . have l1:(lookB h' k).live:=l1
   have l2:(lookB h' k').live:=l2
   rw [<-he] at l1 l2;exact hs.inj k k' b m1 m2 e1 e2 l1 l2
 . have l1:(lookB h' k).live:=l1
   rw [<-he] at l1;exact hs.dis k b m1 e1 l1
theorem dSto_get {n0 ia:Nat} {all:List Oper} {o:Oper} {st:St} {cs:List Cell} (h:dSto τ n0 all ia o st fun c=>c=cs):
 ∃t ad xo yv,o.op= .store t ad xo/\ o.guard=none/\ ev st ad= .va (.c (.own (n0+ia) 0))/\ ev st xo= .va yv/\ ∃sz0,yv.lays=true/\ yv.cells=cs/\ (∃desc bt z,Nat.beq yv.cells.length sz0=true/\ τ t=some ⟨desc,sz0,bt,z⟩)/\
  ∀oa,all[ia]? =some oa-> ∃ti e z,oa.op= .alloc e/\ oa.guard=none/\ τ e=some ti/\ ti.zero=z/\ (zeroCells' z).length=cs.length:=by
 unfold dSto at h;split at h
 . rename_i t ad x oa hop hg hall
   split at h
   . rename_i e hoa hga
     split at h
     . rename_i k y desc size bt z dz sz2 bt2 z2 ea ex ht he
       split at h
       . rename_i q1 q2 q3 q4
         refine ⟨t,ad,x,y,hop,hg,by rw [ea,Nat.eq_of_beq_eq_true q1],ex,size,q2,h,⟨desc,bt,z,q3,ht⟩,fun oa' hoa'=> ?_⟩
         rw [hall] at hoa';cases hoa'
         refine ⟨_,e,_,hoa,hga,he,rfl, ?_⟩
         rw [<-h,Nat.eq_of_beq_eq_true q3];exact Nat.eq_of_beq_eq_true q4
       . exact h.elim
     . exact h.elim
   . exact h.elim
 . exact h.elim
def DStep3 (P:Program) (τ:Tys) (Γ:Sums) (n0:Nat) (all:List Oper) (sto:List (Nat×Nat)) (i:Nat) (o:Oper) (y:Tm) (blk:Option (List Cell)) (st st':St):Prop:=
 inLim o.dst st.lim=true/\ st'=⟨putT o.dst y st.tmps,(match blk,visB sto i with|some cs,true=> [(n0+i,Blk.cells cs)]|_,_=> [])++st.heap,st.next,st.lim⟩/\
  ((stoOf sto i=none/\ ((dWant all st o (fun w=>w=false)/\ y=undT/\ blk=none) \/
   ∃x,dWant all st o (fun w=>w=true)/\ dOp P τ Γ (n0+i) o st (fun x' b'=>x'=x/\ b'=blk.map Blk.cells)/\ Known x y)) \/
  ∃ia cs,stoOf sto i=some ia/\ blk=some cs/\ y=undT/\ dSto τ n0 all ia o st fun c=>c=cs)
theorem dSto_lin {n0 ia:Nat} {all:List Oper} {o:Oper} {st:St}:Lin (dSto τ n0 all ia o st):=by
 intro K hk;unfold dSto at hk⊢
 split at hk
 . split at hk
   . split at hk
     . split at hk
       . exact ⟨_,hk,rfl⟩
       . exact hk.elim
     . exact hk.elim
   . exact hk.elim
 . exact hk.elim
def spOf (n0:Nat) (B:Nat->Option (List Cell)) (sto:List (Nat×Nat)) (i:Nat) (sp0:List (Nat×Blk)):Nat->List (Nat×Blk)
 |0=>sp0
 |j+1=>match stoOf sto (i+j) with
  |some ia=>(n0+ia,Blk.cells ((B j).getD []))::spOf n0 B sto i sp0 j
  |none=>spOf n0 B sto i sp0 j
theorem dGo3_way {n0:Nat} {gs:List Nat} {all:List Oper} {sto:List (Nat×Nat)}: ∀(rest:List Oper) (i:Nat) (st:St) (sp:List (Nat×Blk)) (K:St->List (Nat×Blk)->Prop),dGo3 P τ Γ n0 gs all sto i rest st sp K->
 ∃(f:Nat->St) (y:Nat->Tm) (B:Nat->Option (List Cell)) (sp':List (Nat×Blk)),f 0=st/\ K (f rest.length) sp'/\ (∀j o,rest[j]? =some o->DStep3 P τ Γ n0 all sto (i+j) o (y j) (B j) (f j) (f (j+1)))/\
  sp'=spOf n0 B sto i sp rest.length
 | [],i,st,sp,K,hk=>⟨fun _=>st,fun _=>undT,fun _=>none,sp,rfl,hk,fun j o h=>by simp at h,rfl⟩
 |o::rest,i,⟨ts,h,n,m⟩,sp,K,hk=>by
  rw [dGo3_cons] at hk;split at hk
  . exact hk.elim
  . rename_i hlim
    have shift: ∀(B:Nat->Option (List Cell)) (B0:Option (List Cell)) (sp1:List (Nat×Blk)),sp1=spOf n0 (fun j=>match j with|0=>B0|j+1=>B j) sto i sp 1-> ∀q,spOf n0 B sto (i+1) sp1 q=spOf n0 (fun j=>match j with|0=>B0|j+1=>B j) sto i sp (q+1):=by
     intro B B0 sp1 h1 q
     induction q with
     |zero=>exact h1
     |succ q ih=>
      rw [spOf,spOf,ih,show i+1+q=i+(q+1) by omega]
    have cons: ∀y0 B0 st1 sp1,DStep3 P τ Γ n0 all sto i o y0 B0 ⟨ts,h,n,m⟩ st1->(∀B:Nat->Option (List Cell),sp1=spOf n0 (fun j=>match j with|0=>B0|j+1=>B j) sto i sp 1)->dGo3 P τ Γ n0 gs all sto (i+1) rest st1 sp1 K->
     ∃(f:Nat->St) (y:Nat->Tm) (B:Nat->Option (List Cell)) (sp':List (Nat×Blk)),f 0=⟨ts,h,n,m⟩/\ K (f (o::rest).length) sp'/\
     (∀j o',(o::rest)[j]? =some o'->DStep3 P τ Γ n0 all sto (i+j) o' (y j) (B j) (f j) (f (j+1)))/\ sp'=spOf n0 B sto i sp (o::rest).length:=by
     intro y0 B0 st1 sp1 hs hsp hk;obtain ⟨f,y,B,sp',g1,g2,g3,g4⟩:=dGo3_way rest (i+1) st1 sp1 K hk
     refine ⟨fun j=>match j with|0=>⟨ts,h,n,m⟩|j+1=>f j,fun j=>match j with|0=>y0|j+1=>y j,fun j=>match j with|0=>B0|j+1=>B j,sp',rfl,g2, ?_, ?_⟩
     . intro j o' ho
       cases j with
       |zero=>simp at ho;subst ho;simp only [g1];exact hs
       |succ j=>have:=g3 j o' (by simpa using ho);rw [show i+(j+1)=i+1+j by omega];exact this
     . rw [g4,shift B B0 sp1 (hsp B)];rfl
    split at hk
    . rename_i ia hs
      obtain ⟨cs,g1,g2⟩:=dSto_lin _ hk
      rw [fCs_eq] at g1;refine cons undT (some cs) _ _ ⟨hlim, ?_,.inr ⟨ia,cs,hs,rfl,rfl,g2⟩⟩ (fun B=> ?_) g1
      . have:visB sto i=false:=by unfold visB;rw [hs];simp
        rw [this];rfl
      . simp only [spOf,Nat.add_zero,hs];rfl
    . rename_i hs
      obtain ⟨wt,g1,g2⟩:=dWant_lin _ _ _ _ hk
      have hsp: ∀(B0:Option (List Cell)) (B:Nat->Option (List Cell)),sp=spOf n0 (fun j=>match j with|0=>B0|j+1=>B j) sto i sp 1:=by
       intro B0 B;simp only [spOf,Nat.add_zero,hs]
      cases wt with
      |false=>exact cons undT none _ _ ⟨hlim,rfl,.inl ⟨hs,.inl ⟨g2,rfl,rfl⟩⟩⟩ (hsp _) g1
      |true=>
       obtain ⟨x,b,g3,g4⟩:=dOp_lin _ _ _ _ g1
       simp only [fT_eq] at g3;cases b with
       |none=>
        obtain ⟨y0,k1,k2⟩:=dPut_ok g3
        exact cons y0 none _ _ ⟨hlim,rfl,.inl ⟨hs,.inr ⟨x,g2,g4,k1⟩⟩⟩ (hsp _) k2
       |some b=>
        cases b with
        |cells cs=>
         simp only [fCs_eq] at g3;obtain ⟨y0,k1,k2⟩:=dPut_ok g3
         cases hh:hidOf sto i with
         |true=>
          rw [hh] at k2
          exact cons y0 (some cs) _ _ ⟨hlim,by have:visB sto i=false:=by unfold visB;rw [hh];rfl
                                               rw [this];rfl,.inl ⟨hs,.inr ⟨x,g2,g4,k1⟩⟩⟩ (hsp _) k2
         |false=>
          rw [hh] at k2
          exact cons y0 (some cs) _ _ ⟨hlim,by have:visB sto i=true:=by unfold visB;rw [hh,hs];rfl
                                               rw [this];rfl,.inl ⟨hs,.inr ⟨x,g2,g4,k1⟩⟩⟩ (hsp _) k2
        |_=>exact g3.elim
theorem way_heap3 {n0:Nat} {ops:List Oper} {sto:List (Nat×Nat)} {f:Nat->St} {y:Nat->Tm} {B:Nat->Option (List Cell)} {m:Nat}
 (hw: ∀j o,j<m->ops[j]? =some o->DStep3 P τ Γ n0 ops sto j o (y j) (B j) (f j) (f (j+1))) (hops:m<=ops.length) (hid:idsBelow (f 0).heap n0=true):
 ∀i,i<=m->(∀k,n0+i<=k->lookB (f i).heap k= .gone)/\ (∀k,k<n0->lookB (f i).heap k=lookB (f 0).heap k)/\ (∀i',i'<=i->Sup (f i').heap (f i).heap)/\
  (∀j cs,j<i->visB sto j=true->B j=some cs->lookB (f i).heap (n0+j)= .cells cs)/\ (f i).next=(f 0).next/\ (f i).lim=(f 0).lim/\ (∀j,j<i->visB sto j=false->lookB (f i).heap (n0+j)= .gone):=by
 intro i
 induction i with
 |zero=>
  intro _
  exact ⟨fun k hk=>idsBelow_look hid hk,fun _ _=>rfl,fun i' hi'=>by have:i'=0:=by omega
                                                                    subst this;exact fun _ _ h _=>h,fun j cs hj=>by omega,rfl,rfl,fun j hj=>by omega⟩
 |succ i ih=>
  intro hi;obtain ⟨h1,h2,h3,h4,h5,h6,h7⟩:=ih (by omega)
  have ho:ops[i]? =some (ops[i]'(by omega)):=by simp
  obtain ⟨_,e,_⟩:=hw i _ (by omega) ho
  have look: ∀k,lookB (f (i+1)).heap k=match B i,visB sto i with|some cs,true=>if n0+i=k then .cells cs else lookB (f i).heap k|_,_=>lookB (f i).heap k:=by
   intro k;rw [e];cases B i with
   |none=>rfl
   |some cs=>
    cases visB sto i with
    |true=>show lookB ((n0+i,Blk.cells cs)::(f i).heap) k=_;rw [lookB_cons]
    |false=>rfl
  have hn:(f (i+1)).next=(f i).next:=by rw [e]
  have hl:(f (i+1)).lim=(f i).lim:=by rw [e]
  have ne: ∀k,k≠n0+i->lookB (f (i+1)).heap k=lookB (f i).heap k:=by
   intro k hk;rw [look];cases B i with
   |none=>rfl
   |some cs=>
    cases visB sto i with
    |true=>simp only;rw [if_neg (by omega)]
    |false=>rfl
  have sup:Sup (f i).heap (f (i+1)).heap:=by
   intro k b hb hg;by_cases hk:k=n0+i
   . rw [h1 k (by omega)] at hb;exact (hg hb.symm).elim
   . rw [ne k hk];exact hb
  refine ⟨?_, ?_, ?_, ?_,by rw [hn,h5],by rw [hl,h6], ?_⟩
  . intro k hk;rw [ne k (by omega)];exact h1 k (by omega)
  . intro k hk;rw [ne k (by omega)];exact h2 k hk
  . intro i' hi'
    rcases Nat.lt_or_eq_of_le hi' with h|rfl
    . intro k b hb hg;have:=h3 i' (by omega) k b hb hg
      exact sup k b this hg
    . exact fun _ _ h _=>h
  . intro j cs hj hv hB;rcases Nat.lt_succ_iff_lt_or_eq.1 hj with h|rfl
    . rw [ne _ (by omega)];exact h4 j cs h hv hB
    . rw [look,hB,hv];simp
  . intro j hj hv;rcases Nat.lt_succ_iff_lt_or_eq.1 hj with h|rfl
    . rw [ne _ (by omega)];exact h7 j h hv
    . rw [look,hv];cases B j<;>exact h1 _ (Nat.le_refl _)
theorem way_tmps3 {n0:Nat} {ops:List Oper} {sto:List (Nat×Nat)} {f:Nat->St} {y:Nat->Tm} {B:Nat->Option (List Cell)} {m:Nat} {dst:Nat->Option Tmp} (hdst: ∀j o,ops[j]? =some o->dst j=o.dst)
 (hw: ∀j o,j<m->ops[j]? =some o->DStep3 P τ Γ n0 ops sto j o (y j) (B j) (f j) (f (j+1))) (hops:m<=ops.length):
 ∀i,i<=m->(f i).tmps=tsOf y dst (f 0).tmps (fun _=>true) i:=by
 intro i
 induction i with
 |zero=>intro _;rfl
 |succ i ih=>
  intro hi;have ho:ops[i]? =some (ops[i]'(by omega)):=by simp
  obtain ⟨_,e,_⟩:=hw i _ (by omega) ho
  rw [e];simp only [tsOf,hdst i _ ho,ih (by omega)]
theorem draw_head3 (hτ:TysOk P τ) (hz: ∀t i,τ t=some i->zeroOk i.zero) (hΓ:SumsOk P Γ) {calls:Nat->List Va->St->(Tm->St->Prop)->Prop} (hcalls:CallsOk P base calls)
 {ops:Array Oper} {Q:Exit->Act->World->Prop} {n0 m:Nat} {f:Nat->St} {y:Nat->Tm} {B:Nat->Option (List Cell)} {dst:Nat->Option Tmp} {sto:List (Nat×Nat)}
 (hm:m<=ops.size) (hdraw:drawOk2 ops.toList m=true) (hdst: ∀j o,ops[j]? =some o->dst j=o.dst)
 (hw: ∀j o,j<m->ops.toList[j]? =some o->DStep3 P τ Γ n0 ops.toList sto j o (y j) (B j) (f j) (f (j+1))) (hid:idsBelow (f 0).heap n0=true) (hb:base<=n0) (hsto:StoOk ops sto m) {K:St->Prop}
 (htail: ∀(listed:Array Bool) (ψ:Psi) (S:Nat->Prop) (w:World) (a:Act),listed.size=ops.size->(∀j,listed.getD j false=decide (j<m))->Rel P base ψ S w ⟨(f m).tmps,hfOf n0 B sto (fun _=>true) (f m).heap,n0+m,(f m).lim⟩ a->
  (∀st' ψ' S' w' a',K st'->Rel P base ψ' S' w' st' a'->Ext base ψ S w ψ' S' w'->Q .normal a' w')->wpAny P .any ops Q (ops.size-m) listed a w):
 ∀(fuel:Nat) (listed:Array Bool) (ψ:Psi) (S:Nat->Prop) (w:World) (a:Act),listed.size=ops.size->cntD (fun j=>listed.getD j false) m+fuel=ops.size->
 (∀j,listed.getD j false=true->j<m)->Down ops (fun j=>listed.getD j false)->(∀j,j<m->listed.getD j false=false->ψ (n0+j)=none)->
 Rel P base ψ S w ⟨tsOf y dst (f 0).tmps (fun j=>listed.getD j false) m,hfOf n0 B sto (fun j=>listed.getD j false) (f m).heap,n0+m,(f m).lim⟩ a->
 (∀st' ψ' S' w' a',K st'->Rel P base ψ' S' w' st' a'->Ext base ψ S w ψ' S' w'->Q .normal a' w')->wpAny P .any ops Q fuel listed a w:=by
 obtain ⟨hback,hord⟩:=drawOk2_spec hdraw
 have hheap:=way_heap3 hw (by simpa using hm) hid
 have htmps:=way_tmps3 (dst:=dst) (fun j o ho=>hdst j o (by simpa using ho)) hw (by simpa using hm)
 intro fuel
 induction fuel with
 |zero=>
  intro listed ψ S w a hsz hcnt hsup hdown hun hrel hq;have hle:=cntD_le (D:=fun j=>listed.getD j false) m
  have hfull:=cntD_full (D:=fun j=>listed.getD j false) m (by omega)
  rw [show 0=ops.size-m by omega];refine htail listed ψ S w a hsz ?_ ?_ hq
  . intro j;by_cases hj:j<m
    . simp only [hj,decide_true];exact hfull j hj
    . simp only [hj,decide_false];cases h:listed.getD j false with
      |false=>rfl
      |true=>exact absurd (hsup j h) hj
  . rw [hf_congr (D':=fun _=>true) fun p hp=>hfull p.1 (hsto.lt p hp).1] at hrel;refine ⟨hrel.bas,hrel.sim,hrel.lim,hrel.defers,fun t=> ?_⟩
    have:=hrel.tmps t
    rw [htmps m (Nat.le_refl _)]
    rwa [tsOf_same (D':=fun _=>true) m fun j hj _=>hfull j hj] at this
 |succ fuel ih=>
  intro listed ψ S w a hsz hcnt hsup hdown hun hrel hq;have hle:=cntD_le (D:=fun j=>listed.getD j false) m
  rcases Nat.lt_or_eq_of_le hle with hlt|heq
  . obtain ⟨j0,hj0,hj1,hj2⟩:=cntD_lt (D:=fun j=>listed.getD j false) m hlt
    have getD: ∀j,j<ops.size->listed.getD j true=listed.getD j false:=by
     intro j hj;simp [Array.getD,hsz,hj]
    have hjo:ops[j0]? =some (ops[j0]'(by omega)):=by simp<;>omega
    have hready:j0∈Region.ready .any ops listed:=by
     refine mem_ready.2 ⟨by rw [getD j0 (by omega)];exact hj1,_,hjo,fun e he hbi=> ?_⟩
     exact hj2 e.on (hback j0 _ hjo e (by simpa using he) hbi)
    refine ⟨fun h=>by rw [h] at hready;simp at hready, ?_⟩
    intro i hi;obtain ⟨hi1,o,ho,hi2⟩:=mem_ready.1 hi
    have hin:i<ops.size:=(Array.getElem?_eq_some_iff.1 ho).1
    rw [getD i hin] at hi1;have hcl: ∀j,Cl ops i j->listed.getD j false=true:=fun j h=>h.down hdown fun o' ho' e he hbi=>by
     rw [ho] at ho';cases ho';exact hi2 e (by simpa using he) hbi
    have him:i<m:=by
     rcases Nat.lt_or_ge i m with h|h
     . exact h
     . rcases hord i j0 _ o ho hjo (by omega) hj0 with h1|h1
       . have:=hcl _ h1;simp only [this] at hj1;cases hj1
       . exact h1.1
    have hol:ops.toList[i]? =some o:=by simpa using ho
    -- the slots that it reads are as in the text's order
    have reads: ∀t,t∈readsOf ops.toList o->lookT (tsOf y dst (f 0).tmps (fun j=>listed.getD j false) m) t=lookT (f i).tmps t:=by
     intro t ht;rw [htmps i (by omega),tsOf_cut (i:=i) m (by omega),tsOf_same (D':=fun _=>true) i]
     . intro j hj hd;have hjo':ops[j]? =some (ops[j]'(by omega)):=by simp<;>omega
       rcases hord i j _ o ho hjo' hj (by omega) with h1|h1
       . exact hcl j h1
       . rw [hdst j _ hjo'] at hd;exact absurd ht ((clash_spec h1.2).1 t hd).1
     . intro j h1 h2 hd;rcases Nat.lt_or_eq_of_le h1 with h3|rfl
       . have hjo':ops[j]? =some (ops[j]'(by omega)):=by simp<;>omega
         rcases hord j i o _ hjo' ho h3 him with h4|h4
         . cases hD:listed.getD j false with
           |false=>rfl
           |true=>
            have:listed.getD i false=true:=h4.down hdown fun o' ho' e he hbi=>hdown j o' ho' hD e he hbi
            rw [this] at hi1;cases hi1
         . rw [hdst j _ hjo'] at hd;exact absurd ht ((clash_spec h4.2).2 t hd)
       . exact hi1
    have hD': ∀j,(listed.setIfInBounds i true).getD j false=(listed.getD j false||j==i):=by
     intro j;by_cases hij:i=j
     . subst hij;simp [Array.getD,hsz,hin]
     . rw [getD_set_ne _ hij];have:(j==i)=false:=by simp<;>omega
       simp [this]
    have adds: ∀t,lookT (tsOf y dst (f 0).tmps (fun j=>(listed.setIfInBounds i true).getD j false) m) t=if dst i=some t then y i else lookT (tsOf y dst (f 0).tmps (fun j=>listed.getD j false) m) t:=by
     intro t;refine tsOf_add him hi1 hD' fun j h1 h2 hd hd'=> ?_
     have hjo':ops[j]? =some (ops[j]'(by omega)):=by simp<;>omega
     rcases hord j i o _ hjo' ho h1 him with h4|h4
     . cases hD:listed.getD j false with
       |false=>rfl
       |true=>
        have:listed.getD i false=true:=h4.down hdown fun o' ho' e he hbi=>hdown j o' ho' hD e he hbi
        rw [this] at hi1;cases hi1
     . rw [hdst j _ hjo'] at hd;rw [hdst i _ ho] at hd'
       exact absurd hd ((clash_spec h4.2).1 t hd').2
    obtain ⟨hlim,hst,hstep⟩:=hw i o him hol
    have hlim':inLim o.dst (f m).lim=true:=by
     rw [(hheap m (Nat.le_refl _)).2.2.2.2.2.1, <-(hheap i (by omega)).2.2.2.2.2.1];exact hlim
    -- on with the next ones
    have next: ∀x,Known x (y i)-> ∀ψ' S' w' a',Rel P base ψ' S' w' ⟨putT o.dst x (tsOf y dst (f 0).tmps (fun j=>listed.getD j false) m),hfOf n0 B sto (fun j=>(listed.setIfInBounds i true).getD j false) (f m).heap,n0+m,(f m).lim⟩ a'->Ext base ψ S w ψ' S' w'->
     (∀k,n0<=k->k<n0+m->k≠n0+i->ψ' k=ψ k)->wpAny P .any ops Q fuel (listed.setIfInBounds i true) a' w':=by
     intro x hkn ψ' S' w' a' hr he hp
     refine ih _ ψ' S' w' a' (by simp [hsz]) ?_ ?_ ?_ ?_ ?_ fun st2 ψ2 S2 w2 a2 q1 q2 q3=>hq _ _ _ _ _ q1 q2 (he.trans q3)
     . have:=cntD_add (D:=fun j=>listed.getD j false) (D':=fun j=>(listed.setIfInBounds i true).getD j false) (i:=i) hi1 hD' m him
       omega
     . intro j hj;have hj:=(hD' j).symm.trans hj
       simp only [Bool.or_eq_true,beq_iff_eq] at hj;rcases hj with hj|rfl
       . exact hsup j hj
       . exact him
     . intro j oj hoj hj e he' hbi
       have hj:=(hD' j).symm.trans hj
       refine (hD' e.on).trans ?_
       simp only [Bool.or_eq_true,beq_iff_eq] at hj⊢
       rcases hj with hj|rfl
       . exact .inl (hdown j oj hoj hj e he' hbi)
       . rw [ho] at hoj;cases hoj
         exact .inl (hi2 e (by simpa using he') hbi)
     . intro j hj hDj;have hDj:=(hD' j).symm.trans hDj
       simp only [Bool.or_eq_false_iff,beq_eq_false_iff_ne] at hDj;rw [hp (n0+j) (by omega) (by omega) (by omega)];exact hun j hj hDj.1
     . refine ⟨hr.bas,hr.sim,hr.lim,hr.defers,fun t=> ?_⟩
       have:=hr.tmps t
       rw [adds];rw [lookT_putT] at this;rw [<-hdst i o ho] at this;by_cases hd:dst i=some t
       . rw [if_pos hd] at this⊢;exact hkn.rep this
       . rw [if_neg hd] at this⊢;exact this
    have guard: ∀b,dWant ops.toList (f i) o (fun w=>w=b)->Region.wanted o (yielded ops a.tmps)=b:=by
     intro b hb;refine dWant_real (P:=P) (ψ:=ψ) (S:=S) (w:=w) hb fun j want s hg hs=> ?_
     rw [<-reads s (by simp only [readsOf,hg,hs];simp)];exact hrel.tmps s
    unfold wpOp;rw [ho];simp only
    have hev: ∀z∈o.op.operands.toList,ev (f i) z=ev ⟨tsOf y dst (f 0).tmps (fun j=>listed.getD j false) m,hfOf n0 B sto (fun j=>listed.getD j false) (f m).heap,n0+m,(f m).lim⟩ z:=by
     intro z hz;cases z with
     |tmp t=>exact (reads t (operand_reads hz)).symm
     |_=>rfl
    have hrel2:Rel P (n0+m) ψ S w ⟨tsOf y dst (f 0).tmps (fun j=>listed.getD j false) m,hfOf n0 B sto (fun j=>listed.getD j false) (f m).heap,n0+m,(f m).lim⟩ a:=⟨Nat.le_refl _,hrel.sim,hrel.lim,hrel.defers,hrel.tmps⟩
    rcases hstep with ⟨hns,hstep⟩|⟨ia,cs,hs,hBi,hyi,hsd⟩
    . have hsame:hfOf n0 B sto (fun j=>(listed.setIfInBounds i true).getD j false) (f m).heap=hfOf n0 B sto (fun j=>listed.getD j false) (f m).heap:=hf_congr fun p hp=>by
       show (listed.setIfInBounds i true).getD p.1 false=listed.getD p.1 false
       rw [hD' p.1];have:p.1≠i:=fun e=>by have:=stoOf_mem hsto hp;rw [e,hns] at this;cases this
       simp [this]
      rw [hsame] at next;have hsup:Sup (f i).heap (hfOf n0 B sto (fun j=>listed.getD j false) (f m).heap):=by
       intro k b hb hg;rw [hf_miss,(hheap m (Nat.le_refl _)).2.2.1 i (by omega) k b hb hg];intro p hp e;have hpl:=hsto.lt p hp
       have hgone:lookB (f i).heap k= .gone:=by
        rw [e];rcases Nat.lt_or_ge p.2 i with h|h
        . exact (hheap i (by omega)).2.2.2.2.2.2 p.2 h (by unfold visB;rw [hidOf_mem hp];rfl)
        . exact (hheap i (by omega)).1 _ (by omega)
       rw [hgone] at hb;exact hg hb.symm
      rcases hstep with ⟨h1,h2,h3⟩|⟨x,h1,h2,h3⟩
      . rw [if_neg (by rw [guard _ h1];simp)];obtain ⟨st2,g1,g2⟩:=putK_rel (v:=undef) (putK_put (x:=undT) hlim') hrel rfl
        subst g1;exact next undT (.inl h2) ψ S w _ g2 (Ext.refl _ _ _ _) fun _ _ _ _=>rfl
      . rw [if_pos (guard _ h1)]
        left
        have hop:=dOp_congr (st':=⟨tsOf y dst (f 0).tmps (fun j=>listed.getD j false) m,hfOf n0 B sto (fun j=>listed.getD j false) (f m).heap,n0+m,(f m).lim⟩) hev hsup h2
        cases hB:B i with
        |none=>
         rw [hB] at hop;refine dOp_ok hτ hz hΓ hrel2 hlim' hop _ _ ?_
         rintro st' ψ' S' w' a' rfl g1 g2
         exact next x h3 ψ' S' w' a' ⟨by have:=hb;show base<=n0+m;omega,g1.sim,g1.lim,g1.defers,g1.tmps⟩ (g2.weaken (by omega)) fun k _ hk _=>g2.agr k hk
        |some cs=>
         rw [hB] at hop;have hlk:lookB (hfOf n0 B sto (fun j=>listed.getD j false) (f m).heap) (n0+i)= .cells cs:=by
          by_cases hh:hidOf sto i=true
          . obtain ⟨p,hp,e⟩:=hidOf_get hh
            have hpl:=hsto.lt p hp
            have hpj:listed.getD p.1 false=false:=by
             cases hc:listed.getD p.1 false with
             |false=>rfl
             |true=>
              have hpo:ops[p.1]? =some (ops[p.1]'(by omega)):=by simp<;>omega
              have:=(hsto.cl p hp).down hdown fun o' ho' e he hbi=>hdown p.1 o' ho' hc e he hbi
              rw [e,hi1] at this;cases this
            have:=hf_hit (B:=B) (n0:=n0) (D:=fun j=>listed.getD j false) (h:=(f m).heap) hsto hp
            rw [e] at this;rw [this];show Blk.cells (if listed.getD p.1 false=true then _ else (B i).getD [])=_
            rw [hpj,hB];rfl
          . rw [hf_miss (fun p hp e=>hh (by have:p.2=i:=by omega
                                            rw [<-this];exact hidOf_mem hp))]
            exact (hheap m (Nat.le_refl _)).2.2.2.1 i cs him (by unfold visB;rw [hns];simpa using hh) hB
         refine dOp_blk (base:=base) hτ hz hrel (hun i him hi1) (by omega) (by omega) hlk hlim' hop _ _ ?_
         intro ψ' S' w' a' g1 g2 g3
         exact next x h3 ψ' S' w' a' g1 g2 fun k _ _ hk=>g3 k hk
    . obtain ⟨t,ad,xo,yv,hopx,hg,ea,ex,sz0,hlay,hcs,hsz,hZ⟩:=dSto_get hsd
      have hw1:dWant ops.toList (f i) o (fun w=>w=true):=by unfold dWant;rw [hg]
      rw [if_pos (guard _ hw1)]
      left
      have hmem:=stoOf_get hs
      have hpl:=hsto.lt _ hmem
      have e1:=hev ad (by rw [hopx];simp [Op.operands])
      have e2:=hev xo (by rw [hopx];simp [Op.operands])
      have hlook:lookB (hfOf n0 B sto (fun j=>listed.getD j false) (f m).heap) (n0+ia)= .cells ((B ia).getD []):=by
       have:=hf_hit (B:=B) (n0:=n0) (D:=fun j=>listed.getD j false) (h:=(f m).heap) hsto hmem
       rw [this];show Blk.cells (if listed.getD i false=true then _ else _)=_
       rw [hi1];rfl
      -- the zero cells of the block
      have hia:ops.toList[ia]? =some (ops[ia]'(by omega)):=by simp<;>omega
      have hlen:((B ia).getD []).length=cs.length:=by
       obtain ⟨_,_,hst2⟩:=hw ia _ (by omega) hia
       rcases hst2 with ⟨_,hst2⟩|⟨_,_,hq,_⟩
       . obtain ⟨ti,e,z,hoa,hga,hτe,hz0,hzl⟩:=hZ _ hia
         obtain ⟨d1,d2,d3,d4⟩:=ti
         have hz0:d4=z:=hz0
         subst hz0;rcases hst2 with ⟨g1,_,_⟩|⟨x,_,g2,_⟩
         . unfold dWant at g1;rw [hga] at g1;cases g1
         . unfold dOp at g2;rw [hoa] at g2;simp only at g2
           rw [hτe] at g2;obtain ⟨_,g3⟩:=g2
           cases hBi2:B ia with
           |none=>rw [hBi2] at g3;cases g3
           |some zc=>
            rw [hBi2] at g3;have:zc=zeroCells' d4:=by simpa using g3.symm
            rw [this,Option.getD_some,hzl]
       . rw [hsto.na _ hmem] at hq;cases hq
      refine oStore_ok (K:=fun st'=>st'=⟨putT o.dst undT (tsOf y dst (f 0).tmps (fun j=>listed.getD j false) m),(n0+ia,.cells cs)::hfOf n0 B sto (fun j=>listed.getD j false) (f m).heap,n0+m,(f m).lim⟩) hτ hrel2 hopx ?_ _ _ ?_
      . rw [<-e1, <-e2,ea,ex];obtain ⟨desc,bt,zz,info,hti⟩:=hsz
        unfold oStore;rw [hti];simp only [hlook,hlay,hcs];rw [show Nat.beq cs.length sz0=true by rw [<-hcs];exact info];simp only
        rw [setAt_all hlen];simp only [fCs_eq];exact putK_put hlim'
      . rintro st' ψ' S' w' a' rfl g1 g2
        refine next undT (.inl (by rw [hyi])) ψ' S' w' a' ?_ (g2.weaken (by omega)) fun k _ hk _=>g2.agr k hk
        refine Rel.heapCg (fun k=> ?_) (⟨by have:=hb;show base<=n0+m;omega,g1.sim,g1.lim,g1.defers,g1.tmps⟩:Rel P base ψ' S' w' _ a')
        rw [lookB_cons];by_cases hk:n0+ia=k
        . rw [if_pos hk, <-hk];have:=hf_hit (B:=B) (n0:=n0) (D:=fun j=>(listed.setIfInBounds i true).getD j false) (h:=(f m).heap) hsto hmem
          rw [this];show _=Blk.cells (if (listed.setIfInBounds i true).getD i false=true then (B i).getD [] else _)
          rw [hD' i,hBi];simp
        . rw [if_neg hk];by_cases hq: ∃p∈sto,k=n0+p.2
          . obtain ⟨p,hp,e⟩:=hq
            rw [e,hf_hit hsto hp,hf_hit hsto hp]
            congr 1
            have:p.1≠i:=fun e3=>by
             have h5:=stoOf_mem hsto hp
             rw [e3,hs] at h5;have:ia=p.2:=by simpa using h5
             omega
            show (if listed.getD p.1 false=true then _ else _)=(if (listed.setIfInBounds i true).getD p.1 false=true then _ else _)
            rw [hD' p.1];simp [this]
          . rw [hf_miss (fun p hp e=>hq ⟨p,hp,e⟩),hf_miss (fun p hp e=>hq ⟨p,hp,e⟩)]
  . have hfull:=cntD_full (D:=fun j=>listed.getD j false) m heq
    rw [show (fuel+1)=ops.size-m by omega];refine htail listed ψ S w a hsz ?_ ?_ hq
    . intro j;by_cases hj:j<m
      . simp only [hj,decide_true];exact hfull j hj
      . simp only [hj,decide_false];cases h:listed.getD j false with
        |false=>rfl
        |true=>exact absurd (hsup j h) hj
    . rw [hf_congr (D':=fun _=>true) fun p hp=>hfull p.1 (hsto.lt p hp).1] at hrel;refine ⟨hrel.bas,hrel.sim,hrel.lim,hrel.defers,fun t=> ?_⟩
      have:=hrel.tmps t
      rw [htmps m (Nat.le_refl _)]
      rwa [tsOf_same (D':=fun _=>true) m fun j hj _=>hfull j hj] at this
theorem pw_ne {sto:List (Nat×Nat)}:(sto.Pairwise fun p q=>p.1≠q.1/\ p.2≠q.2)-> ∀{p q:Nat×Nat},p∈sto->q∈sto->p≠q->p.1≠q.1/\ p.2≠q.2:=by
 intro hn
 induction sto with
 |nil=>intro p q hp;cases hp
 |cons x l ih=>
  rw [List.pairwise_cons] at hn;intro p q hp hq hne;rcases List.mem_cons.1 hp with e|hp
  . rcases List.mem_cons.1 hq with e'|hq
    . exact absurd (e.trans e'.symm) hne
    . rw [e];exact hn.1 q hq
  . rcases List.mem_cons.1 hq with e'|hq
    . rw [e'];have:=hn.1 p hp;exact ⟨fun e=>this.1 e.symm,fun e=>this.2 e.symm⟩
    . exact ih hn.2 hp hq hne
theorem lookB_or (h':List (Nat×Blk)) (k:Nat): ∀(h:List (Nat×Blk)),(∀p∈h,p.2≠ .gone)->lookB (h++h') k=match lookB h k with| .gone=>lookB h' k|b=>b
 | [],_=>rfl
 |(i,x)::l,hg=>by
  rw [List.cons_append,lookB_cons,lookB_cons];by_cases hi:i=k
  . rw [if_pos hi,if_pos hi];have:=hg (i,x) List.mem_cons_self
    cases x<;>first|rfl|exact absurd rfl this
  . rw [if_neg hi,if_neg hi];exact lookB_or h' k l fun p hp=>hg p (List.mem_cons_of_mem _ hp)
theorem sp_live {n0:Nat} {B:Nat->Option (List Cell)} {sto:List (Nat×Nat)}: ∀q, ∀p∈spOf n0 B sto 0 [] q,p.2≠ .gone
 |0,p,hp=>by cases hp
 |q+1,p,hp=>by
  simp only [spOf] at hp;split at hp
  . rcases List.mem_cons.1 hp with rfl|hp
    . intro h;cases h
    . exact sp_live q p hp
  . exact sp_live q p hp
theorem sp_miss {n0 k:Nat} {B:Nat->Option (List Cell)} {sto:List (Nat×Nat)} (hk: ∀p∈sto,k≠n0+p.2): ∀q,lookB (spOf n0 B sto 0 [] q) k= .gone
 |0=>rfl
 |q+1=>by
  simp only [spOf];split
  . rename_i ia hs
    have:=hk _ (stoOf_get hs)
    rw [lookB_cons,if_neg (fun e=>this e.symm)];exact sp_miss hk q
  . exact sp_miss hk q
theorem sp_hit {ops:Array Oper} {m n0:Nat} {B:Nat->Option (List Cell)} {sto:List (Nat×Nat)} (hs:StoOk ops sto m) {p:Nat×Nat} (hp:p∈sto): ∀q,p.1<q->lookB (spOf n0 B sto 0 [] q) (n0+p.2)= .cells ((B p.1).getD [])
 |0,h=>by omega
 |q+1,h=>by
  have h1:=stoOf_mem hs hp
  simp only [spOf,Nat.zero_add];by_cases e:p.1=q
  . rw [<-e,h1];simp only;rw [lookB_cons,if_pos rfl]
  . have ih:=sp_hit (n0:=n0) (B:=B) hs hp q (by omega)
    split
    . rename_i ia h2
      rw [lookB_cons,if_neg,ih];intro e2;have h3:=stoOf_get h2
      have:(q,ia)=p:=by
       have hn:=hs.nd
       exact Classical.byContradiction fun hne=>by
        have:=pw_ne hn h3 hp hne
        have e4:ia=p.2:=by omega
        exact this.2 e4
      rw [<-this] at e;exact e rfl
    . exact ih
theorem draw_sto_at (hτ:TysOk P τ) (hz: ∀t i,τ t=some i->zeroOk i.zero) (hΓ:SumsOk P Γ) {calls:Nat->List Va->St->(Tm->St->Prop)->Prop} (hcalls:CallsOk P base calls) (hmix:P.follows .mixedOrders=true)
 {ops:Array Oper} {id:Nat} {Q:Exit->Act->World->Prop} {st:St} {K:St->Prop} (hrel:Rel P base ψ S w st a) (hid:idsBelow st.heap st.next=true) {mm:Nat} {sto:List (Nat×Nat)} (hsto:StoOk ops sto mm) (hm:mm<=ops.size) (hdraw:drawOk2 ops.toList mm=true) {K1:St->Prop} (hk:dGo3 P τ Γ st.next (guardsOf ops.toList) ops.toList sto 0 (ops.toList.take mm) st [] fun st' sp=>match st' with|⟨ts,h,n,l⟩=>K1 ⟨ts,sp++h,n+mm,l⟩)
 (htail: ∀(listed:Array Bool) (ψ:Psi) (S:Nat->Prop) (w:World) (st1:St) (a:Act),K1 st1->listed.size=ops.size->(∀j,listed.getD j false=decide (j<mm))->Rel P base ψ S w st1 a->
  (∀st' ψ' S' w' a',K st'->Rel P base ψ' S' w' st' a'->Ext base ψ S w ψ' S' w'->Q .normal a' w')->wpAny P .any ops Q (ops.size-mm) listed a w)
 (hq: ∀st' ψ' S' w' a',K st'->Rel P base ψ' S' w' st' a'->Ext base ψ S w ψ' S' w'->Q .normal a' w'):(Code.region id ops true).wp P Q a w:=by
 obtain ⟨f,y,B,sp',h1,h2,h3,hsp⟩:=dGo3_way _ _ _ _ _ hk
 have hlen:(ops.toList.take (mm)).length=mm:=by simp<;>omega
 rw [hlen] at h2 hsp;have hw: ∀j o,j<mm->ops.toList[j]? =some o->DStep3 P τ Γ st.next ops.toList sto j o (y j) (B j) (f j) (f (j+1)):=by
  intro j o hj ho;have:=h3 j o (by rw [List.getElem?_take];simp [hj];simpa using ho)
  simpa using this
 have hheap:=way_heap3 hw (by simpa using hm) (by rw [h1];exact hid) _ (Nat.le_refl _)
 obtain ⟨g1,g2,g3,g4,g5,g6,g7⟩:=hheap
 refine wp_region_any hmix ?_
 obtain ⟨hrel1,hext1⟩:Rel P base ψ S {w with drawn:=w.drawn+1} st a/\ Ext base ψ S w ψ S {w with drawn:=w.drawn+1}:=
  hrel.ext0 ⟨rfl,rfl,rfl,Nat.le_refl _,fun _ _=>rfl,fun _ h=>h,fun _ h=> .inl h,hrel.sim.sdom⟩
 refine draw_head3 (sto:=sto) hτ hz hΓ hcalls hm hdraw (dst:=fun j=>(ops[j]?).bind (·.dst)) (fun j o ho=>by simp [ho]) hw (by rw [h1];exact hid) hrel.bas hsto (K:=K) ?_ ops.size _ ψ S _ a (by simp) ?_ ?_ ?_ ?_ ?_ ?_
 . intro listed ψ' S' w' a' q1 q2 q3 q4
   have e:(f (mm)).next=st.next:=by rw [g5,h1]
   refine htail listed ψ' S' w' ⟨(f mm).tmps,sp'++(f mm).heap,st.next+mm,(f mm).lim⟩ a' ?_ q1 q2 (Rel.heapCg (fun k=> ?_) q3) q4
   . rw [<-e];exact h2
   . rw [hsp,lookB_or _ _ _ (sp_live _)];by_cases hq: ∃p∈sto,k=st.next+p.2
     . obtain ⟨p,hp,rfl⟩:=hq
       rw [hf_hit hsto hp,if_pos rfl,sp_hit (n0:=st.next) (B:=B) hsto hp mm (hsto.lt p hp).1]
     . rw [hf_miss fun p hp e=>hq ⟨p,hp,e⟩,sp_miss (n0:=st.next) (B:=B) (sto:=sto) (k:=k) (fun p hp e=>hq ⟨p,hp,e⟩) mm]
 . have: ∀m,cntD (fun j=>(Array.replicate ops.size false).getD j false) m=0:=by
    intro m
    induction m with
    |zero=>rfl
    |succ m ih=>
     simp only [cntD,ih];have:(Array.replicate ops.size false)[m]?.getD false=false:=by by_cases h:m<ops.size<;>simp [h]
     simp [this]
   rw [this];simp
 . intro j hj;simp [Array.getD] at hj
 . intro i o _ hi;simp [Array.getD] at hi
 . intro j _ _;exact hrel.sim.dom _ (by omega)
 . have hts:tsOf y (fun j=>(ops[j]?).bind (·.dst)) (f 0).tmps (fun j=>(Array.replicate ops.size false).getD j false) (mm)=st.tmps:=by
    rw [h1]
    clear hk h2 h3 hw g1 g2 g3 g4 g5 g6 g7 hsp hsto
    clear hm hdraw hlen
    generalize mm=m
    induction m with
    |zero=>rfl
    |succ m ih=>simp only [tsOf];have:(Array.replicate ops.size false).getD m false=false:=by simp [Array.getD]
                rw [this];exact ih
   rw [hts,g6,h1];have hlook: ∀k l,ψ k=some l->lookB (hfOf st.next B sto (fun j=>(Array.replicate ops.size false).getD j false) (f (mm)).heap) k=lookB st.heap k:=by
    intro k l hk;have:k<st.next:=by
     rcases Nat.lt_or_ge k st.next with h|h
     . exact h
     . rw [hrel.sim.dom k h] at hk;cases hk
    rw [hf_miss (fun p hp e=>by omega),g2 k this,h1]
   have hs:=hrel1.sim
   refine ⟨by have:=hrel.bas;show base<=st.next+_;omega,⟨fun k hk=>hs.dom k (by have hk:st.next+mm<=k:=hk;omega),fun k l hk=>by rw [hlook k l hk];exact hs.blk k l hk,fun k k' b m1 m2 e1 e2 l1 l2=> ?_,fun k b m1 e1 l1=> ?_,hs.pdom,hs.sdom⟩,hrel1.lim,hrel1.defers,hrel1.tmps⟩
   . rw [hlook _ _ e1] at l1;rw [hlook _ _ e2] at l2;exact hs.inj k k' b m1 m2 e1 e2 l1 l2
   . rw [hlook _ _ e1] at l1;exact hs.dis k b m1 e1 l1
 . intro st' ψ' S' w' a' q1 q2 q3
   exact hq _ _ _ _ _ q1 q2 (hext1.trans q3)
end
structure Tl (F G:St->Prop):Prop where
 run:True-> ∃s,F s/\ G s
theorem tl_intro {F G:St->Prop} {s:St} (h1:F s) (h2:G s):Tl F G:=⟨fun _=>⟨s,h1,h2⟩⟩
theorem draw_sto {P:Program} {t:TT} (ht:t.ok P) {l:List (Nat×Sm)} (hl:sumsOk P l) (hmix:P.follows .mixedOrders=true) {base:Nat} {ops:Array Oper} {id:Nat} {st:St} {Q:Exit->St->Prop} (m:Nat) (sto:List (Nat×Nat)) (p:Plan) (live:List Nat)
 (hp:(Region.noSelect ops&&Nat.ble m ops.size&&drawOk2 ops.toList m&&stoB ops.toList sto m&&planOk ops (ops.size-m) ((List.range ops.size).map fun j=>Nat.blt j m).toArray p)=true) (hid:idsBelow st.heap st.next=true)
 (hk:dGo3 P t.get (sums l) st.next (guardsOf ops.toList) ops.toList sto 0 (ops.toList.take m) st [] fun st' sp=>match st' with
  |⟨ts,h,n,lm⟩=>Tl (fun s=>vcP P t.get (vcCall P (sums l) base) ops.toList p ⟨ts,sp++h,n+m,lm⟩ fun st'=>normK live st' fun s'=>s'=s) fun s=>Q .normal s):ASat P base (.region id ops true) st Q:=by
 simp only [Bool.and_eq_true] at hp;obtain ⟨⟨⟨⟨hsel,hm⟩,hd⟩,hsb⟩,hpl⟩:=hp
 have hm:=Nat.le_of_ble_eq_true hm
 refine ⟨fun ψ S w a hr=> ?_⟩
 have h:=draw_sto_at (Q:=fun e a' w'=>e= .normal/\ ∃st' ψ' S',Q e st'/\ Rel P base ψ' S' w' st' a'/\ Ext base ψ S w ψ' S' w') (TT.tysOk ht) (TT.zeros ht) (sums_ok hl) (vcCall_ok (sums_ok hl) base) hmix hr hid (stoB_ok hsb) hm hd (K:=Q .normal) (id:=id)
  (K1:=fun st1=>Tl (fun s=>vcP P t.get (vcCall P (sums l) base) ops.toList p st1 fun st'=>normK live st' fun s'=>s'=s) fun s=>Q .normal s) hk ?_ ?_
 . exact wp_mono h fun e a' w' h=>h.2
 . intro listed ψ1 S1 w1 st1 a1 hk1 hsz hls hrel hq;obtain ⟨s,hv,hs⟩:=hk1.run trivial
   have e:listed=((List.range ops.size).map fun j=>Nat.blt j m).toArray:=by
    apply Array.ext
    . simp [hsz]
    . intro i h1 h2;have:=hls i
      simp only [Array.getD,h1,dite_true] at this;simp only [List.getElem_toArray,List.getElem_map,List.getElem_range];rw [show listed[i]=decide (i<m) from this];rw [Bool.eq_iff_iff,decide_eq_true_eq,Nat.blt_eq]
   rw [<-e] at hpl;refine vcP_ok (TT.tysOk ht) (TT.zeros ht) (vcCall_ok (sums_ok hl) base) hsel (fun c a w h=>by simp at h) p _ listed ψ1 S1 w1 st1 a1 _ hpl hrel hv ?_
   intro st' ψ' S' w' a' h1 h2 h3
   have h1:normK live st' (fun s'=>s'=s):=h1
   rw [normK_eq] at h1;refine hq s ψ' S' w' a' hs ?_ h3
   rw [<-h1];exact h2.norm live
 . intro st' ψ' S' w' a' h1 h2 h3
   exact ⟨rfl,st',ψ',S',h1,h2,h3⟩
end Go.Sx
namespace Go.Proofs.YtkfjfgabianfhaaGreat
open Go.Sx
theorem fc_calls {P:Program} {f:Nat} {F:List Ar->Option Rs} (hc:Callable P f) (h: ∀xs pre r us,F xs=some ⟨pre,r,us⟩->pre->
 ∃(vs:List Value) (v:Value),xs=vs.map (fun x=>Ar.c (.d (.v x)))/\ us= []/\ (∀w,Calls P f vs.toArray w fun e w'=>e= .returned v/\ w'=w)/\ ∀S w,RepRt P S w r v []):FC P f F:=by
 intro xs pre r us hF hpre S w vals ls hS hr hsep;obtain ⟨vs,v,rfl,rfl,hrun,hrep⟩:=h _ _ _ _ hF hpre
 have hrows: ∀(vs:List Value),arsRows (vs.map fun x=>Ar.c (.d (.v x)))= []:=by
  intro vs
  induction vs with
  |nil=>rfl
  |cons v vs ih=>simp [arsRows,arRows,icRows,ih]
 have e:=repArs_rows hr (hrows vs)
 subst e;have hv:vals=vs:=by
  clear hrun hF hrows
  induction vs generalizing vals with
  |nil=>cases vals with|nil=>rfl|cons _ _=>simp [RepArs] at hr
  |cons x vs ih=>cases vals with
   |nil=>simp [RepArs] at hr
   |cons u vals=>
    simp only [List.map_cons,RepArs] at hr;obtain ⟨l1,l2,e,h1,h2⟩:=hr
    obtain ⟨rfl,rfl⟩:=List.append_eq_nil_iff.1 e.symm
    have h1:RepIcs S w [.d (.v x)] [u] []:=h1
    have h1:RepD S w (.v x) u:=h1.1
    cases h1;rw [ih _ h2]
 subst hv;refine .inl ⟨hc,(hrun w).mono ?_⟩
 rintro e w' ⟨rfl,rfl⟩
 refine ⟨v,S,[],rfl,hrep S w', ?_,trivial,⟨rfl,rfl,rfl,Nat.le_refl _,fun _ _ _=>rfl,Later.refl _ _,fun _ h=> .inl h,fun b hb=> .inl hb,hS⟩⟩
 rw [hrows];trivial
def FStrCmp:List Ar->Option Rs
 | [.c (.d (.v (.string x))),.c (.d (.v (.string y)))]=>some ⟨True,.va (.c (.d (it (cfL x.data.toList y.data.toList)))),[]⟩
 |_=>none
theorem fcStrCmp:FC Tryz.prog 59 FStrCmp:=by
 refine fc_calls (callable_of Tryz.func59 rfl rfl) fun xs pre r us h hp=> ?_
 unfold FStrCmp at h;split at h
 . rename_i x y
   cases h;exact ⟨[.string x,.string y],_,rfl,rfl,fun w=>Tryz.strings_Compare x y w,fun S w=>And.intro (.v trivial) trivial⟩
 . cases h
def FIsNaN:List Ar->Option Rs
 | [.c (.d (.v (.int .i64 i0)))]=>some ⟨(-9223372036854775808<=i0/\ i0<9223372036854775808),.va (.c (.d (bo (false)))),[]⟩
 |_=>none
theorem fcIsNaN:FC Tryz.prog 81 FIsNaN:=by
 intro xs pre r us h hp;unfold FIsNaN at h;split at h
 . rename_i i0
   cases h;have hp0:=hp
   refine fcat tys_ok (l:= []) trivial Tryz.func81 rfl (by kernel_rfl) false ?_
   repeat' (first|exact trivial|refine ⟨?_, ?_⟩|intro _)
   all_goals first|(with_reducible apply qq)|(conv=>whnf)
   all_goals first|(refine congrArg Value.bool ?_;simp;done)
 . cases h
def FKyClean:List Ar->Option Rs
 | [.agg [.d (.v (.string x0)),.d (.v (.int .i64 i0))]]=>some ⟨(rI i0),.va (Ky.ar (Ky.cl (⟨x0,i0⟩:Ky))),[]⟩
 |_=>none
theorem fcKyClean:FC Tryz.prog 10 FKyClean:=by
 intro xs pre r us h hp;unfold FKyClean at h;split at h
 . rename_i x0 i0
   cases h;have hp0:=hp
   refine fcat tys_ok (l:= []) trivial Tryz.func10 rfl (by kernel_rfl) true ?_
   repeat' (first|exact trivial|refine ⟨?_, ?_⟩|intro _)
   all_goals first|(with_reducible apply qq)|(conv=>whnf)
   all_goals first|rfl|(refine congrArg (Value.int .i64) ?_;unfold Ky.cl;dsimp only;split<;>split<;>omega)
 . cases h
def FCmpInt:List Ar->Option Rs
 | [.c (.d (.v (.int .i64 i0))),.c (.d (.v (.int .i64 i1)))]=>some ⟨(-9223372036854775808<=i0/\ i0<9223372036854775808)/\ (-9223372036854775808<=i1/\ i1<9223372036854775808),.va (.c (.d (it (icmp i0 i1)))),[]⟩
 |_=>none
theorem fcCmpInt:FC Tryz.prog 60 FCmpInt:=by
 intro xs pre r us h hp;unfold FCmpInt at h;split at h
 . rename_i i0 i1
   cases h;obtain ⟨hp0,hp1⟩:=hp
   refine fcat tys_ok (l:= [(81,⟨[],FIsNaN⟩)]) ⟨fcIsNaN,trivial⟩ Tryz.func60 rfl (by kernel_rfl) true ?_
   repeat' (first|exact trivial|(with_reducible first|exact hp0.1|exact hp0.2|exact hp1.1|exact hp1.2|exact (fun h=>absurd (h:false=true) (by decide)))|refine ⟨?_, ?_⟩|intro _)
   all_goals first|(with_reducible apply qq)|(conv=>whnf)
   all_goals first|(refine congrArg (Value.int .i64) ?_;unfold icmp;simp only [decide_eq_true_eq,decide_eq_false_iff_not] at*;first|(rw [if_pos ‹_›];done)|(rw [if_neg ‹_›,if_pos ‹_›];done)|(rw [if_neg ‹_›,if_neg ‹_›];done)|(split<;>first|rfl|omega|(split<;>first|rfl|omega)))
 . cases h
def FCmpOr:List Ar->Option Rs
 | [.c (.d (.lst 1 2 f0))]=>some ⟨(f0 0= [it (gI (f0 0))]/\ f0 1= [it (gI (f0 1))]),.va (.c (.d (it (if gI (f0 0)=0 then gI (f0 1) else gI (f0 0))))),[]⟩
 |_=>none
theorem fcCmpOr:FC Tryz.prog 58 FCmpOr:=by
 intro xs pre r us h hp;unfold FCmpOr at h;split at h
 . rename_i f0
   cases h;have hp0:=hp
   refine FCat.deep (ys:= [.c (.d (.lst 1 2 fun i=> [it (gI (f0 i))]))]) ?_ ?_
   . repeat' (first|exact trivial|exact rfl|exact DvE.refl _|refine ⟨?_, ?_⟩|fail)
     all_goals first|exact canon2 hp0.1 hp0.2
   refine fcat tys_ok (l:= []) trivial Tryz.func58 rfl (by kernel_rfl) true ?_
   repeat' (first|exact trivial|refine ⟨?_, ?_⟩|intro _)
   all_goals first|(with_reducible apply qq)|(conv=>whnf)
   refine loop_unr tys_ok (l:= []) trivial (by kernel_rfl) 3 ?_
   repeat' (first|exact trivial|refine ⟨?_, ?_⟩|intro _)
   all_goals first|(with_reducible apply qq)|(conv=>whnf)
   all_goals (have w1:IntKind.wrap .i64 (0+1)=1:=wrap64 (by omega) (by omega))
   all_goals (have w2:IntKind.wrap .i64 (IntKind.wrap .i64 (0+1)+1)=2:=by rw [w1];exact wrap64 (by omega) (by omega))
   all_goals (simp only [w2,w1,Int.toNat_zero,Int.toNat_one] at*)
   all_goals first|omega|(exact absurd (of_decide_eq_true ‹decide ((2:Int)<_)=true›) (by omega))|(exact absurd (of_decide_eq_false ‹decide ((0:Int)<_)=false›) (by omega))|(exact absurd (of_decide_eq_false ‹decide ((1:Int)<_)=false›) (by omega))|skip
   all_goals (refine congrArg (Value.int .i64) ?_)
   all_goals first|(rw [if_neg (by simpa using ‹(gI (f0 0) !=0)=true›)];done)|(rw [if_neg (by simpa using ‹(gI (f0 0) !=0)=true›)];rfl)|(rw [if_pos (by simpa using ‹(gI (f0 0) !=0)=false›)];done)|(rw [if_pos (by simpa using ‹(gI (f0 0) !=0)=false›)];simpa using ‹(gI (f0 1) !=0)=false›)|(rw [if_pos (by simpa using ‹(gI (f0 0) !=0)=false›)];exact (by simpa using ‹(gI (f0 1) !=0)=false›:gI (f0 1)=0).symm)
 . cases h
def FKyCmp:List Ar->Option Rs
 | [.agg [.d (.v (.string x0)),.d (.v (.int .i64 i0))],.agg [.d (.v (.string x1)),.d (.v (.int .i64 i1))]]=>some ⟨(rI i0)/\ (rI i1),.va (.c (.d (it (Ky.cmp (⟨x0,i0⟩:Ky) (⟨x1,i1⟩:Ky))))),[]⟩
 |_=>none
theorem fcKyCmp:FC Tryz.prog 38 FKyCmp:=by
 intro xs pre r us h hp;unfold FKyCmp at h;split at h
 . rename_i x0 i0 x1 i1
   cases h;obtain ⟨hp0,hp1⟩:=hp
   refine fcat tys_ok (l:= [(10,⟨[],FKyClean⟩),(59,⟨[],FStrCmp⟩),(60,⟨[],FCmpInt⟩),(58,⟨[],FCmpOr⟩)]) ⟨fcKyClean,fcStrCmp,fcCmpInt,fcCmpOr,trivial⟩ Tryz.func38 rfl (by kernel_rfl) true ?_
   have hc0:=Ky.cl_r (k:=⟨x0,i0⟩) hp0
   have hc1:=Ky.cl_r (k:=⟨x1,i1⟩) hp1
   unfold rI at hc0 hc1
   repeat' (first|exact trivial|(with_reducible first|assumption|exact hc0.1|exact hc0.2|exact hc1.1|exact hc1.2)|refine ⟨?_, ?_⟩|intro _)
   all_goals first|(with_reducible apply qq)|(conv=>whnf)
   all_goals first|omega|rfl|(refine congrArg (Value.int .i64) ?_;exact rfl)
 . cases h
end Go.Proofs.YtkfjfgabianfhaaGreat
