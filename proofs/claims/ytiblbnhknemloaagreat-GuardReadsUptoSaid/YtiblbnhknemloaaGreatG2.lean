/- A symbolic executor for function bodies of the model, and that it is right: whatever it computes of a body is so of every call: part 2 of 3. No condition. -/
import Derived.Test.YtiblbnhknemloaaGreatG1
import GoSem.Core.Utf8
import Derived.Laws.BytesString
import Derived.Orders
set_option linter.all false
set_option maxHeartbeats 8000000
set_option maxRecDepth 100000
namespace Go.Sx
section
variable {P:Program} {τ:bF} {base:Nat} {ψ:aJ} {S:Nat→Prop} {w:World} {st:St} {a:Act} {o:Oper} {K:St→Prop}
theorem aUp {r:Nat} {es:Array MapEntry} {c:Nat} (h:w.heap[r]? =some (.map es c)):(getObj r).run P w= .ok (.map es c) w:=by simp [getObj,Sem.run,h]
theorem aUx (ab:bE P τ) {kt:TypeId} {fs:Array Field} {sz:Nat} {nb:TX} {z:Value} {xs:List Value} (ht:τ kt=some ⟨.struct fs,sz,nb,z⟩) (h:fs.toList.all (aMi τ xs)=true) (e:Bool):
 (Instr.checkKey e 10000 kt (.agg xs.toArray)).run P w= .ok () w:=by
 rw [show (10000:Nat)=9999+1 from rfl,Instr.checkKey];simp only [Sem.run_bind,fU ab ht,Result.andThen_ok];rw [<-Array.forIn_toList]
 generalize fs.toList=L at h
 induction L with
 |nil=>simp
 |cons f L ih=>
  simp only [List.all_cons,Bool.and_eq_true] at h;obtain ⟨hf,hL⟩:=h
  unfold aMi at hf;split at hf
  . rename_i d s b' z' mb
    simp only [Bool.and_eq_true] at hf;obtain ⟨hd,hx⟩:=hf
    split at hx
    . rename_i y ys hy
      have hp:=aC5 (w:=w) ab mb hy (.inr j8)
      have hc: ∀v,(Instr.checkKey e 9999 f.type v).run P w= .ok () w:=by
       intro v;rw [show (9999:Nat)=9998+1 from rfl,Instr.checkKey];simp only [Sem.run_bind,fU ab mb,Result.andThen_ok];cases d<;>first|rfl|(simp at hd;done)
      by_cases hn : f.name = "_"
      . simp only [List.forIn_cons,Sem.run_bind,hn,ne_eq,not_true_eq_false,if_false,Result.andThen_ok,Sem.run_pure];exact ih hL
      . simp only [List.forIn_cons,Sem.run_bind,hn,ne_eq,not_false_eq_true,if_true,Result.andThen_ok,hp,hc,Sem.run_pure];exact ih hL
    . simp at hx
  . simp at hf
theorem aDa {xs:List Value} (h:vD xs=false):iH xs= .agg xs.toArray:=by
 unfold iH;split
 . cases h
 . rfl
theorem aXV (a b:ByteArray):(a==b)=(a.toList==b.toList):=by
 obtain ⟨x⟩:=a;obtain ⟨y⟩:=b
 rw [ByteArray.toList_eq,ByteArray.toList_eq];show (x==y)=(x.toList==y.toList)
 rw [Bool.eq_iff_iff,beq_iff_eq,beq_iff_eq,Array.toList_inj]
def aCn (P:Program) (ψ:aJ) (S:Nat->Prop) (w:World) (p:List Value×Va) (e:MapEntry):Prop:=e.key=iH p.1/\ bB P ψ S w p.2 e.val
theorem aPB (ab:bE P τ) {kt:TypeId} {fs:Array Field} {sz nb:Nat} {z:Value} (ht:τ kt=some ⟨.struct fs,sz,⟨nb,true⟩,z⟩) {xs:List Value} (Cd:vD xs=false) {K:Option (Nat×List Value×Va)->Prop}:
 ∀{es:List (List Value×Va)} {arr:List MapEntry} {i:Nat},aG (aCn P ψ S w) es arr->pU τ kt xs es i K->
  ((Instr.findAsking kt (iH xs) arr i).run P w= .ok none w/\ K none) \/
  ∃j ys v e,(Instr.findAsking kt (iH xs) arr i).run P w= .ok (some (i+j,e.val)) w/\ K (some (i+j,ys,v))/\ arr[j]? =some e/\ aCn P ψ S w (ys,v) e
 | [],[],i,_,h=> .inl ⟨rfl,h⟩
 |(ys,v)::es,e::arr,i,⟨⟨h1,h2⟩,h3⟩,h=>by
  unfold pU at h;split at h
  . rename_i b h0 hb
    rw [Cd] at h0;have Fj:vD ys=false:=by simpa using h0
    obtain ⟨bd,_⟩:=aFw (w:=w) ab 50 10000 kt xs ys b _ j3 ht hb
    have bd:(Op.equal kt (iH xs) e.key).run P w= .ok b w:=by
     rw [h1,show iH ((ys,v):List Value×Va).1= .agg ys.toArray from aDa Fj,aDa Cd];exact bd
    cases b with
    |true=>
     refine .inr ⟨0,ys,v,e, ?_,h.1 rfl,rfl,h1,h2⟩
     simp only [Instr.findAsking,Sem.run_bind,bd,Result.andThen_ok,if_true,Sem.run_pure];rfl
    |false=>
     have hf:(Instr.findAsking kt (iH xs) (e::arr) i).run P w=(Instr.findAsking kt (iH xs) arr (i+1)).run P w:=by
      simp only [Instr.findAsking,Sem.run_bind,bd,Result.andThen_ok,Bool.false_eq_true,if_false]
     rw [hf];rcases aPB ab ht Cd h3 (h.2 rfl) with g|⟨j,ff,v',e',g1,g2,g3,g4⟩
     . exact .inl g
     . refine .inr ⟨j+1,ff,v',e', ?_,?_,by simpa using g3,g4⟩
       . rw [g1];congr 3;omega
       . have:i+1+j=i+(j+1):=by omega
         rw [this] at g2;exact g2
  . exact h.elim
theorem aVm (ab:bE P τ) {kt:TypeId} {fs:Array Field} {sz:Nat} {nb:TX} {z:Value} (ht:τ kt=some ⟨.struct fs,sz,nb,z⟩) (x:Value) (es:List MapEntry):
 (Instr.findKey kt x es).run P w=(Instr.findAsking kt x es).run P w:=by
 cases es with
 |nil=>simp [Instr.findKey,fU ab ht,Instr.findNow,Instr.findAsking]
 |cons e es=>simp [Instr.findKey,fU ab ht,Instr.findNow,Instr.sameNow]
theorem aOI {kt:TypeId} {sz:Nat} {nb:TX} {z:Value} (ht:τ kt=some ⟨.string,sz,nb,z⟩) {s:ByteArray} {K:Option (Nat×List Value×Va)->Prop}:
 ∀{es:List (List Value×Va)} {arr:List MapEntry} {i:Nat},aG (aCn P ψ S w) es arr->pU τ kt [.string s] es i K->
  (Instr.findNow .string (.string s) arr i=some none/\ K none) \/
  ∃j ys v e,Instr.findNow .string (.string s) arr i=some (some (i+j,e.val))/\ K (some (i+j,ys,v))/\ arr[j]? =some e/\ aCn P ψ S w (ys,v) e
 | [],[],i,_,h=> .inl ⟨rfl,h⟩
 |(ys,v)::es,e::arr,i,⟨⟨h1,h2⟩,h3⟩,h=>by
  unfold pU at h;split at h
  . rename_i b h0 hb
    obtain ⟨s',rfl⟩: ∃s',ys= [.string s']:=by
     have h0:vD ys=true:=by simpa [vD] using h0
     unfold vD at h0;split at h0
     . exact ⟨_,rfl⟩
     . cases h0
    have hb:b=(s==s'):=by
     rw [aXV];rw [show (50:Nat)=49+1 from rfl] at hb;simp only [vC,ht,Option.some.injEq] at hb;exact hb.symm
    have h1:e.key= .string s':=h1
    cases hc:s==s' with
    |true=>
     rw [hc] at hb;refine .inr ⟨0,_,v,e, ?_,h.1 hb,rfl,h1,h2⟩
     simp only [Instr.findNow,h1,Instr.sameNow,hc];rfl
    |false=>
     rw [hc] at hb;have hf:Instr.findNow .string (.string s) (e::arr) i=Instr.findNow .string (.string s) arr (i+1):=by
      simp only [Instr.findNow,h1,Instr.sameNow,hc]
     rw [hf];rcases aOI ht h3 (h.2 hb) with g|⟨j,ff,v',e',g1,g2,g3,g4⟩
     . exact .inl g
     . refine .inr ⟨j+1,ff,v',e', ?_,?_,by simpa using g3,g4⟩
       . rw [g1];congr 3;omega
       . have:i+1+j=i+(j+1):=by omega
         rw [this] at g2;exact g2
  . exact h.elim
structure bBI (P:Program) (τ:bF) (kt:TypeId) (xs:List Value):Prop where
 chk: ∀e w,(Instr.checkKey e 10000 kt (iH xs)).run P w= .ok () w
 find: ∀{ψ:aJ} {S:Nat->Prop} {w:World} {K:Option (Nat×List Value×Va)->Prop} {es:List (List Value×Va)} {arr:List MapEntry},aG (aCn P ψ S w) es arr->pU τ kt xs es 0 K->
  ((Instr.findKey kt (iH xs) arr).run P w= .ok none w/\ K none) \/
  ∃j ys v e,(Instr.findKey kt (iH xs) arr).run P w= .ok (some (j,e.val)) w/\ K (some (j,ys,v))/\ arr[j]? =some e/\ aCn P ψ S w (ys,v) e
 stay:Instr.sameBits 10000 (iH xs) (iH xs)=true
theorem aUq {xs:List Value} (h:xs.all aMh=true):Instr.sameBits 10000 (.agg xs.toArray) (.agg xs.toArray)=true:=by
 rw [show (10000:Nat)=9999+1 from rfl];simp only [Instr.sameBits,BEq.rfl,Bool.true_and]
 induction xs with
 |nil=>rfl
 |cons x xs ih=>
  simp only [List.all_cons,Bool.and_eq_true] at h;simp only [List.zip_cons_cons,List.all_cons,Bool.and_eq_true];refine ⟨?_,ih h.2⟩
  cases x<;>first|(simp [aMh] at h;done)|(simp [Instr.sameBits];done)|(rename_i s;cases s;exact beq_self_eq_true (α:=Array UInt8) _)
theorem aVn (ab:bE P τ) {kt:TypeId} {x:Tm} {v:Value} {xs:List Value} (hx:dL P ψ S w x v) (h:aLu τ kt x=some xs):v=iH xs/\ bBI P τ kt xs:=by
 unfold aLu at h;split at h
 . rename_i cs
   split at h
   . rename_i ys hm
     split at h
     . rename_i c6
       cases h;obtain ⟨arr,e1,e2⟩:=hx
       have e3:=aEI hm e2
       unfold aSE at c6;split at c6
       . rename_i fs sz nb z ht
         simp only [Bool.and_eq_true,Bool.not_eq_true'] at c6;obtain ⟨ho,hall,np⟩:=c6
         rw [aDa ho];refine ⟨by rw [e1];congr 1;apply Array.ext';simpa using e3,⟨fun e w=>by rw [aDa ho];exact aUx ab ht hall e,fun h1 h2=> ?_,by rw [aDa ho];exact aUq np⟩⟩
         simp only [aVm ab ht];rcases aPB ab ht ho h1 h2 with g|⟨j,ys,v,e,g1,g2,g3⟩
         . exact .inl g
         . rw [Nat.zero_add] at g1 g2;exact .inr ⟨j,ys,v,e,g1,g2,g3⟩
       . simp at c6
     . cases h
   . cases h
 . rename_i s
   split at h
   . rename_i sz nb z ht
     cases h;have hx:aZ S w (.v (.string s)) v:=hx
     cases hx;refine ⟨rfl,⟨fun e w=> ?_,fun h1 h2=> ?_,?_⟩⟩
     . rw [show (10000:Nat)=9999+1 from rfl,Instr.checkKey];simp only [iH,Sem.run_bind,fU ab ht,Result.andThen_ok];rfl
     . rcases aOI ht h1 h2 with ⟨g1,g2⟩|⟨j,ys,v,e,g1,g2,g3⟩
       . refine .inl ⟨?_,g2⟩
         simp only [iH,Instr.findKey,Sem.run_bind,fU ab ht,Result.andThen_ok,g1,Sem.run_pure]
       . rw [Nat.zero_add] at g1 g2;refine .inr ⟨j,ys,v,e, ?_,g2,g3⟩
         simp only [iH,Instr.findKey,Sem.run_bind,fU ab ht,Result.andThen_ok,g1,Sem.run_pure]
     . cases s;exact beq_self_eq_true (α:=Array UInt8) _
   . cases h
 . cases h
theorem aR8 {α:Type}: ∀(l:List Value) (k:List Value->α),fVl l k=k l
 | [],_=>rfl
 |x::xs,k=>by simp only [fVl,aSG,aR8 xs]
theorem aR9 {α:Type}: ∀(l:List (List Value×Va)) (k:List (List Value×Va)->α),fEs l k=k l
 | [],_=>rfl
 |(a,v)::l,k=>by simp only [fEs,aR8,aF5,aR9 l]
theorem aVo {z:Value} (hz:cP z):bB P ψ S w (aRD z) z:=by
 cases z with
 |agg cs=>
  refine ⟨cs,rfl, ?_⟩
  have hz: ∀x∈cs.toList,mC x:=fun x hx=>hz x j0h
  generalize cs.toList=l at hz
  induction l with
  |nil=>trivial
  |cons y ys ih=>exact ⟨⟨.v (hz y j8),hz y j8⟩,ih fun x hx=>hz x j0n⟩
 |tuple _=>exact hz.elim
 |_=>exact aZ.v trivial
theorem aPC {x:Va} {v:Value} (ok b:Bool) (h:bB P ψ S w x v):dL P ψ S w (aMj ok x b) (if ok then .tuple #[v,.bool b] else v):=by
 cases ok with
 |true=>exact ⟨_,rfl,h,rfl,trivial⟩
 |false=>exact h
theorem aVp (ab:bE P τ) (hz: ∀t i,τ t=some i->cP i.zero) (a6:aC P base ψ S w st a) {t:TypeId} {x k:Operand} {ok:Bool} (ae:o.op= .lookup t x k ok) (hk:mX τ st.heap t (ev st x) (ev st k) ok fun y=>bG st o.dst y K):aK P base ψ S w a o K:=by
 have hx:=cL a6 x
 unfold mX at hk;split at hk
 . rename_i kt et s0 b0 z0 b ht Fk
   rw [Fk] at hx;obtain ⟨bl,mm,h1,h2⟩:=hx
   split at hk
   . rename_i xs es bc d1 s1 b1 z1 tz aw bw
     obtain ⟨Fl,jy⟩:=aVn ab (cL a6 k) tz
     have hb:=a6.sim.blk b _ h1
     simp only [aw] at hb;obtain ⟨arr,c,g1,g0,g2⟩:=hb
     have bd: ∀(r:Option (Nat×Value)),(Instr.findKey kt (iH xs) arr.toList).run P w= .ok r w->(execOp a.eval o).run P w= .ok (.value (if ok then .tuple #[(r.map (·.2)).getD z1,.bool r.isSome] else (r.map (·.2)).getD z1)) w:=by
      intro r hr;simp only [execOp,ae,h2,Fl,Instr.lookup,Sem.run_bind,fU ab ht,Result.andThen_ok,aUp g1,Sem.run_pure,jy.chk,hr];cases r with
      |none=>simp only [Sem.run_bind,sJ ab bw,Result.andThen_ok,Sem.run_pure];rfl
      |some p=>obtain ⟨_,v⟩:=p;rfl
     rcases jy.find g2 hk with ⟨f1,f2⟩|⟨j,ys,v,e,f1,f2,f3,f4,f5⟩
     . exact aK.value (bd _ f1) a6 (aPC ok false (aVo (hz _ _ bw))) f2 (aI.refl _ _ _ _)
     . exact aK.value (bd _ f1) a6 (aPC ok true f5) f2 (aI.refl _ _ _ _)
   . exact hk.elim
 . exact hk.elim
end
section
variable {P:Program} {τ:bF} {base:Nat} {ψ aa:aJ} {S S':Nat→Prop} {w w':World} {a:Act} {st:St} {o:Oper} {K:St→Prop}
def aCo (P:Program) (base:Nat) (ψ:aJ) (S:Nat->Prop) (w:World) (a:Act) (ts:List (Nat×Tm)) (n m:Nat) (K:List (Nat×aB)->Prop):Prop:=
 ∃h' S',K h'/\ aC P base ψ S' w ⟨ts,h',n,m⟩ a/\ aI base ψ S w ψ S' w
theorem aC.freeze {ts:List (Nat×Tm)} {h:List (Nat×aB)} {n m k:Nat} {old new:aB} (hr:aC P base ψ S w ⟨ts,h,n,m⟩ a) (ho:aF h k=old) (bf:old.live) (ua: ¬new.live)
 (hv:fE P ψ S w old .virt->fE P ψ S w new .virt)
 (hb: ∀b mm S',ψ k=some (.at b mm)->cT S w S' w->S' b->fE P ψ S w old (.at b mm)->fE P ψ S' w new (.at b mm)):
 ∃S',aC P base ψ S' w ⟨ts,(k,new)::h,n,m⟩ a/\ aI base ψ S w ψ S' w:=by
 let S':Nat->Prop:=fun b=>S b \/ ∃mm,ψ k=some (.at b mm)
 have hl:cT S w S' w:=⟨fun _ h=> .inl h,fun _ _=>rfl⟩
 refine ⟨S',⟨hr.bas,⟨hr.sim.dom, ?_,?_,?_,hr.sim.pdom, ?_⟩,hr.lim,hr.defers,fun t=>(hr.tmps t).later (cH.refl _) hl⟩,
  ⟨rfl,rfl,rfl,Nat.le_refl _,fun _ _ _=>rfl,hl, ?_,fun k b m h=> .inl ⟨k,m,h⟩,fun _ _=>rfl⟩⟩
 . intro k' l ba
   rw [cY];by_cases e:k=k'
   . subst e;rw [if_pos rfl];have:=hr.sim.blk k l ba
     simp only [ho] at this;cases l with
     |virt=>exact (hv this).later (cH.refl _) hl (fun b m e=>by cases e)
     | «at» b mm=>exact hb b mm S' ba hl (.inr ⟨mm,ba⟩) this
   . rw [if_neg e];exact (hr.sim.blk k' l ba).later (cH.refl _) hl fun _ _ _=>rfl
 . intro k1 k2 b m1 m2 h1 h2 l1 l2;rw [cY] at l1 l2;by_cases e1:k=k1
   . rw [if_pos e1] at l1;exact absurd l1 ua
   . by_cases e2:k=k2
     . rw [if_pos e2] at l2;exact absurd l2 ua
     . rw [if_neg e1] at l1;rw [if_neg e2] at l2;exact hr.sim.inj k1 k2 b m1 m2 h1 h2 l1 l2
 . intro k1 b m1 h1 l1 hS;rw [cY] at l1;by_cases e1:k=k1
   . rw [if_pos e1] at l1;exact ua l1
   . rw [if_neg e1] at l1;rcases hS with hS|⟨mm,hS⟩
     . exact hr.sim.dis k1 b m1 h1 l1 hS
     . exact e1 (hr.sim.inj k k1 b mm m1 hS h1 (by simp only [ho];exact bf) l1)
 . refine hr.sim.sdom.later hl fun b hS=> ?_
   rcases hS with hS|⟨mm,hS⟩
   . exact hr.sim.sdom b hS
   . exact hr.sim.pdom k b mm hS
 . intro b hS;rcases hS with hS|⟨mm,hS⟩
   . exact .inl hS
   . exact .inr (.inl ⟨k,mm,hS⟩)
theorem aOJ {ts:List (Nat×Tm)} {h:List (Nat×aB)} {n m:Nat} {c:aL} {K:List (Nat×aB)->Prop} (hr:aC P base ψ S w ⟨ts,h,n,m⟩ a) (hk:zI h c K):
 aCo P base ψ S w a ts n m K:=by
 unfold zI at hk;split at hk
 . rename_i k _ _ _
   split at hk
   . rename_i sz nn f hb
     obtain ⟨S',h1,h2⟩:=hr.freeze (new:= .fzr sz nn f) hb trivial (by simp [aB.live]) (fun h=>h)
      (fun b mm S' _ hl hS ⟨arr,e,g1,g2,g3,g4,g5⟩=>⟨hS,arr,e,_,g1,g2,g3,g4,fun i j hi hj=>(g5 i j hi hj).later hl⟩)
     exact ⟨_,S',hk,h1,h2⟩
   . exact ⟨_,S,hk,hr,aI.refl _ _ _ _⟩
 . exact ⟨_,S,hk,hr,aI.refl _ _ _ _⟩
theorem aCO {ts:List (Nat×Tm)} {n m:Nat}: ∀(cs:List aL) (h:List (Nat×aB)) (S:Nat->Prop) {K:List (Nat×aB)->Prop},aC P base ψ S w ⟨ts,h,n,m⟩ a->pM h cs K->
 aCo P base ψ S w a ts n m K
 | [],h,S,K,hr,hk=>⟨h,S,hk,hr,aI.refl _ _ _ _⟩
 |c::cs,h,S,K,hr,hk=>by
  obtain ⟨h1,S1,g1,g2,g3⟩:=aOJ hr hk
  obtain ⟨h2,S2,g4,g5,g6⟩:=aCO cs h1 S1 g2 g1
  exact ⟨h2,S2,g4,g5,g3.trans g6⟩
theorem aK.thaw (h:aK P base ψ S' w a o K) (he:aI base ψ S w ψ S' w):aK P base ψ S w a o K:=
 fun next Q hn=>h next Q fun st' aa S2 w' a' h1 h2 h3=>hn st' aa S2 w' a' h1 h2 (he.trans h3)
theorem aUi (ab:bE P τ) (hz: ∀t i,τ t=some i->cP i.zero) (a6:aC P base ψ S w st a) {t:TypeId} {len:Nat} {parts:Array (Nat×Operand)} (ae:o.op= .buildSlice t len parts)
 (hk:aHY τ st o.dst t len parts.toList K):aK P base ψ S w a o K:=by
 unfold aHY at hk;split at hk
 . split at hk
   . split at hk
     . obtain ⟨h',S1,g1,g2,g3⟩:=aCO _ _ _ a6 hk
       exact (aUk ab hz g2 ae g1).thaw g3
     . exact hk.elim
   . exact hk.elim
 . exact hk.elim
end
section
variable {P:Program} {τ:bF} {base:Nat} {ψ aa:aJ} {S S':Nat→Prop} {w w':World} {a:Act} {st:St} {o:Oper} {K:St→Prop}
theorem aC.ext0 (hr:aC P base ψ S w st a) (h:aB7 S w S' w'):aC P base ψ S' w' st a/\ aI base ψ S w ψ S' w':=by
 have he:=aB7.ext (base:=base) (ψ:=ψ) hr.sim.sdom h
 refine ⟨⟨hr.bas,⟨hr.sim.dom, ?_,hr.sim.inj, ?_,?_,hr.sim.sdom.later he.later h.sdom⟩,hr.lim,hr.defers,fun t=>(hr.tmps t).later (cH.refl _) he.later⟩,he⟩
 . intro k l hk;exact (hr.sim.blk k l hk).later (cH.refl _) he.later fun b m e=>h.old b (hr.sim.pdom k b m (e▸hk))
 . intro k b m hk hl hS;rcases h.newS b hS with h1|h1
   . exact hr.sim.dis k b m hk hl h1
   . have:=hr.sim.pdom k b m hk;omega
 . intro k b m hk;have:=hr.sim.pdom k b m hk;have:=h.grow;omega
end
theorem aSa {P:Program} {ψ:aJ} {S:Nat->Prop} {w:World} {c:Cv} {v:Value} (h:pV S w c v):bB P ψ S w (aMe c) v:=by
 cases c with
 |c x=>exact h
 |agg xs=>obtain ⟨arr,h1,h2⟩:=h;exact ⟨arr,h1,aOl h2⟩
theorem aSb {P:Program} {ψ:aJ} {S:Nat->Prop} {w:World} {c:Ct} {v:Value} (h:aD5 S w c v):dL P ψ S w (aAn c) v:=by
 cases c with
 |va x=>exact aSa h
 |tup xs=>obtain ⟨arr,h1,h2⟩:=h;exact ⟨arr,h1,h2.map_left _ fun _ _ h=>aSa h⟩
section
variable {P:Program} {τ:bF} {base:Nat} {ψ aa:aJ} {S S':Nat→Prop} {w w':World} {st st1:St} {a:Act} {o:Oper} {K:St→Prop}
theorem aUR {h:List (Nat×aB)} {next:Nat} (hs:iV P ψ S w h next) {c:Va} {v:Value} {K:Cv->Prop} (hc:lY h c K) (hv:bB P ψ S w c v): ∃x,pV S w x v/\ K x:=by
 cases c with
 |c c=>
  simp only [lY] at hc;obtain ⟨x,g1,g2⟩:=aEF hs hc hv
  exact ⟨.c x,g1,g2⟩
 |agg cs=>
  simp only [lY] at hc;obtain ⟨arr,rfl,hv⟩:=hv
  obtain ⟨xs,g1,g2⟩:=qP hs hc hv
  exact ⟨.agg xs,⟨arr,rfl,g1⟩,g2⟩
theorem aNB {h:List (Nat×aB)} {next:Nat} (hs:iV P ψ S w h next): ∀{cs:List Va} {vs:List Value} {K:List Cv->Prop},sM h cs K->aG (bB P ψ S w) cs vs->
 ∃xs,aG (pV S w) xs vs/\ K xs
 | [],[],_,hc,_=>⟨[],trivial,hc⟩
 |_::_,_::_,_,hc,⟨h1,h2⟩=>by
  obtain ⟨x,g1,g2⟩:=aUR hs hc h1
  obtain ⟨xs,g3,g4⟩:=aNB hs g2 h2
  exact ⟨x::xs,⟨g1,g3⟩,g4⟩
theorem aJd {x:Tm} {v:Value} (h:dL P ψ S w x v):dL P ψ S w (aB6 x) v:=by
 unfold aB6;split
 . have h:aZ S w (.v (.func (.func _) #[] #[])) v:=h
   cases h;exact ⟨#[],rfl,trivial⟩
 . exact h
theorem aNV (a6:aC P base ψ S w st a) {f:Operand} {args:Array Operand} {ts:Array TypeId} {g:List Cv->Option Gs} {as:List Va}
 (ae:o.op= .call {callee:= .value f,args,argTypes:=ts}) (hf:aB6 (ev st f)= .va (.c (.fv g))) (ha:bY (fun x=>gK (ev st x)) args.toList=some as)
 (hk:sM st.heap as fun cs=>match g cs with
  |some ⟨pre,r⟩=>pre/\ (pre->bG st o.dst (aAn r) K)
  |none=>False):aK P base ψ S w a o K:=by
 have av:=sN a6 ha
 obtain ⟨cs,ub,hk⟩:=aNB a6.sim hk av
 have: ∃pre r,g cs=some ⟨pre,r⟩/\ pre/\ bG st o.dst (aAn r) K:=by
  split at hk
  . rename_i pre r hg;exact ⟨pre,r,hg,hk.1,hk.2 hk.1⟩
  . exact hk.elim
 obtain ⟨pre,r,hg,dO,hk⟩:=this
 have uc:=aJd (cL a6 f)
 rw [hf] at uc;obtain ⟨H5,first,aq,hv,Fm⟩:=uc
 have:=Fm S w (cT.refl _ _) a6.sim.sdom cs pre r hg dO _ ub
 intro next Q hn;have e:first++(args.toList.map a.eval).toArray++aq=first++args.map a.eval++aq:=by
  congr 2;apply Array.ext';simp
 rw [e] at this;refine aJD ae hv this ?_
 rintro e w' ⟨v,S',rfl,bh,ud⟩
 obtain ⟨h1,h2⟩:=a6.ext0 ud
 obtain ⟨st',h3,h4⟩:=qT hk h1 (aSb bh)
 exact ⟨v,rfl,hn _ _ _ _ _ h3 h4 h2⟩
theorem aXW {calls:Nat->List Va->St->(Tm->St->Prop)->Prop} (ai:iY P base calls) (a6:aC P base ψ S w st a) {f:Operand} {args:Array Operand} {ts:Array TypeId}
 {g:Nat} {aq:List (Nat×Nat)} {as:List Va}
 (ae:o.op= .call {callee:= .value f,args,argTypes:=ts}) (hf:aB6 (ev st f)= .va (.c (.fn g aq))) (ha:bY (fun x=>gK (ev st x)) args.toList=some as)
 (hk:calls g (as++aq.map fun p=> .c (.own p.1 p.2)) st fun r st=>bG st o.dst r K):aK P base ψ S w a o K:=by
 have uc:=aJd (cL a6 f)
 rw [hf] at uc;obtain ⟨vs,hv,sc⟩:=uc
 have av:=sN a6 ha
 have hall:aG (bB P ψ S w) (as++aq.map fun p=> .c (.own p.1 p.2)) (args.toList.map a.eval++vs.toList):=
  av.append (aG.map_left (R':=bB P ψ S w) (fun p:Nat×Nat=>Va.c (.own p.1 p.2)) (fun p y h=>h) sc)
 have pg:=ai _ _ _ _ hk ψ S w a _ a6 hall
 intro next Q hn;have e:(args.toList.map a.eval++vs.toList).toArray= #[]++args.map a.eval++vs:=by apply Array.ext';simp
 rw [e] at pg;refine aJD ae hv pg ?_
 rintro e w' ⟨r,st',v,aa,S',rfl,hK,h1,h2,h3⟩
 obtain ⟨st2,h4,h5⟩:=qT hK h1 h2
 exact ⟨v,rfl,hn _ _ _ _ _ h4 h5 h3⟩
theorem aAT {s:Nat} {k:St->Option Bool->Prop} (a6:aC P base ψ S w st a) (hk:sU st s k):
 ∃st' b,k st' b/\ aC P base ψ S w st' a/\ (match a.tmps[s]? with|some (.bool b')=>some b'|_=>none)=b/\ (∀b',b=some b'->a.tmps.getD s undef= .bool b'):=by
 have hs:=a6.tmps s
 unfold sU at hk;have get: ∀v,v≠undef->a.tmps.getD s undef=v->a.tmps[s]? =some v:=by
  intro v hv h;rw [Array.getD_eq_getD_getElem?] at h;cases hg:a.tmps[s]? with
  |none=>rw [hg] at h;exact absurd h.symm hv
  |some x=>rw [hg] at h;simp at h;rw [h]
 have DE:a.tmps.getD s undef=undef->(match a.tmps[s]? with|some (.bool b')=>some b'|_=>none)=none:=by
  intro h;rw [Array.getD_eq_getD_getElem?] at h;cases hg:a.tmps[s]? with
  |none=>rfl
  |some x=>rw [hg] at h;simp at h;subst h;rfl
 split at hk
 . rename_i h;rw [h] at hs
   exact ⟨_,_,hk,a6,by rw [get _ j1h hs],fun b' e=>by cases e;exact hs⟩
 . rename_i h;rw [h] at hs
   exact ⟨_,_,hk,a6,by rw [get _ j1h hs],fun b' e=>by cases e;exact hs⟩
 . rename_i h;rw [h] at hs
   exact ⟨_,_,hk,a6,DE hs,fun b' e=>by cases e⟩
 . rename_i b ts hp n m h
   have c5:aV ts s= .va (.c (.d (.v (.bool b)))):=h
   rw [c5] at hs;have hv:a.tmps.getD s undef= .bool b:=by generalize a.tmps.getD s undef=q at hs;cases hs;rfl
   have cn: ∀b',b=b'->aC P base ψ S w ⟨(s,.va (.c (.kb b')))::ts,hp,n,m⟩ a:=by
    intro b' e
    refine ⟨a6.bas,a6.sim,a6.lim,a6.defers,fun t=> ?_⟩
    simp only [aV];cases yf:Nat.beq s t with
    |true=>
     have:=Nat.eq_of_beq_eq_true yf
     subst this;show a.tmps.getD s undef= .bool b'
     rw [hv,e]
    |false=>exact a6.tmps t
   cases hb:b with
   |true=>exact ⟨_,_,hk.1 hb,cn true hb,by rw [get _ j1h hv,hb],fun b' e=>by cases e;rw [hv,hb]⟩
   |false=>exact ⟨_,_,hk.2 hb,cn false hb,by rw [get _ j1h hv,hb],fun b' e=>by cases e;rw [hv,hb]⟩
 . exact hk.elim
theorem aBq (ab:bE P τ) (hz: ∀t i,τ t=some i->cP i.zero) (a6:aC P base ψ S w st a) {op:Op} (ae:o.op=op)
 (hk:iU P τ op o.type (ev st) st.heap fun x=>bG st o.dst x K):aK P base ψ S w a o K:=by
 unfold iU at hk;split at hk
 . rename_i x
   exact aK.value (x:=ev st x) (v:=a.eval x) (by simp only [execOp,ae];rfl) a6 (cL a6 x) hk (aI.refl _ _ _ _)
 . rename_i x
   exact aK.value (x:=ev st x) (v:=a.eval x) (by simp only [execOp,ae];rfl) a6 (cL a6 x) hk (aI.refl _ _ _ _)
 . rename_i c x y
   have hc:=cL a6 c
   split at hk
   . rename_i e
     rw [e] at hc;have hc:a.eval c= .bool true:=hc
     refine aK.value (x:=ev st x) (v:=a.eval x) ?_ a6 (cL a6 x) hk (aI.refl _ _ _ _)
     simp only [execOp,ae,hc,asBool];rfl
   . rename_i e
     rw [e] at hc;have hc:a.eval c= .bool false:=hc
     refine aK.value (x:=ev st y) (v:=a.eval y) ?_ a6 (cL a6 y) hk (aI.refl _ _ _ _)
     simp only [execOp,ae,hc,asBool];rfl
   . exact hk.elim
 . exact aW5 ab a6 ae hk
 . exact aUt ab a6 ae hk
 . exact aVW ab hz a6 ae hk
 . exact aUu ab a6 ae hk
 . exact aVU ab a6 ae hk
 . split at hk
   . rename_i xs ys hx hy;exact bAT ab a6 ae hx hy hk
   . rename_i hx hy;exact aY6 ab a6 ae hx hy hk
   . exact aY1 a6 ae hk
 . split at hk
   . rename_i u hu;exact bAS a6 ae hu hk
   . exact hk.elim
 . split at hk
   . rename_i u hu;exact aUK a6 ae hu hk
   . exact hk.elim
 . exact aVp ab hz a6 ae hk
 . split at hk
   . rename_i xs hx
     split at hk
     . rename_i y hy;exact aUL a6 ae hx hy hk
     . exact hk.elim
   . exact hk.elim
 . rename_i c
   obtain ⟨callee,args,ts⟩:=c
   simp only at hk
   split at hk
   . exact aY2 ab a6 ae hk
   . split at hk
     . rename_i as ha;exact aY3 a6 ae ha hk
     . exact hk.elim
   . split at hk
     . rename_i as ha;exact aY4 a6 ae ha hk
     . exact hk.elim
   . exact aY5 ab a6 ae hk
   . split at hk
     . rename_i as ha;exact aW6 a6 ae ha hk
     . exact hk.elim
   . split at hk
     . rename_i as ha;exact aW7 a6 ae ha hk
     . exact hk.elim
   . split at hk
     . rename_i as ha;exact aUM a6 ae ha hk
     . exact hk.elim
   . exact hk.elim
 . exact aY7 ab a6 ae hk
theorem aUy (ab:bE P τ) (hz: ∀t i,τ t=some i->cP i.zero) (a6:aC P base ψ S w st a) {t:TypeId} {l c:Operand} (ae:o.op= .makeSlice t l c)
 (hk:aH9 τ st o.dst t (ev st l) (ev st c) K):aK P base ψ S w a o K:=by
 have jw:=cL a6 l
 have zh:=cL a6 c
 unfold aH9 at hk;split at hk
 . rename_i e s1 b1 z1 kl L kc C ht np Fo
   have mi:=jX jw np
   have fh:=jX zh Fo
   split at hk
   . rename_i desc sz kx cm z bw
     split at hk
     . rename_i hd gu hpos
       obtain ⟨d1,d2,d3,d4⟩:=of_decide_eq_true hd
       have gu:=Nat.eq_of_beq_eq_true gu
       have hpos:0<sz:=j0j
       obtain ⟨C,rfl⟩:=Int.eq_ofNat_of_zero_le (Int.le_trans d1 d2)
       obtain ⟨L,rfl⟩:=Int.eq_ofNat_of_zero_le d1
       simp only [Int.toNat_natCast] at hk;have ao:=fU ab ht w
       have cq:=jY ab bw w
       have hzero:=sJ ab bw w
       obtain ⟨info,zl,_,DF,_⟩:=aIX ab bw w
       simp only at ao cq hzero
       have h2:=aIb (P:=P) (ψ:=ψ) (S:=S) (w:=w) (hz _ _ bw) (n:=C*sz) gu hpos
       generalize bm:(Array.range (C*sz)).map (z.cells[· %z.cells.size]!)=arr at h2
       obtain ⟨ds,h3,h4⟩:=qP a6.sim hk h2
       rw [fJ] at h4;obtain ⟨ts,h,n,m⟩:=st
       simp only [aFu] at h4;have hlen:ds.length=C*sz:=by
        have e1:=h3.length
        have e2:=h2.length
        rw [e1, <-e2];simp [sO]
       have hn:ψ n=none:=a6.sim.dom n (Nat.le_refl _)
       have hl:=tX a6.sim.sdom (Obj.cells arr e)
       have o9:arr.size=C*sz:=j1c
       have DG:L<=C:=j3
       have H6:L*sz<=C*sz:=Nat.mul_le_mul_right sz DG
       have bh:fE P (ψ.set n (.at w.heap.size arr.size)) S (w.alloc (.cells arr e)) (.row sz L (rowAt sz ds)) (.at w.heap.size arr.size):=by
        refine ⟨arr,e,tW _,rfl,by omega, ?_,?_⟩
        . intro i hi;have:=Nat.mul_le_mul_right sz (Nat.succ_le_of_lt hi)
          rw [Nat.succ_mul] at this;simp [rowAt];omega
        . intro i j hi hj;have:=Nat.mul_le_mul_right sz (Nat.succ_le_of_lt hi)
          rw [Nat.succ_mul] at this;have hlt:i*sz+j<ds.length:=j3
          obtain ⟨v,g1,g2⟩:=h3.get (i*sz+j) (ds[i*sz+j]) (by simp [hlt])
          have e1:(rowAt sz ds i).getD j (.v (.bool false))=ds[i*sz+j]:=by
           simp [rowAt,List.getD,List.getElem?_drop,hj,hlt]
          have e2:arr.getD (i*sz+j) undef=v:=by
           rw [Array.getElem?_toList] at g1;simp [Array.getD_eq_getD_getElem?,g1]
          rw [e1,e2];exact g2.later hl
       obtain ⟨k1,k2⟩:=a6.alloc (blk:= .row sz L (rowAt sz ds)) (arr:=arr) (e:=e) bh
       refine aK.value (v:= .slice (some ⟨w.heap.size,0,none⟩) L C) ?_ k1 ?_ h4 k2
       . have wl:IntKind.i64.wrap (L:Int)=L:=by rw [IntKind.wrap_i64];omega
         have wc:IntKind.i64.wrap (C:Int)=C:=by rw [IntKind.wrap_i64];omega
         have hby:(info.bytes:Int)*(C:Int)<=281474976710656:=by rw [DF,Int.mul_comm];exact d3
         have n1: ¬((C:Int)<0):=j3
         have n2: ¬(281474976710656<(info.bytes:Int)*(C:Int)):=j3
         have n5: ¬(C<L):=j3
         have n3: ¬((L:Int)<0):=j3
         have n4: ¬((L:Int)>(C:Int)):=j3
         by_cases h0:C*sz=0
         . have Ce:(Array.range 0).map ((#[]:Array Value)[· %(#[]:Array Value).size]!)=arr:=by rw [<-bm,h0];simp
           simp [execOp,ae,Instr.makeSlice,mi,fh,asInt,asIntOf,ao,zl,wl,wc,n1,n2,n3,n4,n5,cq,h0,newRow, <-Ce]
         . simp [execOp,ae,Instr.makeSlice,mi,fh,asInt,asIntOf,ao,zl,wl,wc,n1,n2,n3,n4,n5,cq,hzero,h0,bm,newRow]
       . exact .inr ⟨w.heap.size,arr.size,C,0,by simp [aJ.set],rfl,DG,fun _=>⟨by simp,by simp [o9]⟩⟩
     . exact hk.elim
   . exact hk.elim
 . exact hk.elim
theorem aVq (ab:bE P τ) (a6:aC P base ψ S w st a) {t:TypeId} {p x:Operand} (ae:o.op= .store t p x) (hk:aJC τ st o.dst t (ev st p) (ev st x) K):aK P base ψ S w a o K:=by
 unfold aJC at hk;split at hk
 . rename_i y k z i off ts h n l e1 e2
   obtain ⟨h',S1,g1,g2,g3⟩:=aCO _ _ _ a6 hk
   rw [<-e1, <-e2] at g1;exact (aOn ab g2 ae g1).thaw g3
 . exact aOn ab a6 ae hk
theorem aFJ (ab:bE P τ) (hz: ∀t i,τ t=some i->cP i.zero) {calls:Nat->List Va->St->(Tm->St->Prop)->Prop} (ai:iY P base calls)
 (a6:aC P base ψ S w st a) (hk:sZ P τ calls o st K):aK P base ψ S w a o K:=by
 unfold sZ at hk;split at hk
 . rename_i c x y ae
   split at hk
   . rename_i s
     obtain ⟨st',b,hk,cn,_,hb⟩:=aAT a6 hk
     split at hk
     . have hb:=hb true rfl
       refine aK.value (x:=ev st' x) (v:=a.eval x) ?_ cn (cL cn x) hk (aI.refl _ _ _ _)
       have:a.eval (.tmp s)= .bool true:=hb
       simp only [execOp,ae,this,asBool];rfl
     . have hb:=hb false rfl
       refine aK.value (x:=ev st' y) (v:=a.eval y) ?_ cn (cL cn y) hk (aI.refl _ _ _ _)
       have:a.eval (.tmp s)= .bool false:=hb
       simp only [execOp,ae,this,asBool];rfl
     . exact hk.elim
   . exact hk.elim
 . rename_i e ae;exact aVT ab hz a6 ae hk
 . rename_i e x ae;exact aY0 a6 ae hk
 . rename_i t x y ae;exact aVq ab a6 ae hk
 . rename_i t len parts ae;exact aUi ab hz a6 ae hk
 . rename_i t l c ae;exact aUy ab hz a6 ae hk
 . rename_i c ae
   obtain ⟨callee,args,ts⟩:=c
   simp only at hk
   split at hk
   . split at hk
     . rename_i g aq as hf ha
       rw [uD] at hk;exact aXW ai a6 ae hf ha hk
     . rename_i g as hf ha
       exact aNV a6 ae hf ha hk
     . exact hk.elim
   . split at hk
     . rename_i k z o' len cap q ha;exact aUN ab hz a6 ae ha hk
     . rename_i as _ ha
       split at hk
       . rename_i he;exact aVb ab a6 ae ha he hk
       . exact aVc ab hz a6 ae ha hk
     . exact hk.elim
   . split at hk
     . rename_i as ha;exact aXa ab a6 ae ha hk
     . exact hk.elim
   . exact aV0 ab hz a6 ae hk
   . exact aBq ab hz a6 ae hk
 . rename_i op t x y ty ae
   split at hk
   . rename_i hy;exact aY8 ab a6 ae hy hk
   . exact aBq ab hz a6 ae hk
 . exact aBq ab hz a6 rfl hk
theorem aJe (ab:bE P τ) (hz: ∀t i,τ t=some i->cP i.zero) {calls:Nat->List Va->St->(Tm->St->Prop)->Prop} (ai:iY P base calls)
 {ops:Array Oper} {Q:Exit->Act->World->Prop}: ∀(rest:List Oper) (k:Nat) (ψ:aJ) (S:Nat->Prop) (w:World) (st:St) (a:Act) (K:St->Prop),
 (∀i o,rest[i]? =some o->ops[k+i]? =some o)->aC P base ψ S w st a->nH P τ calls ops.toList rest st K->
 (∀st' aa S' w' a',K st'->aC P base aa S' w' st' a'->aI base ψ S w aa S' w'->Q .normal a' w')->wpOps P ops Q (List.range' k rest.length) a w
 | [],k,ψ,S,w,st,a,K,_,a6,hk,hq=>hq _ _ _ _ _ hk a6 (aI.refl _ _ _ _)
 |o::rest,k,ψ,S,w,st,a,K,hall,a6,hk,hq=>by
  have ho:ops[k]? =some o:=by simpa using hall 0 o j8
  have zm: ∀(i:Nat) (x:Oper),rest[i]? =some x->ops[k+1+i]? =some x:=fun i x hx=>by
   have:=hall (i+1) x j0h
   rwa [show k+(i+1)=k+1+i by omega] at this
  simp only [List.length_cons,List.range'_succ,wpOps,ho];have go: ∀st,aC P base ψ S w st a->sZ P τ calls o st (fun st=>nH P τ calls ops.toList rest st K)->o.wp P a w (wpOps P ops Q (List.range' (k+1) rest.length)) Q:=by
   intro st a6 h;refine aFJ ab hz ai a6 h _ _ ?_
   intro st' aa S' w' a' h1 h2 h3
   exact aJe ab hz ai rest (k+1) aa S' w' st' a' K zm h2 h1 fun st2 az S2 w2 a2 g1 g2 g3=>hq _ _ _ _ _ g1 g2 (h3.trans g3)
  rw [aNR] at hk;split at hk
  . rename_i hg
    have:Region.wanted o (yielded ops a.tmps)=true:=j0x
    rw [if_pos this];exact .inl (go st a6 hk)
  . rename_i j want hg
    split at hk
    . exact hk.elim
    . rename_i s hs
      obtain ⟨st',b,hk,cn,hb,_⟩:=aAT a6 hk
      have hy:yielded ops a.tmps j=b:=by
       have hd:(ops[j]?).bind (·.dst)=some s:=by
        unfold nG at hs;rw [Array.getElem?_toList] at hs;split at hs
        . rename_i hj;rw [hj];exact hs
        . simp at hs
       simp only [yielded,hd,Option.bind_some];rw [<-hb];split<;>simp_all
      split at hk
      . rename_i he
        have:Region.wanted o (yielded ops a.tmps)=true:=j0l
        rw [if_pos this];exact .inl (go st' cn hk)
      . rename_i he
        have: ¬Region.wanted o (yielded ops a.tmps)=true:=u9
        rw [if_neg this];obtain ⟨st2,h1,h2⟩:=qT (v:=undef) hk cn rfl
        exact aJe ab hz ai rest (k+1) ψ S w st2 (a.put o.dst undef) K zm h2 h1 hq
theorem aUS (ab:bE P τ) (hz: ∀t i,τ t=some i->cP i.zero) (a6:aC P base ψ S w st a) {t:TypeId} {len:Nat} {parts:Array (Nat×Operand)} (ae:o.op= .buildSlice t len parts)
 (hk:mW τ st.heap (ev st) t len parts.toList fun x=>bG st o.dst x K):aK P base ψ S w a o K:=by
 unfold mW at hk;split at hk
 . rename_i e cd Et z' ht
   split at hk
   . rename_i desc sz bt z bw
     split at hk
     . rename_i cs hle gu hpos iv
       have hle:=Nat.le_of_ble_eq_true hle
       have gu:=Nat.eq_of_beq_eq_true gu
       have hpos:0<sz:=j0j
       have ao:=fU ab ht w
       have cq:=jY ab bw w
       have hzero:=sJ ab bw w
       simp only at ao cq hzero
       obtain ⟨arr,h1,h2⟩:=aEN (P:=P) a6 parts.toList _ _ _ (aIb (hz _ _ bw) (n:=len*sz) gu hpos) iv
       obtain ⟨ds,h3,h4⟩:=qP a6.sim hk h2
       rw [fJ] at h4;obtain ⟨ts,h,n,m⟩:=st
       have hlen:ds.length=len*sz:=by
        have e1:=h3.length
        have e2:=h2.length
        have: ∀(ps:List (Nat×Operand)) (c r:List aL),iP sz (ev ⟨ts,h,n,m⟩) ps c=some r->r.length=c.length:=by
         intro ps
         induction ps with
         |nil=>intro c r hf;simp [iP] at hf;rw [hf]
         |cons p ps ih=>
          intro c r hf;simp only [iP] at hf;split at hf
          . split at hf
            . rename_i dz
              rw [ih _ _ hf];exact (wB _ _ _ _ dz).1
            . simp at hf
          . simp at hf
        have e3:=this _ _ _ iv
        rw [e1, <-e2,e3];simp [sO]
       have o9:arr.size=len*sz:=j1c
       obtain ⟨k1,k2⟩:=a6.ext0 (S':=fun b=>S b \/b=w.heap.size) (w':=w.alloc (.cells arr e)) ⟨rfl,rfl,rfl,by simp,fun b hb=>vZ _ hb,fun _ h=> .inl h,fun b hb=>by rcases hb with h|rfl;exact .inl h;exact .inr (Nat.le_refl _),fun b hb=>by rcases hb with h|rfl;have:=a6.sim.sdom b h;simp;omega;simp⟩
       have hl:=k2.later
       have bh:aZ (fun b=>S b \/b=w.heap.size) (w.alloc (.cells arr e)) (.lst sz len (rowAt sz ds)) (.slice (some ⟨w.heap.size,0,none⟩) len len):=by
        refine .lst (fun i j=>arr.getD (i*sz+j) undef) (.inr rfl) ?_ ?_ ?_ (Nat.le_refl _)
        . intro i hi;have:=Nat.mul_le_mul_right sz (Nat.succ_le_of_lt hi)
          rw [Nat.succ_mul] at this;simp [rowAt];omega
        . intro i j hi hj;have:=Nat.mul_le_mul_right sz (Nat.succ_le_of_lt hi)
          rw [Nat.succ_mul] at this;rw [oB (tW _)];have:i*sz+j<arr.size:=j3
          simp [Array.getD,this]
        . intro i j hi hj;have:=Nat.mul_le_mul_right sz (Nat.succ_le_of_lt hi)
          rw [Nat.succ_mul] at this;have hlt:i*sz+j<ds.length:=j3
          obtain ⟨v,g1,g2⟩:=h3.get (i*sz+j) (ds[i*sz+j]) (by simp [hlt])
          have e1:(rowAt sz ds i).getD j (.v (.bool false))=ds[i*sz+j]:=by
           simp [rowAt,List.getD,List.getElem?_drop,hj,hlt]
          have e2:arr.getD (i*sz+j) undef=v:=by
           rw [Array.getElem?_toList] at g1;simp [Array.getD_eq_getD_getElem?,g1]
          rw [e1,e2];exact g2.later hl
       refine aK.value (v:= .slice (some ⟨w.heap.size,0,none⟩) len len) (x:= .va (.c (.d (.lst sz len (rowAt sz ds))))) ?_ k1 bh h4 k2
       . have hp:(Array.map (fun p=>(p.1,a.eval p.2)) parts).toList=parts.toList.map fun p=>(p.1,a.eval p.2):=by simp
         have fg: ¬len*sz>2^24:=j3
         by_cases h0:len*sz=0
         . have:(Array.range (len*sz)).map ((z.cells[· %z.cells.size]!))=(Array.range (len*sz)).map ((#[]:Array Value)[· %(#[]:Array Value).size]!):=by rw [h0];simp
           rw [this] at h1;simp only [execOp,ae,Instr.buildSlice,Sem.run_bind,ao,cq,Result.andThen_ok,if_neg fg,if_pos h0,Sem.run_pure,hp,h1,newRow,run_newObj];rfl
         . simp only [execOp,ae,Instr.buildSlice,Sem.run_bind,ao,cq,hzero,Result.andThen_ok,if_neg fg,if_neg h0,Sem.run_pure,hp,h1,newRow,run_newObj];rfl
     . exact hk.elim
   . exact hk.elim
 . exact hk.elim
end
def aHs (sz o len:Nat) (l:Loc) (x:Value):Prop:=match l with
 | .virt=>len=0/\ ∃a,x= .slice a 0 0
 | .at b m=> ∃c off,x= .slice (some ⟨b,off,none⟩) len c/\ len<=c/\ (0<c->off=o*sz/\ (o+c)*sz<=m)
def gV (S:Nat->Prop) (w:World) (sz n:Nat) (f:Nat->List DV):Loc->Prop
 | .virt=>n=0
 | .at b m=> ∃arr e,w.heap[b]? =some (.cells arr e (0,0))/\ arr.size=m/\ n*sz<=m/\ (∀i,i<n->(f i).length=sz)/\
    ∀i j,i<n->j<sz->aZ S w ((f i).getD j (.v (.bool false))) (arr.getD (i*sz+j) undef)
def bC (S:Nat->Prop) (w:World):List Ic->List Value->List Loc->Prop
 | [],[],[]=>True
 | .d x::xs,v::vs,ls=>aZ S w x v/\ bC S w xs vs ls
 | .ow sz n f::xs,v::vs,l::ls=>aHs sz 0 n l v/\ gV S w sz n f l/\ bC S w xs vs ls
 |_,_,_=>False
def kE (P:Program) (S:Nat->Prop) (w:World):Ar->Value->List Loc->Prop
 | .c x,v,ls=>bC S w [x] [v] ls
 | .agg xs,v,ls=> ∃arr:Array Value,v= .agg arr/\ bC S w xs arr.toList ls
 | .rp cs,v,ls=>ls= []/\ kI P (fun _=>none) S w (.rp cs) v
 | .fv g,v,ls=>ls= []/\ aAp P g v S w
def cC (P:Program) (S:Nat->Prop) (w:World):List Ar->List Value->List Loc->Prop
 | [],[],ls=>ls= []
 |x::xs,v::vs,ls=> ∃l1 l2,ls=l1++l2/\ kE P S w x v l1/\ cC P S w xs vs l2
 |_,_,_=>False
def oO (P:Program) (S:Nat->Prop) (w:World):Rt->Value->List Loc->Prop
 | .va x,v,ls=>kE P S w x v ls
 | .tup xs,v,ls=> ∃arr:Array Value,v= .tuple arr/\ cC P S w xs arr.toList ls
def blkIn (ls:List Loc) (b:Nat):Prop:= ∃m,Loc.at b m∈ls
def iL (S:Nat->Prop) (w:World):List Loc->Prop
 | []=>True
 | .virt::ls=>iL S w ls
 | .at b _::ls=> ¬S b/\ b<w.heap.size/\ ¬blkIn ls b/\ iL S w ls
def jJ:List Ic->List (Nat×Nat)
 | []=> []
 | .d _::xs=>jJ xs
 | .ow sz n _::xs=>(sz,n)::jJ xs
def pR:Ar->List (Nat×Nat)
 | .c x=>jJ [x]
 | .agg xs=>jJ xs
 |_=> []
def dE:List Ar->List (Nat×Nat)
 | []=> []
 |x::xs=>pR x++dE xs
def kF (S:Nat->Prop) (w:World):List (Nat×Nat)->List (Option (Nat->List DV))->List Loc->Prop
 |(sz,n)::rs,some f::us,l::ls=>gV S w sz n f l/\ kF S w rs us ls
 |_::rs,none::us,_::ls=>kF S w rs us ls
 | [],[],[]=>True
 |_,_,_=>False
def lV:List (Option (Nat->List DV))->List Loc->List Loc
 |some _::us,l::ls=>l::lV us ls
 |none::us,_::ls=>lV us ls
 |_,_=> []
structure aM0 (S:Nat->Prop) (w:World) (ls:List Loc) (S':Nat->Prop) (w':World) (b6:List Loc):Prop where
 os:w'.os=w.os
 tape:w'.tape=w.tape
 output:w'.output=w.output
 grow:w.heap.size<=w'.heap.size
 old: ∀b,b<w.heap.size-> ¬blkIn ls b->w'.heap[b]? =w.heap[b]?
 later:cT S w S' w'
 newS: ∀b,S' b->S b \/blkIn ls b \/w.heap.size<=b
 newL: ∀b,blkIn b6 b->blkIn ls b \/w.heap.size<=b
 sdom: ∀b,S' b->b<w'.heap.size
def aU (P:Program) (f:Nat) (as:List Ar) (r:Rt) (us:List (Option (Nat->List DV))):Prop:=
 ∀(S:Nat->Prop) (w:World) (ak:List Value) (ls:List Loc),vO P S w->cC P S w as ak ls->iL S w ls->
  tC P f ak.toArray w fun e w'=> ∃v S' b6,e= .returned v/\ oO P S' w' r v b6/\ kF S' w' (dE as) us ls/\
   iL S' w' (lV us ls++b6)/\ aM0 S w ls S' w' b6
def FC (P:Program) (f:Nat) (F:List Ar->Option Rs):Prop:=
 ∀as pre r us,F as=some ⟨pre,r,us⟩->pre->aU P f as r us
def wO:Nat->List Ic->List aL×List (Nat×aB)×Nat
 |i,[]=>([],[],i)
 |i,.d x::xs=>match wO i xs with
  |(a,b,c)=>(.d x::a,b,c)
 |i,.ow sz n f::xs=>match wO (i+1) xs with
  |(a,b,c)=>(.osl i sz 0 n::a,(i,.row sz n f)::b,c)
def aCp:Nat->Ar->Va×List (Nat×aB)×Nat
 |i,.c (.d x)=>(.c (.d x),[],i)
 |i,.c (.ow sz n f)=>(.c (.osl i sz 0 n),[(i,.row sz n f)],i+1)
 |i,.agg cs=>match wO i cs with
  |(a,b,c)=>(.agg a,b,c)
 |i,.rp cs=>(.c (.rp cs),[],i)
 |i,.fv g=>(.c (.fv g),[],i)
def oP:Nat->List Ar->List Va×List (Nat×aB)×Nat
 |i,[]=>([],[],i)
 |i,x::xs=>match aCp i x with
  |(a,b,j)=>match oP j xs with
   |(as,bs,k)=>(a::as,b++bs,k)
section
variable {P:Program} {S S':Nat→Prop} {w w':World}
theorem aHS: ∀(xs:List Ic) (i:Nat),(wO i xs).2.2=i+(jJ xs).length
 | [],i=>rfl
 | .d x::xs,i=>by simp [wO,jJ,aHS xs i]
 | .ow sz n f::xs,i=>by simp [wO,jJ,aHS xs (i+1)];omega
theorem aOK: ∀(x:Ar) (i:Nat),(aCp i x).2.2=i+(pR x).length
 | .c (.d x),i=>rfl
 | .c (.ow sz n f),i=>rfl
 | .agg xs,i=>by simp [aCp,pR,aHS]
 | .rp _,_=>rfl
 | .fv _,_=>rfl
theorem aNW: ∀(xs:List Ar) (i:Nat),(oP i xs).2.2=i+(dE xs).length
 | [],i=>rfl
 |x::xs,i=>by simp [oP,dE,aOK,aNW xs];omega
inductive oV (S:Nat->Prop) (w:World):Nat->List (Nat×aB)->List Loc->Prop
 |nil {i:Nat}:oV S w i [] []
 |cons {i sz n:Nat} {f:Nat->List DV} {l:Loc} {h:List (Nat×aB)} {ls:List Loc}:gV S w sz n f l->oV S w (i+1) h ls->oV S w i ((i,.row sz n f)::h) (l::ls)
theorem oV.append {i:Nat} {h h':List (Nat×aB)} {ls b6:List Loc} (a:oV S w i h ls) (b:oV S w (i+ls.length) h' b6):oV S w i (h++h') (ls++b6):=by
 induction a with
 |nil=>simpa using b
 |cons r _ ih=>exact .cons r (ih (by simpa [Nat.add_assoc,Nat.add_comm 1] using b))
def lZ (i:Nat) (ls:List Loc):aJ:=fun k=>if k<i then none else ls[k-i]?
theorem aPD {ψ:aJ} {k sz n:Nat} {l:Loc} {v:Value} (bg:ψ k=some l) (h:aHs sz 0 n l v):kI P ψ S w (.osl k sz 0 n) v:=by
 cases l with
 |virt=>exact .inl ⟨bg,h⟩
 | «at» b m=>obtain ⟨c,off,h1,h2,h3⟩:=h;exact .inr ⟨b,m,c,off,bg,h1,h2,h3⟩
theorem aFK {ψ:aJ}: ∀(xs:List Ic) (vs:List Value) (ls:List Loc) (i:Nat),bC S w xs vs ls->(∀j l,ls[j]? =some l->ψ (i+j)=some l)->
 aG (dK P ψ S w) (wO i xs).1 vs/\ oV S w i (wO i xs).2.1 ls/\ ls.length=(jJ xs).length
 | [],[],[],i,_,_=>⟨trivial,.nil,rfl⟩
 | [],[],_::_,i,h,_=>by simp [bC] at h
 | [],_::_,_,i,h,_=>by simp [bC] at h
 | .d x::xs,[],ls,i,h,_=>by simp [bC] at h
 | .d x::xs,v::vs,ls,i,h,bg=>by
   simp only [bC] at h;obtain ⟨h1,h2⟩:=h
   obtain ⟨g1,g2,g3⟩:=aFK xs vs ls i h2 bg
   exact ⟨⟨⟨h1,h1.scalar⟩,g1⟩,g2,g3⟩
 | .ow sz n f::xs,[],ls,i,h,_=>by simp [bC] at h
 | .ow sz n f::xs,v::vs,[],i,h,_=>by simp [bC] at h
 | .ow sz n f::xs,v::vs,l::ls,i,h,bg=>by
   simp only [bC] at h;obtain ⟨h1,h2,h3⟩:=h
   obtain ⟨g1,g2,g3⟩:=aFK xs vs ls (i+1) h3 (fun j l hj=>by have:=bg (j+1) l u6;rwa [show i+(j+1)=i+1+j by omega] at this)
   refine ⟨⟨⟨aPD (bg 0 l j8) h1, ?_⟩,g1⟩,.cons h2 g2,by simp [jJ,g3]⟩
   cases l with
   |virt=>obtain ⟨_,a,e⟩:=h1;rw [e];trivial
   | «at» b m=>obtain ⟨c,off,e,_⟩:=h1;rw [e];trivial
theorem bBJ {ψ:aJ} (x:Ar) (v:Value) (ls:List Loc) (i:Nat) (h:kE P S w x v ls) (bg: ∀j l,ls[j]? =some l->ψ (i+j)=some l):
 bB P ψ S w (aCp i x).1 v/\ oV S w i (aCp i x).2.1 ls/\ ls.length=(pR x).length:=by
 cases x with
 |c x=>
  obtain ⟨g1,g2,g3⟩:=aFK (P:=P) (ψ:=ψ) [x] [v] ls i h bg
  cases x with
  |d x=>exact ⟨g1.1.1,g2,g3⟩
  |ow sz n f=>exact ⟨g1.1.1,g2,g3⟩
 |agg xs=>
  obtain ⟨arr,rfl,h⟩:=h
  obtain ⟨g1,g2,g3⟩:=aFK (P:=P) (ψ:=ψ) xs _ ls i h bg
  exact ⟨⟨arr,rfl,g1⟩,g2,g3⟩
 |rp cs=>obtain ⟨rfl,h⟩:=h;exact ⟨h,.nil,rfl⟩
 |fv g=>obtain ⟨rfl,h⟩:=h;exact ⟨h,.nil,rfl⟩
theorem aJ6 {ψ:aJ}: ∀(xs:List Ar) (vs:List Value) (ls:List Loc) (i:Nat),cC P S w xs vs ls->(∀j l,ls[j]? =some l->ψ (i+j)=some l)->
 aG (bB P ψ S w) (oP i xs).1 vs/\ oV S w i (oP i xs).2.1 ls/\ ls.length=(dE xs).length
 | [],[],ls,i,h,_=>by have:ls= []:=h;subst this;exact ⟨trivial,.nil,rfl⟩
 | [],_::_,_,_,h,_=>by simp [cC] at h
 |_::_,[],_,_,h,_=>by simp [cC] at h
 |x::xs,v::vs,ls,i,h,bg=>by
  obtain ⟨l1,l2,rfl,h1,h2⟩:=h
  obtain ⟨g1,g2,g3⟩:=bBJ (ψ:=ψ) x v l1 i h1 (fun j l hj=>bg j l (by rw [List.getElem?_append_left (List.getElem?_eq_some_iff.1 hj).1];exact hj))
  have e:(aCp i x).2.2=i+l1.length:=by rw [aOK,g3]
  obtain ⟨g4,g5,g6⟩:=aJ6 (ψ:=ψ) xs vs l2 (i+l1.length) h2 (fun j l hj=>by
   have:=bg (l1.length+j) l (by rw [List.getElem?_append_right j3];simpa using hj)
   rwa [show i+(l1.length+j)=i+l1.length+j by omega] at this)
  simp only [oP,e];refine ⟨⟨g1,g4⟩,g2.append g5,by simp [dE,g3,g6]⟩
theorem oV.look {h:List (Nat×aB)} {i:Nat} {ls:List Loc} (he:oV S w i h ls): ∀j l,ls[j]? =some l-> ∃sz n f,aF h (i+j)= .row sz n f/\ gV S w sz n f l:=by
 induction he with
 |nil=>intro j l h;simp at h
 | @cons i sz n f l h ls r _ ih=>
   intro j l' hj
   cases j with
   |zero=>simp at hj;subst hj;exact ⟨sz,n,f,by rw [cY];simp,r⟩
   |succ j=>
    obtain ⟨cd,n',f',h1,h2⟩:=ih j l' u6
    exact ⟨cd,n',f',by rw [cY,if_neg j3,show i+(j+1)=i+1+j by omega];exact h1,h2⟩
theorem gV.blk {ψ:aJ} {sz n:Nat} {f:Nat->List DV} {l:Loc}:gV S w sz n f l↔fE P ψ S w (.row sz n f) l:=by cases l<;>exact Iff.rfl
theorem iL.get {ls:List Loc} (h:iL S w ls): ∀(j b m:Nat),ls[j]? =some (.at b m)-> ¬S b/\ b<w.heap.size/\ ∀j' m',ls[j']? =some (.at b m')->j=j':=by
 induction ls with
 |nil=>intro j b m h;simp at h
 |cons l ls ih=>
  intro j b m hj;have h2:iL S w ls:=by cases l with|virt=>exact h| «at» b m=>exact h.2.2.2
  cases j with
  |zero=>
   simp at hj;subst hj
   obtain ⟨h1,h3,h4,h5⟩:=h
   refine ⟨h1,h3,fun j' m' hj'=> ?_⟩
   cases j' with
   |zero=>rfl
   |succ j'=>exact absurd ⟨m',List.mem_of_getElem? (by simpa using hj')⟩ h4
  |succ j=>
   obtain ⟨g1,g2,g3⟩:=ih h2 j b m u6
   refine ⟨g1,g2,fun j' m' hj'=> ?_⟩
   cases j' with
   |zero=>simp at hj';subst hj';exact absurd ⟨m,List.mem_of_getElem? u6⟩ h.2.2.1
   |succ j'=>rw [g3 j' m' (by simpa using hj')]
theorem aWt {h:List (Nat×aB)} {ls:List Loc} (hs:vO P S w) (he:oV S w 0 h ls) (gf:iL S w ls):iV P (lZ 0 ls) S w h ls.length where
 dom k hk:=by simp [lZ,hk]
 blk k l hk:=by
  simp only [lZ,Nat.not_lt_zero,if_false,Nat.sub_zero] at hk;obtain ⟨sz,n,f,h1,h2⟩:=he.look k l hk
  rw [Nat.zero_add] at h1;rw [h1];exact gV.blk.1 h2
 inj k k' b m m' hk ba _ _:=by
  simp only [lZ,Nat.not_lt_zero,if_false,Nat.sub_zero] at hk ba
  exact (gf.get k b m hk).2.2 k' m' ba
 dis k b m hk _:=by
  simp only [lZ,Nat.not_lt_zero,if_false,Nat.sub_zero] at hk;exact (gf.get k b m hk).1
 pdom k b m hk:=by
  simp only [lZ,Nat.not_lt_zero,if_false,Nat.sub_zero] at hk;exact (gf.get k b m hk).2.1
 sdom:=hs
end
def aGW (h:List (Nat×aB)) (k:Nat) (K:List (Nat×aB)->Prop):Prop:=
 match aF h k with
 | .cells cs=>pM h cs fun h=>jW h cs fun ds=>oW ds fun ds=>K ((k,.fz ds)::h)
 |_=>K h
def aK2:List (Nat×aB)->List (Nat×Nat)->(List (Nat×aB)->Prop)->Prop
 |h,[],K=>K h
 |h,p::ps,K=>aGW h p.1 fun h=>aK2 h ps K
def aM1 (h:List (Nat×aB)) (x:Va) (K:List (Nat×aB)->Prop):Prop:=
 match x with
 | .c (.own k _)=>aGW h k K
 | .c (.fn _ aq)=>aK2 h aq K
 | .c c=>zI h c K
 | .agg cs=>pM h cs K
def aGX:List (Nat×aB)->List Va->(List (Nat×aB)->Prop)->Prop
 |h,[],K=>K h
 |h,c::cs,K=>aM1 h c fun h=>aGX h cs K
section
variable {P:Program} {τ:bF} {base:Nat} {ψ aa:aJ} {S S':Nat→Prop} {w w':World} {a:Act}
theorem aNC {k:Nat} {zn:List aL}: ∀(cs:List aL) (h:List (Nat×aB)) {K:List (Nat×aB)->Prop},aF h k= .cells zn->pM h cs K->pM h cs (fun h'=>K h'/\ aF h' k= .cells zn)
 | [],h,K,hc,hk=>⟨hk,hc⟩
 |c::cs,h,K,hc,hk=>by
  have step: ∀h',aF h' k= .cells zn->pM h' cs K->pM h' cs (fun h'=>K h'/\ aF h' k= .cells zn):=fun h'=>aNC cs h'
  show zI h c fun h=>pM h cs (fun h'=>K h'/\ aF h' k= .cells zn)
  have hk:zI h c fun h=>pM h cs K:=hk
  cases c with
  |osl k' z o l=>
   simp only [zI] at hk⊢
   cases hb:aF h k' with
   |row sz nn f=>
    simp only [hb] at hk⊢
    refine step _ ?_ hk
    rw [cY,if_neg]
    . exact hc
    . rintro rfl;rw [hc] at hb;cases hb
   |_=>simp only [hb] at hk⊢;exact step _ hc hk
  |_=>exact step _ hc hk
theorem aPE {ts:List (Nat×Tm)} {h:List (Nat×aB)} {n m k:Nat} {K:List (Nat×aB)->Prop} (hr:aC P base ψ S w ⟨ts,h,n,m⟩ a) (bg: ∃b mm,ψ k=some (.at b mm)) (hk:aGW h k K):
 aCo P base ψ S w a ts n m K:=by
 obtain ⟨b,mm,bg⟩:=bg
 unfold aGW at hk;split at hk
 . rename_i cs hb
   obtain ⟨h1,S1,⟨g1,gl⟩,g2,g3⟩:=aCO cs h S hr (aNC cs h hb hk)
   have aw:=g2.sim.blk k _ bg
   simp only [gl] at aw;obtain ⟨arr,e,q1,q2⟩:=aw
   obtain ⟨ds,q3,q4⟩:=qP g2.sim g1 q2
   rw [fJ] at q4;obtain ⟨S',jn,BV⟩:=g2.freeze (new:= .fz ds) gl trivial (by simp [aB.live]) (fun h=>h.elim)
    (fun b' Ez S' e' hl hS _=>by
     rw [bg] at e';cases e'
     exact ⟨hS,arr,e,_,q1,q3.mono fun _ _ h=>h.later hl⟩)
   exact ⟨_,S',q4,jn,g3.trans BV⟩
 . exact ⟨_,S,hk,hr,aI.refl _ _ _ _⟩
theorem aOL {ts:List (Nat×Tm)} {n m:Nat}: ∀(ps:List (Nat×Nat)) (h:List (Nat×aB)) (S:Nat->Prop) {K:List (Nat×aB)->Prop},aC P base ψ S w ⟨ts,h,n,m⟩ a->
 (∀p∈ps, ∃b mm,ψ p.1=some (.at b mm))->aK2 h ps K->aCo P base ψ S w a ts n m K
 | [],h,S,K,hr,_,hk=>⟨h,S,hk,hr,aI.refl _ _ _ _⟩
 |p::ps,h,S,K,hr,hp,hk=>by
  obtain ⟨h1,S1,g1,g2,g3⟩:=aPE hr (hp p j8) hk
  obtain ⟨h2,S2,g4,g5,g6⟩:=aOL ps h1 S1 g2 (fun q hq=>hp q (by simp [hq])) g1
  exact ⟨h2,S2,g4,g5,g3.trans g6⟩
theorem aPF: ∀{aq:List (Nat×Nat)} {vs:List Value},aG (fun (p:Nat×Nat) y=> ∃b m,ψ p.1=some (.at b m)/\ y=Value.pointer (some ⟨b,p.2,none⟩)) aq vs-> ∀p∈aq, ∃b mm,ψ p.1=some (.at b mm)
 | [],[],_,p,hp=>by simp at hp
 |c::cs,v::vs,⟨⟨b,m,h1,_⟩,h⟩,p,hp=>by
  simp at hp
  rcases hp with rfl|hp
  . exact ⟨b,m,h1⟩
  . exact aPF h p hp
theorem aZ0 {ts:List (Nat×Tm)} {h:List (Nat×aB)} {n m:Nat} {x:Va} {v:Value} {K:List (Nat×aB)->Prop} (hr:aC P base ψ S w ⟨ts,h,n,m⟩ a) (hx:bB P ψ S w x v) (hk:aM1 h x K):
 aCo P base ψ S w a ts n m K:=by
 unfold aM1 at hk;split at hk
 . obtain ⟨b,mm,h1,_⟩:=hx;exact aPE hr ⟨b,mm,h1⟩ hk
 . obtain ⟨vs,_,h1⟩:=hx;exact aOL _ _ _ hr (aPF h1) hk
 . exact aOJ hr hk
 . exact aCO _ _ _ hr hk
theorem aJf {ts:List (Nat×Tm)} {n m:Nat}: ∀(xs:List Va) (vs:List Value) (h:List (Nat×aB)) (S:Nat->Prop) {K:List (Nat×aB)->Prop},aC P base ψ S w ⟨ts,h,n,m⟩ a->
 aG (bB P ψ S w) xs vs->aGX h xs K->aCo P base ψ S w a ts n m K
 | [],[],h,S,K,hr,_,hk=>⟨h,S,hk,hr,aI.refl _ _ _ _⟩
 |x::xs,v::vs,h,S,K,hr,⟨hx,qp⟩,hk=>by
  obtain ⟨h1,S1,g1,g2,g3⟩:=aZ0 hr hx hk
  obtain ⟨h2,S2,g4,g5,g6⟩:=aJf xs vs h1 S1 g2 (qp.mono fun _ _ h=>h.later (cH.refl _) g3.later) g1
  exact ⟨h2,S2,g4,g5,g3.trans g6⟩
def aFL (h:List (Nat×aB)) (used:List Nat) (c:aL) (K:Ic->List Nat->Prop):Prop:=
 match c with
 | .kb b=>K (.d (.v (.bool b))) used
 | .d x=>K (.d x) used
 | .osc k z o len _=>match aF h k with
   | .row sz n f=>match Nat.beq sz z,Nat.beq o 0,used.contains k with
     |true,true,false=>len<=n/\ K (.ow sz len f) (k::used)
     |_,_,_=>False
   |_=>False
 | .osl k z o len=>match aF h k with
   | .row sz n f=>match Nat.beq sz z,Nat.beq o 0,used.contains k with
     |true,true,false=>len<=n/\ K (.ow sz len f) (k::used)
     |_,_,_=>False
   | .fzr sz n f=>match Nat.beq sz z with
     |true=>o+len<=n/\ K (.d (.lst sz len fun i=>f (o+i))) used
     |false=>False
   |_=>False
 |_=>False
def aJg (h:List (Nat×aB)):List Nat->List aL->(List Ic->List Nat->Prop)->Prop
 |used,[],K=>K [] used
 |used,c::cs,K=>aFL h used c fun x used=>aJg h used cs fun xs used=>K (x::xs) used
def aLT (h:List (Nat×aB)) (used:List Nat) (x:Va) (K:Ar->List Nat->Prop):Prop:=
 match x with
 | .c c=>aFL h used c fun x used=>K (.c x) used
 | .agg cs=>aJg h used cs fun xs used=>K (.agg xs) used
def aDM (h:List (Nat×aB)):List Nat->List Va->(List Ar->List Nat->Prop)->Prop
 |used,[],K=>K [] used
 |used,c::cs,K=>aLT h used c fun x used=>aDM h used cs fun xs used=>K (x::xs) used
def wP (h:List (Nat×aB)) (used:List Nat):Nat->List (Nat×Nat)->(List (Option (Nat->List DV))->Prop)->Prop
 |_,[],K=>K []
 |i,(vb,n0)::l,K=>match used.contains i,aF h i with
  |false,.row sz n f=>match Nat.beq sz vb with
   |true=>n0<=n/\ wP h used (i+1) l fun us=>K (some f::us)
   |false=>False
  |_,_=>wP h used (i+1) l fun us=>K (none::us)
def mD (ψ:aJ) (h:List (Nat×aB)) (used:List Nat):Prop:=used.Nodup/\ ∀k∈used,(aF h k).live/\ ∃l,ψ k=some l
theorem aNX {h:List (Nat×aB)} {next:Nat} (hs:iV P ψ S w h next) {used:List Nat} {c:aL} {v:Value} {K:Ic->List Nat->Prop} (hu:mD ψ h used) (hv:kI P ψ S w c v) (hk:aFL h used c K):
 ∃x ids ls,bC S w [x] [v] ls/\ aG (fun k l=>ψ k=some l) ids ls/\ mD ψ h (ids.reverse++used)/\ K x (ids.reverse++used):=by
 unfold aFL at hk;split at hk
 . rename_i b
   exact ⟨.d (.v (.bool b)),[],[],And.intro (by rw [show v=_ from hv];exact .v trivial) trivial,trivial,hu,hk⟩
 . rename_i y
   exact ⟨.d y,[],[],And.intro hv trivial,trivial,hu,hk⟩
 . rename_i k z o len cc
   split at hk
   . rename_i sz n f hb
     split at hk
     . rename_i h1 h2 h3
       have h1:=Nat.eq_of_beq_eq_true h1
       have h2:=Nat.eq_of_beq_eq_true h2
       subst h1;subst h2
       obtain ⟨hle,hk⟩:=hk
       have zo:k∉used:=j2o
       have fin: ∀l,ψ k=some l->aHs sz 0 len l v->gV S w sz len f l-> ∃x ids ls,bC S w [x] [v] ls/\ aG (fun k l=>ψ k=some l) ids ls/\ mD ψ h (ids.reverse++used)/\ K x (ids.reverse++used):=by
        intro l hl ho b8;refine ⟨.ow sz len f,[k],[l],⟨ho,b8,trivial⟩,⟨hl,trivial⟩,⟨by simpa using ⟨zo,hu.1⟩, ?_⟩,hk⟩
        intro k' ba
        simp at ba
        rcases ba with rfl|ba
        . exact ⟨by rw [hb];trivial,l,hl⟩
        . exact hu.2 k' ba
       rcases hv with ⟨g1,g2,_,g3⟩|⟨b,m,off,g1,g2,g3,g4⟩
       . exact fin .virt g1 ⟨g2,g3⟩ g2
       . have aw:=hs.blk k _ g1
         rw [hb] at aw;obtain ⟨arr,e,q1,q2,q3,q4,q5⟩:=aw
         refine fin (.at b m) g1 ⟨cc,off,g2,g3,g4⟩ ⟨arr,e,q1,q2, ?_,fun i hi=>q4 i j3,fun i j hi hj=>q5 i j j3 hj⟩
         have:=Nat.mul_le_mul_right sz hle
         omega
     . exact hk.elim
   . exact hk.elim
 . rename_i k z o len
   split at hk
   . rename_i sz n f hb
     split at hk
     . rename_i h1 h2 h3
       have h1:=Nat.eq_of_beq_eq_true h1
       have h2:=Nat.eq_of_beq_eq_true h2
       subst h1;subst h2
       obtain ⟨hle,hk⟩:=hk
       have zo:k∉used:=j2o
       have fin: ∀l,ψ k=some l->aHs sz 0 len l v->gV S w sz len f l-> ∃x ids ls,bC S w [x] [v] ls/\ aG (fun k l=>ψ k=some l) ids ls/\ mD ψ h (ids.reverse++used)/\ K x (ids.reverse++used):=by
        intro l hl ho b8;refine ⟨.ow sz len f,[k],[l],⟨ho,b8,trivial⟩,⟨hl,trivial⟩,⟨by simpa using ⟨zo,hu.1⟩, ?_⟩,hk⟩
        intro k' ba
        simp at ba
        rcases ba with rfl|ba
        . exact ⟨by rw [hb];trivial,l,hl⟩
        . exact hu.2 k' ba
       rcases hv with ⟨g1,g2,g3⟩|⟨b,m,c,off,g1,g2,g3,g4⟩
       . exact fin .virt g1 ⟨g2,g3⟩ g2
       . have aw:=hs.blk k _ g1
         rw [hb] at aw;obtain ⟨arr,e,q1,q2,q3,q4,q5⟩:=aw
         refine fin (.at b m) g1 ⟨c,off,g2,g3,g4⟩ ⟨arr,e,q1,q2, ?_,fun i hi=>q4 i j3,fun i j hi hj=>q5 i j j3 hj⟩
         have:=Nat.mul_le_mul_right sz hle
         omega
     . exact hk.elim
   . rename_i sz n f hb
     split at hk
     . rename_i h1
       obtain ⟨x,g1,g2⟩:=aEF (c:= .osl k z o len) (K:=fun d=>K (.d d) used) hs (by simp only [mU,hb,h1];exact hk) hv
       exact ⟨.d x,[],[],And.intro g1 trivial,trivial,hu,g2⟩
     . exact hk.elim
   . exact hk.elim
 . exact hk.elim
theorem bC.append: ∀{xs:List Ic} {vs:List Value} {ls:List Loc} {ys:List Ic} {us:List Value} {ms:List Loc},bC S w xs vs ls->bC S w ys us ms->bC S w (xs++ys) (vs++us) (ls++ms)
 | [],[],[],_,_,_,_,h=>h
 | [],[],_::_,_,_,_,h,_=>by simp [bC] at h
 | [],_::_,_,_,_,_,h,_=>by simp [bC] at h
 | .d x::xs,[],_,_,_,_,h,_=>by simp [bC] at h
 | .d x::xs,v::vs,ls,_,_,_,h,h'=>by
   simp only [bC] at h;exact And.intro h.1 (bC.append h.2 h')
 | .ow _ _ _::xs,[],_,_,_,_,h,_=>by simp [bC] at h
 | .ow _ _ _::xs,_::_,[],_,_,_,h,_=>by simp [bC] at h
 | .ow _ _ _::xs,v::vs,l::ls,_,_,_,h,h'=>by
   simp only [bC] at h;exact And.intro h.1 (And.intro h.2.1 (bC.append h.2.2 h'))
theorem aNL {h:List (Nat×aB)} {next:Nat} (hs:iV P ψ S w h next): ∀{cs:List aL} {vs:List Value} {used:List Nat} {K:List Ic->List Nat->Prop},mD ψ h used->aG (dK P ψ S w) cs vs->aJg h used cs K->
 ∃xs ids ls,bC S w xs vs ls/\ aG (fun k l=>ψ k=some l) ids ls/\ mD ψ h (ids.reverse++used)/\ K xs (ids.reverse++used)
 | [],[],used,K,hu,_,hk=>⟨[],[],[],trivial,trivial,hu,hk⟩
 |c::cs,v::vs,used,K,hu,⟨h1,h2⟩,hk=>by
  obtain ⟨x,ids,ls,g1,g2,g3,g4⟩:=aNX hs hu h1.1 hk
  obtain ⟨xs,c7,b6,g5,g6,g7,g8⟩:=aNL hs g3 h2 g4
  have e:(ids++c7).reverse++used=c7.reverse++(ids.reverse++used):=j8
  exact ⟨x::xs,ids++c7,ls++b6,bC.append (xs:= [x]) (vs:= [v]) g1 g5,g2.append g6,e▸g7,e▸g8⟩
theorem aXX {h:List (Nat×aB)} {next:Nat} (hs:iV P ψ S w h next) {y:Va} {v:Value} {used:List Nat} {K:Ar->List Nat->Prop} (hu:mD ψ h used) (hv:bB P ψ S w y v) (hk:aLT h used y K):
 ∃x ids ls,kE P S w x v ls/\ aG (fun k l=>ψ k=some l) ids ls/\ mD ψ h (ids.reverse++used)/\ K x (ids.reverse++used):=by
 cases y with
 |c c=>
  simp only [aLT] at hk;obtain ⟨x,ids,ls,g1,g2,g3,g4⟩:=aNX hs hu hv hk
  exact ⟨.c x,ids,ls,g1,g2,g3,g4⟩
 |agg cs=>
  obtain ⟨arr,rfl,hv⟩:=hv
  obtain ⟨xs,ids,ls,g1,g2,g3,g4⟩:=aNL hs hu hv hk
  exact ⟨.agg xs,ids,ls,⟨arr,rfl,g1⟩,g2,g3,g4⟩
theorem aOM {h:List (Nat×aB)} {next:Nat} (hs:iV P ψ S w h next): ∀{cs:List Va} {vs:List Value} {used:List Nat} {K:List Ar->List Nat->Prop},mD ψ h used->aG (bB P ψ S w) cs vs->aDM h used cs K->
 ∃xs ids ls,cC P S w xs vs ls/\ aG (fun k l=>ψ k=some l) ids ls/\ mD ψ h (ids.reverse++used)/\ K xs (ids.reverse++used)
 | [],[],used,K,hu,_,hk=>⟨[],[],[],rfl,trivial,hu,hk⟩
 |c::cs,v::vs,used,K,hu,⟨h1,h2⟩,hk=>by
  obtain ⟨x,ids,ls,g1,g2,g3,g4⟩:=aXX hs hu h1 hk
  obtain ⟨xs,c7,b6,g5,g6,g7,g8⟩:=aOM hs g3 h2 g4
  have e:(ids++c7).reverse++used=c7.reverse++(ids.reverse++used):=j8
  exact ⟨x::xs,ids++c7,ls++b6,⟨ls,b6,rfl,g1,g5⟩,g2.append g6,e▸g7,e▸g8⟩
theorem aH6 {h:List (Nat×aB)} {next:Nat} (hs:iV P ψ S w h next) {used:List Nat}: ∀{rs:List (Nat×Nat)} {ls:List Loc} {i:Nat} {K:List (Option (Nat->List DV))->Prop},
 rs.length=ls.length->(∀j l,ls[j]? =some l->ψ (i+j)=some l)->mD ψ h used->wP h used i rs K->
 ∃us ids,kF S w rs us ls/\ aG (fun k l=>ψ k=some l) ids (lV us ls)/\ mD ψ h (ids++used)/\ (∀k∈ids,i<=k)/\ K us
 | [],[],i,K,_,_,hu,hk=>⟨[],[],trivial,trivial,hu,by simp,hk⟩
 |(vb,n0)::rs,l::ls,i,K,hlen,bg,hu,hk=>by
  have h0:=bg 0 l j8
  have Bj: ∀j l,ls[j]? =some l->ψ (i+1+j)=some l:=fun j l hj=>by
   have:=bg (j+1) l u6;rwa [show i+(j+1)=i+1+j by omega] at this
  have skip:wP h used (i+1) rs (fun us=>K (none::us))-> ∃us ids,kF S w ((vb,n0)::rs) us (l::ls)/\ aG (fun k l=>ψ k=some l) ids (lV us (l::ls))/\ mD ψ h (ids++used)/\ (∀k∈ids,i<=k)/\ K us:=by
   intro hk;obtain ⟨us,ids,g1,g2,g3,g4,g5⟩:=aH6 hs (by simpa using hlen) Bj hu hk
   exact ⟨none::us,ids,g1,g2,g3,fun k hk=>by have:=g4 k hk;omega,g5⟩
  simp only [wP] at hk;split at hk
  . rename_i sz n f hc hb
    split at hk
    . rename_i hz
      have hz:=Nat.eq_of_beq_eq_true hz
      subst hz;obtain ⟨hle,hk⟩:=hk
      obtain ⟨us,ids,g1,g2,g3,g4,g5⟩:=aH6 hs (by simpa using hlen) Bj hu hk
      have b8:gV S w sz n0 f l:=by
       have aw:=hs.blk i _ h0
       rw [hb] at aw;cases l with
       |virt=>have:n=0:=aw;show n0=0;omega
       | «at» b m=>
         obtain ⟨arr,e,q1,q2,q3,q4,q5⟩:=aw
         have:=Nat.mul_le_mul_right sz hle
         exact ⟨arr,e,q1,q2,by omega,fun i hi=>q4 i j3,fun i j hi hj=>q5 i j j3 hj⟩
      refine ⟨some f::us,i::ids,⟨b8,g1⟩,⟨h0,g2⟩,⟨?_,?_⟩, ?_,g5⟩
      . simp only [List.cons_append,List.nodup_cons];refine ⟨?_,g3.1⟩
        simp only [List.mem_append,not_or];refine ⟨fun hi=>by have:=g4 i hi;omega,by simpa using hc⟩
      . intro k hk;simp only [List.cons_append,List.mem_cons] at hk;rcases hk with rfl|hk
        . exact ⟨by rw [hb];trivial,l,h0⟩
        . exact g3.2 k hk
      . intro k hk;simp only [List.mem_cons] at hk;rcases hk with rfl|hk
        . omega
        . have:=g4 k hk;omega
    . exact hk.elim
  . exact skip hk
theorem aNY {h:List (Nat×aB)} {next:Nat} (hs:iV P ψ S w h next): ∀{ids:List Nat} {ls:List Loc},aG (fun k l=>ψ k=some l) ids ls->mD ψ h ids->iL S w ls
 | [],[],_,_=>trivial
 |k::ids,l::ls,⟨h1,h2⟩,hu=>by
  have Fp:mD ψ h ids:=⟨(List.nodup_cons.1 hu.1).2,fun k hk=>hu.2 k (by simp [hk])⟩
  have ih:=aNY hs h2 Fp
  cases l with
  |virt=>exact ih
  | «at» b m=>
    have hl:=(hu.2 k j8).1
    refine ⟨hs.dis k b m h1 hl,hs.pdom k b m h1, ?_,ih⟩
    rintro ⟨m',hm⟩
    obtain ⟨j,hj,e⟩:=List.mem_iff_getElem.1 hm
    have hlen:=h2.length
    obtain ⟨y,e1,e2⟩:=h2.get j (ids[j]'j3) j8
    have:ls[j]? =some (.at b m'):=x8
    rw [this] at e1;cases e1
    have Bk:ids[j]'j3∈ids:=List.getElem_mem _
    have ic:=(hu.2 _ (List.mem_cons_of_mem _ Bk)).1
    have:=hs.inj k _ b m m' h1 e2 hl ic
    exact (List.nodup_cons.1 hu.1).1 (this▸Bk)
def aGh (τ:bF) (st:St) (r:ResultVar) (K:Va->Prop):Prop:=
 match r with
 | .tmp t=>match aV st.tmps t with
   | .va x=>K x
   |_=>False
 | .cell a t=>match τ t with
   |some ⟨desc,size,_,_⟩=>loadAt st.heap (aV st.tmps a) size fun cs=>match kG (jZ desc) cs with
    |some y=>K y
    |none=>False
   |none=>False
def aBa (τ:bF) (st:St):List ResultVar->(List Va->Prop)->Prop
 | [],K=>K []
 |r::rs,K=>aGh τ st r fun x=>aBa τ st rs fun xs=>fVa x fun x=>K (x::xs)
def aHt:List Ar->Rt
 | [x]=> .va x
 |xs=> .tup xs
def fin (τ:bF) (fr:Bool) (rows:List (Nat×Nat)) (rs:List ResultVar) (K:Rt->List (Option (Nat->List DV))->Prop) (st:St):Prop:=
 aBa τ st rs fun vs=>match fr with
  |true=>aGX st.heap vs fun h=>aDM h [] vs fun xs used=>wP h used 0 rows fun us=>K (aHt xs) us
  |false=>aDM st.heap [] vs fun xs used=>wP st.heap used 0 rows fun us=>K (aHt xs) us
def aM2 (τ:bF) (fr:Bool) (rows:List (Nat×Nat)) (rs:List ResultVar) (K:Rt->List (Option (Nat->List DV))->Prop):Exit->St->Prop
 | .ret,st=>fin τ fr rows rs K st
 | .normal,st=>fin τ fr rows rs K st
 |_,_=>False
def aEd:List Value->Value
 | [v]=>v
 |vs=> .tuple vs.toArray
def aDN (a:Act):ResultVar->Sem Value
 | .tmp t=>pure (a.tmps.getD t undef)
 | .cell c t=>do loadVar t (<-asAddr (a.tmps.getD c undef))
theorem aWu (ab:bE P τ) {st:St} (hr:aC P base ψ S w st a) {r:ResultVar} {K:Va->Prop} (hk:aGh τ st r K):
 ∃x v,bB P ψ S w x v/\ K x/\ (aDN a r).run P w= .ok v w:=by
 cases r with
 |tmp t=>
  simp only [aGh] at hk;split at hk
  . rename_i x hx
    have:=hr.tmps t
    rw [hx] at this;exact ⟨x,_,this,hk,rfl⟩
  . exact hk.elim
 |cell c t=>
  simp only [aGh] at hk;split at hk
  . rename_i d s b z ht
    obtain ⟨bb,off,ys,cs,hv,hlen,hc,hcs,hk⟩:=aOm hr.sim (hr.tmps c) hk
    split at hk
    . rename_i y hy
      obtain ⟨v,h1,h2⟩:=aNJ ab ht hlen hc hcs hy
      exact ⟨y,v,h2,hk,by simp only [aDN,hv,asAddr,Sem.run_bind,Sem.run_pure,Result.andThen_ok,h1]⟩
    . exact hk.elim
  . exact hk.elim
theorem aIl (ab:bE P τ) {st:St} (hr:aC P base ψ S w st a): ∀{rs:List ResultVar} {K:List Va->Prop},aBa τ st rs K->
 ∃xs vs,aG (bB P ψ S w) xs vs/\ K xs/\ (rs.mapM (aDN a)).run P w= .ok vs w
 | [],K,hk=>⟨[],[],trivial,hk,rfl⟩
 |r::rs,K,hk=>by
  obtain ⟨x,v,g1,g2,g3⟩:=aWu ab hr hk
  obtain ⟨xs,vs,g4,g5,g6⟩:=aIl ab hr g2
  rw [aF5] at g5;refine ⟨x::xs,v::vs,⟨g1,g4⟩,g5, ?_⟩
  simp only [List.mapM_cons,Sem.run_bind,g3,Result.andThen_ok,g6,Sem.run_pure]
theorem aNM {fn:Func} {vs:List Value} (h:(fn.results.toList.mapM (aDN a)).run P w= .ok vs w):
 (results fn a.tmps).run P w= .ok (aEd vs) w:=by
 have e:results fn a.tmps=(do let vs<-fn.results.mapM (aDN a);pure (if h:vs.size=1 then vs[0] else .tuple vs)):=by
  unfold results
  congr 1
 rw [e,Array.mapM_eq_mapM_toList];simp only [Sem.run_bind,Sem.run_map,h,Result.andThen_ok,Sem.run_pure];cases vs with
 |nil=>rfl
 |cons v vs=>cases vs with
  |nil=>rfl
  |cons _ _=>simp [aEd]
end
def tJ:DV->DV->Prop
 | .v x,.v y=>x=y
 | .v x,.lst _ n _=>x= .slice none 0 0/\ n=0
 | .lst sz n f,.lst cd n' f'=>sz=cd/\ n=n'/\ ∀i,i<n->f i=f' i
 |_,_=>False
def aM3:Ic->Ic->Prop
 | .d x,.d y=>tJ x y
 | .ow sz n f,.ow cd n' f'=>sz=cd/\ n=n'/\ ∀i,i<n->f i=f' i
 | .d (.v x),.ow _ n _=>x= .slice none 0 0/\ n=0
 |_,_=>False
def uR:List Ic->List Ic->Prop
 | [],[]=>True
 |x::xs,y::ys=>aM3 x y/\ uR xs ys
 |_,_=>False
def aAt:Ar->Ar->Prop
 | .c x,.c y=>aM3 x y
 | .agg xs,.agg ys=>uR xs ys
 | .rp cs,.rp ib=>cs=ib
 | .fv g,.fv g'=>g=g'
 |_,_=>False
def uS:List Ar->List Ar->Prop
 | [],[]=>True
 |x::xs,y::ys=>aAt x y/\ uS xs ys
 |_,_=>False
def vM:Rt->Rt->Prop
 | .va x,.va y=>aAt x y
 | .tup xs,.tup ys=>uS xs ys
 |_,_=>False
def kK:List (Nat×Nat)->List (Option (Nat->List DV))->List (Option (Nat->List DV))->Prop
 | [],[],[]=>True
 |_::rs,_::us,none::us'=>kK rs us us'
 |(_,n)::rs,some f::us,some f'::us'=>(∀i,i<n->f i=f' i)/\ kK rs us us'
 |_,_,_=>False
section
variable {P:Program} {τ:bF} {base:Nat} {ψ aa:aJ} {S S':Nat→Prop} {w w':World} {a:Act}
theorem tJ.rep {x y:DV} {v:Value} (h:tJ x y) (hx:aZ S w x v):aZ S w y v:=by
 cases x with
 |v x=>cases y with
  |v y=>have:x=y:=h;subst this;exact hx
  |lst sz n f=>obtain ⟨rfl,rfl⟩:=h;cases hx;exact .nil
 |lst sz n f=>cases y with
  |v y=>exact h.elim
  |lst cd n' f'=>
   obtain ⟨rfl,rfl,h⟩:=h
   cases hx with
   |nil=>exact .nil
   |lst g h1 h2 h3 h4 h5=>exact .lst g h1 (fun i hi=>by rw [<-h i hi];exact h2 i hi) h3 (fun i j hi hj=>by rw [<-h i hi];exact h4 i j hi hj) h5
theorem gV.congr {sz n:Nat} {f f':Nat->List DV} {l:Loc} (h: ∀i,i<n->f i=f' i) (hr:gV S w sz n f l):gV S w sz n f' l:=by
 cases l with
 |virt=>exact hr
 | «at» b m=>obtain ⟨arr,e,h1,h2,h3,h4,h5⟩:=hr;exact ⟨arr,e,h1,h2,h3,fun i hi=>by rw [<-h i hi];exact h4 i hi,fun i j hi hj=>by rw [<-h i hi];exact h5 i j hi hj⟩
inductive gM:List Loc->List Loc->Prop
 |nil:gM [] []
 |cons {a b:List Loc} (l:Loc):gM a b->gM (l::a) (l::b)
 |virt {a b:List Loc}:gM a b->gM a (.virt::b)
theorem gM.append {a b a' b':List Loc} (h:gM a b) (h':gM a' b'):gM (a++a') (b++b'):=by
 induction h with
 |nil=>exact h'
 |cons l _ ih=>exact .cons l ih
 |virt _ ih=>exact .virt ih
theorem gM.blkIn {a b:List Loc} (h:gM a b) {k:Nat} (hb:blkIn b k):blkIn a k:=by
 obtain ⟨m,hm⟩:=hb
 refine ⟨m, ?_⟩
 induction h with
 |nil=>exact hm
 |cons l _ ih=>simp at hm⊢;rcases hm with hm|hm;exact .inl hm;exact .inr (ih hm)
 |virt _ ih=>simp at hm;exact ih hm
theorem gM.refl: ∀(a:List Loc),gM a a
 | []=> .nil
 |l::a=> .cons l (gM.refl a)
theorem gM.sep {a b:List Loc} (h:gM a b) (hs:iL S w a):iL S w b:=by
 induction h with
 |nil=>trivial
 |cons l mw ih=>
  cases l with
  |virt=>exact ih hs
  | «at» b m=>exact ⟨hs.1,hs.2.1,fun hb=>hs.2.2.1 (mw.blkIn hb),ih hs.2.2.2⟩
 |virt _ ih=>exact ih hs
theorem uR.rep: ∀{xs ys:List Ic} {vs:List Value} {ls:List Loc},uR xs ys->bC S w xs vs ls-> ∃b6,bC S w ys vs b6/\ gM ls b6
 | [],[],vs,ls,_,h=>⟨ls,h,gM.refl ls⟩
 | [],_::_,_,_,h,_=>h.elim
 |_::_,[],_,_,h,_=>h.elim
 | .d x::xs,y::ys,[],ls,_,h'=>by simp [bC] at h'
 | .d x::xs,y::ys,v::vs,ls,h,h'=>by
   simp only [bC] at h'
   obtain ⟨h1,h2⟩:=h
   obtain ⟨b6,g1,g2⟩:=uR.rep h2 h'.2
   cases y with
   |d y=>exact ⟨b6,And.intro (tJ.rep h1 h'.1) g1,g2⟩
   |ow sz n f=>
    cases x with
    |lst _ _ _=>exact h1.elim
    |v x=>
     obtain ⟨rfl,rfl⟩:=h1
     have hv:=h'.1
     cases hv;exact ⟨.virt::b6,And.intro ⟨rfl,none,rfl⟩ (And.intro rfl g1),.virt g2⟩
 | .ow _ _ _::xs,y::ys,[],ls,_,h'=>by simp [bC] at h'
 | .ow _ _ _::xs,y::ys,v::vs,[],_,h'=>by simp [bC] at h'
 | .ow sz n f::xs,y::ys,v::vs,l::ls,h,h'=>by
   simp only [bC] at h'
   obtain ⟨h1,h2⟩:=h
   obtain ⟨b6,g1,g2⟩:=uR.rep h2 h'.2.2
   cases y with
   |d y=>exact h1.elim
   |ow cd n' f'=>
    obtain ⟨rfl,rfl,h1⟩:=h1
    exact ⟨l::b6,And.intro h'.1 (And.intro (h'.2.1.congr h1) g1),.cons l g2⟩
theorem aAt.rep {x y:Ar} {v:Value} {ls:List Loc} (h:aAt x y) (h':kE P S w x v ls): ∃b6,kE P S w y v b6/\ gM ls b6:=by
 cases x with
 |c x=>cases y with
  |c y=>exact uR.rep (xs:= [x]) (ys:= [y]) ⟨h,trivial⟩ h'
  |_=>exact h.elim
 |agg xs=>cases y with
  |agg ys=>obtain ⟨arr,rfl,h'⟩:=h';obtain ⟨b6,g1,g2⟩:=uR.rep h h';exact ⟨b6,⟨arr,rfl,g1⟩,g2⟩
  |_=>exact h.elim
 |rp cs=>cases y with
  |rp ib=>have:cs=ib:=h;subst this;exact ⟨ls,h',gM.refl ls⟩
  |_=>exact h.elim
 |fv g=>cases y with
  |fv g'=>have:g=g':=h;subst this;exact ⟨ls,h',gM.refl ls⟩
  |_=>exact h.elim
theorem uS.rep: ∀{xs ys:List Ar} {vs:List Value} {ls:List Loc},uS xs ys->cC P S w xs vs ls-> ∃b6,cC P S w ys vs b6/\ gM ls b6
 | [],[],vs,ls,_,h=>⟨ls,h,gM.refl ls⟩
 | [],_::_,_,_,h,_=>h.elim
 |_::_,[],_,_,h,_=>h.elim
 |x::xs,y::ys,[],ls,_,h'=>by simp [cC] at h'
 |x::xs,y::ys,v::vs,ls,h,h'=>by
  obtain ⟨l1,l2,rfl,h1,h2⟩:=h'
  obtain ⟨DH,g1,g2⟩:=aAt.rep h.1 h1
  obtain ⟨DI,g3,g4⟩:=uS.rep h.2 h2
  exact ⟨DH++DI,⟨DH,DI,rfl,g1,g3⟩,g2.append g4⟩
theorem vM.rep {x y:Rt} {v:Value} {ls:List Loc} (h:vM x y) (h':oO P S w x v ls): ∃b6,oO P S w y v b6/\ gM ls b6:=by
 cases x with
 |va x=>cases y with
  |va y=>exact aAt.rep (P:=P) h h'
  |tup _=>exact h.elim
 |tup xs=>cases y with
  |va _=>exact h.elim
  |tup ys=>obtain ⟨arr,rfl,h'⟩:=h';obtain ⟨b6,g1,g2⟩:=uS.rep (P:=P) h h';exact ⟨b6,⟨arr,rfl,g1⟩,g2⟩
theorem aZ1 {a b:List Loc} (h:a.Sublist b) (hs:iL S w b):iL S w a:=by
 induction h with
 |slnil=>exact hs
 |cons x h ih=>cases x with
  |virt=>exact ih hs
  | «at» b m=>exact ih hs.2.2.2
 |cons_cons x h ih=>cases x with
  |virt=>exact ih hs
  | «at» b m=>exact ⟨hs.1,hs.2.1,fun ⟨m',hm⟩=>hs.2.2.1 ⟨m',h.subset hm⟩,ih hs.2.2.2⟩
theorem kK.rep: ∀{rs:List (Nat×Nat)} {us us':List (Option (Nat->List DV))} {ls:List Loc},kK rs us us'->kF S w rs us ls->kF S w rs us' ls/\ (lV us' ls).Sublist (lV us ls)
 | [],[],[],ls,_,h=>⟨h,List.Sublist.refl _⟩
 | [],[],_::_,_,h,_=>h.elim
 | [],_::_,_,_,h,_=>h.elim
 |_::_,[],_,_,h,_=>by simp [kK] at h
 |_::_,none::_,[],_,h,_=>by simp [kK] at h
 |_::_,some _::_,[],_,h,_=>by simp [kK] at h
 |_::rs,none::us,some _::us',_,h,_=>by simp [kK] at h
 |(sz,n)::rs,some f::us,none::us',[],h,h'=>by simp [kF] at h'
 |(sz,n)::rs,some f::us,none::us',l::ls,h,h'=>by
  obtain ⟨g1,g2⟩:=kK.rep (rs:=rs) (us:=us) (us':=us') (ls:=ls) h h'.2
  exact ⟨g1,g2.cons _⟩
 |(sz,n)::rs,none::us,none::us',[],h,h'=>by simp [kF] at h'
 |(sz,n)::rs,none::us,none::us',l::ls,h,h'=>by
  obtain ⟨g1,g2⟩:=kK.rep (rs:=rs) (us:=us) (us':=us') (ls:=ls) h h'
  exact ⟨g1,g2⟩
 |(sz,n)::rs,some f::us,some f'::us',[],h,h'=>by simp [kF] at h'
 |(sz,n)::rs,some f::us,some f'::us',l::ls,h,h'=>by
  obtain ⟨g1,g2⟩:=kK.rep (rs:=rs) (us:=us) (us':=us') (ls:=ls) h.2 h'.2
  exact ⟨⟨h'.1.congr h.1,g1⟩,g2.cons_cons _⟩
end
def aM4:Cv->Ar
 | .c x=> .c (.d x)
 | .agg xs=> .agg (xs.map .d)
def aBR:List Ic->Option (List DV)
 | []=>some []
 | .d x::xs=>match aBR xs with
   |some ds=>some (x::ds)
   |none=>none
 |_=>none
def aHu:Ar->Option Cv
 | .c (.d x)=>some (.c x)
 | .agg xs=>match aBR xs with
   |some ds=>some (.agg ds)
   |none=>none
 |_=>none
def aDO:List Ar->Option (List Cv)
 | []=>some []
 |x::xs=>match aHu x,aDO xs with
  |some c,some cs=>some (c::cs)
  |_,_=>none
def aM5:Rt->Option Ct
 | .va x=>match aHu x with
   |some c=>some (.va c)
   |none=>none
 | .tup xs=>match aDO xs with
   |some cs=>some (.tup cs)
   |none=>none
def nO (Γ:dQ) (f:Nat) (ja:List Ar):List Cv->Option Gs:=fun cs=>
 match Γ f with
 |some ⟨_,F⟩=>match F (cs.map aM4++ja) with
  |some ⟨pre,rt,[]⟩=>match aM5 rt with
   |some ct=>some ⟨pre,ct⟩
   |none=>none
  |_=>none
 |none=>none
def pW (h:List (Nat×aB)):List (Nat×Nat)->(List Ar->Prop)->Prop
 | [],K=>K []
 |(k,off)::ps,K=>match aF h k with
  | .fz cs=>pW h ps fun as=>oW (cs.drop off) fun cs=>K (.rp cs::as)
  |_=>False
def lM (Γ:dQ) (h:List (Nat×aB)) (own:Bool) (x:Va) (K:Ar->List (Nat×Nat×Nat)->Prop):Prop:=
 match own,x with
 |true,.c (.osl k z o len)=>match aF h k with
  | .row sz n f=>match Nat.beq sz z,Nat.beq o 0 with
    |true,true=>len<=n/\ K (.c (.ow sz len f)) [(k,sz,len)]
    |_,_=>False
  |_=>False
 |true,_=>False
 |false,.c (.rp cs)=>K (.rp cs) []
 |false,.c (.fv g)=>K (.fv g) []
 |false,.c (.fn f aq)=>match Γ f with
  |some _=>pW h aq fun ja=>K (.fv (nO Γ f ja)) []
  |none=>False
 |false,.c (.own k off)=>match aF h k with
  | .fz cs=>oW (cs.drop off) fun cs=>K (.rp cs) []
  |_=>False
 |false,.c c=>mU h c fun d=>fD d fun d=>K (.c (.d d)) []
 |false,.agg cs=>jW h cs fun ds=>oW ds fun ds=>K (.agg (ds.map .d)) []
def pX (Γ:dQ) (h:List (Nat×aB)):List Bool->List Va->(List Ar->List (Nat×Nat×Nat)->Prop)->Prop
 |_,[],K=>K [] []
 | [],x::xs,K=>lM Γ h false x fun a ids=>pX Γ h [] xs fun as c7=>K (a::as) (ids++c7)
 |b::bs,x::xs,K=>lM Γ h b x fun a ids=>pX Γ h bs xs fun as c7=>K (a::as) (ids++c7)
def aGi:List Bool->List Va->List Va
 |_,[]=> []
 | [],xs=>xs
 |true::bs,_::xs=>aGi bs xs
 |false::bs,x::xs=>x::aGi bs xs
def aEu:List (Nat×Nat×Nat)->List (Option (Nat->List DV))->List (Nat×aB)->(List (Nat×aB)->Prop)->Prop
 | [],[],h,K=>K h
 |(k,sz,n)::ks,some f::us,h,K=>aEu ks us ((k,.row sz n f)::h) K
 |(k,_,_)::ks,none::us,h,K=>aEu ks us ((k,.gone)::h) K
 |_,_,_,_=>False
def zM:List Ic->St->(List aL->St->Prop)->Prop
 | [],st,K=>K [] st
 | .d x::xs,st,K=>fD x fun x=>zM xs st fun cs st=>K (.d x::cs) st
 | .ow sz n f::xs,⟨ts,h,i,m⟩,K=>zM xs ⟨ts,(i,.row sz n f)::h,i+1,m⟩ fun cs st=>K (.osl i sz 0 n::cs) st
def aLU:Ar->St->(Va->St->Prop)->Prop
 | .c x,st,K=>zM [x] st fun cs st=>match cs with
   | [c]=>K (.c c) st
   |_=>False
 | .agg xs,st,K=>zM xs st fun cs st=>K (.agg cs) st
 | .rp cs,st,K=>K (.c (.rp cs)) st
 | .fv g,st,K=>K (.c (.fv g)) st
def aK3:List Ar->St->(List Va->St->Prop)->Prop
 | [],st,K=>K [] st
 |x::xs,st,K=>aLU x st fun v st=>aK3 xs st fun vs st=>K (v::vs) st
def aTf:Rt->St->(Tm->St->Prop)->Prop
 | .va x,st,K=>aLU x st fun v st=>K (.va v) st
 | .tup xs,st,K=>aK3 xs st fun vs st=>K (.tup vs) st
def wZ:List (Nat×Nat×Nat)->Bool
 | []=>true
 |(k,_,_)::ks=>match ks.any (fun p=>Nat.beq p.1 k) with
  |true=>false
  |false=>wZ ks
structure bM (P:Program) (base:Nat) (f:Nat) (as:List Va) (st:St) (K:Tm->St->Prop):Prop where
 run: ∀ψ S w a ak,aC P base ψ S w st a->aG (bB P ψ S w) as ak->
  tC P f ak.toArray w fun e w'=> ∃r st' v aa S',e= .returned v/\ K r st'/\ aC P base aa S' w' st' a/\ dL P aa S' w' r v/\ aI base ψ S w aa S' w'
def jK (P:Program) (Γ:dQ) (base:Nat) (f:Nat) (as:List Va) (st:St) (K:Tm->St->Prop):Prop:=
 match Γ f,st with
 |some ⟨own,F⟩,⟨ts,h,n,m⟩=>aGX h (aGi own as) fun h=>pX Γ h own as fun dq ids=>match wZ ids,F dq with
  |true,some ⟨pre,r,us⟩=>pre/\ (pre->aEu ids us h fun h=>aTf r ⟨ts,h,n,m⟩ K)
  |_,_=>False
 |none,st=>bM P base f as st K
def lH (P:Program) (Γ:dQ):Prop:= ∀f sm,Γ f=some sm->FC P f sm.F
section
variable {P:Program} {τ:bF} {Γ:dQ} {base:Nat} {ψ aa:aJ} {S S':Nat→Prop} {w w':World} {a:Act}
theorem aIL: ∀{xs:List Ic} {ds:List DV} {vs:List Value} {ls:List Loc},aBR xs=some ds->bC S w xs vs ls->aG (aZ S w) ds vs
 | [],ds,[],_,h,_=>by simp [aBR] at h;subst h;trivial
 | [],ds,_::_,ls,h,h'=>by cases ls<;>simp [bC] at h'
 | .d x::xs,ds,[],_,_,h'=>by simp [bC] at h'
 | .d x::xs,ds,v::vs,ls,h,h'=>by
   simp only [aBR] at h;split at h
   . rename_i xt hd
     simp at h;subst h
     simp only [bC] at h'
     exact ⟨h'.1,aIL hd h'.2⟩
   . simp at h
 | .ow _ _ _::_,_,_,_,h,_=>by simp [aBR] at h
theorem aPG {x:Ar} {c:Cv} {v:Value} {ls:List Loc} (h:aHu x=some c) (h':kE P S w x v ls):pV S w c v:=by
 unfold aHu at h;split at h
 . simp at h;subst h
   have:=aIL (xs:= [.d _]) (ds:= [_]) rfl h'
   exact this.1
 . split at h
   . rename_i ds hd
     simp at h;subst h
     obtain ⟨arr,rfl,h'⟩:=h'
     exact ⟨arr,rfl,aIL hd h'⟩
   . simp at h
 . simp at h
theorem aNZ: ∀{xs:List Ar} {cs:List Cv} {vs:List Value} {ls:List Loc},aDO xs=some cs->cC P S w xs vs ls->aG (pV S w) cs vs
 | [],cs,[],_,h,_=>by simp [aDO] at h;subst h;trivial
 | [],_,_::_,_,_,h'=>by simp [cC] at h'
 |_::_,_,[],_,_,h'=>by simp [cC] at h'
 |x::xs,cs,v::vs,ls,h,h'=>by
  simp only [aDO] at h;split at h
  . rename_i c ib hc hcs
    simp at h;subst h
    obtain ⟨l1,l2,_,h1,h2⟩:=h'
    exact ⟨aPG hc h1,aNZ hcs h2⟩
  . simp at h
theorem aXY {x:Rt} {c:Ct} {v:Value} {ls:List Loc} (h:aM5 x=some c) (h':oO P S w x v ls):aD5 S w c v:=by
 unfold aM5 at h;split at h
 . split at h
   . rename_i c' hc;simp at h;subst h;exact aPG (P:=P) hc h'
   . simp at h
 . split at h
   . rename_i cs hc
     simp at h;subst h
     obtain ⟨arr,rfl,h'⟩:=h'
     exact ⟨arr,rfl,aNZ (P:=P) hc h'⟩
   . simp at h
theorem aXZ {c:Cv} {v:Value} (h:pV S w c v):kE P S w (aM4 c) v []:=by
 cases c with
 |c x=>exact And.intro h trivial
 |agg xs=>
  obtain ⟨arr,rfl,h⟩:=h
  refine ⟨arr,rfl, ?_⟩
  generalize arr.toList=l at h
  induction xs generalizing l with
  |nil=>cases l with|nil=>trivial|cons _ _=>exact h.elim
  |cons x xs ih=>cases l with
   |nil=>exact h.elim
   |cons v l=>exact And.intro h.1 (ih l h.2)
theorem cC.append: ∀{xs:List Ar} {vs:List Value} {ls:List Loc} {ys:List Ar} {us:List Value} {ms:List Loc},cC P S w xs vs ls->cC P S w ys us ms->cC P S w (xs++ys) (vs++us) (ls++ms)
 | [],[],ls,_,_,_,h,h'=>by have:ls= []:=h;subst this;exact h'
 | [],_::_,_,_,_,_,h,_=>by simp [cC] at h
 |_::_,[],_,_,_,_,h,_=>by simp [cC] at h
 |x::xs,v::vs,ls,_,_,_,h,h'=>by
  obtain ⟨l1,l2,rfl,h1,h2⟩:=h
  exact ⟨l1,l2++_,by simp,h1,h2.append h'⟩
theorem aON: ∀{cs:List Cv} {vs:List Value},aG (pV S w) cs vs->cC P S w (cs.map aM4) vs []
 | [],[],_=>rfl
 |_::_,_::_,⟨h1,h2⟩=>⟨[],[],rfl,aXZ h1,aON h2⟩
theorem aOO: ∀{ja:List Ar} {vs:List Value},cC P S w ja vs []->(∀x∈ja, ∃cs,x= .rp cs)->cT S w S' w'->cC P S' w' ja vs []
 | [],[],h,_,_=>h
 | [],_::_,h,_,_=>by simp [cC] at h
 |_::_,[],h,_,_=>by simp [cC] at h
 |x::xs,v::vs,h,hr,l=>by
  obtain ⟨l1,l2,e,h1,h2⟩:=h
  obtain ⟨rfl,rfl⟩:l1= []/\ l2= []:=List.append_eq_nil_iff.1 e.symm
  obtain ⟨cs,rfl⟩:=hr x j8
  exact ⟨[],[],rfl,⟨rfl,h1.2.later (cH.refl _) l⟩,aOO h2 (fun y hy=>hr y j0z) l⟩
theorem aZ2 (ck:lH P Γ) {f:Nat} {ja:List Ar} {aq:List Value} (hr:cC P S w ja aq []) (Fq: ∀x∈ja, ∃cs,x= .rp cs):
 aAp P (nO Γ f ja) (.func (.func f) #[] aq.toArray) S w:=by
 refine ⟨f, #[],aq.toArray,rfl, ?_⟩
 intro S' w' hl Fs as pre r hg dO ak cr
 unfold nO at hg;split at hg
 . rename_i own F ue
   split at hg
   . rename_i Gp rt hF
     split at hg<;>rename_i zp
     rotate_left
     . simp at hg
     simp only [Option.some.injEq,Gs.mk.injEq] at hg;obtain ⟨rfl,rfl⟩:=hg
     have vw:=ck f _ ue _ _ _ _ hF dO
     have hall:=(aON (P:=P) cr).append (aOO hr Fq hl)
     have:=vw S' w' _ [] Fs (by simpa using hall) trivial
     have e:(ak++aq).toArray= #[]++ak.toArray++aq.toArray:=j8
     rw [e] at this;refine this.mono ?_
     rintro e o7 ⟨v,nk,b6,rfl,h1,_,_,h2⟩
     exact ⟨v,nk,rfl,aXY zp h1,⟨h2.os,h2.tape,h2.output,h2.grow,fun b hb=>h2.old b hb j1v,h2.later.1,fun b hb=>by
      rcases h2.newS b hb with h|⟨m,hm⟩|h
      . exact .inl h
      . simp at hm
      . exact .inr h,h2.sdom⟩⟩
   . simp at hg
 . simp at hg
theorem aPH {h:List (Nat×aB)} {next:Nat} (hs:iV P ψ S w h next): ∀{aq:List (Nat×Nat)} {vs:List Value} {K:List Ar->Prop},pW h aq K->
 aG (fun (p:Nat×Nat) y=> ∃b m,ψ p.1=some (.at b m)/\ y=Value.pointer (some ⟨b,p.2,none⟩)) aq vs-> ∃ja,cC P S w ja vs []/\ (∀x∈ja, ∃cs,x= .rp cs)/\ K ja
 | [],[],K,hk,_=>⟨[],rfl,by simp,hk⟩
 |(k,off)::ps,v::vs,K,hk,⟨⟨b,m,h1,h2⟩,h3⟩=>by
  simp only [pW] at hk;split at hk
  . rename_i cs hb
    obtain ⟨ja,g1,g2,g3⟩:=aPH hs hk h3
    rw [fJ] at g3;have aw:=hs.blk k _ h1
    rw [hb] at aw;obtain ⟨hS,arr,e,fr,q1,q2⟩:=aw
    refine ⟨.rp (cs.drop off)::ja,⟨[],[],rfl,⟨rfl,b,off,arr.toList.drop off,h2,hS,q2.drop off, ?_⟩,g1⟩, ?_,g3⟩
    . intro j y hj;rw [oB q1, <-Array.getElem?_toList]
      simpa [List.getElem?_drop] using hj
    . intro x hx;simp at hx
      rcases hx with rfl|hx
      . exact ⟨_,rfl⟩
      . exact g2 x hx
  . exact hk.elim
def xE (ψ:aJ) (h:List (Nat×aB)) (ids:List (Nat×Nat×Nat)) (rows:List (Nat×Nat)) (ls:List Loc):Prop:=
 ids.map (fun p=>(p.2.1,p.2.2))=rows/\ aG (fun (p:Nat×Nat×Nat) l=>ψ p.1=some l) ids ls/\ ∀p∈ids,(aF h p.1).live
theorem xE.append {h:List (Nat×aB)} {ids c7:List (Nat×Nat×Nat)} {rows rows':List (Nat×Nat)} {ls b6:List Loc} (a:xE ψ h ids rows ls) (b:xE ψ h c7 rows' b6):
 xE ψ h (ids++c7) (rows++rows') (ls++b6):=
 ⟨by simp [a.1,b.1],a.2.1.append b.2.1,fun p hp=>by simp at hp;rcases hp with hp|hp;exact a.2.2 p hp;exact b.2.2 p hp⟩
theorem aPI: ∀(ds:List DV),jJ (ds.map Ic.d)= []
 | []=>rfl
 |_::ds=>aPI ds
theorem aPJ: ∀{ds:List DV} {vs:List Value},aG (aZ S w) ds vs->bC S w (ds.map Ic.d) vs []
 | [],[],_=>trivial
 |_::_,_::_,⟨h1,h2⟩=>And.intro h1 (aPJ h2)
theorem aQ4 (ck:lH P Γ) {h:List (Nat×aB)} {next:Nat} (hs:iV P ψ S w h next) {own:Bool} {x:Va} {v:Value} {K:Ar->List (Nat×Nat×Nat)->Prop} (hx:bB P ψ S w x v) (hk:lM Γ h own x K):
 ∃ar ids ls,kE P S w ar v ls/\ xE ψ h ids (pR ar) ls/\ K ar ids:=by
 have nil:xE ψ h [] [] []:=⟨rfl,trivial,by simp⟩
 unfold lM at hk;split at hk
 . rename_i k z o len
   split at hk
   . rename_i sz n f hb
     split at hk
     . rename_i h1 h2
       have h1:=Nat.eq_of_beq_eq_true h1
       have h2:=Nat.eq_of_beq_eq_true h2
       subst h1;subst h2
       obtain ⟨hle,hk⟩:=hk
       rcases hx with ⟨g1,g2,g3⟩|⟨b,m,c,off,g1,g2,g3,g4⟩
       . exact ⟨.c (.ow sz len f),[(k,sz,len)],[.virt],And.intro ⟨g2,g3⟩ (And.intro g2 trivial),⟨rfl,⟨g1,trivial⟩,by simp [hb,aB.live]⟩,hk⟩
       . have aw:=hs.blk k _ g1
         rw [hb] at aw;obtain ⟨arr,e,q1,q2,q3,q4,q5⟩:=aw
         have hm:=Nat.mul_le_mul_right sz hle
         exact ⟨.c (.ow sz len f),[(k,sz,len)],[.at b m],And.intro ⟨c,off,g2,g3,g4⟩ (And.intro ⟨arr,e,q1,q2,by omega,fun i hi=>q4 i j3,fun i j hi hj=>q5 i j j3 hj⟩ trivial),
          ⟨rfl,⟨g1,trivial⟩,by simp [hb,aB.live]⟩,hk⟩
     . exact hk.elim
   . exact hk.elim
 . exact hk.elim
 . rename_i cs;exact ⟨.rp cs,[],[],⟨rfl,hx⟩,nil,hk⟩
 . rename_i g;exact ⟨.fv g,[],[],⟨rfl,hx⟩,nil,hk⟩
 . rename_i f aq
   split at hk
   . rename_i sm EB
     obtain ⟨vs,rfl,hx⟩:=hx
     obtain ⟨ja,g1,g2,g3⟩:=aPH hs hk hx
     exact ⟨.fv (nO Γ f ja),[],[],⟨rfl,by simpa using aZ2 ck g1 g2⟩,nil,g3⟩
   . exact hk.elim
 . rename_i k off
   split at hk
   . rename_i cs hb
     rw [fJ] at hk;obtain ⟨b,m,h1,h2⟩:=hx
     have aw:=hs.blk k _ h1
     rw [hb] at aw;obtain ⟨hS,arr,e,fr,q1,q2⟩:=aw
     refine ⟨.rp (cs.drop off),[],[],⟨rfl,b,off,arr.toList.drop off,h2,hS,q2.drop off, ?_⟩,nil,hk⟩
     intro j y hj;rw [oB q1, <-Array.getElem?_toList]
     simpa [List.getElem?_drop] using hj
   . exact hk.elim
 . obtain ⟨d,g1,g2⟩:=aEF hs hk hx
   rw [xC] at g2;exact ⟨.c (.d d),[],[],And.intro g1 trivial,nil,g2⟩
 . obtain ⟨arr,rfl,hx⟩:=hx
   obtain ⟨ds,g1,g2⟩:=qP hs hk hx
   rw [fJ] at g2;exact ⟨.agg (ds.map .d),[],[],⟨arr,rfl,aPJ g1⟩,by simp only [pR,aPI];exact nil,g2⟩
theorem aPK (ck:lH P Γ) {h:List (Nat×aB)} {next:Nat} (hs:iV P ψ S w h next): ∀{xs:List Va} {own:List Bool} {vs:List Value} {K:List Ar->List (Nat×Nat×Nat)->Prop},
 aG (bB P ψ S w) xs vs->pX Γ h own xs K-> ∃dq ids ls,cC P S w dq vs ls/\ xE ψ h ids (dE dq) ls/\ K dq ids
 | [],own,[],K,_,hk=>⟨[],[],[],rfl,⟨rfl,trivial,by simp⟩,by cases own<;>exact hk⟩
 |x::xs,own,v::vs,K,⟨h1,h2⟩,hk=>by
  have main: ∀b bs,(lM Γ h b x fun a ids=>pX Γ h bs xs fun as c7=>K (a::as) (ids++c7))-> ∃dq ids ls,cC P S w dq (v::vs) ls/\ xE ψ h ids (dE dq) ls/\ K dq ids:=by
   intro b bs hk;obtain ⟨ar,ids,ls,g1,g2,g3⟩:=aQ4 ck hs h1 hk
   obtain ⟨dq,c7,b6,g4,g5,g6⟩:=aPK ck hs h2 g3
   exact ⟨ar::dq,ids++c7,ls++b6,⟨ls,b6,rfl,g1,g4⟩,g2.append g5,g6⟩
  cases own with
  |nil=>exact main false [] hk
  |cons b bs=>exact main b bs hk
theorem aIm: ∀{own:List Bool} {xs:List Va} {vs:List Value},aG (bB P ψ S w) xs vs-> ∃AW,aG (bB P ψ S w) (aGi own xs) AW
 | [],[],_,_=>⟨[],trivial⟩
 | [],x::xs,vs,h=>⟨vs,h⟩
 |true::bs,[],_,_=>⟨[],trivial⟩
 |false::bs,[],_,_=>⟨[],trivial⟩
 |true::bs,x::xs,v::vs,h=>aIm (own:=bs) h.2
 |false::bs,x::xs,v::vs,h=>by obtain ⟨AW,g⟩:=aIm (own:=bs) h.2;exact ⟨v::AW,h.1,g⟩
def aSc (sz n:Nat):Option (Nat->List DV)->aB
 |some f=> .row sz n f
 |none=> .gone
theorem aQ5: ∀{ids:List (Nat×Nat×Nat)} {us:List (Option (Nat->List DV))} {h:List (Nat×aB)} {K:List (Nat×aB)->Prop},aEu ids us h K->wZ ids=true->
 ∃h',K h'/\ (∀k,(∀p∈ids,p.1≠k)->aF h' k=aF h k)/\
  ∀(j:Nat) p,ids[j]? =some p->aF h' p.1=aSc p.2.1 p.2.2 (us.getD j none)
 | [],[],h,K,hk,_=>⟨h,hk,fun _ _=>rfl,fun j p hp=>by simp at hp⟩
 | [],_::_,h,K,hk,_=>hk.elim
 |(k,sz,n)::ids,[],h,K,hk,_=>hk.elim
 |(k,sz,n)::ids,u::us,h,K,hk,hd=>by
  have o4:(∀p∈ids,p.1≠k)/\ wZ ids=true:=by
   simp only [wZ] at hd;split at hd
   . simp at hd
   . rename_i ha
     refine ⟨fun p hp e=> ?_,hd⟩
     have:ids.any (fun p=>Nat.beq p.1 k)=true:=List.any_eq_true.2 ⟨p,hp,by rw [e];exact Nat.beq_refl k⟩
     rw [ha] at this;cases this
  have fj:aEu ids us ((k,aSc sz n u)::h) K:=by cases u<;>exact hk
  obtain ⟨h',g1,g2,g3⟩:=aQ5 fj o4.2
  refine ⟨h',g1,fun k' ba=> ?_,fun j p hp=> ?_⟩
  . have ag:k≠k':=ba (k,sz,n) j8
    rw [g2 k' fun p hp=>ba p (by simp [hp]),cY,if_neg ag]
  . cases j with
    |zero=>
     simp at hp;subst hp
     rw [g2 k fun p hp=>o4.1 p hp,cY,if_pos rfl];rfl
    |succ j=>simpa using g3 j p j1p
theorem aN0: ∀{ids:List (Nat×Nat×Nat)},wZ ids=true-> ∀(i j:Nat) p q,ids[i]? =some p->ids[j]? =some q->p.1=q.1->i=j
 | [],_,i,j,p,q,hp,_,_=>by simp at hp
 |(k,sz,n)::ids,hd,i,j,p,q,hp,hq,e=>by
  have o4:(∀p∈ids,p.1≠k)/\ wZ ids=true:=by
   simp only [wZ] at hd;split at hd
   . simp at hd
   . rename_i ha
     refine ⟨fun p hp e=> ?_,hd⟩
     have:ids.any (fun p=>Nat.beq p.1 k)=true:=List.any_eq_true.2 ⟨p,hp,by rw [e];exact Nat.beq_refl k⟩
     rw [ha] at this;cases this
  cases i with
  |zero=>cases j with
   |zero=>rfl
   |succ j=>
    simp at hp hq;subst hp
    exact absurd e.symm (o4.1 q (List.mem_of_getElem? hq))
  |succ i=>cases j with
   |zero=>
    simp at hp hq;subst hq
    exact absurd e (o4.1 p (List.mem_of_getElem? hp))
   |succ j=>rw [aN0 o4.2 i j p q j1p (by simpa using hq) e]
def tK (ψ:aJ) (S:Nat->Prop) (w:World) (h:List (Nat×aB)) (ls:List Loc):Prop:=
 iL S w ls/\ ∀b,blkIn ls b-> ∀k m,ψ k=some (.at b m)-> ¬(aF h k).live
theorem aC.take {ts:List (Nat×Tm)} {h:List (Nat×aB)} {n m sz nn:Nat} {f:Nat->List DV} {l:Loc} {ls:List Loc}
 (hr:aC P base ψ S w ⟨ts,h,n,m⟩ a) (b8:gV S w sz nn f l) (hp:tK ψ S w h (l::ls)):
 aC P base (ψ.set n l) S w ⟨ts,(n,.row sz nn f)::h,n+1,m⟩ a/\ tK (ψ.set n l) S w ((n,.row sz nn f)::h) ls:=by
 have hn:ψ n=none:=hr.sim.dom n (Nat.le_refl _)
 have uf:cH ψ (ψ.set n l):=aJ.sub_set hn
 have hl:=cT.refl S w
 have get: ∀k l',(ψ.set n l) k=some l'->(k=n/\ l'=l) \/(k≠n/\ ψ k=some l'):=by
  intro k l' hk
  simp only [aJ.set] at hk;by_cases e:k=n
  . rw [if_pos e] at hk;simp at hk;exact .inl ⟨e,hk.symm⟩
  . rw [if_neg e] at hk;exact .inr ⟨e,hk⟩
 have look: ∀k,k≠n->aF ((n,aB.row sz nn f)::h) k=aF h k:=fun k hk=>by rw [cY,if_neg fun e=>hk e.symm]
 refine ⟨⟨Nat.le_succ_of_le hr.bas,⟨?_,?_,?_,?_,?_,hr.sim.sdom⟩,hr.lim,hr.defers,fun t=>(hr.tmps t).later uf hl⟩, ?_,?_⟩
 . intro k hk;have h1:k≠n:=by simp at hk;omega
   have h2:n<=k:=by simp at hk;omega
   simp [aJ.set,h1,hr.sim.dom k h2]
 . intro k l' hk
   rcases get k l' hk with ⟨rfl,rfl⟩|⟨h1,h2⟩
   . rw [cY,if_pos rfl];exact gV.blk.1 b8
   . rw [look k h1];exact (hr.sim.blk k l' h2).later uf hl fun _ _ _=>rfl
 . intro k k' b m1 m2 hk ba h1 h2
   rcases get k _ hk with ⟨rfl,e⟩|⟨g1,g2⟩
   . rcases get k' _ ba with ⟨rfl,_⟩|⟨g3,g4⟩
     . rfl
     . rw [look k' g3] at h2;exact absurd h2 (hp.2 b ⟨m1,by rw [e];simp⟩ k' m2 g4)
   . rw [look k g1] at h1;rcases get k' _ ba with ⟨rfl,e⟩|⟨g3,g4⟩
     . exact absurd h1 (hp.2 b ⟨m2,by rw [e];simp⟩ k m1 g2)
     . rw [look k' g3] at h2;exact hr.sim.inj k k' b m1 m2 g2 g4 h1 h2
 . intro k b m1 hk h1;rcases get k _ hk with ⟨rfl,e⟩|⟨g1,g2⟩
   . subst e;exact hp.1.1
   . rw [look k g1] at h1;exact hr.sim.dis k b m1 g2 h1
 . intro k b m1 hk;rcases get k _ hk with ⟨rfl,e⟩|⟨g1,g2⟩
   . subst e;exact hp.1.2.1
   . exact hr.sim.pdom k b m1 g2
 . have:=hp.1
   cases l with
   |virt=>exact this
   | «at» b m=>exact this.2.2.2
 . intro b hb k m1 hk;rcases get k _ hk with ⟨rfl,e⟩|⟨g1,g2⟩
   . subst e;exact absurd hb hp.1.2.2.1
   . rw [look k g1];obtain ⟨m',Ft⟩:=hb
     exact hp.2 b ⟨m',by simp [Ft]⟩ k m1 g2
def vU (base:Nat) (cw:aJ) (S0:Nat->Prop) (w0:World) (ψ:aJ) (S:Nat->Prop) (w:World) (ls:List Loc):Prop:=
 aI base cw S0 w0 ψ S w/\ ∀b,blkIn ls b->(∃k m,cw k=some (.at b m)) \/w0.heap.size<=b
theorem aEX {cw:aJ} {S0:Nat->Prop} {w0:World}: ∀{xs:List Ic} {vs:List Value} {ls ls2:List Loc} {ψ:aJ} {st:St} {K:List aL->St->Prop},bC S w xs vs ls->aC P base ψ S w st a->
 tK ψ S w st.heap (ls++ls2)->vU base cw S0 w0 ψ S w (ls++ls2)->zM xs st K->
 ∃cs st' aa,K cs st'/\ aC P base aa S w st' a/\ aG (dK P aa S w) cs vs/\ cH ψ aa/\ tK aa S w st'.heap ls2/\ vU base cw S0 w0 aa S w ls2
 | [],[],[],ls2,ψ,st,K,_,hr,hp,hw,hk=>⟨[],st,ψ,hk,hr,trivial,cH.refl _,hp,hw⟩
 | [],[],_::_,_,_,_,_,h,_,_,_,_=>by simp [bC] at h
 | [],_::_,_,_,_,_,_,h,_,_,_,_=>by simp [bC] at h
 | .d x::xs,[],_,_,_,_,_,h,_,_,_,_=>by simp [bC] at h
 | .d x::xs,v::vs,ls,ls2,ψ,st,K,h,hr,hp,hw,hk=>by
   simp only [bC] at h;simp only [zM,xC] at hk;obtain ⟨cs,st',aa,g1,g2,g3,g4,g5,g6⟩:=aEX h.2 hr hp hw hk
   exact ⟨_,st',aa,g1,g2,⟨⟨h.1,h.1.scalar⟩,g3⟩,g4,g5,g6⟩
 | .ow _ _ _::xs,[],_,_,_,_,_,h,_,_,_,_=>by simp [bC] at h
 | .ow _ _ _::xs,_::_,[],_,_,_,_,h,_,_,_,_=>by simp [bC] at h
 | .ow sz n f::xs,v::vs,l::ls,ls2,ψ,⟨ts,h,i,m⟩,K,bh,hr,hp,hw,hk=>by
   simp only [bC] at bh;obtain ⟨h1,h2,h3⟩:=bh
   simp only [zM] at hk;have hn:ψ i=none:=hr.sim.dom i (Nat.le_refl _)
   obtain ⟨t1,t2⟩:=hr.take h2 hp
   have gd:vU base cw S0 w0 (ψ.set i l) S w (ls++ls2):=by
    obtain ⟨he,hb⟩:=hw
    refine ⟨⟨he.os,he.tape,he.output,he.grow,he.old,he.later,he.newS, ?_,?_⟩,fun b ⟨mm,hm⟩=>hb b ⟨mm,by simp at hm⊢;exact .inr hm⟩⟩
    . intro k b mm hk;simp only [aJ.set] at hk;by_cases e:k=i
      . rw [if_pos e] at hk;simp at hk;exact hb b ⟨mm,by rw [hk];simp⟩
      . rw [if_neg e] at hk;exact he.newP k b mm hk
    . intro k hk;have:=hr.bas
      have:k≠i:=by simp at this;omega
      simp only [aJ.set,if_neg this];exact he.agr k hk
   obtain ⟨cs,st',aa,g1,g2,g3,g4,g5,g6⟩:=aEX (st:=⟨ts,(i,.row sz n f)::h,i+1,m⟩) h3 t1 t2 gd hk
   have bg:aa i=some l:=g4 i l (by simp [aJ.set])
   refine ⟨_,st',aa,g1,g2,⟨⟨aPD bg h1, ?_⟩,g3⟩,fun k l' hk=>g4 k l' (aJ.sub_set hn k l' hk),g5,g6⟩
   cases l with
   |virt=>obtain ⟨_,a0,e0⟩:=h1;rw [e0];trivial
   | «at» b m=>obtain ⟨c,off,e,_⟩:=h1;rw [e];trivial
theorem aPL {cw:aJ} {S0:Nat->Prop} {w0:World} {x:Ar} {v:Value} {ls ls2:List Loc} {ψ:aJ} {st:St} {K:Va->St->Prop} (h:kE P S w x v ls) (hr:aC P base ψ S w st a)
 (hp:tK ψ S w st.heap (ls++ls2)) (hw:vU base cw S0 w0 ψ S w (ls++ls2)) (hk:aLU x st K):
 ∃y st' aa,K y st'/\ aC P base aa S w st' a/\ bB P aa S w y v/\ cH ψ aa/\ tK aa S w st'.heap ls2/\ vU base cw S0 w0 aa S w ls2:=by
 cases x with
 |c x=>
  obtain ⟨cs,st',aa,g1,g2,g3,g4,g5,g6⟩:=aEX h hr hp hw hk
  split at g1
  . rename_i c;exact ⟨.c c,st',aa,g1,g2,g3.1.1,g4,g5,g6⟩
  . exact g1.elim
 |agg xs=>
  obtain ⟨arr,rfl,h⟩:=h
  obtain ⟨cs,st',aa,g1,g2,g3,g4,g5,g6⟩:=aEX h hr hp hw hk
  exact ⟨.agg cs,st',aa,g1,g2,⟨arr,rfl,g3⟩,g4,g5,g6⟩
 |rp cs=>obtain ⟨rfl,h⟩:=h;exact ⟨_,st,ψ,hk,hr,h,cH.refl _,hp,hw⟩
 |fv g=>obtain ⟨rfl,h⟩:=h;exact ⟨.c (.fv g),st,ψ,hk,hr,h,cH.refl _,hp,hw⟩
theorem aOP {cw:aJ} {S0:Nat->Prop} {w0:World}: ∀{xs:List Ar} {vs:List Value} {ls ls2:List Loc} {ψ:aJ} {st:St} {K:List Va->St->Prop},cC P S w xs vs ls->aC P base ψ S w st a->
 tK ψ S w st.heap (ls++ls2)->vU base cw S0 w0 ψ S w (ls++ls2)->aK3 xs st K->
 ∃ys st' aa,K ys st'/\ aC P base aa S w st' a/\ aG (bB P aa S w) ys vs/\ cH ψ aa/\ tK aa S w st'.heap ls2/\ vU base cw S0 w0 aa S w ls2
 | [],[],ls,ls2,ψ,st,K,h,hr,hp,hw,hk=>by have:ls= []:=h;subst this;exact ⟨[],st,ψ,hk,hr,trivial,cH.refl _,hp,hw⟩
 | [],_::_,_,_,_,_,_,h,_,_,_,_=>by simp [cC] at h
 |_::_,[],_,_,_,_,_,h,_,_,_,_=>by simp [cC] at h
 |x::xs,v::vs,ls,ls2,ψ,st,K,h,hr,hp,hw,hk=>by
  obtain ⟨l1,l2,rfl,h1,h2⟩:=h
  simp only [List.append_assoc] at hp hw;obtain ⟨y,st',aa,g1,g2,g3,g4,g5,g6⟩:=aPL h1 hr hp hw hk
  obtain ⟨ys,st2,az,k1,k2,k3,k4,k5,k6⟩:=aOP h2 g2 g5 g6 g1
  exact ⟨y::ys,st2,az,k1,k2,⟨g3.later k4 (cT.refl _ _),k3⟩,fun k l hk=>k4 k l (g4 k l hk),k5,k6⟩
theorem aX0 {cw:aJ} {S0:Nat->Prop} {w0:World} {x:Rt} {v:Value} {ls:List Loc} {ψ:aJ} {st:St} {K:Tm->St->Prop} (h:oO P S w x v ls) (hr:aC P base ψ S w st a)
 (hp:tK ψ S w st.heap ls) (hw:vU base cw S0 w0 ψ S w ls) (hk:aTf x st K):
 ∃y st' aa,K y st'/\ aC P base aa S w st' a/\ dL P aa S w y v/\ aI base cw S0 w0 aa S w:=by
 cases x with
 |va x=>
  obtain ⟨y,st',aa,g1,g2,g3,g4,g5,g6⟩:=aPL (ls2:= []) h hr j1p (by simpa using hw) hk
  exact ⟨.va y,st',aa,g1,g2,g3,g6.1⟩
 |tup xs=>
  obtain ⟨arr,rfl,h⟩:=h
  obtain ⟨ys,st',aa,g1,g2,g3,g4,g5,g6⟩:=aOP (ls2:= []) h hr j1p (by simpa using hw) hk
  exact ⟨.tup ys,st',aa,g1,g2,⟨arr,rfl,g3⟩,g6.1⟩
theorem aIM: ∀{rs:List (Nat×Nat)} {us:List (Option (Nat->List DV))} {ls:List Loc},kF S w rs us ls->
 us.length=ls.length/\ ∀(j:Nat) r f l,rs[j]? =some r->us[j]? =some (some f)->ls[j]? =some l->gV S w r.1 r.2 f l/\ l∈lV us ls
 | [],[],[],_=>⟨rfl,fun j r f l h=>by simp at h⟩
 | [],[],_::_,h=>by simp [kF] at h
 | [],_::_,_,h=>by simp [kF] at h
 |_::_,[],_,h=>by simp [kF] at h
 |_::_,none::_,[],h=>by simp [kF] at h
 |_::_,some _::_,[],h=>by simp [kF] at h
 |(sz,n)::rs,none::us,l::ls,h=>by
  obtain ⟨h1,h2⟩:=aIM (rs:=rs) (us:=us) (ls:=ls) h
  refine ⟨by simp [h1],fun j r f l' hr hu hl=> ?_⟩
  cases j with
  |zero=>simp at hu
  |succ j=>exact h2 j r f l' (by simpa using hr) (by simpa using hu) (by simpa using hl)
 |(sz,n)::rs,some f0::us,l::ls,h=>by
  obtain ⟨h1,h2⟩:=aIM (rs:=rs) (us:=us) (ls:=ls) h.2
  refine ⟨by simp [h1],fun j r f l' hr hu hl=> ?_⟩
  cases j with
  |zero=>simp at hr hu hl;subst hr;subst hu;subst hl;exact ⟨h.1,by simp [lV]⟩
  |succ j=>
   obtain ⟨g1,g2⟩:=h2 j r f l' (by simpa using hr) (by simpa using hu) (by simpa using hl)
   exact ⟨g1,by simp [lV,g2]⟩
theorem aUg {ls b6:List Loc} (h:iL S w (ls++b6)):iL S w b6:=by
 induction ls with
 |nil=>exact h
 |cons l ls ih=>cases l with
  |virt=>exact ih h
  | «at» b m=>exact ih h.2.2.2
theorem aPM {ls b6:List Loc} (h:iL S w (ls++b6)) {b m:Nat} (hb:Loc.at b m∈ls): ¬S b/\ ¬blkIn b6 b:=by
 induction ls with
 |nil=>simp at hb
 |cons l ls ih=>cases l with
  |virt=>exact ih h (by simpa using hb)
  | «at» b' m'=>
    simp only [List.mem_cons,Loc.at.injEq] at hb;rcases hb with ⟨rfl,rfl⟩|hb
    . exact ⟨h.1,fun ⟨q,hq⟩=>h.2.2.1 ⟨q,by simp [hq]⟩⟩
    . exact ih h.2.2.2 hb
theorem nX (ck:lH P Γ) (base:Nat):iY P base (jK P Γ base):=by
 intro f as st K hk ψ S w a ak a6 cr;obtain ⟨ts,h,n,m⟩:=st
 unfold jK at hk;split at hk
 . rename_i own F ts0 h0 n0 m0 ue ij
   cases ij;have vw:=ck f _ ue
   obtain ⟨AW,DJ⟩:=aIm (own:=own) cr
   obtain ⟨h1,S1,hk,b9,kj⟩:=aJf _ _ _ _ a6 DJ hk
   have AX:=cr.mono fun _ _ h=>bB.later h (cH.refl ψ) kj.later
   obtain ⟨dq,ids,ls,wu,⟨Bl,wz,Bm⟩,hk⟩:=aPK ck b9.sim AX hk
   split at hk
   . rename_i pre r us xu hF
     obtain ⟨dO,hk⟩:=hk
     have hk:=hk dO
     have hf:=vw _ _ _ _ hF dO
     -- the rows lie apart
     have idx: ∀(j:Nat) l,ls[j]? =some l-> ∃p,ids[j]? =some p/\ ψ p.1=some l/\ (aF h1 p.1).live:=by
      intro j l hj;have hlen:=wz.length
      have AB:=(List.getElem?_eq_some_iff.1 hj).1
      have hp:ids[j]? =some (ids[j]'j3):=j8
      obtain ⟨y,e1,e2⟩:=wz.get j _ hp
      rw [hj] at e1;cases e1
      exact ⟨_,hp,e2,Bm _ (List.getElem_mem _)⟩
     have ee: ∀b,blkIn ls b-> ∃(j:Nat) (p:Nat×Nat×Nat) (m:Nat),ids[j]? =some p/\ ls[j]? =some (Loc.at b m)/\ ψ p.1=some (Loc.at b m)/\ (aF h1 p.1).live:=by
      rintro b ⟨m,hm⟩
      obtain ⟨j,hj,e⟩:=List.mem_iff_getElem.1 hm
      have e':ls[j]? =some (.at b m):=x8
      obtain ⟨p,p1,p2,p3⟩:=idx j _ e'
      exact ⟨j,p,m,p1,e',p2,p3⟩
     have gf:iL S1 w ls:=by
      have: ∀(b6:List Loc) (i:Nat),(∀(j:Nat) l,b6[j]? =some l->ls[i+j]? =some l)->iL S1 w b6:=by
       intro b6
       induction b6 with
       |nil=>intro i _;trivial
       |cons l b6 ih=>
        intro i hi;have DK:=ih (i+1) fun j l hj=>by have:=hi (j+1) l u6;rwa [show i+(j+1)=i+1+j by omega] at this
        cases l with
        |virt=>exact DK
        | «at» b mm=>
          have h0:ls[i]? =some (.at b mm):=by simpa using hi 0 _ j8
          obtain ⟨p,p1,p2,p3⟩:=idx i _ h0
          refine ⟨b9.sim.dis _ b mm p2 p3,b9.sim.pdom _ b mm p2, ?_,DK⟩
          rintro ⟨m2,lu⟩
          obtain ⟨j,hj,e⟩:=List.mem_iff_getElem.1 lu
          have e':ls[i+(j+1)]? =some (.at b m2):=hi (j+1) _ (by simp only [List.getElem?_cons_succ];rw [List.getElem?_eq_getElem hj,e])
          obtain ⟨q,q1,q2,q3⟩:=idx _ _ e'
          have:=aN0 xu i (i+(j+1)) p q p1 q1 (b9.sim.inj _ _ b mm m2 p2 q2 p3 q3)
          omega
      exact this ls 0 fun j l hj=>by simpa using hj
     refine (hf S1 w ak ls b9.sim.sdom wu gf).mono ?_
     rintro e w' ⟨v,S',b6,rfl,rl,Fu,vz,cz⟩
     obtain ⟨h2,hk,xb,Bn⟩:=aQ5 hk xu
     obtain ⟨H7,cu⟩:=aIM Fu
     -- which blocks may have turned: those of the rows alone
     have my: ∀k b mm,ψ k=some (.at b mm)->(aF h1 k).live->(∀p∈ids,p.1≠k)-> ¬blkIn ls b:=by
      intro k b mm cp hl ag hb;obtain ⟨j,p,m2,p1,p2,p3,p4⟩:=ee b hb
      exact ag p (List.mem_of_getElem? p1) (b9.sim.inj _ _ b m2 mm p3 cp p4 hl)
     have ph: ∀k,(aF h2 k).live->(aF h1 k).live:=by
      intro k hl;by_cases hk: ∃p∈ids,p.1=k
      . obtain ⟨p,hp,rfl⟩:=hk;exact Bm p hp
      . rw [xb k fun p hp e=>hk ⟨p,hp,e⟩] at hl;exact hl
     have kept: ∀k b mm,ψ k=some (.at b mm)->(aF h2 k).live->(∃p∈ids,p.1=k)->Loc.at b mm∈lV us ls:=by
      rintro k b mm cp hl ⟨p,hp,rfl⟩
      obtain ⟨j,hj,e⟩:=List.mem_iff_getElem.1 hp
      have w6:ids[j]? =some p:=x8
      obtain ⟨l,e1,e2⟩:=wz.get j p w6
      rw [cp] at e2;cases e2
      rw [Bn j p w6] at hl;cases hu:us[j]? with
      |none=>
       have:us.getD j none=none:=j0o
       rw [this] at hl;exact hl.elim
      |some u=>cases u with
       |none=>
        have:us.getD j none=none:=j0o
        rw [this] at hl;exact hl.elim
       |some f'=>
        have hr:(dE dq)[j]? =some (p.2.1,p.2.2):=by rw [<-Bl];simp [w6]
        exact (cu j _ f' _ hr hu e1).2
     have fl:aC P base ψ S' w' ⟨ts,h2,n,m⟩ a:=by
      refine ⟨b9.bas,⟨b9.sim.dom, ?_,?_,?_,?_,b9.sim.sdom.later cz.later cz.sdom⟩,b9.lim,b9.defers,fun t=>(b9.tmps t).later (cH.refl _) cz.later⟩
      . intro k l cp;by_cases hk: ∃p∈ids,p.1=k
        . obtain ⟨p,hp,rfl⟩:=hk
          obtain ⟨j,hj,e⟩:=List.mem_iff_getElem.1 hp
          have w6:ids[j]? =some p:=x8
          obtain ⟨l',e1,e2⟩:=wz.get j p w6
          rw [cp] at e2;cases e2
          rw [Bn j p w6];cases hu:us[j]? with
          |none=>
           have:us.getD j none=none:=j0o
           rw [this];cases l<;>trivial
          |some u=>cases u with
           |none=>
            have:us.getD j none=none:=j0o
            rw [this];cases l<;>trivial
           |some f'=>
            have hr:(dE dq)[j]? =some (p.2.1,p.2.2):=by rw [<-Bl];simp [w6]
            have:us.getD j none=some f':=j0o
            rw [this];exact gV.blk.1 (cu j _ f' _ hr hu e1).1
        . have ag: ∀p∈ids,p.1≠k:=fun p hp e=>hk ⟨p,hp,e⟩
          rw [xb k ag];have hb:=b9.sim.blk k l cp
          have Bo: ∀b mm,l= .at b mm->S1 b->w'.heap[b]? =w.heap[b]? :=fun b mm _ hS=>cz.later.2 b hS
          cases aw:aF h1 k with
          |gone=>cases l<;>trivial
          |cells cs=>exact (aw▸hb).later (cH.refl _) cz.later fun b mm e=>cz.old b (b9.sim.pdom k b mm (e▸cp)) (my k b mm (e▸cp) j2f ag)
          |row sz nn f'=>exact (aw▸hb).later (cH.refl _) cz.later fun b mm e=>cz.old b (b9.sim.pdom k b mm (e▸cp)) (my k b mm (e▸cp) j2f ag)
          |it sI pI=>exact (aw▸hb).later (cH.refl _) cz.later fun b mm e=>cz.old b (b9.sim.pdom k b mm (e▸cp)) (my k b mm (e▸cp) j2f ag)
          |map eI bcI=>exact (aw▸hb).later (cH.refl _) cz.later fun b mm e=>cz.old b (b9.sim.pdom k b mm (e▸cp)) (my k b mm (e▸cp) j2f ag)
          |fz cs=>
           rw [aw] at hb;exact fE.later hb (cH.refl _) cz.later fun b mm e=>by subst e;exact Bo b mm rfl hb.1
          |fzr sz nn f'=>
           rw [aw] at hb;exact fE.later hb (cH.refl _) cz.later fun b mm e=>by subst e;exact Bo b mm rfl hb.1
      . intro k k' b m1 m2 e1 e2 l1 l2
        exact b9.sim.inj k k' b m1 m2 e1 e2 (ph k l1) (ph k' l2)
      . intro k b mm cp hl hS;by_cases hk: ∃p∈ids,p.1=k
        . exact (aPM vz (kept k b mm cp hl hk)).1 hS
        . have ag: ∀p∈ids,p.1≠k:=fun p hp e=>hk ⟨p,hp,e⟩
          rcases cz.newS b hS with h|h|h
          . exact b9.sim.dis k b mm cp (ph k hl) h
          . exact my k b mm cp (ph k hl) ag h
          . have:=b9.sim.pdom k b mm cp;omega
      . intro k b mm cp;have:=b9.sim.pdom k b mm cp;have:=cz.grow;omega
     have Cf:tK ψ S' w' h2 b6:=by
      refine ⟨aUg vz, ?_⟩
      intro b hb k mm cp hl;by_cases hk: ∃p∈ids,p.1=k
      . exact (aPM vz (kept k b mm cp hl hk)).2 hb
      . have ag: ∀p∈ids,p.1≠k:=fun p hp e=>hk ⟨p,hp,e⟩
        rcases cz.newL b hb with h|h
        . exact my k b mm cp (ph k hl) ag h
        . have:=b9.sim.pdom k b mm cp;omega
     have pj: ∀b,blkIn ls b-> ∃k m,ψ k=some (.at b m):=fun b hb=>by
      obtain ⟨j,p,mm,_,_,p3,_⟩:=ee b hb;exact ⟨p.1,mm,p3⟩
     have DL:vU base ψ S w ψ S' w' b6:=by
      refine ⟨⟨cz.os,cz.tape,cz.output,cz.grow,fun b hb ky=>cz.old b hb fun mh=> ?_,kj.later.trans cz.later, ?_,fun k b mm hk=> .inl ⟨k,mm,hk⟩,fun _ _=>rfl⟩, ?_⟩
      . obtain ⟨k,mm,hk⟩:=pj b mh;exact ky k mm hk
      . intro b hb;rcases cz.newS b hb with h|h|h
        . exact kj.newS b h
        . exact .inr (.inl (pj b h))
        . exact .inr (.inr h)
      . intro b hb;rcases cz.newL b hb with h|h
        . exact .inl (pj b h)
        . exact .inr h
     obtain ⟨y,st',aa,g1,g2,g3,g4⟩:=aX0 rl fl Cf DL hk
     exact ⟨y,st',v,aa,S',rfl,g1,g2,g3,g4⟩
   . exact hk.elim
 . exact hk.run ψ S w a ak a6 cr
end
def aM6:Ic->DV
 | .d x=>x
 | .ow sz n f=> .lst sz n f
def aHv:Ar->Option Cv
 | .c x=>some (.c (aM6 x))
 | .agg xs=>some (.agg (xs.map aM6))
 |_=>none
def aEe:List Ar->Option (List Cv)
 | []=>some []
 |x::xs=>match aHv x,aEe xs with
  |some c,some cs=>some (c::cs)
  |_,_=>none
def aM7:Rt->Option Ct
 | .va x=>match aHv x with
   |some c=>some (.va c)
   |none=>none
 | .tup xs=>match aEe xs with
   |some cs=>some (.tup cs)
   |none=>none
def xF (Γ:dQ) (f:Nat) (as:List Va) (h:List (Nat×aB)) (K:Tm->Prop):Prop:=
 match Γ f with
 |some ⟨_,F⟩=>pX Γ h [] as fun dq _=>match F dq with
  |some ⟨pre,r,[]⟩=>match aM7 r with
   |some ct=>pre/\ (pre->fT (aAn ct) K)
   |none=>False
  |_=>False
 |none=>False
def dFv (g:List Cv->Option Gs) (as:List Va) (h:List (Nat×aB)) (K:Tm->Prop):Prop:=
 sM h as fun cs=>match g cs with
  |some ⟨pre,r⟩=>pre/\ (pre->fT (aAn r) K)
  |none=>False
def aCq (i:Nat) (gs:List Nat) (x:Tm) (k:Tm->Prop):Prop:=
 match gs.contains i,x with
 |true,.va (.c (.d (.v (.bool b))))=>(b=true->k (.va (.c (.kb true))))/\ (b=false->k (.va (.c (.kb false))))
 |_,x=>k x
def kY (dst:Option Tmp) (x:Tm) (ts:List (Nat×Tm)):List (Nat×Tm):=match dst with
 |some t=>(t,x)::ts
 |none=>ts
def qM (P:Program) (τ:bF) (Γ:dQ) (id:Nat) (o:Oper) (st:St) (K:Tm->Option aB->Prop):Prop:=
 match o.op with
 | .alloc e=>match τ e with
   |some ⟨_,_,_,z⟩=>K (.va (.c (.own id 0))) (some (.cells (cW z)))
   |none=>False
 | .box _ x=>match ev st x with
   | .va y=>match y.lays with
     |true=>K (.va (.c (.own id 0))) (some (.cells y.cells))
     |false=>False
   |_=>False
 | .call c=>match c.callee with
   | .value f=>match aB6 (ev st f),bY (fun x=>gK (ev st x)) c.args.toList with
     | .va (.c (.fn f [])),some as=>aAm as fun as=>xF Γ f as st.heap fun r=>K r none
     | .va (.c (.fv g)),some as=>dFv g as st.heap fun r=>K r none
     |_,_=>False
   |_=>iU P τ (.call c) o.type (ev st) st.heap fun x=>K x none
 | .buildSlice t len parts=>mW τ st.heap (ev st) t len parts.toList fun x=>K x none
 |op=>iU P τ op o.type (ev st) st.heap fun x=>K x none
def xG (dst:Option Tmp) (lim:Nat):Bool:=match dst with
 |some t=>Nat.blt t lim
 |none=>true
def uT (all:List Oper) (st:St) (o:Oper) (k:Bool->Prop):Prop:=
 match o.guard with
 |none=>k true
 |some (j,want)=>match nG all j with
  |none=>False
  |some s=>match aV st.tmps s with
   | .va (.c (.kb true))=>k want
   | .va (.c (.kb false))=>k (!want)
   | .va (.c .und)=>k false
   |_=>False
def dGo (P:Program) (τ:bF) (Γ:dQ) (n0:Nat) (gs:List Nat) (all:List Oper) (i:Nat) (l:List Oper):St->(St->Prop)->Prop:=
 List.rec (motive:=fun _=>Nat->St->(St->Prop)->Prop) (fun _ st K=>K st) (fun o _ ih i st K=>match st with
  |⟨ts,h,n,m⟩=>match xG o.dst m with
   |false=>False
   |true=>uT all ⟨ts,h,n,m⟩ o fun w=>match w with
    |false=>ih (i+1) ⟨kY o.dst kU ts,h,n,m⟩ K
    |true=>qM P τ Γ (n0+i) o ⟨ts,h,n,m⟩ fun x b=>fT x fun x=>match b with
     |some (.cells cs)=>tO cs fun cs=>aCq i gs x fun x=>ih (i+1) ⟨kY o.dst x ts,(n0+i,.cells cs)::h,n,m⟩ K
     |some _=>False
     |none=>aCq i gs x fun x=>ih (i+1) ⟨kY o.dst x ts,h,n,m⟩ K) l i
theorem aX1 (P:Program) (τ:bF) (Γ:dQ) (n0:Nat) (gs:List Nat) (all:List Oper) (i:Nat) (o:Oper) (rest:List Oper) (ts:List (Nat×Tm)) (h:List (Nat×aB)) (n m:Nat) (K:St->Prop):
 dGo P τ Γ n0 gs all i (o::rest) ⟨ts,h,n,m⟩ K=(match xG o.dst m with
 |false=>False
 |true=>uT all ⟨ts,h,n,m⟩ o fun w=>match w with
  |false=>dGo P τ Γ n0 gs all (i+1) rest ⟨kY o.dst kU ts,h,n,m⟩ K
  |true=>qM P τ Γ (n0+i) o ⟨ts,h,n,m⟩ fun x b=>fT x fun x=>match b with
   |some (.cells cs)=>tO cs fun cs=>aCq i gs x fun x=>dGo P τ Γ n0 gs all (i+1) rest ⟨kY o.dst x ts,(n0+i,.cells cs)::h,n,m⟩ K
   |some _=>False
   |none=>aCq i gs x fun x=>dGo P τ Γ n0 gs all (i+1) rest ⟨kY o.dst x ts,h,n,m⟩ K):=rfl
def aGY:List Oper->List Nat->List Nat
 | [],acc=>acc
 |o::os,acc=>aGY os (acc++ [o.after.toList.foldl (fun s e=>if Region.binds .any e then s|||2^e.on|||acc.getD e.on 0 else s) 0])
def rN:List Operand->List Tmp
 | []=> []
 | .tmp t::xs=>t::rN xs
 |_::xs=>rN xs
def aSd (op:Op):List Tmp:=match op with
 | .call c=>match c.callee with
   | .value f=>rN (f::c.args.toList)
   | .invoke r _=>rN (r::c.args.toList)
   | .builtin _=>rN c.args.toList
 |op=>rN op.operands.toList
def wT (all:List Oper) (o:Oper):List Tmp:=aSd o.op++(match o.guard with
 |some (j,_)=>(nG all j).toList
 |none=> [])
def aGZ (all:List Oper) (x y:Oper):Bool:=
 (match x.dst with
  |some t=>(wT all y).contains t||y.dst==some t
  |none=>false)||
 (match y.dst with
  |some t=>(wT all x).contains t
  |none=>false)
def zN (all:List Oper) (m:Nat):Bool:=
 let b:=aGY all []
 (List.range all.length).all fun i=>
  match all[i]? with
  |none=>false
  |some o=>o.after.toList.all (fun e=> !Region.binds .any e||decide (e.on<i))&&
   (List.range i).all fun j=>(b.getD i 0).testBit j||(decide (i<m)&&match all[j]? with
    |some x=> !aGZ all x o
    |none=>false)
def bBK (Γ:dQ) (bs:Bool) (o:Oper):Bool:=match o.op with
 | .store .. =>false
 | .mapUpdate .. =>false
 | .buildSlice .. =>bs
 | .call c=>match c.callee with
   | .value (.func f)=>match Γ f with
     |some _=>true
     |none=>false
   | .builtin .append=>false
   | .builtin .copy=>false
   | .builtin .clear=>false
   | .builtin .delete=>false
   |_=>true
 |_=>true
def uE (Γ:dQ) (bs:Bool):List Oper->Nat
 | []=>0
 |o::os=>match bBK Γ bs o with
  |true=>uE Γ bs os+1
  |false=>0
def aX2 (all:List Oper):List Nat:=all.filterMap fun o=>match o.guard with
 |some (j,_)=>some j
 |none=>none
def aDb (P:Program) (τ:bF) (Γ:dQ) (calls:Nat->List Va->St->(Tm->St->Prop)->Prop) (m:Nat) (ops:List Oper) (st:St) (K:St->Prop):Prop:=
 dGo P τ Γ st.next (aX2 ops) ops 0 (ops.take m) st fun st'=>
  match st' with
  |⟨ts,h,n,l⟩=>nH P τ calls ops (ops.drop m) ⟨ts,h,n+m,l⟩ K
def aGj (P:Program) (τ:bF) (Γ:dQ) (calls:Nat->List Va->St->(Tm->St->Prop)->Prop) (ops:List Oper) (st:St) (K:St->Prop) (other:Prop):Prop:=
 match zN ops (uE Γ false ops) with
 |true=>aDb P τ Γ calls (uE Γ false ops) ops st K
 |false=>match zN ops (uE Γ true ops) with
  |true=>aDb P τ Γ calls (uE Γ true ops) ops st K
  |false=>other
def gQ {α:Type} (F:(α->Prop)->Prop):Prop:= ∀K,F K-> ∃x,K x/\ F (fun y=>y=x)
section
variable {P:Program} {τ:bF} {Γ:dQ}
theorem aN1 (h:List (Nat×aB)) (p:Tm) (sz:Nat):gQ (loadAt h p sz):=by
 intro K hk;unfold loadAt at hk⊢
 split at hk
 . split at hk
   . rename_i hb
     split at hk
     . rename_i r hr;exact ⟨r,hk,by simp only⟩
     . exact hk.elim
   . rename_i hb
     split at hk
     . rename_i r hr;exact ⟨_,hk,by simp only⟩
     . exact hk.elim
   . exact hk.elim
 . split at hk
   . rename_i hb
     obtain ⟨h1,h2,h3⟩:=hk
     have h3:=h3 h1 h2
     split at h3
     . rename_i r hr;exact ⟨_,h3,by simp only;exact ⟨h1,h2,fun _ _=>trivial⟩⟩
     . exact h3.elim
   . rename_i hb
     obtain ⟨h1,h2,h3⟩:=hk
     have h3:=h3 h1 h2
     split at h3
     . rename_i r hr;exact ⟨_,h3,by simp only;exact ⟨h1,h2,fun _ _=>trivial⟩⟩
     . exact h3.elim
   . exact hk.elim
 . split at hk
   . rename_i r hr;exact ⟨_,hk,by simp only⟩
   . exact hk.elim
 . split at hk
   . rename_i hb hz
     split at hk
     . rename_i r hr
       split at hk
       . rename_i hi;exact ⟨_,hk.2 hk.1,by simp only [hi];exact ⟨hk.1,fun _=>trivial⟩⟩
       . exact hk.elim
     . exact hk.elim
   . exact hk.elim
 . exact hk.elim
theorem aWv (h:List (Nat×aB)) (t:TypeId) (p:Tm):gQ (sV τ h t p):=by
 intro K hk;unfold sV at hk⊢
 split at hk
 . rename_i desc size _ _ ht
   obtain ⟨cs,h1,h2⟩:=aN1 h p size _ hk
   split at h1
   . rename_i y hy
     refine ⟨_,h1, ?_⟩
     simp only
     have: ∀(G:List aL->Prop),loadAt h p size (fun ib=>ib=cs)->G cs->loadAt h p size G:=by
      intro G hl hG;obtain ⟨H8,e,h3⟩:=aN1 h p size _ hl
      subst e
      clear hl h1 h2 hk hy;unfold loadAt at h3⊢
      split at h3
      . split at h3
        . split at h3
          . subst h3;exact hG
          . exact h3.elim
        . split at h3
          . subst h3;exact hG
          . exact h3.elim
        . exact h3.elim
      . split at h3
        . obtain ⟨q1,q2,q3⟩:=h3
          refine ⟨q1,q2,fun _ _=> ?_⟩
          have q3:=q3 q1 q2
          split at q3
          . subst q3;exact hG
          . exact q3.elim
        . obtain ⟨q1,q2,q3⟩:=h3
          refine ⟨q1,q2,fun _ _=> ?_⟩
          have q3:=q3 q1 q2
          split at q3
          . subst q3;exact hG
          . exact q3.elim
        . exact h3.elim
      . split at h3
        . subst h3;exact hG
        . exact h3.elim
      . split at h3
        . split at h3
          . split at h3
            . refine ⟨h3.1,fun _=> ?_⟩
              have:=h3.2 h3.1
              subst this;exact hG
            . exact h3.elim
          . exact h3.elim
        . exact h3.elim
      . exact h3.elim
     exact this _ h2 (by simp only [hy])
   . exact h1.elim
 . exact hk.elim
theorem pF (r:Option Value):gQ (eF r):=by
 intro K hk;unfold eF at hk⊢
 split at hk<;>first
  |exact hk.elim
  |exact ⟨_,hk,rfl⟩
theorem aUr (s:TypeId) (p:Tm) (f:Nat):gQ (aAL τ s p f):=by
 intro K hk;unfold aAL at hk⊢
 split at hk
 . rename_i fs _ _ _ ht
   split at hk
   . rename_i hf
     split at hk
     . rename_i mb
       split at hk
       . exact ⟨_,hk,by simp only⟩
       . exact ⟨_,hk,by simp only⟩
       . rw [fJ] at hk;exact ⟨_,hk,by simp only [fJ]⟩
       . exact hk.elim
     . exact hk.elim
   . exact hk.elim
 . exact hk.elim
theorem aVr (aj:Operand->Tm) (t:TypeId) (ps:List (Nat×Operand)):gQ (zH τ aj t ps):=by
 intro K hk;unfold zH at hk⊢
 split at hk
 . rename_i ht
   split at hk
   . rename_i h1 h2;exact ⟨_,hk,by simp only⟩
   . exact hk.elim
 . rename_i ht
   split at hk
   . rename_i bw
     split at hk
     . rename_i h1;exact ⟨_,hk,by simp only⟩
     . exact hk.elim
   . exact hk.elim
 . exact hk.elim
def tQ {α:Type} (F:(α->Prop)->Prop):Prop:= ∀K,F K-> ∃x,K x/\ ∀K',K' x->F K'
theorem tQ.lin {α:Type} {F:(α->Prop)->Prop} (h:tQ F):gQ F:=fun K hk=>by
 obtain ⟨x,h1,h2⟩:=h K hk
 exact ⟨x,h1,h2 _ rfl⟩
theorem tQ.mono {α:Type} {F:(α->Prop)->Prop} (h:tQ F) {K K':α->Prop} (hk:F K) (hm: ∀x,K x->K' x):F K':=by
 obtain ⟨x,h1,h2⟩:=h K hk
 exact h2 _ (hm _ h1)
theorem aIN {j:Nat} {F:Nat->Prop} (hF:F j): ∀{n:Nat},aDI (j:Int) F n
 |0=>trivial
 |n+1=>⟨aIN hF,fun e=>by
  have:j=n:=j3
  subst this;exact hF⟩
theorem aNw (t:TypeId) (x ix:Tm):tQ (aAM τ t x ix):=by
 intro K hk;unfold aAM at hk⊢
 split at hk
 . rename_i ht
   split at hk
   . rename_i jj
     split at hk
     . rename_i h2
       split at hk
       . exact ⟨_,hk.2 hk.1.1 hk.1.2,fun K' gx=>⟨hk.1,fun _ _=>gx⟩⟩
       . obtain ⟨⟨h0,h1⟩,hk⟩:=hk
         obtain ⟨j,rfl⟩:=Int.eq_ofNat_of_zero_le h0
         exact ⟨_,aCL hk j3,fun K' gx=>⟨⟨h0,h1⟩,aIN gx⟩⟩
     . exact hk.elim
   . exact hk.elim
 . rename_i ht
   split at hk
   . rename_i jj
     split at hk
     . rename_i h2
       obtain ⟨e,⟨h0,h1⟩,hk⟩:=hk
       exact ⟨_,hk h0 h1,fun K' gx=>⟨e,⟨h0,h1⟩,fun _ _=>gx⟩⟩
     . rename_i h2
       obtain ⟨e,⟨h0,h1⟩,hk⟩:=hk
       exact ⟨_,hk h0 h1,fun K' gx=>⟨e,⟨h0,h1⟩,fun _ _=>gx⟩⟩
     . exact hk.elim
   . exact hk.elim
 . exact hk.elim
theorem nY {o:Option Tm} {d:Int} {k:Int->Prop} (h:kH o d k): ∃i,k i/\ ∀k':Int->Prop,k' i->kH o d k':=by
 unfold kH at h⊢
 split at h
 . exact ⟨d,h,fun _ h=>h⟩
 . split at h
   . exact ⟨_,h,fun _ h=>h⟩
   . exact h.elim
theorem aVs (t:TypeId) (x:Tm) (lo hi mx:Option Tm):tQ (aBk τ t x lo hi mx):=by
 intro K hk;unfold aBk at hk⊢
 split at hk
 . split at hk
   . obtain ⟨l,hk,f1⟩:=nY hk
     obtain ⟨h,hk,f2⟩:=nY hk
     obtain ⟨h0,hk⟩:=hk
     exact ⟨_,hk h0.1.1 h0.1.2 h0.2,fun K' gx=>f1 _ (f2 _ ⟨h0,fun _ _ _=>gx⟩)⟩
   . exact hk.elim
 . split at hk
   . split at hk
     . obtain ⟨l,hk,f1⟩:=nY hk
       obtain ⟨h,hk,f2⟩:=nY hk
       obtain ⟨m,hk,f3⟩:=nY hk
       obtain ⟨h0,hk⟩:=hk
       exact ⟨_,hk h0.1 h0.2.1.1 h0.2.1.2 h0.2.2.1 h0.2.2.2,fun K' gx=>f1 _ (f2 _ (f3 _ ⟨h0,fun _ _ _ _ _=>gx⟩))⟩
     . obtain ⟨l,hk,f1⟩:=nY hk
       obtain ⟨h,hk,f2⟩:=nY hk
       obtain ⟨m,hk,f3⟩:=nY hk
       obtain ⟨h0,hk⟩:=hk
       exact ⟨_,hk h0.1 h0.2.1.1 h0.2.1.2 h0.2.2.1 h0.2.2.2,fun K' gx=>f1 _ (f2 _ (f3 _ ⟨h0,fun _ _ _ _ _=>gx⟩))⟩
     . split at hk
       . obtain ⟨l,hk,f1⟩:=nY hk
         obtain ⟨h,hk,f2⟩:=nY hk
         obtain ⟨h0,hk⟩:=hk
         exact ⟨_,hk h0.1 h0.2.1.1 h0.2.1.2 h0.2.2,fun K' gx=>f1 _ (f2 _ ⟨h0,fun _ _ _ _=>gx⟩)⟩
       . exact hk.elim
     . obtain ⟨l,hk,f1⟩:=nY hk
       obtain ⟨h,hk,f2⟩:=nY hk
       obtain ⟨m,hk,f3⟩:=nY hk
       obtain ⟨h0,hk⟩:=hk
       exact ⟨_,hk h0.1 h0.2.1 h0.2.2,fun K' gx=>f1 _ (f2 _ (f3 _ ⟨h0,fun _ _ _=>gx⟩))⟩
     . exact hk.elim
   . exact hk.elim
 . exact hk.elim
theorem aVt (t:TypeId) (x ix:Tm):tQ (aDJ τ t x ix):=by
 intro K hk;unfold aDJ at hk⊢
 split at hk
 . split at hk
   . exact ⟨_,hk.2 hk.1.1 hk.1.2,fun K' gx=>⟨hk.1,fun _ _=>gx⟩⟩
   . exact hk.elim
 . split at hk
   . split at hk
     . obtain ⟨⟨h0,h1⟩,hk⟩:=hk
       obtain ⟨j,rfl⟩:=Int.eq_ofNat_of_zero_le h0
       have hk:=aCL hk j3
       split at hk
       . rename_i r hr
         split at hk
         . rename_i y hy
           exact ⟨_,hk,fun K' gx=>⟨⟨h0,h1⟩,aIN (by simp only [hr,hy];exact gx)⟩⟩
         . exact hk.elim
       . exact hk.elim
     . exact hk.elim
   . exact hk.elim
 . exact hk.elim
theorem aWw (x:Tm):tQ (aD4 x):=by
 intro K hk;unfold aD4 at hk⊢
 split at hk<;>first
  |exact hk.elim
  |exact ⟨_,hk,fun _ h=>h⟩
theorem aWx (r:Option Value):tQ (eF r):=by
 intro K hk;unfold eF at hk⊢
 split at hk<;>first
  |exact hk.elim
  |exact ⟨_,hk,fun _ h=>h⟩
theorem aPN (op:Op) (aj:Operand->Tm):tQ (qC P τ op aj):=by
 intro K hk;unfold qC at hk⊢
 split at hk
 . split at hk
   . exact aVs _ _ _ _ _ _ hk
   . exact hk.elim
 . exact aVt _ _ _ _ hk
 . exact aWw _ _ hk
 . split at hk
   . rename_i h1 h2;exact ⟨_,hk,fun _ h=>by first|exact h⟩
   . exact hk.elim
 . split at hk
   . exact aWx _ _ hk
   . exact hk.elim
 . exact hk.elim
theorem aVu (t:TypeId) (x:Tm) (f:Nat):gQ (aBj τ t x f):=by
 intro K hk;unfold aBj at hk⊢
 split at hk
 . rename_i ht
   split at hk
   . rename_i hf
     split at hk
     . rename_i mb
       split at hk
       . rename_i h1
         split at hk
         . rename_i h2;exact ⟨_,hk,by simp only⟩
         . exact hk.elim
       . exact hk.elim
     . exact hk.elim
   . exact hk.elim
 . exact hk.elim
theorem aZ3 (op:BinOp) (t:TypeId) (xs ys:List aL):gQ (oEq τ op t xs ys):=by
 intro K hk;unfold oEq at hk⊢
 split at hk
 . rename_i ht hu hv
   split at hk
   . rename_i hb;exact ⟨_,hk,by simp only⟩
   . rename_i hb;exact ⟨_,hk,by simp only⟩
   . exact hk.elim
 . exact hk.elim
theorem aX3 (op:BinOp) (t:TypeId):gQ (aB3 τ op t):=by
 intro K hk;unfold aB3 at hk⊢
 split at hk
 . split at hk
   . exact ⟨_,hk,rfl⟩
   . exact ⟨_,hk,rfl⟩
   . exact hk.elim
 . exact hk.elim
theorem aX4 (aj:Operand->Tm) (op:BinOp) (t:TypeId) (x y:Operand):gQ (aAo P aj op t x y):=by
 intro K hk;unfold aAo at hk⊢
 split at hk
 . rename_i k a k' b h1 h2
   split at hk
   . obtain ⟨e,ag,hk⟩:=hk
     exact ⟨_,hk e ag,by simp only;exact ⟨e,ag,fun _ _=>trivial⟩⟩
   . obtain ⟨e,ag,hk⟩:=hk
     exact ⟨_,hk e ag,by simp only;exact ⟨e,ag,fun _ _=>trivial⟩⟩
   . obtain ⟨r,g1,g2⟩:=pF _ _ hk
     exact ⟨r,g1,by first|exact g2⟩
 . rename_i a b h1 h2
   split at hk
   . obtain ⟨e,hk⟩:=hk
     exact ⟨_,hk,by simp only;exact ⟨e,trivial⟩⟩
   . obtain ⟨r,g1,g2⟩:=pF _ _ hk
     exact ⟨r,g1,by first|exact g2⟩
 . rename_i a b h1 h2 h3 h4
   obtain ⟨r,g1,g2⟩:=pF _ _ hk
   refine ⟨r,g1, ?_⟩
   first|exact g2
 . exact hk.elim
theorem aX5 (ts:Array TypeId) (ty:TypeId) (as:Option (List Va)):gQ (aB4 P τ ts ty as):=by
 intro K hk;unfold aB4 at hk⊢
 split at hk
 . rename_i t hts
   split at hk
   . rename_i ht
     split at hk<;>first
      |exact hk.elim
      |exact ⟨_,hk,by simp only⟩
   . rename_i ht ag
     split at hk
     . obtain ⟨r,g1,g2⟩:=pF _ _ hk
       exact ⟨r,g1,g2⟩
     . exact hk.elim
   . exact hk.elim
 . exact hk.elim
theorem aX6 (ts:Array TypeId) (ty:TypeId) (as:Option (List Va)):gQ (aB5 P τ ts ty as):=by
 intro K hk;unfold aB5 at hk⊢
 split at hk
 . split at hk
   . split at hk
     . exact ⟨_,hk,rfl⟩
     . exact hk.elim
   . exact hk.elim
 . obtain ⟨r,g1,g2⟩:=pF _ _ hk
   exact ⟨r,g1,g2⟩
 . exact hk.elim
end
section
variable {P:Program} {τ:bF} {Γ:dQ}
theorem aOQ (kt:TypeId) (xs:List Value): ∀(es:List (List Value×Va)) (i:Nat),gQ (pU τ kt xs es i)
 | [],_,K,h=>⟨none,h,rfl⟩
 |(ys,v)::es,i,K,h=>by
  unfold pU at h⊢
  split at h
  . rename_i b h0 hb
    cases b with
    |true=>exact ⟨_,h.1 rfl,fun _=>rfl,fun h=>(by cases h)⟩
    |false=>
     obtain ⟨r,g1,g2⟩:=aOQ kt xs es (i+1) K (h.2 rfl)
     exact ⟨r,g1,fun h=>(by cases h),fun _=>g2⟩
  . exact h.elim
theorem aEO {kt:TypeId} {xs:List Value} {K K':Option (Nat×List Value×Va)->Prop} (hm: ∀x,K x->K' x): ∀{es:List (List Value×Va)} {i:Nat},pU τ kt xs es i K->pU τ kt xs es i K'
 | [],_,h=>hm _ h
 |(ys,v)::es,i,h=>by
  unfold pU at h⊢
  split at h
  . exact ⟨fun e=>hm _ (h.1 e),fun e=>aEO hm (h.2 e)⟩
  . exact h.elim
theorem aUF {h:List (Nat×aB)} {t:TypeId} {m k:Tm} {ok:Bool} {K K':Tm->Prop} (hk:mX τ h t m k ok K) (hm: ∀x,K x->K' x):mX τ h t m k ok K':=by
 unfold mX at hk⊢
 split at hk
 . split at hk
   . refine aEO (fun r h=> ?_) hk
     split at h<;>exact hm _ h
   . exact hk.elim
 . exact hk.elim
theorem aUT (h:List (Nat×aB)) (t:TypeId) (m k:Tm) (ok:Bool):gQ (mX τ h t m k ok):=by
 intro K hk;unfold mX at hk⊢
 split at hk
 . split at hk
   . obtain ⟨r,g1,g2⟩:=aOQ _ _ _ _ _ hk
     cases r with
     |none=>exact ⟨_,g1,aEO (fun r h=>by subst h;rfl) g2⟩
     |some p=>obtain ⟨_,_,v⟩:=p;exact ⟨_,g1,aEO (fun r h=>by subst h;rfl) g2⟩
   . exact hk.elim
 . exact hk.elim
theorem yZ (op:Op) (ty:TypeId) (aj:Operand->Tm) (h:List (Nat×aB)):gQ (iU P τ op ty aj h):=by
 intro K hk;unfold iU at hk⊢
 split at hk
 . exact ⟨_,hk,rfl⟩
 . exact ⟨_,hk,rfl⟩
 . split at hk
   . exact ⟨_,hk,rfl⟩
   . exact ⟨_,hk,rfl⟩
   . exact hk.elim
 . exact aWv _ _ _ _ hk
 . exact aUr _ _ _ _ hk
 . exact aVr _ _ _ _ hk
 . exact (aNw _ _ _).lin _ hk
 . exact aVu _ _ _ _ hk
 . split at hk
   . exact aZ3 _ _ _ _ _ hk
   . obtain ⟨r,g1,g2⟩:=aX3 _ _ _ hk
     exact ⟨r,g1,g2⟩
   . obtain ⟨r,g1,g2⟩:=aX4 _ _ _ _ _ _ hk
     exact ⟨r,g1,g2⟩
 . split at hk
   . obtain ⟨r,g1,g2⟩:=pF _ _ hk;exact ⟨r,g1,g2⟩
   . exact hk.elim
 . split at hk
   . obtain ⟨r,g1,g2⟩:=pF _ _ hk;exact ⟨r,g1,g2⟩
   . exact hk.elim
 . obtain ⟨r,g1,g2⟩:=aUT _ _ _ _ _ _ hk;exact ⟨r,g1,g2⟩
 . split at hk
   . split at hk
     . rename_i hy;exact ⟨_,hk,by simp only⟩
     . exact hk.elim
   . exact hk.elim
 . split at hk
   . obtain ⟨r,g1,g2⟩:=aX5 _ _ _ _ hk;exact ⟨r,g1,g2⟩
   . split at hk
     . rename_i ha;obtain ⟨r,g1,g2⟩:=pF _ _ hk;exact ⟨r,g1,by first|exact g2⟩
     . exact hk.elim
   . split at hk
     . rename_i ha;obtain ⟨r,g1,g2⟩:=pF _ _ hk;exact ⟨r,g1,by first|exact g2⟩
     . exact hk.elim
   . obtain ⟨r,g1,g2⟩:=aX6 _ _ _ _ hk;exact ⟨r,g1,g2⟩
   . split at hk
     . rename_i ha;obtain ⟨r,g1,g2⟩:=pF _ _ hk;exact ⟨r,g1,by first|exact g2⟩
     . exact hk.elim
   . split at hk
     . rename_i ha;obtain ⟨r,g1,g2⟩:=pF _ _ hk;exact ⟨r,g1,by first|exact g2⟩
     . exact hk.elim
   . split at hk
     . rename_i ha;obtain ⟨r,g1,g2⟩:=pF _ _ hk;exact ⟨r,g1,by first|exact g2⟩
     . exact hk.elim
   . exact hk.elim
 . exact (aPN _ _).lin _ hk
theorem aEP {α β:Type} {f g:α->Option β}: ∀{xs:List α},(∀x∈xs,f x=g x)->bY f xs=bY g xs
 | [],_=>rfl
 |x::xs,h=>by
  have ih:bY f xs=bY g xs:=aEP fun y hy=>h y j0z
  simp only [bY,h x j8,ih]
theorem aHT {sz:Nat} {aj cv:Operand->Tm}: ∀{ps:List (Nat×Operand)} {cs:List aL},(∀p∈ps,aj p.2=cv p.2)->iP sz aj ps cs=iP sz cv ps cs
 | [],_,_=>rfl
 |(i,x)::ps,cs,h=>by
  have ih: ∀cs,iP sz aj ps cs=iP sz cv ps cs:=fun cs=>aHT fun p hp=>h p (by simp [hp])
  simp only [iP,h (i,x) j8,ih]
theorem aNv {fs:Array Field} {aj cv:Operand->Tm}: ∀{ps:List (Nat×Operand)} {cs:List aL},(∀p∈ps,aj p.2=cv p.2)->mV τ fs aj ps cs=mV τ fs cv ps cs
 | [],_,_=>rfl
 |(i,x)::ps,cs,h=>by
  have ih: ∀cs,mV τ fs aj ps cs=mV τ fs cv ps cs:=fun cs=>aNv fun p hp=>h p (by simp [hp])
  simp only [mV,h (i,x) j8,ih]
theorem aVv {op:Op} {aj cv:Operand->Tm} {K:Tm->Prop} (he: ∀x∈op.operands.toList,aj x=cv x) (hk:qC P τ op aj K):qC P τ op cv K:=by
 cases op with
 |slice t x lo hi mx=>
  have e1:=he x w4
  have e2:lo.map aj=lo.map cv:=by cases lo with|none=>rfl|some l=>simp only [Option.map_some,he l w4]
  have e3:hi.map aj=hi.map cv:=by cases hi with|none=>rfl|some l=>simp only [Option.map_some,he l w4]
  have e4:mx.map aj=mx.map cv:=by cases mx with|none=>rfl|some l=>simp only [Option.map_some,he l w4]
  simp only [qC, <-e1, <-e2, <-e3, <-e4] at hk⊢;exact hk
 |index t x ix=>simp only [qC, <-he x w4, <-he ix w4] at hk⊢;exact hk
 |nilCheck x=>simp only [qC, <-he x w4] at hk⊢;exact hk
 |makeFunc f first aq=>
  have e1:aq.toList.map aj=aq.toList.map cv:=List.map_congr_left fun x hx=>he x (by simp [Op.operands];exact .inr j0h)
  cases f<;>simp only [qC, <-e1] at hk⊢ <;>exact hk
 |makeInterface t x=>simp only [qC, <-he x w4] at hk⊢;exact hk
 |_=>exact hk.elim
theorem aIO {op:Op} {ty:TypeId} {aj cv:Operand->Tm} {h:List (Nat×aB)} {K:Tm->Prop} (he: ∀x∈op.operands.toList,aj x=cv x) (hk:iU P τ op ty aj h K):iU P τ op ty cv h K:=by
 unfold iU at hk⊢
 split at hk
 . rename_i x;rw [<-he x w4];exact hk
 . rename_i x;rw [<-he x w4];exact hk
 . rename_i c x y
   simp only [<-he c w4, <-he x w4, <-he y w4];exact hk
 . rename_i t x;simp only [<-he x w4];exact hk
 . rename_i t x f;simp only [<-he x w4];exact hk
 . rename_i t ps
   have:mV τ=mV τ:=rfl
   simp only [zH] at hk⊢
   split at hk
   . rename_i fs _ _ z ht
     have e:mV τ fs aj ps.toList (cW z)=mV τ fs cv ps.toList (cW z):=aNv fun p hp=>he p.2 j2c
     rw [e] at hk;exact hk
   . split at hk
     . rename_i sz _ _ _
       have e:iP sz aj ps.toList=iP sz cv ps.toList:=funext fun cs=>aHT fun p hp=>he p.2 j2c
       rw [e] at hk;exact hk
     . exact hk.elim
   . exact hk.elim
 . rename_i t x ix;simp only [<-he x w4, <-he ix w4];exact hk
 . rename_i t x f;simp only [<-he x w4];exact hk
 . rename_i o t x y H9
   have e1:=he x w4
   have e2:=he y w4
   simp only [aAo, <-e1, <-e2] at hk⊢;exact hk
 . rename_i o t x;simp only [<-he x w4];exact hk
 . rename_i s t x;simp only [<-he x w4];exact hk
 . rename_i t x ix ok;simp only [<-he x w4, <-he ix w4];exact hk
 . rename_i t i;simp only [<-he t w4];exact hk
 . rename_i c
   have e1:bY (fun x=>gK (aj x)) c.args.toList=bY (fun x=>gK (cv x)) c.args.toList:=aEP fun x hx=>by rw [he x j2k]
   have e2:bY (fun x=>cZ (aj x)) c.args.toList=bY (fun x=>cZ (cv x)) c.args.toList:=aEP fun x hx=>by rw [he x j2k]
   simp only [<-e1, <-e2];exact hk
 . exact aVv he hk
def mR (h h':List (Nat×aB)):Prop:= ∀k b,aF h k=b->(b= .gone->False)->aF h' k=b
theorem aVw {h h':List (Nat×aB)} (hs:mR h h') {p:Tm} {sz:Nat} {K:List aL->Prop} (hk:loadAt h p sz K):loadAt h' p sz K:=by
 unfold loadAt at hk⊢
 split at hk
 . split at hk
   . rename_i hb;rw [hs _ _ hb v6];exact hk
   . rename_i hb;rw [hs _ _ hb v6];exact hk
   . exact hk.elim
 . split at hk
   . rename_i hb;rw [hs _ _ hb v6];exact hk
   . rename_i hb;rw [hs _ _ hb v6];exact hk
   . exact hk.elim
 . exact hk
 . split at hk
   . rename_i hb hz;rw [hs _ _ hb v6,hz];exact hk
   . exact hk.elim
 . exact hk.elim
theorem aUU {h h':List (Nat×aB)} (hs:mR h h') {t:TypeId} {m k:Tm} {ok:Bool} {K:Tm->Prop} (hk:mX τ h t m k ok K):mX τ h' t m k ok K:=by
 unfold mX at hk⊢
 split at hk
 . split at hk
   . rename_i tz hb bw
     rw [hs _ _ hb v6];simp only [tz,bw];exact hk
   . exact hk.elim
 . exact hk.elim
theorem aQ6 {h h':List (Nat×aB)} (hs:mR h h') {op:Op} {ty:TypeId} {aj:Operand->Tm} {K:Tm->Prop} (hk:iU P τ op ty aj h K):iU P τ op ty aj h' K:=by
 unfold iU at hk⊢
 split at hk<;>first
  |exact hk
  |exact hk.elim
  |skip
 rotate_left
 . exact aUU hs hk
 rename_i t a
 unfold sV at hk⊢
 split at hk
 . exact aVw hs hk
 . exact hk.elim
theorem aHU {h h':List (Nat×aB)} (hs:mR h h') {c:aL} {K:DV->Prop} (hk:mU h c K):mU h' c K:=by
 unfold mU at hk⊢
 split at hk
 . exact hk
 . exact hk
 . split at hk
   . rename_i hb;rw [hs _ _ hb v6];exact hk
   . exact hk.elim
 . exact hk
 . exact hk.elim
theorem vY {h:List (Nat×aB)} {c:aL} {K K':DV->Prop} (hk:mU h c K) (hm: ∀d,K d->K' d):mU h c K':=by
 unfold mU at hk⊢
 split at hk
 . exact hm _ hk
 . exact hm _ hk
 . split at hk
   . split at hk
     . exact ⟨hk.1,hm _ hk.2⟩
     . exact hk.elim
   . exact hk.elim
 . exact hm _ hk
 . exact hk.elim
theorem tV {h:List (Nat×aB)}: ∀{cs:List aL} {K K':List DV->Prop},jW h cs K->(∀d,K d->K' d)->jW h cs K'
 | [],_,_,hk,hm=>hm _ hk
 |_::_,_,_,hk,hm=>vY hk fun _ hd=>tV hd fun _=>hm _
theorem aED {h h':List (Nat×aB)} (hs:mR h h'): ∀{cs:List aL} {K:List DV->Prop},jW h cs K->jW h' cs K
 | [],_,hk=>hk
 |_::_,_,hk=>aHU hs (vY hk fun _ hd=>aED hs hd)
theorem aCP {h:List (Nat×aB)}: ∀{ps:List (Nat×Nat)} {K K':List Ar->Prop},pW h ps K->(∀d,K d->K' d)->pW h ps K'
 | [],_,_,hk,hm=>hm _ hk
 |(k,off)::ps,K,K',hk,hm=>by
  simp only [pW] at hk⊢
  split at hk
  . exact aCP hk fun _ hd=>by rw [fJ] at hd⊢;exact hm _ hd
  . exact hk.elim
theorem aOR {h h':List (Nat×aB)} (hs:mR h h'): ∀{ps:List (Nat×Nat)} {K:List Ar->Prop},pW h ps K->pW h' ps K
 | [],_,hk=>hk
 |(k,off)::ps,K,hk=>by
  simp only [pW] at hk⊢
  split at hk
  . rename_i hb;rw [hs _ _ hb v6];exact aOR hs hk
  . exact hk.elim
theorem aIP {h:List (Nat×aB)} {x:Va} {K K':Ar->List (Nat×Nat×Nat)->Prop} (hk:lM Γ h false x K) (hm: ∀a i,K a i->K' a i):lM Γ h false x K':=by
 unfold lM at hk⊢
 split at hk
 . contradiction
 . contradiction
 . exact hm _ _ hk
 . exact hm _ _ hk
 . split at hk
   . exact aCP hk fun _ hd=>hm _ _ hd
   . exact hk.elim
 . split at hk
   . rw [fJ] at hk⊢;exact hm _ _ hk
   . exact hk.elim
 . exact vY hk fun _ hd=>by rw [xC] at hd⊢;exact hm _ _ hd
 . exact tV hk fun _ hd=>by rw [fJ] at hd⊢;exact hm _ _ hd
theorem aX7 {h h':List (Nat×aB)} (hs:mR h h') {x:Va} {K:Ar->List (Nat×Nat×Nat)->Prop} (hk:lM Γ h false x K):lM Γ h' false x K:=by
 unfold lM at hk⊢
 split at hk
 . contradiction
 . contradiction
 . exact hk
 . exact hk
 . split at hk
   . exact aOR hs hk
   . exact hk.elim
 . split at hk
   . rename_i hb;rw [hs _ _ hb v6];exact hk
   . exact hk.elim
 . exact aHU hs hk
 . exact aED hs hk
theorem aEQ {h:List (Nat×aB)}: ∀{xs:List Va} {K K':List Ar->List (Nat×Nat×Nat)->Prop},pX Γ h [] xs K->(∀a i,K a i->K' a i)->pX Γ h [] xs K'
 | [],_,_,hk,hm=>hm _ _ hk
 |_::_,_,_,hk,hm=>aIP hk fun _ _ hd=>aEQ hd fun _ _=>hm _ _
theorem aOS {h h':List (Nat×aB)} (hs:mR h h'): ∀{xs:List Va} {K:List Ar->List (Nat×Nat×Nat)->Prop},pX Γ h [] xs K->pX Γ h' [] xs K
 | [],_,hk=>hk
 |_::_,_,hk=>aX7 hs (aIP hk fun _ _ hd=>aOS hs hd)
theorem aWy {h h':List (Nat×aB)} (hs:mR h h') {f:Nat} {as:List Va} {K:Tm->Prop} (hk:xF Γ f as h K):xF Γ f as h' K:=by
 unfold xF at hk⊢
 split at hk
 . exact aOS hs hk
 . exact hk.elim
theorem aUV {h:List (Nat×aB)} {p:Tm} {sz:Nat} {K K':List aL->Prop} (hk:loadAt h p sz K) (hm: ∀x,K x->K' x):loadAt h p sz K':=by
 unfold loadAt at hk⊢
 split at hk
 . split at hk
   . split at hk
     . exact hm _ hk
     . exact hk.elim
   . split at hk
     . exact hm _ hk
     . exact hk.elim
   . exact hk.elim
 . split at hk
   . obtain ⟨h1,h2,h3⟩:=hk
     refine ⟨h1,h2,fun _ _=> ?_⟩
     have h3:=h3 h1 h2
     split at h3
     . exact hm _ h3
     . exact h3.elim
   . obtain ⟨h1,h2,h3⟩:=hk
     refine ⟨h1,h2,fun _ _=> ?_⟩
     have h3:=h3 h1 h2
     split at h3
     . exact hm _ h3
     . exact h3.elim
   . exact hk.elim
 . split at hk
   . exact hm _ hk
   . exact hk.elim
 . split at hk
   . split at hk
     . split at hk
       . exact ⟨hk.1,fun h=>hm _ (hk.2 h)⟩
       . exact hk.elim
     . exact hk.elim
   . exact hk.elim
 . exact hk.elim
theorem pE {r:Option Value} {K K':Tm->Prop} (hk:eF r K) (hm: ∀x,K x->K' x):eF r K':=by
 unfold eF at hk⊢
 split at hk<;>first
  |exact hk.elim
  |exact hm _ hk
theorem aFj {op:Op} {ty:TypeId} {aj:Operand->Tm} {h:List (Nat×aB)} {K K':Tm->Prop} (hk:iU P τ op ty aj h K) (hm: ∀x,K x->K' x):iU P τ op ty aj h K':=by
 unfold iU at hk⊢
 split at hk
 . exact hm _ hk
 . exact hm _ hk
 . split at hk
   . exact hm _ hk
   . exact hm _ hk
   . exact hk.elim
 . unfold sV at hk⊢
   split at hk
   . refine aUV hk fun cs h=> ?_
     split at h
     . exact hm _ h
     . exact h.elim
   . exact hk.elim
 . unfold aAL at hk⊢
   split at hk
   . split at hk
     . split at hk
       . split at hk
         . exact hm _ hk
         . exact hm _ hk
         . rw [fJ] at hk⊢;exact hm _ hk
         . exact hk.elim
       . exact hk.elim
     . exact hk.elim
   . exact hk.elim
 . unfold zH at hk⊢
   split at hk
   . split at hk
     . exact hm _ hk
     . exact hk.elim
   . split at hk
     . split at hk
       . exact hm _ hk
       . exact hk.elim
     . exact hk.elim
   . exact hk.elim
 . exact (aNw _ _ _).mono hk hm
 . unfold aBj at hk⊢
   split at hk
   . split at hk
     . split at hk
       . split at hk
         . split at hk
           . exact hm _ hk
           . exact hk.elim
         . exact hk.elim
       . exact hk.elim
     . exact hk.elim
   . exact hk.elim
 . split at hk
   . unfold oEq at hk⊢
     split at hk
     . split at hk
       . exact hm _ hk
       . exact hm _ hk
       . exact hk.elim
     . exact hk.elim
   . unfold aB3 at hk⊢
     split at hk
     . split at hk
       . exact hm _ hk
       . exact hm _ hk
       . exact hk.elim
     . exact hk.elim
   . unfold aAo at hk⊢
     split at hk
     . split at hk
       . exact ⟨hk.1,hk.2.1,fun h1 h2=>hm _ (hk.2.2 h1 h2)⟩
       . exact ⟨hk.1,hk.2.1,fun h1 h2=>hm _ (hk.2.2 h1 h2)⟩
       . exact pE hk hm
     . split at hk
       . exact ⟨hk.1,hm _ hk.2⟩
       . exact pE hk hm
     . exact pE hk hm
     . exact hk.elim
 . split at hk
   . exact pE hk hm
   . exact hk.elim
 . split at hk
   . exact pE hk hm
   . exact hk.elim
 . exact aUF hk hm
 . split at hk
   . split at hk
     . exact hm _ hk
     . exact hk.elim
   . exact hk.elim
 . split at hk
   . unfold aB4 at hk⊢
     split at hk
     . split at hk
       . split at hk<;>first
          |exact hk.elim
          |exact hm _ hk
       . split at hk
         . exact pE hk hm
         . exact hk.elim
       . exact hk.elim
     . exact hk.elim
   . split at hk
     . exact pE hk hm
     . exact hk.elim
   . split at hk
     . exact pE hk hm
     . exact hk.elim
   . unfold aB5 at hk⊢
     split at hk
     . split at hk
       . split at hk
         . exact hm _ hk
         . exact hk.elim
       . exact hk.elim
     . exact pE hk hm
     . exact hk.elim
   . split at hk
     . exact pE hk hm
     . exact hk.elim
   . split at hk
     . exact pE hk hm
     . exact hk.elim
   . split at hk
     . exact pE hk hm
     . exact hk.elim
   . exact hk.elim
 . exact (aPN _ _).mono hk hm
end
section
variable {P:Program} {τ:bF} {Γ:dQ} {base:Nat} {ψ aa:aJ} {S S':Nat→Prop} {w w':World} {a:Act}
theorem aHV (h:List (Nat×aB)) (c:aL):gQ (mU h c):=by
 intro K hk;unfold mU at hk⊢
 split at hk
 . exact ⟨_,hk,rfl⟩
 . exact ⟨_,hk,rfl⟩
 . split at hk
   . split at hk
     . exact ⟨_,hk.2,hk.1,rfl⟩
     . exact hk.elim
   . exact hk.elim
 . exact ⟨_,hk,rfl⟩
 . exact hk.elim
theorem aEE (h:List (Nat×aB)): ∀(cs:List aL),gQ (jW h cs)
 | [],_,hk=>⟨[],hk,rfl⟩
 |c::cs,K,hk=>by
  obtain ⟨d,g1,g2⟩:=aHV h c _ hk
  obtain ⟨ds,g3,g4⟩:=aEE h cs _ g1
  exact ⟨d::ds,g3,vY g2 fun d' e=>by subst e;exact tV g4 fun _ e=>by rw [e]⟩
theorem aOT (h:List (Nat×aB)): ∀(ps:List (Nat×Nat)),gQ (pW h ps)
 | [],_,hk=>⟨[],hk,rfl⟩
 |(k,off)::ps,K,hk=>by
  simp only [pW] at hk⊢
  split at hk
  . obtain ⟨d,g1,g2⟩:=aOT h ps _ hk
    rw [fJ] at g1;exact ⟨_,g1,aCP g2 fun _ e=>by rw [fJ,e]⟩
  . exact hk.elim
def aM8 {α β:Type} (F:(α->β->Prop)->Prop):Prop:= ∀K,F K-> ∃x y,K x y/\ F (fun x' y'=>x'=x/\ y'=y)
theorem aX8 (h:List (Nat×aB)) (x:Va):aM8 (lM Γ h false x):=by
 intro K hk;unfold lM at hk⊢
 split at hk
 . contradiction
 . contradiction
 . exact ⟨_,_,hk,rfl,rfl⟩
 . exact ⟨_,_,hk,rfl,rfl⟩
 . split at hk
   . obtain ⟨d,g1,g2⟩:=aOT h _ _ hk
     exact ⟨_,_,g1,aCP g2 fun _ e=>by subst e;exact ⟨rfl,rfl⟩⟩
   . exact hk.elim
 . split at hk
   . rw [fJ] at hk;exact ⟨_,_,hk,by rw [fJ];exact ⟨rfl,rfl⟩⟩
   . exact hk.elim
 . obtain ⟨d,g1,g2⟩:=aHV h _ _ hk
   rw [xC] at g1;exact ⟨_,_,g1,vY g2 fun _ e=>by subst e;rw [xC];exact ⟨rfl,rfl⟩⟩
 . obtain ⟨d,g1,g2⟩:=aEE h _ _ hk
   rw [fJ] at g1;exact ⟨_,_,g1,tV g2 fun _ e=>by subst e;rw [fJ];exact ⟨rfl,rfl⟩⟩
theorem aOU (h:List (Nat×aB)): ∀(xs:List Va),aM8 (pX Γ h [] xs)
 | [],_,hk=>⟨[],[],hk,rfl,rfl⟩
 |x::xs,K,hk=>by
  obtain ⟨a,i,g1,g2⟩:=aX8 h x _ hk
  obtain ⟨as,is,g3,g4⟩:=aOU h xs _ g1
  exact ⟨a::as,i++is,g3,aIP g2 fun _ _ e=>by obtain ⟨rfl,rfl⟩:=e;exact aEQ g4 fun _ _ e=>by obtain ⟨rfl,rfl⟩:=e;exact ⟨rfl,rfl⟩⟩
theorem aOV (f:Nat) (as:List Va) (h:List (Nat×aB)):gQ (xF Γ f as h):=by
 intro K hk;unfold xF at hk⊢
 split at hk
 . obtain ⟨dq,ids,g1,g2⟩:=aOU h as _ hk
   split at g1
   . rename_i hF
     split at g1
     . rename_i ct zp
       rw [oL] at g1;obtain ⟨dO,g1⟩:=g1
       refine ⟨_,g1 dO,aEQ g2 fun _ _ e=> ?_⟩
       obtain ⟨rfl,rfl⟩:=e
       simp only [hF,zp,oL];exact ⟨dO,fun _=>trivial⟩
     . exact g1.elim
   . exact g1.elim
 . exact hk.elim
theorem aUW (h:List (Nat×aB)) (x:Va):gQ (lY h x):=by
 intro K hk;cases x with
 |c x=>simp only [lY] at hk⊢;obtain ⟨d,g1,g2⟩:=aHV h x _ hk;exact ⟨_,g1,vY g2 fun _ e=>by rw [e]⟩
 |agg cs=>simp only [lY] at hk⊢;obtain ⟨d,g1,g2⟩:=aEE h cs _ hk;exact ⟨_,g1,tV g2 fun _ e=>by rw [e]⟩
theorem aH0 {h:List (Nat×aB)} {x:Va} {K K':Cv->Prop} (hk:lY h x K) (hm: ∀d,K d->K' d):lY h x K':=by
 cases x with
 |c x=>simp only [lY] at hk⊢;exact vY hk fun _ e=>hm _ e
 |agg cs=>simp only [lY] at hk⊢;exact tV hk fun _ e=>hm _ e
theorem aUX {h h':List (Nat×aB)} (hs:mR h h') {x:Va} {K:Cv->Prop} (hk:lY h x K):lY h' x K:=by
 cases x with
 |c x=>simp only [lY] at hk⊢;exact aHU hs hk
 |agg cs=>simp only [lY] at hk⊢;exact aED hs hk
theorem aCI {h:List (Nat×aB)}: ∀{xs:List Va} {K K':List Cv->Prop},sM h xs K->(∀d,K d->K' d)->sM h xs K'
 | [],_,_,hk,hm=>hm _ hk
 |_::_,_,_,hk,hm=>aH0 hk fun _ h=>aCI h fun _ h=>hm _ h
theorem aND {h h':List (Nat×aB)} (hs:mR h h'): ∀{xs:List Va} {K:List Cv->Prop},sM h xs K->sM h' xs K
 | [],_,hk=>hk
 |_::_,_,hk=>aH0 (aUX hs hk) fun _ h=>aND hs h
theorem aNE (h:List (Nat×aB)): ∀(xs:List Va),gQ (sM h xs)
 | [],_,hk=>⟨[],hk,rfl⟩
 |x::xs,K,hk=>by
  obtain ⟨c,g1,g2⟩:=aUW h x _ hk
  obtain ⟨cs,g3,g4⟩:=aNE h xs _ g1
  exact ⟨c::cs,g3,aH0 g2 fun _ e=>by subst e;exact aCI g4 fun _ e=>by rw [e]⟩
theorem aX9 {g:List Cv->Option Gs} {as:List Va} {h:List (Nat×aB)} {K K':Tm->Prop} (hk:dFv g as h K) (hm: ∀d,K d->K' d):dFv g as h K':=by
 unfold dFv at hk⊢
 refine aCI hk fun cs e=> ?_
 split at e
 . simp only [oL] at e⊢;exact ⟨e.1,fun h=>hm _ (e.2 h)⟩
 . exact e.elim
theorem aQ7 (g:List Cv->Option Gs) (as:List Va) (h:List (Nat×aB)):gQ (dFv g as h):=by
 intro K hk;unfold dFv at hk⊢
 obtain ⟨cs,g1,g2⟩:=aNE h as _ hk
 split at g1
 . rename_i pre r hg
   rw [oL] at g1;obtain ⟨dO,g1⟩:=g1
   refine ⟨_,g1 dO,aCI g2 fun _ e=> ?_⟩
   subst e;simp only [hg,oL];exact ⟨dO,fun _=>trivial⟩
 . exact g1.elim
theorem aUz {h:List (Nat×aB)} {aj:Operand->Tm} {t:TypeId} {len:Nat} {parts:List (Nat×Operand)} {K K':Tm->Prop} (hk:mW τ h aj t len parts K) (hm: ∀x,K x->K' x):mW τ h aj t len parts K':=by
 unfold mW at hk⊢
 split at hk
 . split at hk
   . split at hk
     . exact tV hk fun ds hd=>by rw [fJ] at hd⊢;exact hm _ hd
     . exact hk.elim
   . exact hk.elim
 . exact hk.elim
theorem aNF (h:List (Nat×aB)) (aj:Operand->Tm) (t:TypeId) (len:Nat) (parts:List (Nat×Operand)):gQ (mW τ h aj t len parts):=by
 intro K hk;unfold mW at hk⊢
 split at hk
 . split at hk
   . split at hk
     . rename_i h1 h2 h3 h4
       obtain ⟨ds,g1,g2⟩:=aEE _ _ _ hk
       rw [fJ] at g1;refine ⟨_,g1, ?_⟩
       simp only
       exact tV g2 fun xt e=>by rw [fJ,e]
     . exact hk.elim
   . exact hk.elim
 . exact hk.elim
theorem aUs {h:List (Nat×aB)} {aj cv:Operand->Tm} {t:TypeId} {len:Nat} {parts:List (Nat×Operand)} {K:Tm->Prop} (he: ∀p∈parts,aj p.2=cv p.2) (hk:mW τ h aj t len parts K):mW τ h cv t len parts K:=by
 unfold mW at hk⊢
 simp only [<-aHT he];exact hk
theorem aUG {h h':List (Nat×aB)} (hs:mR h h') {aj:Operand->Tm} {t:TypeId} {len:Nat} {parts:List (Nat×Operand)} {K:Tm->Prop} (hk:mW τ h aj t len parts K):mW τ h' aj t len parts K:=by
 unfold mW at hk⊢
 split at hk
 . split at hk
   . split at hk
     . exact aED hs hk
     . exact hk.elim
   . exact hk.elim
 . exact hk.elim
theorem aZ4 (id:Nat) (o:Oper) (st:St):aM8 (qM P τ Γ id o st):=by
 intro K hk;unfold qM at hk⊢
 split at hk
 . split at hk
   . exact ⟨_,_,hk,rfl,rfl⟩
   . exact hk.elim
 . split at hk
   . split at hk
     . exact ⟨_,_,hk,rfl,rfl⟩
     . exact hk.elim
   . exact hk.elim
 . split at hk
   . split at hk
     . rename_i has
       rw [uD] at hk;obtain ⟨r,g1,g2⟩:=aOV _ _ _ _ hk
       refine ⟨r,none,g1, ?_⟩
       simp only [uD];unfold xF at g2⊢
       split at g2
       . refine aEQ g2 fun _ _ e=> ?_
         split at e
         . split at e
           . simp only [oL] at e⊢;exact ⟨e.1,fun h=>⟨e.2 h,trivial⟩⟩
           . exact e.elim
         . exact e.elim
       . exact g2.elim
     . obtain ⟨r,g1,g2⟩:=aQ7 _ _ _ _ hk
       exact ⟨r,none,g1,aX9 g2 fun _ e=>⟨e,rfl⟩⟩
     . exact hk.elim
   . obtain ⟨x,g1,g2⟩:=yZ _ _ _ _ _ hk
     refine ⟨x,none,g1, ?_⟩
     simp only [and_true];exact g2
 . obtain ⟨x,g1,g2⟩:=aNF _ _ _ _ _ _ hk
   refine ⟨x,none,g1, ?_⟩
   simp only [and_true];exact g2
 . obtain ⟨x,g1,g2⟩:=yZ _ _ _ _ _ hk
   refine ⟨x,none,g1, ?_⟩
   simp only [and_true];exact g2
theorem aWz {id:Nat} {o:Oper} {st st':St} {K:Tm->Option aB->Prop} (he: ∀x∈o.op.operands.toList,ev st x=ev st' x) (hs:mR st.heap st'.heap) (hk:qM P τ Γ id o st K):qM P τ Γ id o st' K:=by
 unfold qM at hk⊢
 split at hk
 . exact hk
 . rename_i e x ae
   rw [<-he x (by rw [ae];simp [Op.operands])];exact hk
 . rename_i c ae
   split at hk
   . rename_i f hc
     have e1:ev st f=ev st' f:=he f (by rw [ae];simp [Op.operands,Call.operands,hc])
     have e2:bY (fun x=>gK (ev st x)) c.args.toList=bY (fun x=>gK (ev st' x)) c.args.toList:=aEP fun x hx=>by rw [he x (by rw [ae];simp [Op.operands,Call.operands];exact .inr j0h)]
     rw [<-e1, <-e2];split at hk
     . rw [uD] at hk⊢;exact aWy hs hk
     . exact aND hs hk
     . exact hk.elim
   . exact aQ6 hs (aIO (fun x hx=>he x (by rw [ae];exact hx)) hk)
 . rename_i t len parts ae
   refine aUG hs (aUs (fun p hp=>he p.2 ?_) hk)
   rw [ae];simp [Op.operands];exact ⟨p.1,by simpa using hp⟩
 . exact aQ6 hs (aIO he hk)
theorem aFk: ∀{xs:List Ic} {vs:List Value} {ls:List Loc},bC S w xs vs ls->(∀b,blkIn ls b->S b)->aG (aZ S w) (xs.map aM6) vs
 | [],[],_,_,_=>trivial
 | [],_::_,ls,h,_=>by cases ls<;>simp [bC] at h
 | .d x::xs,[],_,h,_=>by simp [bC] at h
 | .d x::xs,v::vs,ls,h,hS=>by
   simp only [bC] at h;exact ⟨h.1,aFk h.2 hS⟩
 | .ow _ _ _::_,[],_,h,_=>by simp [bC] at h
 | .ow _ _ _::_,_::_,[],h,_=>by simp [bC] at h
 | .ow sz n f::xs,v::vs,l::ls,h,hS=>by
   simp only [bC] at h;obtain ⟨h1,h2,h3⟩:=h
   refine ⟨?_,aFk h3 fun b ⟨m,hm⟩=>hS b ⟨m,by simp [hm]⟩⟩
   cases l with
   |virt=>obtain ⟨rfl,_,rfl⟩:=h1;exact .nil
   | «at» b m=>
     obtain ⟨c,off,rfl,h4,h5⟩:=h1
     obtain ⟨arr,e,q1,q2,q3,q4,q5⟩:=h2
     rcases Nat.eq_zero_or_pos n with hn|hn
     . subst hn;exact .nil
     . obtain ⟨rfl,h6⟩:=h5 j3
       subst q2;refine .lst (fun i j=>arr.getD (i*sz+j) undef) (hS b ⟨_,by simp;exact .inl rfl⟩) q4 (fun i j hi hj=> ?_) q5 h4
       rw [oB q1];have:i*sz+j<arr.size:=by
        have:=Nat.mul_le_mul_right sz (Nat.succ_le_of_lt hi);rw [Nat.succ_mul] at this;omega
       simp [Array.getD,this]
theorem aPO {x:Ar} {c:Cv} {v:Value} {ls:List Loc} (h:aHv x=some c) (h':kE P S w x v ls) (hS: ∀b,blkIn ls b->S b):pV S w c v:=by
 unfold aHv at h;split at h
 . simp at h;subst h;exact (aFk h' hS).1
 . simp at h;subst h;obtain ⟨arr,rfl,h'⟩:=h';exact ⟨arr,rfl,aFk h' hS⟩
 . simp at h
theorem aOW: ∀{xs:List Ar} {cs:List Cv} {vs:List Value} {ls:List Loc},aEe xs=some cs->cC P S w xs vs ls->(∀b,blkIn ls b->S b)->aG (pV S w) cs vs
 | [],cs,[],_,h,_,_=>by simp [aEe] at h;subst h;trivial
 | [],_,_::_,_,_,h',_=>by simp [cC] at h'
 |_::_,_,[],_,_,h',_=>by simp [cC] at h'
 |x::xs,cs,v::vs,ls,h,h',hS=>by
  simp only [aEe] at h;split at h
  . rename_i c ib hc hcs
    simp at h;subst h
    obtain ⟨l1,l2,rfl,h1,h2⟩:=h'
    exact ⟨aPO hc h1 fun b ⟨m,hm⟩=>hS b ⟨m,by simp [hm]⟩,aOW hcs h2 fun b ⟨m,hm⟩=>hS b ⟨m,by simp [hm]⟩⟩
  . simp at h
theorem aYa {x:Rt} {c:Ct} {v:Value} {ls:List Loc} (h:aM7 x=some c) (h':oO P S w x v ls) (hS: ∀b,blkIn ls b->S b):aD5 S w c v:=by
 unfold aM7 at h;split at h
 . split at h
   . rename_i c' hc;simp at h;subst h;exact aPO (P:=P) hc h' hS
   . simp at h
 . split at h
   . rename_i cs hc
     simp at h;subst h
     obtain ⟨arr,rfl,h'⟩:=h'
     exact ⟨arr,rfl,aOW (P:=P) hc h' hS⟩
   . simp at h
theorem aEJ: ∀{xs:List Ic} {vs:List Value} {ls:List Loc},bC S w xs vs ls->cT S w S' w->bC S' w xs vs ls
 | [],[],[],h,_=>h
 | [],[],_::_,h,_=>by simp [bC] at h
 | [],_::_,ls,h,_=>by cases ls<;>simp [bC] at h
 | .d x::xs,[],_,h,_=>by simp [bC] at h
 | .d x::xs,v::vs,ls,h,l=>by
   simp only [bC] at h;exact And.intro (h.1.later l) (aEJ h.2 l)
 | .ow _ _ _::_,[],_,h,_=>by simp [bC] at h
 | .ow _ _ _::_,_::_,[],h,_=>by simp [bC] at h
 | .ow sz n f::xs,v::vs,lo::ls,h,l=>by
   simp only [bC] at h;obtain ⟨h1,h2,h3⟩:=h
   refine And.intro h1 (And.intro ?_ (aEJ h3 l))
   cases lo with
   |virt=>exact h2
   | «at» b m=>obtain ⟨arr,e,q1,q2,q3,q4,q5⟩:=h2;exact ⟨arr,e,q1,q2,q3,q4,fun i j hi hj=>(q5 i j hi hj).later l⟩
theorem aNN {x:Ar} {v:Value} {ls:List Loc} (h:kE P S w x v ls) (l:cT S w S' w):kE P S' w x v ls:=by
 cases x with
 |c x=>exact aEJ (xs:= [x]) h l
 |agg xs=>obtain ⟨arr,rfl,h⟩:=h;exact ⟨arr,rfl,aEJ h l⟩
 |rp cs=>exact ⟨h.1,h.2.later (cH.refl _) l⟩
 |fv g=>exact ⟨h.1,h.2.later l⟩
theorem aNG: ∀{xs:List Ar} {vs:List Value} {ls:List Loc},cC P S w xs vs ls->cT S w S' w->cC P S' w xs vs ls
 | [],[],_,h,_=>h
 | [],_::_,_,h,_=>by simp [cC] at h
 |_::_,[],_,h,_=>by simp [cC] at h
 |_::_,_::_,_,⟨l1,l2,e,h1,h2⟩,l=>⟨l1,l2,e,aNN h1 l,aNG h2 l⟩
theorem aUY {x:Rt} {v:Value} {ls:List Loc} (h:oO P S w x v ls) (l:cT S w S' w):oO P S' w x v ls:=by
 cases x with
 |va x=>exact aNN (P:=P) h l
 |tup xs=>obtain ⟨arr,rfl,h⟩:=h;exact ⟨arr,rfl,aNG h l⟩
theorem aUZ {h:List (Nat×aB)} {next:Nat} (ck:lH P Γ) (hs:iV P ψ S w h next) {xs:List Va} {vs:List Value} {K:List Ar->Prop} (hx:aG (bB P ψ S w) xs vs) (hk:pX Γ h [] xs fun dq _=>K dq):
 ∃dq,cC P S w dq vs []/\ K dq:=by
 have one: ∀{x:Va} {v:Value} {K:Ar->List (Nat×Nat×Nat)->Prop},bB P ψ S w x v->lM Γ h false x K-> ∃ar,kE P S w ar v []/\ K ar []:=by
  intro x v K hx hk;have DM:lM Γ h false x (fun a i=>K a i/\ i= []):=by
   clear hx;unfold lM at hk⊢
   split at hk
   . contradiction
   . contradiction
   . exact ⟨hk,rfl⟩
   . exact ⟨hk,rfl⟩
   . split at hk
     . exact aCP hk fun _ h=>⟨h,rfl⟩
     . exact hk.elim
   . split at hk
     . rw [fJ] at hk⊢;exact ⟨hk,rfl⟩
     . exact hk.elim
   . exact vY hk fun _ h=>by rw [xC] at h⊢;exact ⟨h,rfl⟩
   . exact tV hk fun _ h=>by rw [fJ] at h⊢;exact ⟨h,rfl⟩
  obtain ⟨ar,ids,ls,g1,⟨_,g2,_⟩,g3,rfl⟩:=aQ4 ck hs hx DM
  cases ls with
  |nil=>exact ⟨ar,g1,g3⟩
  |cons _ _=>exact g2.elim
 induction xs generalizing vs K with
 |nil=>cases vs with
  |nil=>exact ⟨[],rfl,hk⟩
  |cons _ _=>exact hx.elim
 |cons x xs ih=>cases vs with
  |nil=>exact hx.elim
  |cons v vs=>
   obtain ⟨ar,g1,g2⟩:=one hx.1 hk
   obtain ⟨dq,g3,g4⟩:=ih (K:=fun as=>K (ar::as)) hx.2 g2
   exact ⟨ar::dq,⟨[],[],rfl,g1,g3⟩,g4⟩
theorem yT {ts:List (Nat×Tm)} {h:List (Nat×aB)} {n m:Nat} {dst:Option Tmp} {x:Tm} (hl:xG dst m=true):bG ⟨ts,h,n,m⟩ dst x (fun st'=>st'=⟨kY dst x ts,h,n,m⟩):=by
 cases dst with
 |none=>rfl
 |some t=>
  simp only [xG] at hl;simp only [bG,hl,oL,kY]
theorem bBL (ab:bE P τ) (hz: ∀t i,τ t=some i->cP i.zero) (ck:lH P Γ) {id:Nat} {o:Oper} {ts:List (Nat×Tm)} {h:List (Nat×aB)} {n m:Nat} {x:Tm} (a6:aC P base ψ S w ⟨ts,h,n,m⟩ a)
 (hl:xG o.dst m=true) (hk:qM P τ Γ id o ⟨ts,h,n,m⟩ fun x' b=>x'=x/\ b=none):aK P base ψ S w a o (fun st'=>st'=⟨kY o.dst x ts,h,n,m⟩):=by
 unfold qM at hk;split at hk
 . split at hk
   . exact absurd hk.2 j8
   . exact hk.elim
 . split at hk
   . split at hk
     . exact absurd hk.2 j8
     . exact hk.elim
   . exact hk.elim
 . rename_i c ae
   obtain ⟨callee,args,Ha⟩:=c
   simp only at hk
   split at hk
   . rename_i f
     split at hk
     . rename_i g as hf ha
       rw [uD] at hk;have uc:=aJd (cL a6 f)
       rw [hf] at uc;obtain ⟨vs,hv,sc⟩:=uc
       have Fv:vs= #[]:=by
        apply Array.ext'
        generalize vs.toList=l at sc
        cases l with
        |nil=>rfl
        |cons _ _=>exact sc.elim
       subst Fv;have av:=sN a6 ha
       unfold xF at hk;split at hk
       . rename_i own F ue
         have vw:=ck g _ ue
         obtain ⟨dq,g1,g2⟩:=aUZ ck a6.sim av hk
         split at g2
         . rename_i pre r hF
           split at g2
           . rename_i ct zp
             rw [oL] at g2;obtain ⟨dO,g2⟩:=g2
             obtain ⟨g2,_⟩:=g2 dO
             subst g2;have zq:=vw _ _ _ _ hF dO S w _ [] a6.sim.sdom g1 trivial
             intro next Q hn;have e:(args.toList.map a.eval).toArray= #[]++args.map a.eval++ #[]:=by apply Array.ext';simp
             rw [e] at zq;refine aJD ae hv zq ?_
             rintro e w' ⟨v,S',b6,rfl,rl,_,gf,cz⟩
             -- its rows are frozen
             let S2:Nat->Prop:=fun b=>S' b \/blkIn b6 b
             have ic:cT S' w' S2 w':=⟨fun _ h=> .inl h,fun _ _=>rfl⟩
             have DN:aD5 S2 w' ct v:=aYa (P:=P) zp (aUY rl ic) fun b hb=> .inr hb
             have ud:aB7 S w S2 w':=by
              refine ⟨cz.os,cz.tape,cz.output,cz.grow,fun b hb=>cz.old b hb j1v,fun b hb=> .inl (cz.later.1 b hb), ?_,?_⟩
              . rintro b (hb|hb)
                . rcases cz.newS b hb with h|⟨m,hm⟩|h
                  . exact .inl h
                  . simp at hm
                  . exact .inr h
                . rcases cz.newL b hb with ⟨m,hm⟩|h
                  . simp at hm
                  . exact .inr h
              . rintro b (hb|hb)
                . exact cz.sdom b hb
                . obtain ⟨m,hm⟩:=hb
                  obtain ⟨j,hj,e⟩:=List.mem_iff_getElem.1 hm
                  have fj:lV ([]:List (Option (Nat->List DV))) []++b6=b6:=rfl
                  rw [fj] at gf;exact (gf.get j b m x8).2.1
             obtain ⟨k1,k2⟩:=a6.ext0 ud
             obtain ⟨st',k3,k4⟩:=qT (yT (x:=aAn ct) hl) k1 (aSb DN)
             exact ⟨v,rfl,hn _ _ _ _ _ k3 k4 k2⟩
           . exact g2.elim
         . exact g2.elim
       . exact hk.elim
     . rename_i g as hf ha
       refine aNV a6 ae hf ha ?_
       unfold dFv at hk;refine aCI hk fun cs e=> ?_
       split at e
       . rename_i hg
         rw [oL] at e
         try rw [hg]
         exact ⟨e.1,fun h=>by obtain ⟨e2,_⟩:=e.2 h;rw [e2];exact yT hl⟩
       . exact e.elim
     . exact hk.elim
   . obtain ⟨x',g1,g2⟩:=yZ _ _ _ _ _ hk
     obtain ⟨rfl,_⟩:=g1
     refine aBq ab hz a6 ae ?_
     exact aFj g2 fun y e=>by subst e;exact yT hl
 . rename_i t len parts ae
   exact aUS ab hz a6 ae (aUz hk fun y e=>by obtain ⟨rfl,_⟩:=e;exact yT hl)
 . obtain ⟨x',g1,g2⟩:=yZ _ _ _ _ _ hk
   obtain ⟨rfl,_⟩:=g1
   refine aBq ab hz a6 rfl ?_
   exact aFj g2 fun y e=>by subst e;exact yT hl
end
end Go.Sx
