/- The eye looks at an expression. No condition. -/
import Derived.Test.YtokjghkehojenaaGreatL14
set_option linter.all false
set_option maxHeartbeats 8000000
set_option maxRecDepth 100000
namespace Go.Proofs.YtokjghkehojenaaGreat
open Go.Sx
open Go.RowKit Go.Lib Go.Sort
theorem mExA {R:Ro} (hR:R.ok) (s:Se) (op n:Int) (x:ByteArray) (k_:Nat) (f_:Nat->List DV) (at_:Int) (hs:okSe R s) (hop:rI op) (hk: ¬needsI op=k_):Meth Tryz.prog 20 [.c (.own 0 0),.agg [.d (it op),.d (it n),.d (st x),.d (.lst 5 k_ f_),.d (it at_)]] (HE R s) (vlT Vl.zero) (HE R s):=by
 unfold rI at hop;have hr:=needs_r op
 have h3:((k_:Int) !=needsI op)=true:=by unfold bne;rw [beq_eq_false_iff_ne.2 (fun e=>hk e.symm)];rfl
 refine meth_of (c:=13) (inl tys_ok (l:= [(41,⟨[],FNeeds⟩)]) ⟨fcNeeds,trivial⟩ Tryz.func20 rfl (by kernel_rfl) (by kernel_rfl) rfl ?_)
 repeat' (first|exact trivial|(with_reducible first|assumption|exact n1|exact n2|exact nd|exact nx h3)|refine ⟨?_, ?_⟩|intro _)
 all_goals first|(with_reducible apply qq)|(conv=>whnf)
 all_goals (try simp only [gGs_row,gN_lst,gN_canon])
 all_goals first|(exact rfl)|(rw [List.length_append];rfl)|(exact row_snocK rfl _ (by assumption))|omega|((with_reducible show idsOk _ _=true);rfl)|(intro _ _;rfl)|exact Nat.zero_le _|decide
theorem mEx0 {R:Ro} (hR:R.ok) (s:Se) (op n:Int) (x:ByteArray) (f_:Nat->List DV) (at_:Int) (hs:okSe R s) (hop:rI op) (hn:rI n) (hk:needsI op=0):Meth Tryz.prog 20 [.c (.own 0 0),.agg [.d (it op),.d (it n),.d (st x),.d (.lst 5 0 f_),.d (it at_)]] (HE R s) (vlT (leafS R s op n x).1) (HE R (leafS R s op n x).2):=by
 have ml:=mLeaf hR s op n x 0 f_ at_ hs hop hn
 have hop':=hop
 unfold rI at hop'
 have h2:decide (needsI op<0)=false:=by rw [hk];rfl
 have h3:(((0:Nat):Int) !=needsI op)=false:=by rw [hk];rfl
 have h4:(needsI op==0)=true:=by rw [hk];rfl
 refine meth_of (c:=13) (inl tys_ok (l:= [(41,⟨[],FNeeds⟩)]) ⟨fcNeeds,trivial⟩ Tryz.func20 rfl (by kernel_rfl) (by kernel_rfl) rfl ?_)
 repeat' (first|exact trivial|(with_reducible first|assumption|exact n1|exact n2|exact nd|exact nx h2|exact nx h3|exact nx h4)|refine ⟨?_, ?_⟩|intro _)
 all_goals first|(with_reducible apply qq)|(conv=>whnf)
 all_goals first|((with_reducible show ASat _ _ (.loop _) _ _);refine loop_unr tys_ok (l:= [(41,⟨[],FNeeds⟩)]) ⟨fcNeeds,trivial⟩ (by kernel_rfl) 1 ?_)|skip
 all_goals repeat' (first|exact trivial|(with_reducible first|assumption|exact n1|exact n2|exact nd|exact nx h2|exact nx h3|exact nx h4)|refine ⟨?_, ?_⟩|intro _)
 all_goals first|(with_reducible apply qq)|(conv=>whnf)
 all_goals first|((with_reducible show Tl _ _);apply tl_intro; · (repeat' (first|exact trivial|refine ⟨?_, ?_⟩|intro _))<;>(first|exact rfl|omega|assumption|(dsimp only;omega)))|skip
 all_goals repeat' (first|exact trivial|(with_reducible first|assumption|exact n1|exact n2|exact nd|exact nx h2|exact nx h3|exact nx h4)|refine ⟨?_, ?_⟩|intro _)
 all_goals first|(with_reducible apply qq)|(conv=>whnf)
 all_goals first|((with_reducible show ACall _ _ 42 _ _ _);refine Meth.go 13 ml rfl rfl rfl rfl rfl rfl ?_ ?_ ?_)|skip
 all_goals repeat' (first|exact trivial|(with_reducible first|assumption|exact n1|exact n2|exact nd|exact nx h2|exact nx h3|exact nx h4)|refine ⟨?_, ?_⟩|intro _)
 all_goals first|(with_reducible apply qq)|(conv=>whnf)
 all_goals first|((with_reducible show Tl _ _);apply tl_intro; · (repeat' (first|exact trivial|refine ⟨?_, ?_⟩|intro _))<;>(first|exact rfl|omega|assumption|(dsimp only;omega)))|skip
 all_goals repeat' (first|exact trivial|(with_reducible first|assumption|exact n1|exact n2|exact nd|exact nx h2|exact nx h3|exact nx h4)|refine ⟨?_, ?_⟩|intro _)
 all_goals first|(with_reducible apply qq)|(conv=>whnf)
 all_goals (try simp only [gGs_row,gN_lst,gN_canon])
 all_goals first|(exact rfl)|(rw [List.length_append];rfl)|(exact row_snocK rfl _ (by assumption))|omega|((with_reducible show idsOk _ _=true);rfl)|(intro _ _;rfl)|exact Nat.zero_le _|decide
theorem mEx1 {R:Ro} (hR:R.ok) (s:Se) (op n:Int) (x:ByteArray) (at_:Int) (hs:okSe R s) (hop:rI op) (hn:rI n) (hk:needsI op=1) (op0 n0:Int) (x0:ByteArray) (kd0:DV) (at0:Int) (V0:Vl) (S0:Se) (hV0:okV V0) (hS0:okSe R S0) (hd0:kd0= .v (.slice none 0 0) \/ ∃k g,kd0= .lst 5 k g)
 (hm:Meth Tryz.prog 20 [.c (.own 0 0),.agg [.d (it op0),.d (it n0),.d (st x0),.d (kd0),.d (it at0)]] (HE R s) (vlT V0) (HE R S0)):Meth Tryz.prog 20 [.c (.own 0 0),.agg [.d (it op),.d (it n),.d (st x),.d (.lst 5 1 fun _=>(xpC op0 n0 x0 kd0 at0)),.d (it at_)]] (HE R s) (vlT (oneS R S0 op x V0).1) (HE R (oneS R S0 op x V0).2):=by
 have hop':=hop
 unfold rI at hop'
 have h2:decide (needsI op<0)=false:=by rw [hk];rfl
 have h3:(((1:Nat):Int) !=needsI op)=false:=by rw [hk];rfl
 have h4:(needsI op==0)=false:=by rw [hk];rfl
 have h5:(needsI op==1)=true:=by rw [hk];rfl
 have mo:=mOne hR S0 op n x 1 (fun _=>(xpC op0 n0 x0 kd0 at0)) at_ V0 hS0 hop hn hV0
 rcases hd0 with rfl|⟨k0,g0,rfl⟩
 all_goals refine meth_of (c:=13) (inl tys_ok (l:= [(41,⟨[],FNeeds⟩)]) ⟨fcNeeds,trivial⟩ Tryz.func20 rfl (by kernel_rfl) (by kernel_rfl) rfl ?_)
 all_goals repeat' (first|exact trivial|(with_reducible first|assumption|exact n1|exact n2|exact nd|exact nx h2|exact nx h3|exact nx h4|exact nx h5)|refine ⟨?_, ?_⟩|intro _)
 all_goals first|(with_reducible apply qq)|(conv=>whnf)
 all_goals first|((with_reducible show ASat _ _ (.loop _) _ _);refine loop_unr tys_ok (l:= [(41,⟨[],FNeeds⟩)]) ⟨fcNeeds,trivial⟩ (by kernel_rfl) 2 ?_)|skip
 all_goals repeat' (first|exact trivial|(with_reducible first|assumption|exact n1|exact n2|exact nd|exact nx h2|exact nx h3|exact nx h4|exact nx h5)|refine ⟨?_, ?_⟩|intro _)
 all_goals first|(with_reducible apply qq)|(conv=>whnf)
 all_goals first|((with_reducible show Tl _ _);apply tl_intro; · (repeat' (first|exact trivial|refine ⟨?_, ?_⟩|intro _))<;>(first|exact rfl|omega|assumption|(dsimp only;omega)))|skip
 all_goals repeat' (first|exact trivial|(with_reducible first|assumption|exact n1|exact n2|exact nd|exact nx h2|exact nx h3|exact nx h4|exact nx h5)|refine ⟨?_, ?_⟩|intro _)
 all_goals first|(with_reducible apply qq)|(conv=>whnf)
 all_goals first|((with_reducible show ACall _ _ 20 _ _ _);refine Meth.go 13 hm rfl rfl rfl rfl rfl rfl ?_ ?_ ?_)|skip
 all_goals repeat' (first|exact trivial|(with_reducible first|assumption|exact n1|exact n2|exact nd|exact nx h2|exact nx h3|exact nx h4|exact nx h5)|refine ⟨?_, ?_⟩|intro _)
 all_goals first|(with_reducible apply qq)|(conv=>whnf)
 all_goals first|((with_reducible show Tl _ _);apply tl_intro; · (repeat' (first|exact trivial|refine ⟨?_, ?_⟩|intro _))<;>(first|exact rfl|omega|assumption|(dsimp only;omega)))|skip
 all_goals repeat' (first|exact trivial|(with_reducible first|assumption|exact n1|exact n2|exact nd|exact nx h2|exact nx h3|exact nx h4|exact nx h5)|refine ⟨?_, ?_⟩|intro _)
 all_goals first|(with_reducible apply qq)|(conv=>whnf)
 all_goals first|((with_reducible show ACall _ _ 43 _ _ _);refine Meth.go 13 mo rfl rfl rfl rfl rfl rfl ?_ ?_ ?_)|skip
 all_goals repeat' (first|exact trivial|(with_reducible first|assumption|exact n1|exact n2|exact nd|exact nx h2|exact nx h3|exact nx h4|exact nx h5)|refine ⟨?_, ?_⟩|intro _)
 all_goals first|(with_reducible apply qq)|(conv=>whnf)
 all_goals first|((with_reducible show Tl _ _);apply tl_intro; · (repeat' (first|exact trivial|refine ⟨?_, ?_⟩|intro _))<;>(first|exact rfl|omega|assumption|(dsimp only;omega)))|skip
 all_goals repeat' (first|exact trivial|(with_reducible first|assumption|exact n1|exact n2|exact nd|exact nx h2|exact nx h3|exact nx h4|exact nx h5)|refine ⟨?_, ?_⟩|intro _)
 all_goals first|(with_reducible apply qq)|(conv=>whnf)
 all_goals (try simp only [gGs_row,gN_lst,gN_canon])
 all_goals first|(exact rfl)|(rw [List.length_append];rfl)|(exact row_snocK rfl _ (by assumption))|omega|((with_reducible show idsOk _ _=true);rfl)|(intro _ _;rfl)|exact Nat.zero_le _|decide
abbrev sl7L:List (Nat×Sm):= [(41,⟨[],FNeeds⟩),(15,⟨[],FArrays⟩),(44,⟨[],FCDo⟩)]
theorem sp7L:sumsOk Tryz.prog sl7L:=⟨fcNeeds,fcArrays,fcCDo,trivial⟩
theorem mEx2 {R:Ro} (hR:R.ok) (s:Se) (op n:Int) (x:ByteArray) (at_:Int) (hs:okSe R s) (hop:rI op) (hn:rI n) (hk:needsI op=2) (op0 n0:Int) (x0:ByteArray) (kd0:DV) (at0:Int) (V0:Vl) (S0:Se) (hV0:okV V0) (hS0:okSe R S0) (hd0:kd0= .v (.slice none 0 0) \/ ∃k g,kd0= .lst 5 k g) (op1 n1:Int) (x1:ByteArray) (kd1:DV) (at1:Int) (V1:Vl) (S1:Se) (hV1:okV V1) (hS1:okSe R S1) (hd1:kd1= .v (.slice none 0 0) \/ ∃k g,kd1= .lst 5 k g)
 (hm:Meth Tryz.prog 20 [.c (.own 0 0),.agg [.d (it op0),.d (it n0),.d (st x0),.d (kd0),.d (it at0)]] (HE R s) (vlT V0) (HE R S0)) (hm2:Meth Tryz.prog 20 [.c (.own 0 0),.agg [.d (it op1),.d (it n1),.d (st x1),.d (kd1),.d (it at1)]] (HE R S0) (vlT V1) (HE R S1)):Meth Tryz.prog 20 [.c (.own 0 0),.agg [.d (it op),.d (it n),.d (st x),.d (.lst 5 2 fun j=>match j with|0=>(xpC op0 n0 x0 kd0 at0)|_=>(xpC op1 n1 x1 kd1 at1)),.d (it at_)]] (HE R s) (vlT (calcDo op V0 V1 (arrS R.G R.G.length))) (HE R S1):=by
 have hG:=rows_okG hR.g
 have hgn:=hR.gn
 have hgg:=gGs_row R.G
 have hal:=arrS_len R.G R.G.length
 have hop':=hop
 unfold rI at hop'
 have h2:decide (needsI op<0)=false:=by rw [hk];rfl
 have h3:(((2:Nat):Int) !=needsI op)=false:=by rw [hk];rfl
 have h4:(needsI op==0)=false:=by rw [hk];rfl
 have h5:(needsI op==1)=false:=by rw [hk];rfl
 rcases hd0 with rfl|⟨k0,g0,rfl⟩<;>rcases hd1 with rfl|⟨k1,g1,rfl⟩
 all_goals refine meth_of (c:=13) (inl tys_ok (l:=sl7L) sp7L Tryz.func20 rfl (by kernel_rfl) (by kernel_rfl) rfl ?_)
 all_goals repeat' (first|exact trivial|(with_reducible first|assumption|exact n1|exact n2|exact nd|exact nx h2|exact nx h3|exact nx h4|exact nx h5)|refine ⟨?_, ?_⟩|intro _)
 all_goals first|(with_reducible apply qq)|(conv=>whnf)
 all_goals first|((with_reducible show ASat _ _ (.loop _) _ _);refine loop_unr tys_ok (l:=sl7L) sp7L (by kernel_rfl) 3 ?_)|skip
 all_goals repeat' (first|exact trivial|(with_reducible first|assumption|exact n1|exact n2|exact nd|exact nx h2|exact nx h3|exact nx h4|exact nx h5)|refine ⟨?_, ?_⟩|intro _)
 all_goals first|(with_reducible apply qq)|(conv=>whnf)
 all_goals first|((with_reducible show Tl _ _);apply tl_intro; · (repeat' (first|exact trivial|refine ⟨?_, ?_⟩|intro _))<;>(first|exact rfl|omega|assumption|(dsimp only;omega)))|skip
 all_goals repeat' (first|exact trivial|(with_reducible first|assumption|exact n1|exact n2|exact nd|exact nx h2|exact nx h3|exact nx h4|exact nx h5)|refine ⟨?_, ?_⟩|intro _)
 all_goals first|(with_reducible apply qq)|(conv=>whnf)
 all_goals first|((with_reducible show ACall _ _ 20 _ _ _);refine Meth.go 13 hm rfl rfl rfl rfl rfl rfl ?_ ?_ ?_)|skip
 all_goals repeat' (first|exact trivial|(with_reducible first|assumption|exact n1|exact n2|exact nd|exact nx h2|exact nx h3|exact nx h4|exact nx h5)|refine ⟨?_, ?_⟩|intro _)
 all_goals first|(with_reducible apply qq)|(conv=>whnf)
 all_goals first|((with_reducible show Tl _ _);apply tl_intro; · (repeat' (first|exact trivial|refine ⟨?_, ?_⟩|intro _))<;>(first|exact rfl|omega|assumption|(dsimp only;omega)))|skip
 all_goals repeat' (first|exact trivial|(with_reducible first|assumption|exact n1|exact n2|exact nd|exact nx h2|exact nx h3|exact nx h4|exact nx h5)|refine ⟨?_, ?_⟩|intro _)
 all_goals first|(with_reducible apply qq)|(conv=>whnf)
 all_goals first|((with_reducible show ACall _ _ 20 _ _ _);refine Meth.go 13 hm2 rfl rfl rfl rfl rfl rfl ?_ ?_ ?_)|skip
 all_goals repeat' (first|exact trivial|(with_reducible first|assumption|exact n1|exact n2|exact nd|exact nx h2|exact nx h3|exact nx h4|exact nx h5)|refine ⟨?_, ?_⟩|intro _)
 all_goals first|(with_reducible apply qq)|(conv=>whnf)
 all_goals first|((with_reducible show Tl _ _);apply tl_intro; · (repeat' (first|exact trivial|refine ⟨?_, ?_⟩|intro _))<;>(first|exact rfl|omega|assumption|(dsimp only;omega)))|skip
 all_goals repeat' (first|exact trivial|(with_reducible first|assumption|exact n1|exact n2|exact nd|exact nx h2|exact nx h3|exact nx h4|exact nx h5)|refine ⟨?_, ?_⟩|intro _)
 all_goals first|(with_reducible apply qq)|(conv=>whnf)
 all_goals first|((with_reducible show ASat _ _ (.region 15 _ _) _ _);refine draw_sto tys_ok (l:=sl7L) sp7L (by kernel_rfl) 13 [] (.all [(13,.done)]) [0,1,3,4,5,6,7,8,20,23,24,25,26,36,37,42] (by kernel_rfl) (by kernel_rfl) ?_)|skip
 all_goals repeat' (first|exact trivial|(with_reducible first|assumption|exact n1|exact n2|exact nd|exact nx h2|exact nx h3|exact nx h4|exact nx h5)|refine ⟨?_, ?_⟩|intro _)
 all_goals first|(with_reducible apply qq)|(conv=>whnf)
 all_goals first|((with_reducible show Tl _ _);apply tl_intro; · (repeat' (first|exact trivial|refine ⟨?_, ?_⟩|intro _))<;>(first|exact rfl|omega|assumption|(dsimp only;omega)))|skip
 all_goals repeat' (first|exact trivial|(with_reducible first|assumption|exact n1|exact n2|exact nd|exact nx h2|exact nx h3|exact nx h4|exact nx h5)|refine ⟨?_, ?_⟩|intro _)
 all_goals first|(with_reducible apply qq)|(conv=>whnf)
 all_goals (try simp only [gGs_row,gN_lst,gN_canon])
 all_goals first|(exact rfl)|(rw [List.length_append];rfl)|(exact row_snocK rfl _ (by assumption))|omega|((with_reducible show idsOk _ _=true);rfl)|(intro _ _;rfl)|exact Nat.zero_le _|decide|exact hV0.1.1|exact hV0.2.1.1.1|exact hV0.2.1.1.2|exact hV0.2.1.2.1|exact hV0.2.1.2.2|exact hV0.2.2.1.1|exact hV0.2.2.1.2|exact hV0.2.2.2.1|exact hV0.2.2.2.2|exact hV1.1.1|exact hV1.2.1.1.1|exact hV1.2.1.1.2|exact hV1.2.1.2.1|exact hV1.2.1.2.2|exact hV1.2.2.1.1|exact hV1.2.2.1.2|exact hV1.2.2.2.1|exact hV1.2.2.2.2
end Go.Proofs.YtokjghkehojenaaGreat
namespace Go.Proofs.YtokjghkehojenaaGreat
open Go.Sx
open Go.RowKit Go.Lib Go.Sort
theorem xok_succ {M:Nat} {c:List DV} (h:XOk M c): ∃op n x kd at_,c=xpC op n x kd at_/\ (kd= .v (.slice none 0 0) \/ ∃k g,kd= .lst 5 k g):=by
 cases M with
 |zero=>exact h.elim
 |succ M=>
  obtain ⟨op,n,x,kd,at_,e, -, -, -,hk⟩:=h
  refine ⟨op,n,x,kd,at_,e, ?_⟩
  rcases hk with h|⟨k,f,h, -⟩
  . exact .inl h
  . exact .inr ⟨k,f,h⟩
theorem mExpr {R:Ro} (hR:R.ok): ∀M {s:Se} {c:List DV},okSe R s->XOk M c->Meth Tryz.prog 20 [.c (.own 0 0),.agg (c.map .d)] (HE R s) (vlT (exprS R M s c).1) (HE R (exprS R M s c).2)
 |0,_,_,_,h=>h.elim
 |M+1,s,c,hs,h=>by
  obtain ⟨op,n,x,kd,at_,rfl,h1,h2, -,hk⟩:=h
  have main: ∀k f,(∀i,i<k->XOk M (f i))->Meth Tryz.prog 20 [.c (.own 0 0),.agg [.d (it op),.d (it n),.d (st x),.d (.lst 5 k f),.d (it at_)]] (HE R s) (vlT (exprS R (M+1) s (xpC op n x (.lst 5 k f) at_)).1) (HE R (exprS R (M+1) s (xpC op n x (.lst 5 k f) at_)).2):=by
   intro k f hf;by_cases hn:needsI op=(k:Int)
   . have hr:=needs_r op
     have hk:k=0 \/k=1 \/k=2:=by omega
     rcases hk with rfl|rfl|rfl
     . have e:exprS R (M+1) s (xpC op n x (.lst 5 0 f) at_)=leafS R s op n x:=by
        show (if _ then _ else _)=_
        exact (if_pos hn).trans rfl
       rw [e];exact mEx0 hR s op n x f at_ hs h1 h2 hn
     . have h0:=hf 0 (by omega)
       have m0:=mExpr hR M hs h0
       have o0:=exprS_ok hR M hs h0
       have e:exprS R (M+1) s (xpC op n x (.lst 5 1 f) at_)=oneS R (exprS R M s (f 0)).2 op x (exprS R M s (f 0)).1:=by
        show (if _ then _ else _)=_
        exact (if_pos hn).trans rfl
       rw [e];obtain ⟨op0,n0,x0,kd0,at0,e0,hd0⟩:=xok_succ h0
       rw [e0] at m0 o0⊢;refine (mEx1 hR s op n x at_ hs h1 h2 hn op0 n0 x0 kd0 at0 _ _ o0.v o0.s hd0 m0).arg ⟨⟨rfl,rfl⟩,⟨rfl,rfl,rfl,⟨rfl,rfl,fun i hi=> ?_⟩,rfl,trivial⟩,trivial⟩
       obtain rfl:i=0:=by omega
       exact e0
     . have h0:=hf 0 (by omega)
       have g1:=hf 1 (by omega)
       have m0:=mExpr hR M hs h0
       have o0:=exprS_ok hR M hs h0
       have m1:=mExpr hR M o0.s g1
       have o1:=exprS_ok hR M o0.s g1
       have e:exprS R (M+1) s (xpC op n x (.lst 5 2 f) at_)=(calcDo op (exprS R M s (f 0)).1 (exprS R M (exprS R M s (f 0)).2 (f 1)).1 (arrS R.G R.G.length),(exprS R M (exprS R M s (f 0)).2 (f 1)).2):=by
        show (if _ then _ else _)=_
        exact (if_pos hn).trans rfl
       rw [e];obtain ⟨op0,n0,x0,kd0,at0,e0,hd0⟩:=xok_succ h0
       obtain ⟨op1,n1,x1,kd1,at1,e1,hd1⟩:=xok_succ g1
       rw [e0] at m0 o0 m1 o1⊢;rw [e1] at m1 o1⊢;refine (mEx2 hR s op n x at_ hs h1 h2 hn op0 n0 x0 kd0 at0 _ _ o0.v o0.s hd0 op1 n1 x1 kd1 at1 _ _ o1.v o1.s hd1 m0 m1).arg ⟨⟨rfl,rfl⟩,⟨rfl,rfl,rfl,⟨rfl,rfl,fun i hi=> ?_⟩,rfl,trivial⟩,trivial⟩
       match i,hi with
       |0,_=>exact e0
       |1,_=>exact e1
   . have e:exprS R (M+1) s (xpC op n x (.lst 5 k f) at_)=(Vl.zero,s):=by
      show (if _ then _ else _)=_
      exact if_neg hn
     rw [e];exact mExA hR s op n x k f at_ hs h1 hn
  rcases hk with rfl|⟨k,f,rfl, -,hf⟩
  . exact (main 0 (fun _=> []) (fun i hi=>absurd hi (Nat.not_lt_zero i))).arg ⟨⟨rfl,rfl⟩,⟨rfl,rfl,rfl,⟨rfl,rfl⟩,rfl,trivial⟩,trivial⟩
  . exact main k f hf
def tellS (p:Vl×Se):Vl:=if p.2.wants=true then Vl.zero else p.1.of
abbrev seL (k:Nat) (s:Se) (v:Vl):List Cell:= [.d (bo v.i.s.some),.d (it v.i.s.lo),.d (it v.i.s.hi),.d (bo v.i.c.some),.d (it v.i.c.m),.d (it v.i.c.r),.d (bo v.t.null),.d (lst v.t.names),.osl k 2 0 s.gets.length,.d (bo s.wants),.d (st s.want.name),.d (it s.want.node)]
abbrev HT (R:Ro) (s:Se) (v:Vl):List (Nat×Blk):= [(0,.cells ([.d (lstG R.G),.d (.lst 5 R.c R.d),.d (bo R.lv),.d (lstB R.B),.d (lstD R.D)]++seL 1 s v)),(1,.row 2 s.gets.length (rwK s.gets))]
theorem mTell (R:Ro) (s:Se) (v:Vl) (hv:okV v):Meth Tryz.prog 19 [.c (.own 0 0),.agg [.d (bo (v).i.s.some),.d (it (v).i.s.lo),.d (it (v).i.s.hi),.d (bo (v).i.c.some),.d (it (v).i.c.m),.d (it (v).i.c.r),.d (bo (v).t.null),.d (lst (v).t.names)]] (HE R s) (.va (.agg (seL 1 s (tellS (v,s))))) (HT R s (tellS (v,s))):=by
 cases h1:s.wants with
 |true=>
  have e:tellS (v,s)=Vl.zero:=if_pos h1
  rw [e];refine meth_of (c:=13) (inl tys_ok (l:= [(40,⟨[],FVCleanV⟩)]) ⟨fcVCleanV,trivial⟩ Tryz.func19 rfl (by kernel_rfl) (by kernel_rfl) rfl ?_)
  repeat' (first|exact trivial|(with_reducible first|exact n1|exact n2|exact nx h1|exact (nx (congrArg Bool.not h1)))|refine ⟨?_, ?_⟩|intro _)
  all_goals first|(with_reducible apply qq)|(conv=>whnf)
  all_goals (try simp only [gN_lst,gN_canon])
  all_goals first|(exact rfl)|(rw [List.length_append];rfl)|(exact row_snocK rfl _ (by assumption))|omega|((with_reducible show idsOk _ _=true);rfl)|(intro _ _;rfl)|exact Nat.zero_le _|decide|exact hv.1.1|exact hv.2.1.1.1|exact hv.2.1.1.2|exact hv.2.1.2.1|exact hv.2.1.2.2|exact hv.2.2.1.1|exact hv.2.2.1.2|exact hv.2.2.2.1|exact hv.2.2.2.2
 |false=>
  have e:tellS (v,s)=v.of:=if_neg (by rw [h1];decide)
  rw [e];refine meth_of (c:=13) (inl tys_ok (l:= [(40,⟨[],FVCleanV⟩)]) ⟨fcVCleanV,trivial⟩ Tryz.func19 rfl (by kernel_rfl) (by kernel_rfl) rfl ?_)
  repeat' (first|exact trivial|(with_reducible first|exact n1|exact n2|exact nx h1|exact (nx (congrArg Bool.not h1)))|refine ⟨?_, ?_⟩|intro _)
  all_goals first|(with_reducible apply qq)|(conv=>whnf)
  all_goals (try simp only [gN_lst,gN_canon])
  all_goals first|(exact rfl)|(rw [List.length_append];rfl)|(exact row_snocK rfl _ (by assumption))|omega|((with_reducible show idsOk _ _=true);rfl)|(intro _ _;rfl)|exact Nat.zero_le _|decide|exact hv.1.1|exact hv.2.1.1.1|exact hv.2.1.1.2|exact hv.2.1.2.1|exact hv.2.1.2.2|exact hv.2.2.1.1|exact hv.2.2.1.2|exact hv.2.2.2.1|exact hv.2.2.2.2
end Go.Proofs.YtokjghkehojenaaGreat
namespace Go.Proofs.YtokjghkehojenaaGreat
open Go.Sx
open Go.RowKit Go.Lib Go.Sort
structure XOkS (M:Nat) (c:List DV):Prop where
 h:True->XOk M c
theorem canonG {n:Nat} {f:Nat->List DV} (h:RowsG n f):DvE (.lst 4 n f) (.lst 4 n (rwG (gGs n f))):=
 .rows fun i hi=>by rw [rowG_eq h i hi];exact ⟨rfl,fun j a b ha hb=>by rw [ha] at hb;cases hb;exact .refl _⟩
abbrev seAr (v:Vl) (s:Se):Ar:= .agg [.d (bo v.i.s.some),.d (it v.i.s.lo),.d (it v.i.s.hi),.d (bo v.i.c.some),.d (it v.i.c.m),.d (it v.i.c.r),.d (bo v.t.null),.d (lst v.t.names),.d (lstK s.gets),.d (bo s.wants),.d (st s.want.name),.d (it s.want.node)]
def lookS (R:Ro) (M:Nat) (c:List DV):Vl×Se:=if R.lv=true then (tellS (exprS R M ⟨[],false,⟨⟨#[]⟩,0⟩⟩ c),(exprS R M ⟨[],false,⟨⟨#[]⟩,0⟩⟩ c).2) else (Vl.zero,⟨[],false,⟨⟨#[]⟩,0⟩⟩)
def FLookX (M:Nat):List Ar->Option Rs
 | [.agg [.d (.lst 4 n0 f0),.d (.lst 5 c0 d0),.d (.v (.bool e0)),.d (.lst 9 p0 q0),.d (.lst 12 u0 w0)],.agg [.d (.v (.int .i64 i1)),.d (.v (.int .i64 j1)),.d (.v (.string x1)),.d k1,.d (.v (.int .i64 a1))]]=>some ⟨((n0<=1099511627776/\ RowsG n0 f0)/\ (p0<=1099511627776/\ RowsOk p0 q0)/\ (u0<=1099511627776/\ RowsD u0 w0)/\ (∀x,x∈gBs p0 q0->x.v.t.names.length<=1048576)/\ (∀x,x∈gD u0 w0->x.s.v.t.names.length<=1048576))/\ (XOkS M (xpC i1 j1 x1 k1 a1)),.va (seAr (lookS (⟨gGs n0 f0,c0,d0,e0,gBs p0 q0,gD u0 w0⟩:Ro) M (xpC i1 j1 x1 k1 a1)).1 (lookS (⟨gGs n0 f0,c0,d0,e0,gBs p0 q0,gD u0 w0⟩:Ro) M (xpC i1 j1 x1 k1 a1)).2),[]⟩
 |_=>none
theorem fcLookX (M:Nat):FC Tryz.prog 5 (FLookX M):=by
 intro xs pre r us h hp;unfold FLookX at h;split at h
 . rename_i n0 f0 c0 d0 e0 p0 q0 u0 w0 i1 j1 x1 k1 a1
   cases h;obtain ⟨hp0,hp1⟩:=hp
   refine FCat.deep (ys:= [.agg [.d (.lst 4 n0 (rwG (gGs n0 f0))),.d (.lst 5 c0 d0),.d (.v (.bool e0)),.d (.lst 9 p0 (rwB (gBs p0 q0))),.d (.lst 12 u0 (rwD (gD u0 w0)))],.agg [.d (.v (.int .i64 i1)),.d (.v (.int .i64 j1)),.d (.v (.string x1)),.d k1,.d (.v (.int .i64 a1))]]) ?_ ?_
   . repeat' (first|exact trivial|exact rfl|exact DvE.refl _|refine ⟨?_, ?_⟩|fail)
     all_goals first|first|exact canonG hp0.1.2|exact canonB hp0.2.1.2.h|exact canonD hp0.2.2.1.2.h
   refine fcat tys_ok (l:= []) trivial Tryz.func5 rfl (by kernel_rfl) true ?_
   have hR:Ro.ok ⟨gGs n0 f0,c0,d0,e0,gBs p0 q0,gD u0 w0⟩:=⟨okG_rows hp0.1.2,by rw [gGs_length];exact hp0.1.1,okL_rows hp0.2.1.2,by rw [gBs_length];exact hp0.2.1.1,okD_rows hp0.2.2.1.2,by rw [gD_length];exact hp0.2.2.1.1,hp0.2.2.2.1,hp0.2.2.2.2⟩
   have l1:=gGs_length n0 f0
   have l2:=gBs_length p0 q0
   have l3:=gD_length u0 w0
   generalize gGs n0 f0=G_ at*
   generalize gBs p0 q0=B_ at*
   generalize gD u0 w0=D_ at*
   clear hp0;subst l1 l2 l3;have hz:okSe ⟨G_,c0,d0,e0,B_,D_⟩ ⟨[],false,⟨⟨#[]⟩,0⟩⟩:=⟨List.nodup_nil,fun k h=>by cases h⟩
   have hx:=hp1.h trivial
   have hme:=mExpr hR M hz hx
   have hke:=exprS_ok hR M hz hx
   have hmt:=mTell ⟨G_,c0,d0,e0,B_,D_⟩ (exprS ⟨G_,c0,d0,e0,B_,D_⟩ M ⟨[],false,⟨⟨#[]⟩,0⟩⟩ (xpC i1 j1 x1 k1 a1)).2 (exprS ⟨G_,c0,d0,e0,B_,D_⟩ M ⟨[],false,⟨⟨#[]⟩,0⟩⟩ (xpC i1 j1 x1 k1 a1)).1 hke.v
   obtain ⟨_,_,_,_,_,ex,hkk⟩:=xok_succ hx
   cases ex;unfold lookS
   generalize exprS ⟨G_,c0,d0,e0,B_,D_⟩ M ⟨[],false,⟨⟨#[]⟩,0⟩⟩ (xpC i1 j1 x1 k1 a1)=P_ at*
   rcases hkk with rfl|⟨k_,g_,rfl⟩<;>cases e0
   all_goals all_goals repeat' (first|exact trivial|(with_reducible first|exact n1|exact n2|exact nd)|refine ⟨?_, ?_⟩|intro _)
   all_goals first|(with_reducible apply qq)|(conv=>whnf)
   all_goals first|((with_reducible show ACall _ _ 20 _ _ _);refine Meth.use (nv:=1) [3] hme rfl rfl rfl rfl rfl rfl ?_ ?_ ?_)|skip
   all_goals repeat' (first|exact trivial|(with_reducible first|exact n1|exact n2|exact nd)|refine ⟨?_, ?_⟩|intro _)
   all_goals first|(with_reducible apply qq)|(conv=>whnf)
   all_goals first|((with_reducible show ACall _ _ 19 _ _ _);refine Meth.use (nv:=0) [3,4] hmt rfl rfl rfl rfl rfl rfl ?_ ?_ ?_)|skip
   all_goals repeat' (first|exact trivial|(with_reducible first|exact n1|exact n2|exact nd)|refine ⟨?_, ?_⟩|intro _)
   all_goals first|(with_reducible apply qq)|(conv=>whnf)
   all_goals (try simp only [gKs_row,gN_lst,gN_canon])
   all_goals first|(exact rfl)|(rw [List.length_append];rfl)|(exact row_snocK rfl _ (by assumption))|omega|((with_reducible show idsOk _ _=true);rfl)|(intro _ _;rfl)|exact Nat.zero_le _|decide|(rw [Nat.zero_add];rfl)
 . cases h
end Go.Proofs.YtokjghkehojenaaGreat
namespace Go.Proofs.YtokjghkehojenaaGreat
open Go.Sx
open Go.RowKit Go.Lib Go.Sort
theorem hasKy_t {k:Ky} {L:List Ky} {i:Nat} (hi:i<L.length) (h2:eqK (atK L i) k=true):hasKy L k=true:=decide_eq_true (by rw [<-eqK_iff.1 h2];exact atK_mem hi)
theorem hasKy_f {k:Ky} {L:List Ky} (h1: ∀j,j<L.length->eqK (atK L j) k=false):hasKy L k=false:=decide_eq_false fun h=>by
 obtain ⟨j,hj,e⟩:=mem_atK h
 have:=h1 j hj
 rw [eqK_iff.2 e] at this;cases this
theorem atK_get {L:List Ky} {k:Nat} (h:k<L.length):atK L k=L[k]:=by unfold atK;rw [List.getD_eq_getElem?_getD,List.getElem?_eq_getElem h];rfl
theorem keys_t {L M:List Ky} (hl:L.length=M.length) (h: ∀k,k<L.length->eqK (atK L k) (atK M k)=true):decide (L=M)=true:=decide_eq_true<|List.ext_getElem hl fun i h1 h2=>by
 have:=eqK_iff.1 (h i h1)
 rw [atK_get h1,atK_get h2] at this;exact this
theorem keys_f {L M:List Ky} {i:Nat} (h:eqK (atK L i) (atK M i)=false):decide (L=M)=false:=decide_eq_false fun e=>by subst e;rw [eqK_iff.2 rfl] at h;cases h
theorem keys_s {L M:List Ky} {i:Nat} (h: ∀k,k<i->eqK (atK L k) (atK M k)=true) (h2:(!eqK (atK L i) (atK M i))=false): ∀k,k<i+1->eqK (atK L k) (atK M k)=true:=fun k hk=>by
 rcases Nat.lt_or_ge k i with h1|h1
 . exact h k h1
 . obtain rfl:k=i:=by omega
   cases e:eqK (atK L k) (atK M k) with
   |true=>rfl
   |false=>rw [e] at h2;cases h2
theorem keys_f2 {L M:List Ky} {i:Nat} (h:(!eqK (atK L i) (atK M i))=true):decide (L=M)=false:=keys_f (i:=i) (by
 cases e:eqK (atK L i) (atK M i) with
 |true=>rw [e] at h;cases h
 |false=>rfl)
theorem keys_l {L M:List Ky} (h:((L.length:Int) !=(M.length:Int))=true):decide (L=M)=false:=decide_eq_false fun e=>by subst e;simp at h
theorem keys_n {L M:List Ky} (h:((L.length:Int) !=(M.length:Int))=false):L.length=M.length:=by
 have:=bne_eq_false_iff_eq.1 h;omega
def FOnce:List Ar->Option Rs
 | [.c (.d (.lst 2 n0 f0)),.agg [.d (.v (.string x1)),.d (.v (.int .i64 i1))]]=>some ⟨(n0<=1099511627776/\ RowsK n0 f0),.va (.c (.d (bo (hasKy (gKs n0 f0) (⟨x1,i1⟩:Ky))))),[]⟩
 |_=>none
theorem fcOnce:FC Tryz.prog 6 FOnce:=by
 intro xs pre r us h hp;unfold FOnce at h;split at h
 . rename_i n0 f0 x1 i1
   cases h;have hp0:=hp
   refine FCat.of_eq (as':= [.c (.d (.lst 2 n0 (rwK (gKs n0 f0)))),.agg [.d (.v (.string x1)),.d (.v (.int .i64 i1))]]) ?_ rfl rfl ?_
   . repeat' (first|exact trivial|exact rfl|refine ⟨?_, ?_⟩|fail)
     all_goals first|exact rowK_eq hp0.2|exact hp0.2|exact hp1.2|exact hp2.2|(intro i hi;exact (hp0.2 i hi).1)|(intro i hi;exact (hp1.2 i hi).1)|(intro i hi;exact (hp2.2 i hi).1)|grind
   refine fcat tys_ok (l:= []) trivial Tryz.func6 rfl (by kernel_rfl) false ?_
   have hn:=hp0.1
   have hlen:=gKs_length n0 f0
   generalize gKs n0 f0=L at*
   clear hp0;subst hlen
   repeat' (first|exact trivial|refine ⟨?_, ?_⟩|intro _)
   all_goals first|(with_reducible apply qq)|(conv=>whnf)
   refine loop_ok tys_ok (l:= []) trivial (by kernel_rfl) (X:=Nat)
    (fun i=>⟨[(5,vx (.int .i64 i)),(3,.va (.c (.own 0 0))),(0,.va (.c (.d (lstK L))))],[(0,.cells [.d (st x1),.d (it i1)])],1,18⟩)
    (fun i=>L.length-i) (fun i=>i<=L.length/\ ∀k,k<i->eqK (atK L k) ⟨x1,i1⟩=false) [] []
    (fun i _ _=>i+1) [0] [0] 0 0 0 ?_ ?_ ?_
   . exact ⟨Nat.zero_le _,fun k h=>absurd h (Nat.not_lt_zero k)⟩
   . repeat' (first|exact trivial|exact rfl|(intro _ _;exact rfl)|refine ⟨?_, ?_⟩|fail)
   . rintro i ⟨k1,k2⟩
     rcases Nat.lt_or_ge i L.length with hi|hi
     . have hne:decide ((i:Int)<(L.length:Int))=true:=decide_eq_true (by omega)
       have hib:(0:Int)<=(i:Int)/\ (i:Int)<(L.length:Int):=by omega
       cases hq:eqK (atK L i) ⟨x1,i1⟩ with
       |true=>
        have hv:=hasKy_t (k:=⟨x1,i1⟩) hi hq
        repeat' (first|exact trivial|(with_reducible first|exact n1|exact n2|exact hib|exact hib.1|exact hib.2|exact nx hne)|refine ⟨?_, ?_⟩|intro _)
        all_goals first|(with_reducible apply qq)|(conv=>whnf)
        all_goals (try simp only [Int.toNat_natCast,Nat.zero_add] at*)
        all_goals first|omega|(rw [hv];done)|exact absurd (hq.symm.trans ‹_=false›) (by decide)|rfl|(intro _ _;rfl)|(rw [hv];rfl)
       |false=>
        have hk: ∀k,k<i+1->eqK (atK L k) ⟨x1,i1⟩=false:=fun k h=>by
         rcases Nat.lt_or_ge k i with h1|h1
         . exact k2 k h1
         . rw [show k=i by omega];exact hq
        repeat' (first|exact trivial|(with_reducible first|exact n1|exact n2|exact hib|exact hib.1|exact hib.2|exact nx hne)|refine ⟨?_, ?_⟩|intro _)
        all_goals first|(with_reducible apply qq)|(conv=>whnf)
        all_goals (try dsimp only)
        all_goals (try simp only [Int.toNat_natCast,Nat.zero_add] at*)
        all_goals first|omega|exact absurd (hq.symm.trans ‹_=true›) (by decide)|exact hk _ ‹_›|rfl|(exact congrArg (Value.int .i64) (by first|(rw [wI_id _ (by omega) (by omega)];omega)|omega|(dsimp only;omega)))|(intro _ _;rfl)
     . have hne:decide ((i:Int)<(L.length:Int))=false:=decide_eq_false (by omega)
       obtain rfl:i=L.length:=by omega
       have hv:=hasKy_f (k:=⟨x1,i1⟩) k2
       repeat' (first|exact trivial|(with_reducible first|exact n1|exact n2|exact nx hne)|refine ⟨?_, ?_⟩|intro _)
       all_goals first|(with_reducible apply qq)|(conv=>whnf)
       all_goals first|omega|(rw [hv];done)|rfl|(intro _ _;rfl)|(rw [hv];rfl)
 . cases h
def FKeys:List Ar->Option Rs
 | [.c (.d (.lst 2 n0 f0)),.c (.d (.lst 2 n1 f1))]=>some ⟨(n0<=1099511627776/\ RowsK n0 f0)/\ (n1<=1099511627776/\ RowsK n1 f1),.va (.c (.d (bo (decide ((gKs n0 f0)=(gKs n1 f1)))))),[]⟩
 |_=>none
theorem fcKeys:FC Tryz.prog 21 FKeys:=by
 intro xs pre r us h hp;unfold FKeys at h;split at h
 . rename_i n0 f0 n1 f1
   cases h;obtain ⟨hp0,hp1⟩:=hp
   refine FCat.of_eq (as':= [.c (.d (.lst 2 n0 (rwK (gKs n0 f0)))),.c (.d (.lst 2 n1 (rwK (gKs n1 f1))))]) ?_ rfl rfl ?_
   . repeat' (first|exact trivial|exact rfl|refine ⟨?_, ?_⟩|fail)
     all_goals first|exact rowK_eq hp0.2|exact rowK_eq hp1.2|exact hp0.2|exact hp1.2|exact hp2.2|(intro i hi;exact (hp0.2 i hi).1)|(intro i hi;exact (hp1.2 i hi).1)|(intro i hi;exact (hp2.2 i hi).1)|grind
   refine fcat tys_ok (l:= []) trivial Tryz.func21 rfl (by kernel_rfl) false ?_
   have hn:=hp0.1
   have hlen:=gKs_length n0 f0
   generalize gKs n0 f0=L at*
   clear hp0;subst hlen;have hn1:=hp1.1
   have hlen1:=gKs_length n1 f1
   generalize gKs n1 f1=M_ at*
   clear hp1;subst hlen1
   repeat' (first|exact trivial|refine ⟨?_, ?_⟩|intro _)
   all_goals first|(with_reducible apply qq)|(conv=>whnf)
   all_goals first|(rw [keys_l (by assumption)];done)|skip
   have hl:=keys_n (by assumption)
   refine loop_ok tys_ok (l:= []) trivial (by kernel_rfl) (X:=Nat)
    (fun i=>⟨[(5,vx (.int .i64 i)),(0,.va (.c (.d (lstK L)))),(1,.va (.c (.d (lstK M_))))],[],0,Tryz.f21.ntmps⟩)
    (fun i=>L.length-i) (fun i=>i<=L.length/\ ∀k,k<i->eqK (atK L k) (atK M_ k)=true) [] []
    (fun i _ _=>i+1) [] [] 0 0 0 ?_ ?_ ?_
   . exact ⟨Nat.zero_le _,fun k h=>absurd h (Nat.not_lt_zero k)⟩
   . repeat' (first|exact trivial|exact rfl|(intro _ _;exact rfl)|refine ⟨?_, ?_⟩|fail)
   . rintro i ⟨k1,k2⟩
     rcases Nat.lt_or_ge i L.length with hi|hi
     . have hne:decide ((i:Int)<(L.length:Int))=true:=decide_eq_true (by omega)
       have hib:(0:Int)<=(i:Int)/\ (i:Int)<(L.length:Int):=by omega
       have hib2:(i:Int)<(M_.length:Int):=by omega
       repeat' (first|exact trivial|(with_reducible first|assumption|exact n1|exact n2|exact hib.1|exact hib.2|exact nx hne)|refine ⟨?_, ?_⟩|intro _)
       all_goals first|(with_reducible apply qq)|(conv=>whnf)
       all_goals (try dsimp only)
       all_goals (try simp only [Int.toNat_natCast,Nat.zero_add] at*)
       all_goals first|omega|(rw [keys_f2 (L:=L) (M:=M_) (i:=i) (by assumption)];done)|(exact keys_s k2 (by assumption) _ (by assumption))|rfl|(exact congrArg (Value.int .i64) (by first|(rw [wI_id _ (by omega) (by omega)];omega)|omega|(dsimp only;omega)))
     . have hne:decide ((i:Int)<(L.length:Int))=false:=decide_eq_false (by omega)
       obtain rfl:i=L.length:=by omega
       have hv:=keys_t hl k2
       repeat' (first|exact trivial|(with_reducible first|exact n1|exact n2|exact nx hne)|refine ⟨?_, ?_⟩|intro _)
       all_goals first|(with_reducible apply qq)|(conv=>whnf)
       all_goals first|omega|(rw [hv];done)|rfl
 . cases h
end Go.Proofs.YtokjghkehojenaaGreat
namespace Go.Proofs.YtokjghkehojenaaGreat
open Go.Sx
open Go.RowKit Go.Lib Go.Sort
theorem gKs_self (n:Nat) (f:Nat->List DV):gKs n (rwK (gKs n f))=gKs n f:=by
 have:=gKs_row (gKs n f)
 rw [gKs_length] at this;exact this
theorem rows_Kg (n:Nat) (f:Nat->List DV):RowsK n (rwK (gKs n f)):=by
 have:=rows_K (gKs n f)
 rw [gKs_length] at this;exact this
def sameS (p q:Vl×Se):Bool:=Vl.exact p.1 q.1&&(decide (p.2.gets=q.2.gets)&&(p.2.wants==q.2.wants&&eqK p.2.want q.2.want))
def FSame:List Ar->Option Rs
 | [.agg [.d (.v (.bool s0)),.d (.v (.int .i64 l0)),.d (.v (.int .i64 h0)),.d (.v (.bool b0)),.d (.v (.int .i64 m0)),.d (.v (.int .i64 r0)),.d (.v (.bool z0)),.d (.lst 1 n0 f0),.d (.lst 2 k0 q0),.d (.v (.bool w0)),.d (.v (.string x0)),.d (.v (.int .i64 i0))],.agg [.d (.v (.bool s1)),.d (.v (.int .i64 l1)),.d (.v (.int .i64 h1)),.d (.v (.bool b1)),.d (.v (.int .i64 m1)),.d (.v (.int .i64 r1)),.d (.v (.bool z1)),.d (.lst 1 n1 f1),.d (.lst 2 k1 q1),.d (.v (.bool w1)),.d (.v (.string x1)),.d (.v (.int .i64 i1))]]=>some ⟨(((n0*16<=140737488351232/\ ∀i,i<n0->f0 i= [st (gT (f0 i))])/\ Sp.inR ⟨s0,l0,h0⟩/\ Cg.inR ⟨b0,m0,r0⟩)/\ k0<=1099511627776/\ RowsK k0 q0)/\ (((n1*16<=140737488351232/\ ∀i,i<n1->f1 i= [st (gT (f1 i))])/\ Sp.inR ⟨s1,l1,h1⟩/\ Cg.inR ⟨b1,m1,r1⟩)/\ k1<=1099511627776/\ RowsK k1 q1),.va (.c (.d (bo (sameS (((⟨⟨⟨s0,l0,h0⟩,⟨b0,m0,r0⟩⟩,⟨z0,gN n0 f0⟩⟩:Vl),(⟨gKs k0 q0,w0,⟨x0,i0⟩⟩:Se)):Vl×Se) (((⟨⟨⟨s1,l1,h1⟩,⟨b1,m1,r1⟩⟩,⟨z1,gN n1 f1⟩⟩:Vl),(⟨gKs k1 q1,w1,⟨x1,i1⟩⟩:Se)):Vl×Se))))),[]⟩
 |_=>none
theorem fcSame:FC Tryz.prog 7 FSame:=by
 intro xs pre r us h hp;unfold FSame at h;split at h
 . rename_i s0 l0 h0 b0 m0 r0 z0 n0 f0 k0 q0 w0 x0 i0 s1 l1 h1 b1 m1 r1 z1 n1 f1 k1 q1 w1 x1 i1
   cases h;obtain ⟨hp0,hp1⟩:=hp
   refine FCat.of_eq (as':= [.agg [.d (.v (.bool s0)),.d (.v (.int .i64 l0)),.d (.v (.int .i64 h0)),.d (.v (.bool b0)),.d (.v (.int .i64 m0)),.d (.v (.int .i64 r0)),.d (.v (.bool z0)),.d (.lst 1 n0 fun i=> [st (gT (f0 i))]),.d (.lst 2 k0 (rwK (gKs k0 q0))),.d (.v (.bool w0)),.d (.v (.string x0)),.d (.v (.int .i64 i0))],.agg [.d (.v (.bool s1)),.d (.v (.int .i64 l1)),.d (.v (.int .i64 h1)),.d (.v (.bool b1)),.d (.v (.int .i64 m1)),.d (.v (.int .i64 r1)),.d (.v (.bool z1)),.d (.lst 1 n1 fun i=> [st (gT (f1 i))]),.d (.lst 2 k1 (rwK (gKs k1 q1))),.d (.v (.bool w1)),.d (.v (.string x1)),.d (.v (.int .i64 i1))]]) ?_ rfl rfl ?_
   . repeat' (first|exact trivial|exact rfl|refine ⟨?_, ?_⟩|fail)
     all_goals first|exact rowK_eq hp0.2.2|exact rowK_eq hp1.2.2|exact hp0.1.1.2|exact hp1.1.1.2|exact hp0.2|exact hp1.2|exact hp2.2|(intro i hi;exact (hp0.2 i hi).1)|(intro i hi;exact (hp1.2 i hi).1)|(intro i hi;exact (hp2.2 i hi).1)|grind
   refine fcat tys_ok (l:= [(11,⟨[],FRVExact⟩),(21,⟨[],FKeys⟩)]) ⟨fcRVExact,fcKeys,trivial⟩ Tryz.func7 rfl (by kernel_rfl) false ?_
   repeat' (first|exact trivial|refine ⟨?_, ?_⟩|intro _)
   all_goals first|(with_reducible apply qq)|(conv=>whnf)
   all_goals (try simp only [gN_canon,gKs_row,gKs_self] at*)
   all_goals first|exact hp0.1.1.1|exact hp1.1.1.1|rfl|exact hp0.2.1|exact hp1.2.1|exact rows_Kg _ _|exact hp0.1.2.1.1.1|exact hp0.1.2.1.1.2|exact hp0.1.2.1.2.1|exact hp0.1.2.1.2.2|exact hp0.1.2.2.1.1|exact hp0.1.2.2.1.2|exact hp0.1.2.2.2.1|exact hp0.1.2.2.2.2|exact hp1.1.2.1.1.1|exact hp1.1.2.1.1.2|exact hp1.1.2.1.2.1|exact hp1.1.2.1.2.2|exact hp1.1.2.2.1.1|exact hp1.1.2.2.1.2|exact hp1.1.2.2.2.1|exact hp1.1.2.2.2.2|(unfold sameS;dsimp only;simp only [*,Bool.true_and,Bool.false_and,Bool.and_false];done)
 . cases h
abbrev N1:Vl:=⟨⟨⟨true,1,1⟩,⟨true,0,1⟩⟩,⟨false,[]⟩⟩
abbrev N5:Vl:=⟨⟨⟨true,5,5⟩,⟨true,0,5⟩⟩,⟨false,[]⟩⟩
abbrev N6:Vl:=⟨⟨⟨true,6,6⟩,⟨true,0,6⟩⟩,⟨false,[]⟩⟩
theorem a1:N1.of=N1:=by show (⟨Ig.clean _,⟨false,ofS []⟩⟩:Vl)=_;rw [ofS_00];rfl
theorem a5:N5.of=N5:=by show (⟨Ig.clean _,⟨false,ofS []⟩⟩:Vl)=_;rw [ofS_00];rfl
theorem a6:N6.of=N6:=by show (⟨Ig.clean _,⟨false,ofS []⟩⟩:Vl)=_;rw [ofS_00];rfl
theorem z6:Vl.zero.of=Vl.zero:=by show (⟨Ig.clean _,⟨false,ofS []⟩⟩:Vl)=_;rw [ofS_00];rfl
theorem n1:numL 1=N1:=by rfl
theorem b1:rkDo 10 ⟨true,1,1⟩ ⟨true,5,5⟩=⟨true,6,6⟩:=by rfl
theorem b2:rsDo 10 ⟨true,0,1⟩ ⟨true,0,5⟩ (wrB 10 ⟨true,1,1⟩ ⟨true,5,5⟩)=⟨true,0,6⟩:=by rfl
theorem b3:bothV ⟨true,6,6⟩ ⟨true,0,6⟩=N6:=by unfold bothV;rw [if_neg (by decide),if_neg (by decide)];show (⟨_,⟨false,ofS []⟩⟩:Vl)=_;rw [ofS_00];rfl
theorem b4:ptrV 10 ⟨false,[]⟩ ⟨false,[]⟩ []=Vl.zero:=by rfl
theorem b5:Vl.join N6 Vl.zero=N6:=by
 unfold Vl.join;rw [a6,z6]
 show (⟨_,⟨_,ofS (ofS []++ofS [])⟩⟩:Vl)=_
 rw [ofS_00,List.nil_append,ofS_00];rfl
theorem b6:calcDo 10 N1 N5 []=N6:=by
 unfold calcDo;rw [a1,a5];show Vl.join (numV 10 N1 N5) (ptrV 10 ⟨false,[]⟩ ⟨false,[]⟩ [])=_
 rw [b4];unfold numV;rw [if_neg (by decide),if_neg (by decide),b1,b2,b3,b5]
theorem arr_l:arrS [⟨⟨#[103]⟩,false,0,0⟩] 1= []:=by
 refine arrS_no ?_
 have h:glG [⟨⟨#[103]⟩,false,0,0⟩] (atG [⟨⟨#[103]⟩,false,0,0⟩] 0).name=⟨⟨#[103]⟩,false,0,0⟩:=by
  show glG [⟨⟨#[103]⟩,false,0,0⟩] ⟨#[103]⟩=_
  have hi:ixG [⟨⟨#[103]⟩,false,0,0⟩] ⟨#[103]⟩=0:=by unfold ixG;simp
  unfold glG;rw [hi];rfl
 rw [h];rfl
theorem get_l:En.get ⟨true,[⟨⟨#[120]⟩,N1⟩]⟩ ⟨#[120]⟩=N1:=by
 have hc:(En.clean ⟨true,[⟨⟨#[120]⟩,N1⟩]⟩).binds= [⟨⟨#[120]⟩,N1⟩]:=by
  unfold En.clean;rw [if_pos rfl];show List.map _ (dd (srt ltB [_]))=_
  have:srt ltB [(⟨⟨#[120]⟩,N1⟩:Bd)]= [⟨⟨#[120]⟩,N1⟩]:=by unfold srt;simp [mg]
  rw [this];show [(⟨⟨#[120]⟩,N1.of⟩:Bd)]=_
  rw [a1]
 unfold En.get;rw [hc,if_pos (by decide)];rfl
def R0:Ro:=⟨[⟨⟨#[103]⟩,false,0,0⟩],0,fun _=> [],true,[⟨⟨#[120]⟩,N1⟩],[⟨⟨⟨#[103]⟩, -1⟩,⟨⟨false,[]⟩,N5⟩⟩]⟩
abbrev S0:Se:=⟨[],false,⟨⟨#[]⟩,0⟩⟩
abbrev S1:Se:=⟨[⟨⟨#[103]⟩, -1⟩],false,⟨⟨#[]⟩,0⟩⟩
theorem nm_x:nameS R0 S0 ⟨#[120]⟩=(N1,S0):=by
 have h:bndN R0.B ⟨#[120]⟩=true:=by unfold R0 bndN ixN;simp
 unfold nameS;rw [if_pos h]
 show (En.get ⟨true,_⟩ _,_)=_
 exact congrArg (·,S0) get_l
theorem nm_g:nameS R0 S0 ⟨#[103]⟩=(N5,S1):=by
 have h:bndN R0.B ⟨#[103]⟩=false:=by unfold R0 bndN ixN;simp [seq_iff]
 have h2:glI R0.G ⟨#[103]⟩=true:=by unfold R0 glI ixG;simp
 have h3:knF R0.D ⟨⟨#[103]⟩, -1⟩=some ⟨⟨false,[]⟩,N5⟩:=by unfold R0 knF;simp [eqK]
 have h4:knB R0.D ⟨⟨#[103]⟩, -1⟩=true:=by unfold knB;rw [h3];rfl
 have h5:(knS R0.D ⟨⟨#[103]⟩, -1⟩).v=N5:=by unfold knS;rw [h3];rfl
 unfold nameS;rw [if_neg (by rw [h];decide),if_pos h2]
 unfold readS;rw [if_neg (by decide),if_pos h4,h5,a5,if_neg (by decide)];rfl
theorem look_l:lookS R0 2 (xpC 10 0 ⟨#[]⟩ (.lst 5 2 fun i=>Sx.rowAt 5 [it 2,it 0,st ⟨#[120]⟩,.v (.slice none 0 0),it 0,it 2,it 0,st ⟨#[103]⟩,.v (.slice none 0 0),it 0] i) 0)=(N6,S1):=by
 have e:exprS R0 2 S0 (xpC 10 0 ⟨#[]⟩ (.lst 5 2 fun i=>Sx.rowAt 5 [it 2,it 0,st ⟨#[120]⟩,.v (.slice none 0 0),it 0,it 2,it 0,st ⟨#[103]⟩,.v (.slice none 0 0),it 0] i) 0)=(N6,S1):=by
  show (calcDo 10 (nameS R0 S0 ⟨#[120]⟩).1 (nameS R0 (nameS R0 S0 ⟨#[120]⟩).2 ⟨#[103]⟩).1 (arrS R0.G 1),(nameS R0 (nameS R0 S0 ⟨#[120]⟩).2 ⟨#[103]⟩).2)=_
  rw [nm_x,nm_g];show (calcDo 10 N1 N5 (arrS [⟨⟨#[103]⟩,false,0,0⟩] 1),S1)=_
  rw [arr_l,b6]
 unfold lookS;rw [if_pos (show R0.lv=true from rfl),e];show (Vl.of N6,S1)=_
 rw [a6]
theorem okN {n:Int} (h:rI n):okV ⟨⟨⟨true,n,n⟩,⟨true,0,n⟩⟩,⟨false,[]⟩⟩:=⟨⟨Nat.zero_le _,fun _ _=>rfl⟩,⟨h,h⟩,⟨(show (-9223372036854775808:Int)<=0 by decide),(show (0:Int)<9223372036854775808 by decide)⟩,h⟩
theorem rI_1:rI 1:=⟨by decide,by decide⟩
theorem rI_5:rI 5:=⟨by decide,by decide⟩
theorem rI_0:rI 0:=⟨by decide,by decide⟩
theorem rowD_l:rowOkD [st ⟨#[103]⟩,it (-1),bo false,.v (.slice none 0 0),bo true,it 5,it 5,bo true,it 0,it 5,bo false,.lst 1 0 fun i=> [st (atS [] i)]]:=by
 refine ⟨⟨rfl,fun j a b ha hb=> ?_⟩,⟨⟨by decide,by decide⟩,fun x hx=>(by cases hx),okN rI_5,Nat.zero_le _⟩⟩
 match j with
 |0=>cases ha;cases hb;exact .refl _
 |1=>cases ha;cases hb;exact .refl _
 |2=>cases ha;cases hb;exact .refl _
 |3=>cases ha;cases hb;exact .nil
 |4=>cases ha;cases hb;exact .refl _
 |5=>cases ha;cases hb;exact .refl _
 |6=>cases ha;cases hb;exact .refl _
 |7=>cases ha;cases hb;exact .refl _
 |8=>cases ha;cases hb;exact .refl _
 |9=>cases ha;cases hb;exact .refl _
 |10=>cases ha;cases hb;exact .refl _
 |11=>cases ha;cases hb;exact .rows fun i hi=>absurd hi (Nat.not_lt_zero i)
 |j+12=>simp at ha
theorem xok_l:XOk 2 (xpC 10 0 ⟨#[]⟩ (.lst 5 2 fun i=>Sx.rowAt 5 [it 2,it 0,st ⟨#[120]⟩,.v (.slice none 0 0),it 0,it 2,it 0,st ⟨#[103]⟩,.v (.slice none 0 0),it 0] (0+i)) 0):=
 ⟨10,0,⟨#[]⟩,_,0,rfl,⟨by decide,by decide⟩,rI_0,rI_0,.inr ⟨2,_,rfl,by decide,fun i hi=>match i,hi with
  |0,_=>⟨2,0,⟨#[120]⟩,.v (.slice none 0 0),0,rfl,⟨by decide,by decide⟩,rI_0,rI_0,.inl rfl⟩
  |1,_=>⟨2,0,⟨#[103]⟩,.v (.slice none 0 0),0,rfl,⟨by decide,by decide⟩,rI_0,rI_0,.inl rfl⟩⟩⟩
def FLookP (M:Nat) (P:Vl×Se):List Ar->Option Rs:=fun xs=>match FLookX M xs with
 |some ⟨pre,r,us⟩=>some ⟨pre/\ r= .va (seAr P.1 P.2),.va (seAr P.1 P.2),us⟩
 |none=>none
theorem fcLookP (M:Nat) (P:Vl×Se):FC Tryz.prog 5 (FLookP M P):=by
 intro xs pre r us h hp;unfold FLookP at h;split at h
 . rename_i p1 r1 u1 e
   cases h;exact hp.2▸fcLookX M xs p1 r1 us e hp.1
 . cases h
abbrev P6:Vl×Se:=(N6,S1)
def FLookL:List Ar->Option Rs:=FN 5 (FLookP 2 P6)
theorem fcLookL:FC Tryz.prog 5 FLookL:=fc_nil 5 (fcLookP 2 P6)
def FLLives:List Ar->Option Rs
 | []=>some ⟨True,.va (.c (.d (bo (true)))),[]⟩
 |_=>none
theorem fcLLives:FC Tryz.prog 8 FLLives:=by
 intro xs pre r us h hp;unfold FLLives at h;split at h
 . cases h;refine fcat tys_ok (l:= [(22,⟨[],FVNum⟩),(5,⟨[],FLookL⟩),(23,⟨[],FVHasInt⟩)]) ⟨fcVNum,fcLookL,fcVHasInt,trivial⟩ Tryz.func8 rfl (by kernel_rfl) true ?_
   repeat' (first|exact trivial|(with_reducible exact nd)|refine ⟨?_, ?_⟩|intro _)
   all_goals first|(with_reducible apply qq)|(conv=>whnf)
   all_goals first|omega|rfl|decide|(exact ⟨fun _=>xok_l⟩)|(exact ⟨fun i hi=>by obtain rfl:i=0:=(by omega);exact rowD_l⟩)|(exact ⟨fun i hi=>by obtain rfl:i=0:=(by omega);exact ⟨rfl,⟨by decide,by decide⟩,by decide,by decide⟩⟩)|(exact ⟨fun i hi=>by obtain rfl:i=0:=(by omega);exact ⟨.inl rfl,fun j hj=>absurd hj (Nat.not_lt_zero j),okN rI_1⟩⟩)|(have q:eqK ⟨⟨#[103]⟩, -1⟩ ⟨⟨#[103]⟩, -1⟩=false:=(by assumption);rw [eqK_iff.2 rfl] at q;cases q)|(exact congrArg (fun p:Vl×Se=>Rt.va (seAr p.1 p.2)) look_l)|(rename_i hx;obtain rfl:=List.mem_singleton.1 hx;exact Nat.zero_le _)
 . cases h
end Go.Proofs.YtokjghkehojenaaGreat
namespace Go.Proofs.YtokjghkehojenaaGreat
open Go.Sx
open Go.RowKit Go.Lib Go.Sort
def fewS (D:List Sd) (g:List Ky):Nat->List Sd
 |0=> []
 |i+1=>if hasKy g (atD D i).k=true then fewS D g i++ [atD D i] else fewS D g i
theorem fewS_take (D:List Sd) (g:List Ky): ∀i,i<=D.length->fewS D g i=(D.take i).filter fun x=>hasKy g x.k
 |0,_=>rfl
 |i+1,hi=>by
  have ha:atD D i=D[i]:=by unfold atD;rw [List.getD_eq_getElem?_getD,List.getElem?_eq_getElem (by omega)];rfl
  have ih:=fewS_take D g i (by omega)
  show (if hasKy g (atD D i).k=true then fewS D g i++ [atD D i] else fewS D g i)=_
  rw [List.take_succ_eq_append_getElem (by omega),List.filter_append, <-ih,ha];split
  . rename_i h;rw [List.filter_cons,if_pos h];rfl
  . rename_i h;rw [List.filter_cons,if_neg h,List.filter_nil,List.append_nil]
abbrev fewR (R:Ro) (g:List Ky):Ro:=⟨R.G,R.c,R.d,R.lv,R.B,fewS R.D g R.D.length⟩
theorem knF_few (D:List Sd) (g:List Ky) (k:Ky) (h:hasKy g k=true):knF (fewS D g D.length) k=knF D k:=by
 rw [fewS_take D g _ (Nat.le_refl _),List.take_length];unfold knF;rw [List.find?_filter]
 congr 2
 funext x
 cases e:eqK x.k k with
 |true=>rw [eqK_iff.1 e,h];rfl
 |false=>simp
theorem knF_fewn {D:List Sd} (g:List Ky) {k:Ky} (h:knF D k=none):knF (fewS D g D.length) k=none:=by
 rw [fewS_take D g _ (Nat.le_refl _),List.take_length];unfold knF at*
 rw [Option.map_eq_none_iff,List.find?_eq_none] at*
 intro x hx;exact h x (List.mem_filter.1 hx).1
def subK (a b:List Ky):Prop:= ∀k,k∈a->k∈b
theorem subK.trans {a b c:List Ky} (h:subK a b) (h2:subK b c):subK a c:=fun k hk=>h2 k (h k hk)
theorem subK.refl (a:List Ky):subK a a:=fun _ h=>h
theorem readS_sub (R:Ro) (s:Se) (x:ByteArray):subK s.gets (readS R s x).2.gets:=by
 unfold readS;split
 . exact .refl _
 . split
   . show subK _ (Se.gets (if _ then _ else _))
     split
     . exact .refl _
     . exact fun k hk=>List.mem_append_left _ hk
   . exact .refl _
theorem readS_few {R:Ro} {g:List Ky} {s:Se} {x:ByteArray} (h:subK (readS R s x).2.gets g):readS (fewR R g) s x=readS R s x:=by
 cases hw:s.wants with
 |true=>unfold readS;rw [if_pos hw,if_pos hw]
 |false=>
  cases hk:knB R.D ⟨x, -1⟩ with
  |false=>
   have h1:knF R.D ⟨x, -1⟩=none:=by unfold knB at hk;exact Option.isSome_eq_false_iff.1 hk|>Option.isNone_iff_eq_none.1
   have h2:knB (fewS R.D g R.D.length) ⟨x, -1⟩=false:=by unfold knB;rw [knF_fewn g h1];rfl
   have hw': ¬s.wants=true:=by rw [hw];decide
   have hk': ¬knB R.D ⟨x, -1⟩=true:=by rw [hk];decide
   have h2': ¬knB (fewR R g).D ⟨x, -1⟩=true:=by show¬knB (fewS R.D g R.D.length) _=true;rw [h2];decide
   unfold readS;rw [if_neg hw',if_neg hw',if_neg h2',if_neg hk']
  |true=>
   have hm:(⟨x, -1⟩:Ky)∈(readS R s x).2.gets:=by
    unfold readS;rw [if_neg (by rw [hw];decide),if_pos hk];show _∈Se.gets (if _ then _ else _)
    split
    . rename_i hh;exact of_decide_eq_true hh
    . exact List.mem_append_right _ (List.mem_singleton.2 rfl)
   have hg:hasKy g ⟨x, -1⟩=true:=decide_eq_true (h _ hm)
   have hf:=knF_few R.D g ⟨x, -1⟩ hg
   have hb:knB (fewS R.D g R.D.length) ⟨x, -1⟩=true:=by unfold knB at*;rw [hf];exact hk
   have hs:knS (fewS R.D g R.D.length) ⟨x, -1⟩=knS R.D ⟨x, -1⟩:=by unfold knS;rw [hf]
   have hw': ¬s.wants=true:=by rw [hw];decide
   have hb':knB (fewR R g).D ⟨x, -1⟩=true:=hb
   have hs':knS (fewR R g).D ⟨x, -1⟩=knS R.D ⟨x, -1⟩:=hs
   unfold readS;rw [if_neg hw',if_neg hw',if_pos hb',if_pos hk,hs']
theorem nameS_sub (R:Ro) (s:Se) (x:ByteArray):subK s.gets (nameS R s x).2.gets:=by
 unfold nameS;split
 . exact .refl _
 . split
   . exact readS_sub R s x
   . exact .refl _
theorem nameS_few {R:Ro} {g:List Ky} {s:Se} {x:ByteArray} (h:subK (nameS R s x).2.gets g):nameS (fewR R g) s x=nameS R s x:=by
 unfold nameS at*
 split
 . rfl
 . rename_i h1
   rw [if_neg h1] at h;split
   . rename_i h2
     rw [if_pos h2] at h;exact readS_few h
   . rfl
theorem ldA_sub (R:Ro) (N:List ByteArray) (s:Se): ∀i,subK s.gets (ldA R N s i).2.gets
 |0=> .refl _
 |i+1=>by
  refine (ldA_sub R N s i).trans ?_
  show subK _ (ldF R (ldA R N s i) (atS N i)).2.gets
  unfold ldF;split
  . exact readS_sub R _ _
  . exact .refl _
theorem ldA_few {R:Ro} {g:List Ky} {N:List ByteArray} {s:Se}: ∀i,subK (ldA R N s i).2.gets g->ldA (fewR R g) N s i=ldA R N s i
 |0,_=>rfl
 |i+1,h=>by
  have hs:subK (ldA R N s i).2.gets (ldF R (ldA R N s i) (atS N i)).2.gets:=by
   unfold ldF;split
   . exact readS_sub R _ _
   . exact .refl _
  have ih:=ldA_few (R:=R) (g:=g) (N:=N) (s:=s) i (hs.trans h)
  show ldF (fewR R g) (ldA (fewR R g) N s i) (atS N i)=ldF R (ldA R N s i) (atS N i)
  have h:subK (ldF R (ldA R N s i) (atS N i)).2.gets g:=h
  rw [ih];unfold ldF at*
  split
  . rename_i h2
    rw [if_pos h2] at h;rw [readS_few h]
  . rfl
theorem loadS_sub (R:Ro) (s:Se) (x:ByteArray):subK s.gets (loadS R s x).2.gets:=(nameS_sub R s x).trans (ldA_sub R _ _ _)
theorem loadS_few {R:Ro} {g:List Ky} {s:Se} {x:ByteArray} (h:subK (loadS R s x).2.gets g):loadS (fewR R g) s x=loadS R s x:=by
 have h1:=nameS_few (R:=R) (g:=g) (s:=s) (x:=x) ((ldA_sub R _ _ _).trans h)
 unfold loadS;rw [h1];exact ldA_few _ h
theorem leafS_sub (R:Ro) (s:Se) (op n:Int) (x:ByteArray):subK s.gets (leafS R s op n x).2.gets:=by
 unfold leafS
 repeat' split
 . exact .refl _
 . exact nameS_sub R s x
 . exact loadS_sub R s x
 . exact .refl _
 . exact .refl _
theorem leafS_few {R:Ro} {g:List Ky} {s:Se} {op n:Int} {x:ByteArray} (h:subK (leafS R s op n x).2.gets g):leafS (fewR R g) s op n x=leafS R s op n x:=by
 unfold leafS at*
 by_cases e1:op=1
 . rw [if_pos e1,if_pos e1]
 . rw [if_neg e1] at h;rw [if_neg e1,if_neg e1];by_cases e2:op=2
   . rw [if_pos e2] at h;rw [if_pos e2,if_pos e2];exact nameS_few h
   . rw [if_neg e2] at h;rw [if_neg e2,if_neg e2];by_cases e4:op=4
     . rw [if_pos e4] at h;rw [if_pos e4,if_pos e4];exact loadS_few h
     . rw [if_neg e4,if_neg e4]
theorem oneS_sub (R:Ro) (s:Se) (op:Int) (x:ByteArray) (k:Vl):subK s.gets (oneS R s op x k).2.gets:=by
 unfold oneS
 repeat' split
 . exact readS_sub R s x
 . exact .refl _
 . exact .refl _
 . exact .refl _
theorem oneS_few {R:Ro} {g:List Ky} {s:Se} {op:Int} {x:ByteArray} {k:Vl} (h:subK (oneS R s op x k).2.gets g):oneS (fewR R g) s op x k=oneS R s op x k:=by
 unfold oneS at*
 by_cases e3:op=3
 . rw [if_pos e3] at h;rw [if_pos e3,if_pos e3];by_cases hp:plS R.G x k=true
   . rw [if_pos hp] at h;rw [if_pos hp,if_pos hp];exact readS_few h
   . rw [if_neg hp,if_neg hp]
 . rw [if_neg e3,if_neg e3]
theorem exprS_sub (R:Ro): ∀M (s:Se) (c:List DV),subK s.gets (exprS R M s c).2.gets
 |0,s,c=> .refl _
 |M+1,s,c=>by
  unfold exprS;split
  . split
    . split
      . exact leafS_sub R s _ _ _
      . split
        . exact (exprS_sub R M s _).trans (oneS_sub R _ _ _ _)
        . exact (exprS_sub R M s _).trans (exprS_sub R M _ _)
    . exact .refl _
  . exact .refl _
theorem exprS_few {R:Ro} {g:List Ky}: ∀M {s:Se} {c:List DV},subK (exprS R M s c).2.gets g->exprS (fewR R g) M s c=exprS R M s c
 |0,_,_,_=>rfl
 |M+1,s,c,h=>by
  unfold exprS at*
  split
  . rename_i op n x kd a
    dsimp only at h
    by_cases h1:needsI op=(kidsD kd).1
    . rw [if_pos h1] at h;rw [if_pos h1,if_pos h1];by_cases h2:(kidsD kd).1=0
      . rw [if_pos h2] at h;rw [if_pos h2,if_pos h2];exact leafS_few h
      . rw [if_neg h2] at h;rw [if_neg h2,if_neg h2];by_cases h3:(kidsD kd).1=1
        . rw [if_pos h3] at h;rw [if_pos h3,if_pos h3,exprS_few M ((oneS_sub R _ _ _ _).trans h)];exact oneS_few h
        . rw [if_neg h3] at h;have h:subK (exprS R M (exprS R M s ((kidsD kd).2 0)).2 ((kidsD kd).2 1)).2.gets g:=h
          rw [if_neg h3,if_neg h3,exprS_few M ((exprS_sub R M _ _).trans h),exprS_few M h]
    . rw [if_neg h1,if_neg h1]
  . rfl
theorem look_few (R:Ro) (M:Nat) (c:List DV):lookS (fewR R (lookS R M c).2.gets) M c=lookS R M c:=by
 cases hl:R.lv with
 |false=>unfold lookS;rw [if_neg (by show¬R.lv=true;rw [hl];decide),if_neg (by rw [hl];decide)]
 |true=>
  have e: ∀g,lookS (fewR R g) M c=(tellS (exprS (fewR R g) M ⟨[],false,⟨⟨#[]⟩,0⟩⟩ c),(exprS (fewR R g) M ⟨[],false,⟨⟨#[]⟩,0⟩⟩ c).2):=fun g=>if_pos (show R.lv=true from hl)
  have e2:lookS R M c=(tellS (exprS R M ⟨[],false,⟨⟨#[]⟩,0⟩⟩ c),(exprS R M ⟨[],false,⟨⟨#[]⟩,0⟩⟩ c).2):=if_pos hl
  rw [e,e2,exprS_few M (.refl _)]
theorem same_refl (p:Vl×Se):sameS p p=true:=by
 unfold sameS;rw [exact_refl,eqK_iff.2 rfl,decide_eq_true rfl];simp
theorem fewS_len (D:List Sd) (g:List Ky): ∀i,(fewS D g i).length<=i
 |0=>Nat.le_refl 0
 |i+1=>by
  have:=fewS_len D g i
  unfold fewS;split
  . rw [List.length_append];simp;omega
  . omega
theorem fewS_mem {D:List Sd} {g:List Ky} {x:Sd}: ∀{i},i<=D.length->x∈fewS D g i->x∈D
 |0,_,h=>by cases h
 |i+1,hi,h=>by
  unfold fewS at h;split at h
  . rcases List.mem_append.1 h with h|h
    . exact fewS_mem (by omega) h
    . rw [List.mem_singleton] at h;subst h;exact atD_mem (by omega)
  . exact fewS_mem (by omega) h
end Go.Proofs.YtokjghkehojenaaGreat
namespace Go.Proofs.YtokjghkehojenaaGreat
open Go.Sx
open Go.RowKit Go.Lib Go.Sort
theorem row_snocD {L:List Sd} {x:Sd} {g:Nat->List DV} (hg:g 0=sdC x): ∀j,j<L.length+1->appRow L.length (rwD L) g j=rwD (L++ [x]) j:=by
 intro j hj;unfold appRow;split
 . rename_i h
   unfold rwD atD;simp only [List.getD_eq_getElem?_getD,List.getElem?_append_left h]
 . have:j=L.length:=by omega
   subst this;rw [Nat.sub_self,hg];simp [rwD,atD]
theorem look_ok {R:Ro} (hR:R.ok) {M:Nat} {c:List DV} (hc:XOk M c):okP R (lookS R M c) 1099511627776:=by
 have hz:okSe R ⟨[],false,⟨⟨#[]⟩,0⟩⟩:=⟨List.nodup_nil,fun k h=>by cases h⟩
 have h:=exprS_ok hR M hz hc
 unfold lookS;split
 . refine ⟨?_, ?_,h.s⟩
   . show okV (tellS _);unfold tellS;split
     . exact okV_z
     . exact okV_of h.v
   . show (tellS _).t.names.length<=_;unfold tellS;split
     . exact Nat.zero_le _
     . exact Nat.le_trans (ofS_len _) h.n
 . exact ⟨okV_z,Nat.zero_le _,hz⟩
def FLReads (M:Nat):List Ar->Option Rs
 | [.agg [.d (.lst 4 n0 f0),.d (.lst 5 _ _),.d (.v (.bool _)),.d (.lst 9 p0 q0),.d (.lst 12 u0 w0)],.agg [.d (.v (.int .i64 i1)),.d (.v (.int .i64 j1)),.d (.v (.string x1)),.d (.lst 5 k1 g1),.d (.v (.int .i64 a1))]]=>some ⟨((n0<=1099511627776/\ RowsG n0 f0)/\ (p0<=1099511627776/\ RowsOk p0 q0)/\ (u0<=1099511627776/\ RowsD u0 w0)/\ (∀x,x∈gBs p0 q0->x.v.t.names.length<=1048576)/\ (∀x,x∈gD u0 w0->x.s.v.t.names.length<=1048576))/\ (XOkS M (xpC i1 j1 x1 (.lst 5 k1 g1) a1))/\ (u0<=1048576),.va (.c (.d (bo (true)))),[]⟩
 |_=>none
abbrev sl8L:List (Nat×Sm):= [(6,⟨[],FOnce⟩)]
theorem sp8L:sumsOk Tryz.prog sl8L:=⟨fcOnce,trivial⟩
theorem fcLReads (M:Nat):FC Tryz.prog 3 (FLReads M):=by
 intro xs pre r us h hp;unfold FLReads at h;split at h
 . rename_i n0 f0 c0 d0 e0 p0 q0 u0 w0 i1 j1 x1 k1 g1 a1
   cases h;obtain ⟨hp0,hp1,hp2⟩:=hp
   refine FCat.deep (ys:= [.agg [.d (.lst 4 n0 (rwG (gGs n0 f0))),.d (.lst 5 c0 d0),.d (.v (.bool e0)),.d (.lst 9 p0 (rwB (gBs p0 q0))),.d (.lst 12 u0 (rwD (gD u0 w0)))],.agg [.d (.v (.int .i64 i1)),.d (.v (.int .i64 j1)),.d (.v (.string x1)),.d (.lst 5 k1 g1),.d (.v (.int .i64 a1))]]) ?_ ?_
   . repeat' (first|exact trivial|exact rfl|exact DvE.refl _|refine ⟨?_, ?_⟩|fail)
     all_goals first|first|exact canonG hp0.1.2|exact canonB hp0.2.1.2.h|exact canonD hp0.2.2.1.2.h
   refine fcat tys_ok (l:=sl8L) sp8L Tryz.func3 rfl (by kernel_rfl) true ?_
   have hR:Ro.ok ⟨gGs n0 f0,c0,d0,e0,gBs p0 q0,gD u0 w0⟩:=⟨okG_rows hp0.1.2,by rw [gGs_length];exact hp0.1.1,okL_rows hp0.2.1.2,by rw [gBs_length];exact hp0.2.1.1,okD_rows hp0.2.2.1.2,by rw [gD_length];exact hp0.2.2.1.1,hp0.2.2.2.1,hp0.2.2.2.2⟩
   have l1:=gGs_length n0 f0
   have l2:=gBs_length p0 q0
   have l3:=gD_length u0 w0
   generalize gGs n0 f0=G_ at*
   generalize gBs p0 q0=B_ at*
   generalize gD u0 w0=D_ at*
   clear hp0;subst l1 l2 l3;have hz:okSe ⟨G_,c0,d0,e0,B_,D_⟩ ⟨[],false,⟨⟨#[]⟩,0⟩⟩:=⟨List.nodup_nil,fun k h=>by cases h⟩
   have hG:=rows_okG hR.g
   have hB:=okL_row hR.b
   have hDr:=okD_row hR.d
   have hgn:=hR.gn
   have hbn:=hR.bn
   have hdn:=hR.dn
   have hgg:=gGs_row G_
   have hgb:=gBs_row B_
   have hgd:=gD_row D_
   have hPg:lookS ⟨gGs G_.length (rwG G_),c0,d0,e0,gBs B_.length (rwB B_),gD D_.length (rwD D_)⟩ M (xpC i1 j1 x1 (.lst 5 k1 g1) a1)=lookS ⟨G_,c0,d0,e0,B_,D_⟩ M (xpC i1 j1 x1 (.lst 5 k1 g1) a1):=by rw [hgg,hgb,hgd]
   have hpk:=look_ok hR (hp1.h trivial)
   have hfew:=look_few ⟨G_,c0,d0,e0,B_,D_⟩ M (xpC i1 j1 x1 (.lst 5 k1 g1) a1)
   generalize lookS ⟨G_,c0,d0,e0,B_,D_⟩ M (xpC i1 j1 x1 (.lst 5 k1 g1) a1)=P_ at*
   repeat' (first|exact trivial|(with_reducible first|assumption|exact n1|exact n2|exact nd)|refine ⟨?_, ?_⟩|intro _)
   all_goals first|(with_reducible apply qq)|(conv=>whnf)
   all_goals first|((with_reducible show ACall _ _ 5 _ _ _);refine acall_sum (l:= [(5,⟨[],(FLookX M)⟩)]) ⟨(fcLookX M),trivial⟩ ?_)|skip
   all_goals repeat' (first|exact trivial|(with_reducible first|assumption|exact n1|exact n2|exact nd)|refine ⟨?_, ?_⟩|intro _)
   all_goals first|(with_reducible apply qq)|(conv=>whnf)
   all_goals (try rw [hPg])
   all_goals first|(rename_i hx;rw [hgb] at hx;exact hR.bv _ hx)|(rename_i hx;rw [hgd] at hx;exact hR.dv _ hx)|skip
   have hKs:=rows_K P_.2.gets
   have hgl:=okSe_len hpk.s
   dsimp only at hgl
   have hDf:=okD_row (l:=fewS D_ P_.2.gets D_.length) fun x hx=>hR.d x (fewS_mem (Nat.le_refl _) hx)
   refine loop_idb tys_ok (l:=sl8L) sp8L (by kernel_rfl) (X:=Nat) (fun i=>⟨[(7,vx (.int .i64 i)),(6,.va (.c (.own 3 0))),(5,.va (.c (.own 2 0))),(2,.va (.c (.own 0 0))),(3,.va (.c (.own 1 0)))],[(0,.cells [.d (lstG G_),.d (.lst 5 c0 d0),.d (bo e0),.d (lstB B_),.d (lstD D_)]),(1,.cells [.d (it i1),.d (it j1),.d (st x1),.d (.lst 5 k1 g1),.d (it a1)]),(2,.cells [.d (bo (P_.1).i.s.some),.d (it (P_.1).i.s.lo),.d (it (P_.1).i.s.hi),.d (bo (P_.1).i.c.some),.d (it (P_.1).i.c.m),.d (it (P_.1).i.c.r),.d (bo (P_.1).t.null),.d (lst (P_.1).t.names),.d (lstK P_.2.gets),.d (bo P_.2.wants),.d (st P_.2.want.name),.d (it P_.2.want.node)]),(3,.cells [.d (lstG G_),.d (.lst 5 c0 d0),.d (bo e0),.d (lstB B_),.osl 4 12 0 (fewS D_ P_.2.gets i).length]),(4,.row 12 (fewS D_ P_.2.gets i).length (rwD (fewS D_ P_.2.gets i)))],5,Tryz.f3.ntmps⟩) (fun i=>D_.length-i) (fun i=>i<=D_.length) [] [3] (fun i _ _=>i+1) (lIds 4 [0,1,2,3] []) [0,1,2,3] 0 1 0 ?_ ?_ ?_
   . exact Nat.zero_le _
   . repeat' (first|exact trivial|exact rfl|(intro _ _;exact rfl)|refine ⟨?_, ?_⟩|fail)
     all_goals decide
   . rintro i ki
     have hfl:=fewS_len D_ P_.2.gets i
     rcases Nat.lt_or_ge i D_.length with hi|hi
     . have hne:decide ((i:Int)<(D_.length:Int))=true:=decide_eq_true (by omega)
       have hib:(0:Int)<=(i:Int)/\ (i:Int)<(D_.length:Int):=by omega
       have hc:(hasKy (gKs P_.2.gets.length (rwK P_.2.gets)) ⟨(atD D_ (Int.toNat (i:Int))).k.name,(atD D_ (Int.toNat (i:Int))).k.node⟩=true/\ fewS D_ P_.2.gets (i+1)=fewS D_ P_.2.gets i++ [atD D_ (Int.toNat (i:Int))]) \/(hasKy (gKs P_.2.gets.length (rwK P_.2.gets)) ⟨(atD D_ (Int.toNat (i:Int))).k.name,(atD D_ (Int.toNat (i:Int))).k.node⟩=false/\ fewS D_ P_.2.gets (i+1)=fewS D_ P_.2.gets i):=by
        rw [gKs_row];by_cases hq:hasKy P_.2.gets (atD D_ i).k=true
        . exact .inl ⟨hq,if_pos hq⟩
        . exact .inr ⟨Bool.eq_false_iff.2 hq,if_neg hq⟩
       rcases hc with ⟨hqg,e⟩|⟨hqg,e⟩
       all_goals repeat' (first|exact trivial|(with_reducible first|assumption|exact n1|exact n2|exact nd|exact hib.1|exact hib.2|exact nx hne|exact nx hqg)|refine ⟨?_, ?_⟩|intro _)
       all_goals first|(with_reducible apply qq)|(conv=>whnf)
       all_goals first|((with_reducible show ASat _ _ (.region 6 _ _) _ _);refine draw_sto tys_ok (l:=sl8L) sp8L (by kernel_rfl) 9 [] (.done) [0,1,2,3,4,5,6,7,20,31] (by kernel_rfl) (by kernel_rfl) ?_)|skip
       all_goals repeat' (first|exact trivial|(with_reducible first|assumption|exact n1|exact n2|exact nd|exact hib.1|exact hib.2|exact nx hne|exact nx hqg)|refine ⟨?_, ?_⟩|intro _)
       all_goals first|(with_reducible apply qq)|(conv=>whnf)
       all_goals first|((with_reducible show Tl _ _);apply tl_intro; · (repeat' (first|exact trivial|refine ⟨?_, ?_⟩|intro _))<;>(first|exact rfl|omega|assumption|(dsimp only;omega)))|skip
       all_goals repeat' (first|exact trivial|(with_reducible first|assumption|exact n1|exact n2|exact nd|exact hib.1|exact hib.2|exact nx hne|exact nx hqg)|refine ⟨?_, ?_⟩|intro _)
       all_goals first|(with_reducible apply qq)|(conv=>whnf)
       all_goals first|((with_reducible show ASat _ _ (.region 7 _ _) _ _);refine draw_cut tys_ok (l:=sl8L) sp8L (by kernel_rfl) (.take 4 (.all [(0,.all [(1,.all [(2,.all [(3,.take 5 (.all [(6,.all [(7,.all [(8,.all [(9,.all [(10,.done)])])])])]))])]),(2,.all [(1,.all [(3,.take 5 (.all [(6,.all [(7,.all [(8,.all [(9,.all [(10,.done)])])])])]))]),(3,.take 5 (.all [(1,.all [(6,.all [(7,.all [(8,.all [(9,.all [(10,.done)])])])])]),(6,.all [(1,.all [(7,.all [(8,.all [(9,.all [(10,.done)])])])]),(7,.all [(1,.all [(8,.all [(9,.all [(10,.done)])])])])])]))])]),(2,.all [(0,.all [(1,.all [(3,.take 5 (.all [(6,.all [(7,.all [(8,.all [(9,.all [(10,.done)])])])])]))]),(3,.take 5 (.all [(1,.all [(6,.all [(7,.all [(8,.all [(9,.all [(10,.done)])])])])]),(6,.all [(1,.all [(7,.all [(8,.all [(9,.all [(10,.done)])])])]),(7,.all [(1,.all [(8,.all [(9,.all [(10,.done)])])])])])]))]),(3,.take 5 (.all [(0,.all [(1,.all [(6,.all [(7,.all [(8,.all [(9,.all [(10,.done)])])])])]),(6,.all [(1,.all [(7,.all [(8,.all [(9,.all [(10,.done)])])])]),(7,.all [(1,.all [(8,.all [(9,.all [(10,.done)])])])])])]),(6,.all [(0,.all [(1,.all [(7,.all [(8,.all [(9,.all [(10,.done)])])])]),(7,.all [(1,.all [(8,.all [(9,.all [(10,.done)])])])])]),(7,.all [(0,.all [(1,.all [(8,.all [(9,.all [(10,.done)])])])])])])]))])])) [0,1,2,3,4,5,6,7,20,31] (by kernel_rfl) ?_;apply tail_intro; · (repeat' (first|exact trivial|refine ⟨?_, ?_⟩|intro _))<;>(first|exact rfl|omega|assumption|(dsimp only;omega)))|skip
       all_goals repeat' (first|exact trivial|(with_reducible first|assumption|exact n1|exact n2|exact nd|exact hib.1|exact hib.2|exact nx hne|exact nx hqg)|refine ⟨?_, ?_⟩|intro _)
       all_goals first|(with_reducible apply qq)|(conv=>whnf)
       all_goals first|((with_reducible show Tl _ _);apply tl_intro; · (repeat' (first|exact trivial|refine ⟨?_, ?_⟩|intro _))<;>(first|exact rfl|omega|assumption|(dsimp only;omega)))|skip
       all_goals repeat' (first|exact trivial|(with_reducible first|assumption|exact n1|exact n2|exact nd|exact hib.1|exact hib.2|exact nx hne|exact nx hqg)|refine ⟨?_, ?_⟩|intro _)
       all_goals first|(with_reducible apply qq)|(conv=>whnf)
       all_goals (try dsimp only)
       all_goals (try simp only [e])
       all_goals first|(exact rfl)|(intro _ _;rfl)|omega|(exact congrArg (Value.int .i64) (by first|(rw [wI_id _ (by omega) (by omega)];omega)|omega|(dsimp only;omega)))|(rw [List.length_append];rfl)|(exact row_snocD rfl _ (by assumption))|exact Nat.le_refl _
     . have hne:decide ((i:Int)<(D_.length:Int))=false:=decide_eq_false (by omega)
       obtain rfl:i=D_.length:=by omega
       have hff:(fun i=>rwD (fewS D_ P_.2.gets D_.length) (0+i))=rwD (fewS D_ P_.2.gets D_.length):=funext fun i=>by rw [Nat.zero_add]
       have hgf:gD (fewS D_ P_.2.gets D_.length).length (fun i=>rwD (fewS D_ P_.2.gets D_.length) (0+i))=(fewS D_ P_.2.gets D_.length):=by rw [hff];exact gD_row _
       have hDf2:RowsD (fewS D_ P_.2.gets D_.length).length (fun i=>rwD (fewS D_ P_.2.gets D_.length) (0+i)):=by rw [hff];exact hDf
       have hPf:lookS ⟨gGs G_.length (rwG G_),c0,d0,e0,gBs B_.length (rwB B_),gD (fewS D_ P_.2.gets D_.length).length (fun i=>rwD (fewS D_ P_.2.gets D_.length) (0+i))⟩ M (xpC i1 j1 x1 (.lst 5 k1 g1) a1)=P_:=by rw [hgg,hgb,hgf];exact hfew
       have hdf2:(fewS D_ P_.2.gets D_.length).length<=1099511627776:=by omega
       have hgl2:P_.2.gets.length<=1099511627776:=by omega
       repeat' (first|exact trivial|(with_reducible first|assumption|exact n1|exact n2|exact nd|exact nx hne)|refine ⟨?_, ?_⟩|intro _)
       all_goals first|(with_reducible apply qq)|(conv=>whnf)
       all_goals first|((with_reducible show ASat _ _ _ _ _);refine draw_plan tys_ok (l:= [(5,⟨[],(FLookX M)⟩),(6,⟨[],FOnce⟩),(7,⟨[],FSame⟩),(8,⟨[],FLLives⟩)]) ⟨(fcLookX M),fcOnce,fcSame,fcLLives,trivial⟩ (by kernel_rfl) (.all [(0,.all [(1,.all [(2,.all [(3,.all [(4,.take 5 (.all [(6,.all [(7,.take 8 (.done))])]))])]),(3,.all [(2,.all [(4,.take 5 (.all [(6,.all [(7,.take 8 (.done))])]))])])]),(3,.all [(1,.all [(2,.all [(4,.take 5 (.all [(6,.all [(7,.take 8 (.done))])]))])])])]),(1,.all [(0,.all [(2,.all [(3,.all [(4,.take 5 (.all [(6,.all [(7,.take 8 (.done))])]))])]),(3,.all [(2,.all [(4,.take 5 (.all [(6,.all [(7,.take 8 (.done))])]))])])]),(3,.all [(0,.all [(2,.all [(4,.take 5 (.all [(6,.all [(7,.take 8 (.done))])]))])])])]),(3,.all [(0,.all [(1,.all [(2,.all [(4,.take 5 (.all [(6,.all [(7,.take 8 (.done))])]))])])]),(1,.all [(0,.all [(2,.all [(4,.take 5 (.all [(6,.all [(7,.take 8 (.done))])]))])])])])]) (by kernel_rfl) ?_)|skip
       all_goals repeat' (first|exact trivial|(with_reducible first|assumption|exact n1|exact n2|exact nd|exact nx hne)|refine ⟨?_, ?_⟩|intro _)
       all_goals first|(with_reducible apply qq)|(conv=>whnf)
       all_goals (try simp only [hPf,gN_lst,gN_canon,gKs_row] at*)
       all_goals first|(rename_i hx;rw [hgb] at hx;exact hR.bv _ hx)|(rename_i hx;rw [hgf] at hx;exact hR.dv _ (fewS_mem (Nat.le_refl _) hx))|exact hKs|exact hDf2|omega|rfl|exact hpk.v.1.1|exact hpk.v.2.1.1.1|exact hpk.v.2.1.1.2|exact hpk.v.2.1.2.1|exact hpk.v.2.1.2.2|exact hpk.v.2.2.1.1|exact hpk.v.2.2.1.2|exact hpk.v.2.2.2.1|exact hpk.v.2.2.2.2|(exact absurd ((same_refl P_).symm.trans (by assumption)) (by decide))
 . cases h
end Go.Proofs.YtokjghkehojenaaGreat
