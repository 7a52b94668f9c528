/- That what operators on values come to is sound: plain law. No program in sight. -/
import Derived.Test.YtehpbhpmkhlldaaGreatW25
set_option linter.all false
set_option maxHeartbeats 8000000
set_option maxRecDepth 100000
namespace Go.Proofs.YtehpbhpmkhlldaaGreat
open Go.Sx
theorem cg_some {c:Cg} {n:Int} (h:c.has n=true):c.some=true:=by
 unfold Cg.has at h
 rw [<-cg_clean_some]
 cases hc:c.clean.some
 . rw [hc] at h;cases h
 . rfl
theorem both_has {s:Sp} {c:Cg} {n:Int} (is:s.inR) (ic:c.inR) (hn: -9223372036854775808<=n/\ n<9223372036854775808) (h1:s.has n=true) (h2:c.has n=true):(bothV s c).hasInt n=true:=by
 rw [bo_3 (has_nn h1) (cg_some h2),v3 is ic hn]
 unfold Vl.hasInt;dsimp only;rw [h1,h2];rfl
theorem has_parts {v:Vl} {n:Int} (h:v.hasInt n=true):v.i.s.has n=true/\ v.i.c.has n=true:=by
 unfold Vl.hasInt at h;simpa using h
theorem ints_has {v:Vl} {n:Int} (h:v.hasInt n=true):intsB v=true:=by
 have:=has_parts h
 unfold intsB;rw [has_nn this.1,cg_some this.2];rfl
section
variable {op x y:Int} {a b:Vl} (ia:a.inR) (ib:b.inR) (rx: -9223372036854775808≤x∧x<9223372036854775808) (ry: -9223372036854775808≤y∧y<9223372036854775808) (hx:a.hasInt x=true) (hy:b.hasInt y=true)
include ia ib rx ry hx hy
theorem num_sound (he:doE op y=0):(numV op a b).hasInt (doI op x y)=true:=by
 have px:=has_parts hx
 have py:=has_parts hy
 rw [nu_3 (ints_has hx) (ints_has hy)]
 exact both_has (rkDo_inR ia.1 ib.1) (rsDo_inR ia.2 ib.2) (doI_rng rx) (rk_sound px.1 py.1 ry he) (rs_sound ia.2 ib.2 px.2 py.2 rx ry he fun hw=>wr_sound px.1 py.1 hw)
end
section
variable {op x y:Int} {a b:Vl} (ia:a.inR) (ib:b.inR) (rx: -9223372036854775808≤x∧x<9223372036854775808) (ry: -9223372036854775808≤y∧y<9223372036854775808) (hx:a.hasInt x=true) (hy:b.hasInt y=true)
include ia ib rx ry hx hy
theorem calcDo_sound (he:doE op y=0) (m:List ByteArray):(calcDo op a b m).hasInt (doI op x y)=true:=by
 unfold calcDo
 refine jn_sound ?_
 rw [num_sound (Vl.of_inR ia) (Vl.of_inR ib) rx ry (by rw [hasInt_of];exact hx) (by rw [hasInt_of];exact hy) he];rfl
end
def calcOne (op:Int) (a:Vl):Vl:=if intsB a.of=false then zeroV else bothV (rkOne op a.of.i.s) (rsOne op a.of.i.c (decide (op=5)&&wrB 11 (Sp.of 0 0) a.of.i.s))
def oneI (op x:Int):Int:=if op=5 then wr (-x) else if op=6 then (if x=0 then 1 else 0) else 0
def oneE (op:Int):Int:=if op=5 \/op=6 then 0 else 2
theorem one_sound {op x:Int} {a:Vl} (ia:a.inR) (rx: -9223372036854775808<=x/\ x<9223372036854775808) (hx:a.hasInt x=true) (he:oneE op=0):(calcOne op a).hasInt (oneI op x)=true:=by
 have hx2:a.of.hasInt x=true:=by rw [hasInt_of];exact hx
 have io:=Vl.of_inR ia
 have px:=has_parts hx2
 have hn:=has_nn px.1
 unfold calcOne;rw [if_neg (by rw [ints_has hx2];decide)]
 have ho:op=5 \/op=6:=by
  unfold oneE at he;split at he
  . assumption
  . exact absurd he (by decide)
 have r0: -9223372036854775808<=(0:Int)/\ (0:Int)<9223372036854775808:=by decide
 rcases ho with rfl|rfl
 . have e:oneI 5 x=doI 11 0 x:=by unfold oneI doI exI;rw [if_pos rfl,if_pos (by decide)];simp
   rw [e]
   refine both_has (rkOne_inR io.1) (rsOne_inR io.2) (doI_rng r0) ?_ ?_
   . rw [ro_5 hn];exact rk_sound (num_has 0) px.1 rx (show doE 11 x=0 from rfl)
   . have hc:a.of.i.c.clean.some=true:=by rw [cg_clean_some];exact cg_some px.2
     show (rsOne0 5 a.of.i.c.clean _).has _=true
     rw [ro5 hc]
     have hcl:a.of.i.c.clean.has x=true:=by
      have:=px.2;unfold Cg.has at this⊢;rw [Cg.clean_clean];exact this
     exact rs_sound cg00_inR (Cg.clean_inR io.2) (one_has 0) hcl r0 rx (show doE 11 x=0 from rfl) fun hw=>wr_sound (num_has 0) px.1 hw
 . have e:oneI 6 x=if decide (x=0) then 1 else 0:=by unfold oneI;rw [if_neg (by decide),if_pos rfl];simp
   rw [e]
   refine both_has (rkOne_inR io.1) (rsOne_inR io.2) (by split<;>decide) ?_ ?_
   . rw [ro_6 hn]
     obtain ⟨-,h2,h3⟩:=has_iff.1 px.1
     refine truth_has (fun h=> ?_) (fun h=> ?_)
     . unfold aloneS at h;simp at h;simp;omega
     . simp at h⊢;rintro rfl;rw [px.1] at h;cases h
   . have hc:a.of.i.c.clean.some=true:=by rw [cg_clean_some];exact cg_some px.2
     have hcl:a.of.i.c.clean.has x=true:=by
      have:=px.2;unfold Cg.has at this⊢;rw [Cg.clean_clean];exact this
     show (rsOne0 6 a.of.i.c.clean _).has _=true
     cases hl:alC a.of.i.c.clean 0
     . cases hz:Cg.has a.of.i.c.clean 0
       . rw [ro6b hc hl hz]
         have:x≠0:=fun k=>by rw [k,hz] at hcl;cases hcl
         rw [decide_eq_false this];exact one_has 0
       . rw [ro6c hc hl hz];exact all_dvd _
     . rw [ro6a hc hl]
       have ht:=cg_clean_tidy a.of.i.c
       have:x=0:=alC_eq (c:=a.of.i.c.clean) ((cg_has_dvd ht hc x).1 hcl) hl
       rw [decide_eq_true this];exact one_has 1
section
variable {s:Sp} {e f x n:Int} (rx: -9223372036854775808≤x∧x<9223372036854775808) (hs:s.has x=true)
include rx hs
theorem up_has (he: -9223372036854775808<=e/\ e<9223372036854775808) (hf:0<=f) (h:x<=e-f):(upS s e f).has x=true:=by
 unfold upS wIntB;rw [if_pos (decide_eq_true (by omega)),meet_has',hs,of_has.2 (by omega)];rfl
theorem fr_has (he: -9223372036854775808<=e/\ e<9223372036854775808) (hf:0<=f) (h:e+f<=x):(frS s e f).has x=true:=by
 unfold frS wIntB;rw [if_pos (decide_eq_true (by omega)),meet_has',hs,of_has.2 (by omega)];rfl
theorem wt_has (is:s.inR) (h:x≠n):(wtS s n).has x=true:=by
 obtain ⟨-,h2,h3⟩:=has_iff.1 hs
 obtain ⟨⟨a1,a2⟩,a3,a4⟩:=is
 unfold wtS;(repeat' split)
 . omega
 . rw [wI_id (n+1) (by omega) (by omega)];exact of_has.2 (by omega)
 . rw [wI_id (n-1) (by omega) (by omega)];exact of_has.2 (by omega)
 . exact hs
end
section
variable {op x y:Int} {a b:Vl} (ia:a.inR) (ib:b.inR) (rx: -9223372036854775808≤x∧x<9223372036854775808) (ry: -9223372036854775808≤y∧y<9223372036854775808) (hx:a.hasInt x=true) (hy:b.hasInt y=true)
include ia ib rx ry hx hy
theorem less_sound {f:Int} (hf:0<=f) (h:x+f<=y):(lessA a b f).hasInt x=true/\ (lessB a b f).hasInt y=true:=by
 have px:=has_parts hx
 have py:=has_parts hy
 obtain ⟨-,x1,x2⟩:=has_iff.1 px.1
 obtain ⟨-,y1,y2⟩:=has_iff.1 py.1
 exact ⟨both_has (upS_inR ia.1) ia.2 rx (up_has rx px.1 ib.1.2 hf (by omega)) px.2,both_has (frS_inR ib.1) ib.2 ry (fr_has ry py.1 ia.1.1 hf (by omega)) py.2⟩
theorem un_sound (h:x≠y):(unV a b).hasInt x=true:=by
 have px:=has_parts hx
 have py:=has_parts hy
 obtain ⟨-,y1,y2⟩:=has_iff.1 py.1
 unfold unV;split
 . exact both_has ia.1 ia.2 rx px.1 px.2
 . rename_i k
   exact both_has (wtS_inR ia.1) ia.2 rx (wt_has rx px.1 ia.1 (by omega)) px.2
theorem meetI_sound (h:x=y):(meetI a b).hasInt x=true:=by
 subst h
 exact mt_sound (a:=⟨a.i,⟨false,[]⟩⟩) (b:=⟨b.i,⟨false,[]⟩⟩) ia ib rx hx hy
theorem cm_sound (ho:12<=op/\ op<=15) (hc:cmpB op x y=true):(cmA op a b).hasInt x=true/\ (cmB op a b).hasInt y=true:=by
 have hk:=cm_i (op:=op) (ints_has hx) (ints_has hy)
 rw [hk.1,hk.2]
 rcases (show op=12 \/op=13 \/op=14 \/op=15 by omega) with rfl|rfl|rfl|rfl
 . have:x<y:=of_decide_eq_true (p:=x<y) hc
   exact less_sound ia ib rx ry hx hy (f:=1) (by decide) (by omega)
 . have:x<=y:=of_decide_eq_true (p:=x<=y) hc
   exact less_sound ia ib rx ry hx hy (f:=0) (by decide) (by omega)
 . have h:x=y:=of_decide_eq_true (p:=x=y) hc
   exact ⟨meetI_sound ia ib rx ry hx hy h,by rw [<-h];exact meetI_sound ia ib rx ry hx hy h⟩
 . have h:x≠y:=of_decide_eq_true (p:=x≠y) hc
   exact ⟨un_sound ia ib rx ry hx hy h,un_sound ib ia ry rx hy hx (Ne.symm h)⟩
theorem rf_sound (m:List ByteArray) (h:op<12 \/op>15 \/cmpB op x y=true):(rfA op a b m).hasInt x=true/\ (rfB op a b m).hasInt y=true:=by
 by_cases h1:op<12
 . rw [(rf_lt h1).1,(rf_lt h1).2];exact ⟨hx,hy⟩
 . by_cases h2:op>15
   . rw [(rf_gt h2).1,(rf_gt h2).2];exact ⟨hx,hy⟩
   . have hc:cmpB op x y=true:=by rcases h with h|h|h;exact absurd h h1;exact absurd h h2;exact h
     have hk:=cm_sound ia ib rx ry hx hy (by omega) hc
     constructor
     . unfold rfA;rw [if_neg h1,if_neg h2];(repeat' split)<;>exact hk.1
     . unfold rfB;rw [if_neg h1,if_neg h2];(repeat' split)<;>exact hk.2
theorem refine_sound (m:List ByteArray) (h:op<12 \/op>15 \/cmpB op x y=true):(rfA op a.of b.of m).hasInt x=true/\ (rfB op a.of b.of m).hasInt y=true:=
 rf_sound (Vl.of_inR ia) (Vl.of_inR ib) rx ry (by rw [hasInt_of];exact hx) (by rw [hasInt_of];exact hy) m h
end
theorem doI_cmp {op x y:Int} (ho:12<=op/\ op<=17):doI op x y=if cmpB op x y then 1 else 0:=by
 have:exB op=false:=by unfold exB;simp;omega
 unfold doI;rw [if_neg (by rw [this];decide),if_neg (by omega),if_neg (by omega),if_pos ho]
theorem one_way {op x y:Int} (h:doI op x y=1):op<12 \/op>15 \/cmpB op x y=true:=by
 by_cases h1:op<12
 . exact .inl h1
 . by_cases h2:op>15
   . exact .inr (.inl h2)
   . rw [doI_cmp (by omega)] at h
     refine .inr (.inr ?_)
     cases hc:cmpB op x y
     . rw [hc] at h;exact absurd h (by decide)
     . rfl
theorem zero_way {op x y:Int} (ho:12<=op/\ op<=15) (h:doI op x y=0):cmpB op x y=false:=by
 rw [doI_cmp (by omega)] at h
 cases hc:cmpB op x y
 . rfl
 . rw [hc] at h;exact absurd h (by decide)
theorem not_12 {x y:Int} (h:cmpB 12 x y=false):cmpB 13 y x=true:=by
 have h: ¬x<y:=of_decide_eq_false (p:=x<y) h
 exact decide_eq_true (p:=y<=x) (by omega)
theorem not_13 {x y:Int} (h:cmpB 13 x y=false):cmpB 12 y x=true:=by
 have h: ¬x<=y:=of_decide_eq_false (p:=x<=y) h
 exact decide_eq_true (p:=y<x) (by omega)
theorem not_14 {x y:Int} (h:cmpB 14 x y=false):cmpB 15 x y=true:=decide_eq_true (p:=x≠y) (of_decide_eq_false (p:=x=y) h)
theorem not_15 {x y:Int} (h:cmpB 15 x y=false):cmpB 14 x y=true:=by
 have h: ¬x≠y:=of_decide_eq_false (p:=x≠y) h
 exact decide_eq_true (p:=x=y) (by omega)
theorem neg_lo {a:Int} (r: -9223372036854775808<=a/\ a<9223372036854775808):(Wd.val (wd (-(Wd.val (wd a))))+9223372036854775808)%18446744073709551616-9223372036854775808=wr (-a):=by rw [wr_wd,wd_val (by omega) (by omega)]
theorem on_6 (a:Int):oneI 6 a=if (a==0)=true then 1 else 0:=by unfold oneI;rw [if_neg (by decide),if_pos rfl];simp
theorem on_x {op:Int} (a:Int) (h:op≠5) (h2:op≠6):oneI op a=0/\ oneE op=2:=by unfold oneI oneE;rw [if_neg h,if_neg h2,if_neg (by omega)];exact ⟨rfl,rfl⟩
def notI (op:Int):Int:=if op=12 then 13 else if op=13 then 12 else if op=14 then 15 else if op=15 then 14 else 0
def notB (op:Int):Bool:=decide (op=12)||decide (op=13)
theorem not_x {op:Int} (h:op≠12) (h2:op≠13) (h3:op≠14) (h4:op≠15):notI op=0/\ notB op=false:=by
 unfold notI notB;rw [if_neg h,if_neg h2,if_neg h3,if_neg h4,decide_eq_false h,decide_eq_false h2];exact ⟨rfl,rfl⟩
theorem co_1 {op:Int} {a:Vl} (h:intsB a.of=false):calcOne op a=zeroV:=by unfold calcOne;rw [if_pos h]
theorem co_2 {op:Int} {a:Vl} (h:intsB a.of=true):calcOne op a=bothV (rkOne op a.of.i.s) (rsOne op a.of.i.c (decide (op=5)&&wrB 11 (Sp.of 0 0) a.of.i.s)):=by unfold calcOne;rw [if_neg (by rw [h];decide)]
theorem co_5 {a:Vl} (h:intsB a.of=true):calcOne 5 a=bothV (rkOne 5 a.of.i.s) (rsOne 5 a.of.i.c (wrB 11 (Sp.of 0 0) a.of.i.s)):=co_2 h
theorem co_x {op:Int} {a:Vl} (h:intsB a.of=true) (h5:op≠5):calcOne op a=bothV (rkOne op a.of.i.s) (rsOne op a.of.i.c false):=by rw [co_2 h,decide_eq_false h5];rfl
def FR2OneF:List Ar->Option Rs
 | [.c (.d (.v (.int .i64 i0))),.c (.d (.v (.int .i64 i1)))]=>some ⟨(-9223372036854775808<=i0/\ i0<9223372036854775808)/\ (-9223372036854775808<=i1/\ i1<9223372036854775808),.tup [.c (.d (it (oneI i0 i1))),.c (.d (it (oneE i0)))],[]⟩
 |_=>none
theorem fcR2OneF:FC Tryz.prog 30 FR2OneF:=by
 intro xs pre r us h hp
 unfold FR2OneF at h
 split at h
 . rename_i i0 i1
   cases h
   obtain ⟨hp0,hp1⟩:=hp
   refine fcat tys_ok (l:= [(66,⟨[],FR2Low⟩),(53,⟨[],FRNeg⟩),(52,⟨[],FROf⟩),(69,⟨[],FR2One⟩)]) ⟨fcR2Low,fcRNeg,fcROf,fcR2One,trivial⟩ Tryz.func30 rfl (by kernel_rfl) false ?_
   all_goals first|(by_cases e5:i0=5)|skip
   all_goals first|(have _:=(show¬_ from e5);by_cases e6:i0=6)|skip
   all_goals first|(have k5:=e5;have _:=(show _=_ from k5))|(have k6:=e6;have _:=(show _=_ from k6))|skip
   all_goals first|subst e5|subst e6|skip
   all_goals repeat' (first|exact trivial|(with_reducible first|exact hp0|exact hp1|exact hp2|exact hp0.1|exact hp0.2|exact hp1.1|exact hp1.2|exact hp2.1|exact hp2.2|exact wd_ok _|exact (wd_ok _).1.1|exact (wd_ok _).1.2|exact (wd_ok _).2.1|exact (wd_ok _).2.2|exact (fun h:(!false)=false=>absurd h (by decide))|exact (fun h:(!true)=true=>absurd h (by decide))|exact hp0|exact hp1|exact (fun h=>absurd ((beq_eq_false_iff_ne.2 e5).symm.trans h) (by decide))|exact (fun h=>absurd ((beq_eq_false_iff_ne.2 e6).symm.trans h) (by decide))|exact (fun h=>absurd h (by decide)))|refine ⟨?_, ?_⟩|intro _)
   all_goals first|(with_reducible first|apply qa|apply qb|apply qc|apply qd)|(conv=>whnf)
   all_goals first|(with_reducible rfl)|decide|(have _:=k5;exact congrArg (Value.int .i64) (neg_lo hp1))|(have _:=k6;exact congrArg (Value.int .i64) ((on_6 i1).symm))|exact congrArg (Value.int .i64) ((on_x i1 e5 e6).1.symm)|exact congrArg (Value.int .i64) ((on_x i1 e5 e6).2.symm)|exact (wd_ok _).1.1|exact (wd_ok _).1.2|exact (wd_ok _).2.1|exact (wd_ok _).2.2|rfl
 . cases h
def FCalcOneV:List Ar->Option Rs
 | [.c (.d (.v (.int .i64 i0))),.agg [.d (.v (.bool s1)),.d (.v (.int .i64 l1)),.d (.v (.int .i64 h1)),.d (.v (.bool b1)),.d (.v (.int .i64 m1)),.d (.v (.int .i64 r1)),.d (.v (.bool z1)),.d (.lst 1 n1 f1)]]=>some ⟨(-9223372036854775808<=i0/\ i0<9223372036854775808)/\ ((n1*16<=140737488351232/\ ∀i,i<n1->f1 i= [st (gT (f1 i))])/\ Sp.inR ⟨s1,l1,h1⟩/\ Cg.inR ⟨b1,m1,r1⟩),.va (Vl.ar (calcOne i0 (⟨⟨⟨s1,l1,h1⟩,⟨b1,m1,r1⟩⟩,⟨z1,gN n1 f1⟩⟩:Vl))),[]⟩
 |_=>none
theorem fcCalcOneV:FC Tryz.prog 31 FCalcOneV:=by
 intro xs pre r us h hp
 unfold FCalcOneV at h
 split at h
 . rename_i i0 s1 l1 h1 b1 m1 r1 z1 n1 f1
   cases h
   obtain ⟨hp0,hp1⟩:=hp
   refine FCat.of_eq (as':= [.c (.d (.v (.int .i64 i0))),.agg [.d (.v (.bool s1)),.d (.v (.int .i64 l1)),.d (.v (.int .i64 h1)),.d (.v (.bool b1)),.d (.v (.int .i64 m1)),.d (.v (.int .i64 r1)),.d (.v (.bool z1)),.d (.lst 1 n1 fun i=> [st (gT (f1 i))])]]) ?_ rfl rfl ?_
   . repeat' (first|exact trivial|exact rfl|refine ⟨?_, ?_⟩|fail)
     all_goals first|exact hp0.2|exact hp1.2|exact hp2.2|(intro i hi;exact (hp0.2 i hi).1)|(intro i hi;exact (hp1.2 i hi).1)|(intro i hi;exact (hp2.2 i hi).1)|grind
   refine fcat tys_ok (l:= [(60,⟨[],FVCleanV⟩),(77,⟨[],FCInts⟩),(78,⟨[],FCWraps⟩),(63,⟨[],FSOne⟩),(80,⟨[],FReOne⟩),(81,⟨[],FRsOne⟩),(79,⟨[],FCBothV⟩)]) ⟨fcVCleanV,fcCInts,fcCWraps,fcSOne,fcReOne,fcRsOne,fcCBothV,trivial⟩ Tryz.func31 rfl (by kernel_rfl) true ?_
   have o1:=okV_of (v:=(⟨⟨⟨s1,l1,h1⟩,⟨b1,m1,r1⟩⟩,⟨z1,(gN n1 fun i=> [st (gT (f1 i))])⟩⟩:Vl)) ⟨⟨(by rw [gN_length];exact hp1.1.1),fun _ _=>rfl⟩,hp1.2⟩
   have c1:(gN n1 fun i=> [st (gT (f1 i))])=gN n1 f1:=rfl
   rw [<-c1]
   have z0:Sp.inR (Sp.of 0 0):=Sp.of_inR (by unfold rI;decide) (by unfold rI;decide)
   have y1:=rkOne_inR (op:=i0) o1.2.1
   have y2:=fun w=>rsOne_inR (op:=i0) (w:=w) o1.2.2
   unfold okV at o1
   all_goals first|(by_cases e5:i0=5)|skip
   all_goals first|(cases iA:intsB (⟨(Vl.of (⟨⟨⟨s1,l1,h1⟩,⟨b1,m1,r1⟩⟩,⟨z1,(gN n1 fun i=> [st (gT (f1 i))])⟩⟩:Vl)).i,⟨(Vl.of (⟨⟨⟨s1,l1,h1⟩,⟨b1,m1,r1⟩⟩,⟨z1,(gN n1 fun i=> [st (gT (f1 i))])⟩⟩:Vl)).t.null,gN (Vl.of (⟨⟨⟨s1,l1,h1⟩,⟨b1,m1,r1⟩⟩,⟨z1,(gN n1 fun i=> [st (gT (f1 i))])⟩⟩:Vl)).t.names.length fun k_=> [st (atS (Vl.of (⟨⟨⟨s1,l1,h1⟩,⟨b1,m1,r1⟩⟩,⟨z1,(gN n1 fun i=> [st (gT (f1 i))])⟩⟩:Vl)).t.names k_)]⟩⟩:Vl))|skip
   all_goals first|(have k5:=e5;have _:=(show _=_ from k5))|skip
   all_goals first|subst e5|skip
   all_goals first|(have _:=k5;have e:=co_1 (op:=5) (a:=(⟨⟨⟨s1,l1,h1⟩,⟨b1,m1,r1⟩⟩,⟨z1,(gN n1 fun i=> [st (gT (f1 i))])⟩⟩:Vl)) iA)|(have e:=co_1 (op:=i0) (a:=(⟨⟨⟨s1,l1,h1⟩,⟨b1,m1,r1⟩⟩,⟨z1,(gN n1 fun i=> [st (gT (f1 i))])⟩⟩:Vl)) iA)|(have _:=k5;have e:=co_5 (a:=(⟨⟨⟨s1,l1,h1⟩,⟨b1,m1,r1⟩⟩,⟨z1,(gN n1 fun i=> [st (gT (f1 i))])⟩⟩:Vl)) iA)|(have e:=co_x (op:=i0) (a:=(⟨⟨⟨s1,l1,h1⟩,⟨b1,m1,r1⟩⟩,⟨z1,(gN n1 fun i=> [st (gT (f1 i))])⟩⟩:Vl)) iA e5)|skip
   all_goals repeat' (first|exact trivial|(with_reducible first|exact hp0|exact o1|exact o1.2|exact o1.2.1|exact o1.2.2|exact o1.1.1|exact z0|exact And.intro z0 o1.2.1|exact y1|exact y2 _|exact And.intro y1 (y2 _)|exact hp1|exact hp1.1|exact hp1.2|exact hp1.2.1|exact hp1.2.2|exact hp1.1.1|exact (fun h:(!false)=false=>absurd h (by decide))|exact (fun h:(!true)=true=>absurd h (by decide))|exact (fun h=>absurd ((beq_eq_false_iff_ne.2 e5).symm.trans h) (by decide))|exact (fun h=>absurd (iA.symm.trans h) (by decide))|exact (fun h=>absurd ((congrArg Bool.not iA).symm.trans h) (by decide))|exact (fun h=>absurd h (by decide)))|refine ⟨?_, ?_⟩|intro _)
   all_goals first|(with_reducible first|apply qa|apply qb|apply qc|apply qd)|(conv=>whnf)
   all_goals (try simp only [gN_lst] at*)
   all_goals first|(with_reducible rfl)|decide|exact o1.1.1|(intro _ _;exact rfl)|exact rfl|(rw [e];done)|(rw [e];rfl)|rfl
 . cases h
def FCNot:List Ar->Option Rs
 | [.c (.d (.v (.int .i64 i0)))]=>some ⟨(-9223372036854775808<=i0/\ i0<9223372036854775808),.tup [.c (.d (it (notI i0))),.c (.d (bo (notB i0)))],[]⟩
 |_=>none
theorem fcCNot:FC Tryz.prog 32 FCNot:=by
 intro xs pre r us h hp
 unfold FCNot at h
 split at h
 . rename_i i0
   cases h
   have hp0:=hp
   refine fcat tys_ok (l:= []) trivial Tryz.func32 rfl (by kernel_rfl) false ?_
   all_goals first|(by_cases e12:i0=12)|skip
   all_goals first|(have _:=(show¬_ from e12);by_cases e13:i0=13)|skip
   all_goals first|(have _:=(show¬_ from e13);by_cases e14:i0=14)|skip
   all_goals first|(have _:=(show¬_ from e14);by_cases e15:i0=15)|skip
   all_goals first|subst e12|subst e13|subst e14|subst e15|skip
   all_goals repeat' (first|exact trivial|(with_reducible first|exact hp0|exact (fun h:(!false)=false=>absurd h (by decide))|exact (fun h:(!true)=true=>absurd h (by decide))|exact (fun h=>absurd ((beq_eq_false_iff_ne.2 e12).symm.trans h) (by decide))|exact (fun h=>absurd ((beq_eq_false_iff_ne.2 e13).symm.trans h) (by decide))|exact (fun h=>absurd ((beq_eq_false_iff_ne.2 e14).symm.trans h) (by decide))|exact (fun h=>absurd ((beq_eq_false_iff_ne.2 e15).symm.trans h) (by decide))|exact (fun h=>absurd h (by decide)))|refine ⟨?_, ?_⟩|intro _)
   all_goals first|(with_reducible first|apply qa|apply qb|apply qc|apply qd)|(conv=>whnf)
   all_goals first|(with_reducible rfl)|decide|exact congrArg (Value.int .i64) ((not_x e12 e13 e14 e15).1.symm)|exact congrArg Value.bool (not_x e12 e13 e14 e15).2.symm|rfl
 . cases h
theorem join_t {a b:Vl} (ha:a.t=⟨false,[]⟩) (hb:b.t=⟨false,[]⟩):(Vl.join a b).t=⟨false,[]⟩:=by
 show (⟨a.t.null||b.t.null,ofS (ofS a.t.names++ofS b.t.names)⟩:Ns)=_
 rw [ha,hb]
 show (⟨false,ofS (ofS []++ofS [])⟩:Ns)=_
 rw [ofS_nil,List.append_nil,ofS_nil]
theorem calcDo_t (op:Int) (a b:Vl) (m:List ByteArray):(calcDo op a b m).t=⟨false,[]⟩:=join_t (numV_t _ _ _) (ptrV_t _ _ _ _)
theorem calcOne_t (op:Int) (a:Vl):(calcOne op a).t=⟨false,[]⟩:=by unfold calcOne;split;rfl;exact bothV_t _ _
theorem meetI_t (a b:Vl):(meetI a b).t=⟨false,[]⟩:=by
 show (⟨false,ofS (ofS (meetS (ofS []) (ofS [])))⟩:Ns)=_
 rw [ofS_nil]
 show (⟨false,ofS (ofS [])⟩:Ns)=_
 rw [ofS_nil,ofS_nil]
theorem unV_t (a b:Vl):(unV a b).t=⟨false,[]⟩:=by unfold unV;split<;>exact bothV_t _ _
theorem cmA_t (op:Int) (a b:Vl):(cmA op a b).t=⟨false,[]⟩:=by unfold cmA;(repeat' split)<;>first|rfl|exact bothV_t _ _|exact unV_t _ _|exact meetI_t _ _
theorem cmB_t (op:Int) (a b:Vl):(cmB op a b).t=⟨false,[]⟩:=by unfold cmB;(repeat' split)<;>first|rfl|exact bothV_t _ _|exact unV_t _ _|exact meetI_t _ _
theorem other_len (a b:Ns) (m:List ByteArray):(otherN a b m).names.length<=a.names.length:=by
 unfold otherN;(repeat' split)
 . exact Nat.le_refl _
 . exact ofS_len _
 . exact Nat.le_refl _
 . exact Nat.le_trans (ofS_len _) (List.length_filter_le _ _)
theorem rf_len {op:Int} {a b:Vl} (m:List ByteArray) (h1:a.t.names.length*16<=140737488351232) (h2:b.t.names.length*16<=140737488351232):(rfA op a b m).t.names.length*16<=140737488351232/\ (rfB op a b m).t.names.length*16<=140737488351232:=by
 have hm:(ofS (meetS a.t.names b.t.names)).length<=a.t.names.length:=Nat.le_trans (ofS_len _) (List.length_filter_le _ _)
 have o1:=other_len a.t b.t m
 have o2:=other_len b.t a.t m
 have z:([]:List ByteArray).length*16<=140737488351232:=by decide
 constructor
 . unfold rfA;(repeat' split)
   all_goals first|exact h1|(rw [cmA_t];exact z)|(dsimp only;omega)
 . unfold rfB;(repeat' split)
   all_goals first|exact h2|(rw [cmB_t];exact z)|(dsimp only;omega)
theorem rf_inR {op:Int} {a b:Vl} (m:List ByteArray) (ha:a.inR) (hb:b.inR):((rfA op a b m).i.s.inR/\ (rfA op a b m).i.c.inR)/\ ((rfB op a b m).i.s.inR/\ (rfB op a b m).i.c.inR):=by
 have kA:=cmA_inR (op:=op) ha hb
 have kB:=cmB_inR (op:=op) ha hb
 constructor
 . unfold rfA;(repeat' split)<;>first|exact ha|exact kA
 . unfold rfB;(repeat' split)<;>first|exact hb|exact kB
theorem calcDo_inR' {op:Int} {a b:Vl} (m:List ByteArray) (ha:a.inR) (hb:b.inR):(calcDo op a b m).i.s.inR/\ (calcDo op a b m).i.c.inR:=by
 have h1:=numV_inR (op:=op) (Vl.of_inR ha) (Vl.of_inR hb)
 have h2:=ptrV_inR op a.of.t b.of.t m
 have e1:(numV op a.of b.of).inR:=h1
 have e2:(ptrV op a.of.t b.of.t m).inR:=h2
 exact ⟨Sp.join_inR (Vl.of_inR e1).1 (Vl.of_inR e2).1,Cg.join_inR (Vl.of_inR e1).2 (Vl.of_inR e2).2⟩
theorem calcOne_inR {op:Int} {a:Vl} (ha:a.inR):(calcOne op a).i.s.inR/\ (calcOne op a).i.c.inR:=by
 have io:=Vl.of_inR ha
 unfold calcOne;split
 . exact zeroV_inR
 . exact bothV_inR (rkOne_inR io.1) (rsOne_inR io.2)
theorem of_len {v:Vl} (h:v.t.names.length*16<=140737488351232):v.of.t.names.length*16<=140737488351232:=by
 have:=ofS_len v.t.names
 show (ofS v.t.names).length*16<=_;omega
theorem oneI_rng {op x:Int} (r: -9223372036854775808<=x/\ x<9223372036854775808): -9223372036854775808<=oneI op x/\ oneI op x<9223372036854775808:=by
 unfold oneI;split
 . exact wr_r _
 . split
   . split<;>decide
   . decide
theorem notI_rng (op:Int): -9223372036854775808<=notI op/\ notI op<9223372036854775808:=by unfold notI;(repeat' split)<;>decide
theorem vlEq2 (v:Vl):(⟨v.i,⟨v.t.null,gN v.t.names.length fun i=> [st (atS v.t.names i)]⟩⟩:Vl)=v:=by rw [gN_lst]
theorem not_way {op x y:Int} (h:doI op x y=0) (hn:(notI op !=0)=true):(notB op=false->cmpB (notI op) x y=true)/\ (notB op=true->cmpB (notI op) y x=true):=by
 have ho:op=12 \/op=13 \/op=14 \/op=15:=by
  by_cases a:op=12
  . exact .inl a
  . by_cases b:op=13
    . exact .inr (.inl b)
    . by_cases c:op=14
      . exact .inr (.inr (.inl c))
      . by_cases d:op=15
        . exact .inr (.inr (.inr d))
        . rw [(not_x a b c d).1] at hn;exact absurd hn (by decide)
 have hz:=zero_way (x:=x) (y:=y) (by omega) h
 rcases ho with rfl|rfl|rfl|rfl
 . exact ⟨fun k=>absurd k (by decide),fun _=>not_12 hz⟩
 . exact ⟨fun k=>absurd k (by decide),fun _=>not_13 hz⟩
 . exact ⟨fun _=>not_14 hz,fun k=>absurd k (by decide)⟩
 . exact ⟨fun _=>not_15 hz,fun k=>absurd k (by decide)⟩
def FCalcSound:List Ar->Option Rs
 | [.agg [.d (.v (.int .i64 o0)),.d (.v (.bool sa0)),.d (.v (.int .i64 la0)),.d (.v (.int .i64 ha0)),.d (.v (.bool ba0)),.d (.v (.int .i64 ma0)),.d (.v (.int .i64 ra0)),.d (.v (.bool _)),.d (.lst 1 na0 fa0),.d (.v (.bool sb0)),.d (.v (.int .i64 lb0)),.d (.v (.int .i64 hb0)),.d (.v (.bool bb0)),.d (.v (.int .i64 mb0)),.d (.v (.int .i64 rb0)),.d (.v (.bool _)),.d (.lst 1 nb0 fb0),.d (.lst 1 nm0 fm0),.d (.v (.int .i64 x0)),.d (.v (.int .i64 y0))]]=>some ⟨((-9223372036854775808<=o0/\ o0<9223372036854775808)/\ ((na0*16<=140737488351232/\ ∀i,i<na0->fa0 i= [st (gT (fa0 i))])/\ Sp.inR ⟨sa0,la0,ha0⟩/\ Cg.inR ⟨ba0,ma0,ra0⟩)/\ ((nb0*16<=140737488351232/\ ∀i,i<nb0->fb0 i= [st (gT (fb0 i))])/\ Sp.inR ⟨sb0,lb0,hb0⟩/\ Cg.inR ⟨bb0,mb0,rb0⟩)/\ (nm0*16<=140737488351232/\ ∀i,i<nm0->fm0 i= [st (gT (fm0 i))])/\ (-9223372036854775808<=x0/\ x0<9223372036854775808)/\ (-9223372036854775808<=y0/\ y0<9223372036854775808)),.va (.c (.d (bo (true)))),[]⟩
 |_=>none
theorem fcCalcSound:FC Tryz.prog 6 FCalcSound:=by
 intro xs pre r us h hp
 unfold FCalcSound at h
 split at h
 . rename_i o0 sa0 la0 ha0 ba0 ma0 ra0 za0 na0 fa0 sb0 lb0 hb0 bb0 mb0 rb0 zb0 nb0 fb0 nm0 fm0 x0 y0
   cases h
   have hp0:=hp
   refine FCat.of_eq (as':= [.agg [.d (.v (.int .i64 o0)),.d (.v (.bool sa0)),.d (.v (.int .i64 la0)),.d (.v (.int .i64 ha0)),.d (.v (.bool ba0)),.d (.v (.int .i64 ma0)),.d (.v (.int .i64 ra0)),.d (.v (.bool za0)),.d (.lst 1 na0 fun i=> [st (gT (fa0 i))]),.d (.v (.bool sb0)),.d (.v (.int .i64 lb0)),.d (.v (.int .i64 hb0)),.d (.v (.bool bb0)),.d (.v (.int .i64 mb0)),.d (.v (.int .i64 rb0)),.d (.v (.bool zb0)),.d (.lst 1 nb0 fun i=> [st (gT (fb0 i))]),.d (.lst 1 nm0 fun i=> [st (gT (fm0 i))]),.d (.v (.int .i64 x0)),.d (.v (.int .i64 y0))]]) ?_ rfl rfl ?_
   . repeat' (first|exact trivial|exact rfl|refine ⟨?_, ?_⟩|fail)
     all_goals first|(intro i hi;exact hp0.2.1.1.2 i hi)|(intro i hi;exact hp0.2.2.1.1.2 i hi)|(intro i hi;exact hp0.2.2.2.1.2 i hi)|exact hp0.2|exact hp1.2|exact hp2.2|(intro i hi;exact (hp0.2 i hi).1)|(intro i hi;exact (hp1.2 i hi).1)|(intro i hi;exact (hp2.2 i hi).1)|grind
   refine fcat tys_ok (l:= [(9,⟨[],FRVHasInt⟩),(25,⟨[],FC9Lives⟩),(23,⟨[],FR2Do⟩),(30,⟨[],FR2OneF⟩),(21,⟨[],FCDo⟩),(31,⟨[],FCalcOneV⟩),(27,⟨[],FCRefine⟩),(32,⟨[],FCNot⟩)]) ⟨fcRVHasInt,fcC9Lives,fcR2Do,fcR2OneF,fcCDo,fcCalcOneV,fcCRefine,fcCNot,trivial⟩ Tryz.func6 rfl (by kernel_rfl) true ?_
   obtain ⟨ho,ha,hb,hm,hx,hy⟩:=hp0
   all_goals first|(cases hA:Vl.hasInt (⟨⟨⟨sa0,la0,ha0⟩,⟨ba0,ma0,ra0⟩⟩,⟨za0,(gN na0 fun i=> [st (gT (fa0 i))])⟩⟩:Vl) x0)|skip
   all_goals first|(have _:=(show _=true from hA);cases hB:Vl.hasInt (⟨⟨⟨sb0,lb0,hb0⟩,⟨bb0,mb0,rb0⟩⟩,⟨zb0,(gN nb0 fun i=> [st (gT (fb0 i))])⟩⟩:Vl) y0)|skip
   all_goals first|(have _:=(show _=true from hB);cases hE:(doE o0 y0==0))|skip
   all_goals first|(have _:=(show _=true from hB);cases hF:(oneE o0==0))|skip
   all_goals first|(have _:=(show _=true from hE);cases h1:(doI o0 x0 y0==1))|skip
   all_goals first|(have _:=(show _=false from h1);cases h0:(doI o0 x0 y0==0))|skip
   all_goals first|(have _:=(show _=true from h0);cases hN:(notI o0 !=0))|skip
   all_goals first|(have _:=(show _=true from hN);cases hS_:notB o0)|skip
   all_goals first|(have h01:(doI o0 x0 y0==0)=false:=by rw [eq_of_beq h1];rfl)|skip
   all_goals first|(have iD:=calcDo_inR' (op:=o0) (a:=(⟨⟨⟨sa0,la0,ha0⟩,⟨ba0,ma0,ra0⟩⟩,⟨za0,(gN na0 fun i=> [st (gT (fa0 i))])⟩⟩:Vl)) (b:=(⟨⟨⟨sb0,lb0,hb0⟩,⟨bb0,mb0,rb0⟩⟩,⟨zb0,(gN nb0 fun i=> [st (gT (fb0 i))])⟩⟩:Vl)) (gN nm0 fun i=> [st (gT (fm0 i))]) ha.2 hb.2)|skip
   all_goals first|(have iO:=calcOne_inR (op:=o0) (a:=(⟨⟨⟨sa0,la0,ha0⟩,⟨ba0,ma0,ra0⟩⟩,⟨za0,(gN na0 fun i=> [st (gT (fa0 i))])⟩⟩:Vl)) ha.2)|skip
   all_goals first|(have iR:=rf_inR (op:=o0) (a:=(Vl.of (⟨⟨⟨sa0,la0,ha0⟩,⟨ba0,ma0,ra0⟩⟩,⟨za0,(gN na0 fun i=> [st (gT (fa0 i))])⟩⟩:Vl))) (b:=(Vl.of (⟨⟨⟨sb0,lb0,hb0⟩,⟨bb0,mb0,rb0⟩⟩,⟨zb0,(gN nb0 fun i=> [st (gT (fb0 i))])⟩⟩:Vl))) (gN nm0 fun i=> [st (gT (fm0 i))]) (Vl.of_inR ha.2) (Vl.of_inR hb.2))|skip
   all_goals first|(have iQ:=rf_inR (op:=notI o0) (a:=(Vl.of (⟨⟨⟨sa0,la0,ha0⟩,⟨ba0,ma0,ra0⟩⟩,⟨za0,(gN na0 fun i=> [st (gT (fa0 i))])⟩⟩:Vl))) (b:=(Vl.of (⟨⟨⟨sb0,lb0,hb0⟩,⟨bb0,mb0,rb0⟩⟩,⟨zb0,(gN nb0 fun i=> [st (gT (fb0 i))])⟩⟩:Vl))) (gN nm0 fun i=> [st (gT (fm0 i))]) (Vl.of_inR ha.2) (Vl.of_inR hb.2))|skip
   all_goals first|(have iS:=rf_inR (op:=notI o0) (a:=(Vl.of (⟨⟨⟨sb0,lb0,hb0⟩,⟨bb0,mb0,rb0⟩⟩,⟨zb0,(gN nb0 fun i=> [st (gT (fb0 i))])⟩⟩:Vl))) (b:=(Vl.of (⟨⟨⟨sa0,la0,ha0⟩,⟨ba0,ma0,ra0⟩⟩,⟨za0,(gN na0 fun i=> [st (gT (fa0 i))])⟩⟩:Vl))) (gN nm0 fun i=> [st (gT (fm0 i))]) (Vl.of_inR hb.2) (Vl.of_inR ha.2))|skip
   all_goals first|(have la:((⟨⟨⟨sa0,la0,ha0⟩,⟨ba0,ma0,ra0⟩⟩,⟨za0,(gN na0 fun i=> [st (gT (fa0 i))])⟩⟩:Vl)).t.names.length*16<=140737488351232:=by show (gN na0 _).length*16<=_;rw [gN_length];exact ha.1.1)|skip
   all_goals first|(have lb:((⟨⟨⟨sb0,lb0,hb0⟩,⟨bb0,mb0,rb0⟩⟩,⟨zb0,(gN nb0 fun i=> [st (gT (fb0 i))])⟩⟩:Vl)).t.names.length*16<=140737488351232:=by show (gN nb0 _).length*16<=_;rw [gN_length];exact hb.1.1)|skip
   all_goals first|(have lR:=rf_len (op:=o0) (a:=(Vl.of (⟨⟨⟨sa0,la0,ha0⟩,⟨ba0,ma0,ra0⟩⟩,⟨za0,(gN na0 fun i=> [st (gT (fa0 i))])⟩⟩:Vl))) (b:=(Vl.of (⟨⟨⟨sb0,lb0,hb0⟩,⟨bb0,mb0,rb0⟩⟩,⟨zb0,(gN nb0 fun i=> [st (gT (fb0 i))])⟩⟩:Vl))) (gN nm0 fun i=> [st (gT (fm0 i))]) (of_len la) (of_len lb))|skip
   all_goals first|(have lQ:=rf_len (op:=notI o0) (a:=(Vl.of (⟨⟨⟨sa0,la0,ha0⟩,⟨ba0,ma0,ra0⟩⟩,⟨za0,(gN na0 fun i=> [st (gT (fa0 i))])⟩⟩:Vl))) (b:=(Vl.of (⟨⟨⟨sb0,lb0,hb0⟩,⟨bb0,mb0,rb0⟩⟩,⟨zb0,(gN nb0 fun i=> [st (gT (fb0 i))])⟩⟩:Vl))) (gN nm0 fun i=> [st (gT (fm0 i))]) (of_len la) (of_len lb))|skip
   all_goals first|(have lS:=rf_len (op:=notI o0) (a:=(Vl.of (⟨⟨⟨sb0,lb0,hb0⟩,⟨bb0,mb0,rb0⟩⟩,⟨zb0,(gN nb0 fun i=> [st (gT (fb0 i))])⟩⟩:Vl))) (b:=(Vl.of (⟨⟨⟨sa0,la0,ha0⟩,⟨ba0,ma0,ra0⟩⟩,⟨za0,(gN na0 fun i=> [st (gT (fa0 i))])⟩⟩:Vl))) (gN nm0 fun i=> [st (gT (fm0 i))]) (of_len lb) (of_len la))|skip
   all_goals first|(have lD:(calcDo o0 (⟨⟨⟨sa0,la0,ha0⟩,⟨ba0,ma0,ra0⟩⟩,⟨za0,(gN na0 fun i=> [st (gT (fa0 i))])⟩⟩:Vl) (⟨⟨⟨sb0,lb0,hb0⟩,⟨bb0,mb0,rb0⟩⟩,⟨zb0,(gN nb0 fun i=> [st (gT (fb0 i))])⟩⟩:Vl) (gN nm0 fun i=> [st (gT (fm0 i))])).t.names.length*16<=140737488351232:=by rw [calcDo_t];decide)|skip
   all_goals first|(have lO:(calcOne o0 (⟨⟨⟨sa0,la0,ha0⟩,⟨ba0,ma0,ra0⟩⟩,⟨za0,(gN na0 fun i=> [st (gT (fa0 i))])⟩⟩:Vl)).t.names.length*16<=140737488351232:=by rw [calcOne_t];decide)|skip
   all_goals first|(have rn:=doI_rng (op:=o0) (b:=y0) hx)|skip
   all_goals first|(have rm:=oneI_rng (op:=o0) hx)|skip
   all_goals first|(have rq:=notI_rng o0)|skip
   all_goals first|(have hD: ∀_:(doE o0 y0==0)=true,Vl.hasInt (⟨(calcDo o0 (⟨⟨⟨sa0,la0,ha0⟩,⟨ba0,ma0,ra0⟩⟩,⟨za0,(gN na0 fun i=> [st (gT (fa0 i))])⟩⟩:Vl) (⟨⟨⟨sb0,lb0,hb0⟩,⟨bb0,mb0,rb0⟩⟩,⟨zb0,(gN nb0 fun i=> [st (gT (fb0 i))])⟩⟩:Vl) (gN nm0 fun i=> [st (gT (fm0 i))])).i,⟨(calcDo o0 (⟨⟨⟨sa0,la0,ha0⟩,⟨ba0,ma0,ra0⟩⟩,⟨za0,(gN na0 fun i=> [st (gT (fa0 i))])⟩⟩:Vl) (⟨⟨⟨sb0,lb0,hb0⟩,⟨bb0,mb0,rb0⟩⟩,⟨zb0,(gN nb0 fun i=> [st (gT (fb0 i))])⟩⟩:Vl) (gN nm0 fun i=> [st (gT (fm0 i))])).t.null,gN (calcDo o0 (⟨⟨⟨sa0,la0,ha0⟩,⟨ba0,ma0,ra0⟩⟩,⟨za0,(gN na0 fun i=> [st (gT (fa0 i))])⟩⟩:Vl) (⟨⟨⟨sb0,lb0,hb0⟩,⟨bb0,mb0,rb0⟩⟩,⟨zb0,(gN nb0 fun i=> [st (gT (fb0 i))])⟩⟩:Vl) (gN nm0 fun i=> [st (gT (fm0 i))])).t.names.length fun k_=> [st (atS (calcDo o0 (⟨⟨⟨sa0,la0,ha0⟩,⟨ba0,ma0,ra0⟩⟩,⟨za0,(gN na0 fun i=> [st (gT (fa0 i))])⟩⟩:Vl) (⟨⟨⟨sb0,lb0,hb0⟩,⟨bb0,mb0,rb0⟩⟩,⟨zb0,(gN nb0 fun i=> [st (gT (fb0 i))])⟩⟩:Vl) (gN nm0 fun i=> [st (gT (fm0 i))])).t.names k_)]⟩⟩:Vl) (doI o0 x0 y0)=true:=fun k=>(congrArg (fun v=>Vl.hasInt v (doI o0 x0 y0)) (vlEq2 _)).trans (calcDo_sound (a:=(⟨⟨⟨sa0,la0,ha0⟩,⟨ba0,ma0,ra0⟩⟩,⟨za0,(gN na0 fun i=> [st (gT (fa0 i))])⟩⟩:Vl)) (b:=(⟨⟨⟨sb0,lb0,hb0⟩,⟨bb0,mb0,rb0⟩⟩,⟨zb0,(gN nb0 fun i=> [st (gT (fb0 i))])⟩⟩:Vl)) ha.2 hb.2 hx hy hA hB (eq_of_beq k) (gN nm0 fun i=> [st (gT (fm0 i))])))|skip
   all_goals first|(have hO: ∀_:(oneE o0==0)=true,Vl.hasInt (⟨(calcOne o0 (⟨⟨⟨sa0,la0,ha0⟩,⟨ba0,ma0,ra0⟩⟩,⟨za0,(gN na0 fun i=> [st (gT (fa0 i))])⟩⟩:Vl)).i,⟨(calcOne o0 (⟨⟨⟨sa0,la0,ha0⟩,⟨ba0,ma0,ra0⟩⟩,⟨za0,(gN na0 fun i=> [st (gT (fa0 i))])⟩⟩:Vl)).t.null,gN (calcOne o0 (⟨⟨⟨sa0,la0,ha0⟩,⟨ba0,ma0,ra0⟩⟩,⟨za0,(gN na0 fun i=> [st (gT (fa0 i))])⟩⟩:Vl)).t.names.length fun k_=> [st (atS (calcOne o0 (⟨⟨⟨sa0,la0,ha0⟩,⟨ba0,ma0,ra0⟩⟩,⟨za0,(gN na0 fun i=> [st (gT (fa0 i))])⟩⟩:Vl)).t.names k_)]⟩⟩:Vl) (oneI o0 x0)=true:=fun k=>(congrArg (fun v=>Vl.hasInt v (oneI o0 x0)) (vlEq2 _)).trans (one_sound (a:=(⟨⟨⟨sa0,la0,ha0⟩,⟨ba0,ma0,ra0⟩⟩,⟨za0,(gN na0 fun i=> [st (gT (fa0 i))])⟩⟩:Vl)) ha.2 hx hA (eq_of_beq k)))|skip
   all_goals first|(have hR: ∀_:(doI o0 x0 y0==1)=true,Vl.hasInt (⟨(rfA o0 (Vl.of (⟨⟨⟨sa0,la0,ha0⟩,⟨ba0,ma0,ra0⟩⟩,⟨za0,(gN na0 fun i=> [st (gT (fa0 i))])⟩⟩:Vl)) (Vl.of (⟨⟨⟨sb0,lb0,hb0⟩,⟨bb0,mb0,rb0⟩⟩,⟨zb0,(gN nb0 fun i=> [st (gT (fb0 i))])⟩⟩:Vl)) (gN nm0 fun i=> [st (gT (fm0 i))])).i,⟨(rfA o0 (Vl.of (⟨⟨⟨sa0,la0,ha0⟩,⟨ba0,ma0,ra0⟩⟩,⟨za0,(gN na0 fun i=> [st (gT (fa0 i))])⟩⟩:Vl)) (Vl.of (⟨⟨⟨sb0,lb0,hb0⟩,⟨bb0,mb0,rb0⟩⟩,⟨zb0,(gN nb0 fun i=> [st (gT (fb0 i))])⟩⟩:Vl)) (gN nm0 fun i=> [st (gT (fm0 i))])).t.null,gN (rfA o0 (Vl.of (⟨⟨⟨sa0,la0,ha0⟩,⟨ba0,ma0,ra0⟩⟩,⟨za0,(gN na0 fun i=> [st (gT (fa0 i))])⟩⟩:Vl)) (Vl.of (⟨⟨⟨sb0,lb0,hb0⟩,⟨bb0,mb0,rb0⟩⟩,⟨zb0,(gN nb0 fun i=> [st (gT (fb0 i))])⟩⟩:Vl)) (gN nm0 fun i=> [st (gT (fm0 i))])).t.names.length fun k_=> [st (atS (rfA o0 (Vl.of (⟨⟨⟨sa0,la0,ha0⟩,⟨ba0,ma0,ra0⟩⟩,⟨za0,(gN na0 fun i=> [st (gT (fa0 i))])⟩⟩:Vl)) (Vl.of (⟨⟨⟨sb0,lb0,hb0⟩,⟨bb0,mb0,rb0⟩⟩,⟨zb0,(gN nb0 fun i=> [st (gT (fb0 i))])⟩⟩:Vl)) (gN nm0 fun i=> [st (gT (fm0 i))])).t.names k_)]⟩⟩:Vl) x0=true/\ Vl.hasInt (⟨(rfB o0 (Vl.of (⟨⟨⟨sa0,la0,ha0⟩,⟨ba0,ma0,ra0⟩⟩,⟨za0,(gN na0 fun i=> [st (gT (fa0 i))])⟩⟩:Vl)) (Vl.of (⟨⟨⟨sb0,lb0,hb0⟩,⟨bb0,mb0,rb0⟩⟩,⟨zb0,(gN nb0 fun i=> [st (gT (fb0 i))])⟩⟩:Vl)) (gN nm0 fun i=> [st (gT (fm0 i))])).i,⟨(rfB o0 (Vl.of (⟨⟨⟨sa0,la0,ha0⟩,⟨ba0,ma0,ra0⟩⟩,⟨za0,(gN na0 fun i=> [st (gT (fa0 i))])⟩⟩:Vl)) (Vl.of (⟨⟨⟨sb0,lb0,hb0⟩,⟨bb0,mb0,rb0⟩⟩,⟨zb0,(gN nb0 fun i=> [st (gT (fb0 i))])⟩⟩:Vl)) (gN nm0 fun i=> [st (gT (fm0 i))])).t.null,gN (rfB o0 (Vl.of (⟨⟨⟨sa0,la0,ha0⟩,⟨ba0,ma0,ra0⟩⟩,⟨za0,(gN na0 fun i=> [st (gT (fa0 i))])⟩⟩:Vl)) (Vl.of (⟨⟨⟨sb0,lb0,hb0⟩,⟨bb0,mb0,rb0⟩⟩,⟨zb0,(gN nb0 fun i=> [st (gT (fb0 i))])⟩⟩:Vl)) (gN nm0 fun i=> [st (gT (fm0 i))])).t.names.length fun k_=> [st (atS (rfB o0 (Vl.of (⟨⟨⟨sa0,la0,ha0⟩,⟨ba0,ma0,ra0⟩⟩,⟨za0,(gN na0 fun i=> [st (gT (fa0 i))])⟩⟩:Vl)) (Vl.of (⟨⟨⟨sb0,lb0,hb0⟩,⟨bb0,mb0,rb0⟩⟩,⟨zb0,(gN nb0 fun i=> [st (gT (fb0 i))])⟩⟩:Vl)) (gN nm0 fun i=> [st (gT (fm0 i))])).t.names k_)]⟩⟩:Vl) y0=true:=fun k=>have e:=refine_sound (op:=o0) (a:=(⟨⟨⟨sa0,la0,ha0⟩,⟨ba0,ma0,ra0⟩⟩,⟨za0,(gN na0 fun i=> [st (gT (fa0 i))])⟩⟩:Vl)) (b:=(⟨⟨⟨sb0,lb0,hb0⟩,⟨bb0,mb0,rb0⟩⟩,⟨zb0,(gN nb0 fun i=> [st (gT (fb0 i))])⟩⟩:Vl)) ha.2 hb.2 hx hy hA hB (gN nm0 fun i=> [st (gT (fm0 i))]) (one_way (eq_of_beq k));⟨(congrArg (fun v=>Vl.hasInt v x0) (vlEq2 _)).trans e.1,(congrArg (fun v=>Vl.hasInt v y0) (vlEq2 _)).trans e.2⟩)|skip
   all_goals first|(have hQ: ∀_:(doI o0 x0 y0==0)=true, ∀_:(notI o0 !=0)=true, ∀_:notB o0=false,Vl.hasInt (⟨(rfA (notI o0) (Vl.of (⟨⟨⟨sa0,la0,ha0⟩,⟨ba0,ma0,ra0⟩⟩,⟨za0,(gN na0 fun i=> [st (gT (fa0 i))])⟩⟩:Vl)) (Vl.of (⟨⟨⟨sb0,lb0,hb0⟩,⟨bb0,mb0,rb0⟩⟩,⟨zb0,(gN nb0 fun i=> [st (gT (fb0 i))])⟩⟩:Vl)) (gN nm0 fun i=> [st (gT (fm0 i))])).i,⟨(rfA (notI o0) (Vl.of (⟨⟨⟨sa0,la0,ha0⟩,⟨ba0,ma0,ra0⟩⟩,⟨za0,(gN na0 fun i=> [st (gT (fa0 i))])⟩⟩:Vl)) (Vl.of (⟨⟨⟨sb0,lb0,hb0⟩,⟨bb0,mb0,rb0⟩⟩,⟨zb0,(gN nb0 fun i=> [st (gT (fb0 i))])⟩⟩:Vl)) (gN nm0 fun i=> [st (gT (fm0 i))])).t.null,gN (rfA (notI o0) (Vl.of (⟨⟨⟨sa0,la0,ha0⟩,⟨ba0,ma0,ra0⟩⟩,⟨za0,(gN na0 fun i=> [st (gT (fa0 i))])⟩⟩:Vl)) (Vl.of (⟨⟨⟨sb0,lb0,hb0⟩,⟨bb0,mb0,rb0⟩⟩,⟨zb0,(gN nb0 fun i=> [st (gT (fb0 i))])⟩⟩:Vl)) (gN nm0 fun i=> [st (gT (fm0 i))])).t.names.length fun k_=> [st (atS (rfA (notI o0) (Vl.of (⟨⟨⟨sa0,la0,ha0⟩,⟨ba0,ma0,ra0⟩⟩,⟨za0,(gN na0 fun i=> [st (gT (fa0 i))])⟩⟩:Vl)) (Vl.of (⟨⟨⟨sb0,lb0,hb0⟩,⟨bb0,mb0,rb0⟩⟩,⟨zb0,(gN nb0 fun i=> [st (gT (fb0 i))])⟩⟩:Vl)) (gN nm0 fun i=> [st (gT (fm0 i))])).t.names k_)]⟩⟩:Vl) x0=true/\ Vl.hasInt (⟨(rfB (notI o0) (Vl.of (⟨⟨⟨sa0,la0,ha0⟩,⟨ba0,ma0,ra0⟩⟩,⟨za0,(gN na0 fun i=> [st (gT (fa0 i))])⟩⟩:Vl)) (Vl.of (⟨⟨⟨sb0,lb0,hb0⟩,⟨bb0,mb0,rb0⟩⟩,⟨zb0,(gN nb0 fun i=> [st (gT (fb0 i))])⟩⟩:Vl)) (gN nm0 fun i=> [st (gT (fm0 i))])).i,⟨(rfB (notI o0) (Vl.of (⟨⟨⟨sa0,la0,ha0⟩,⟨ba0,ma0,ra0⟩⟩,⟨za0,(gN na0 fun i=> [st (gT (fa0 i))])⟩⟩:Vl)) (Vl.of (⟨⟨⟨sb0,lb0,hb0⟩,⟨bb0,mb0,rb0⟩⟩,⟨zb0,(gN nb0 fun i=> [st (gT (fb0 i))])⟩⟩:Vl)) (gN nm0 fun i=> [st (gT (fm0 i))])).t.null,gN (rfB (notI o0) (Vl.of (⟨⟨⟨sa0,la0,ha0⟩,⟨ba0,ma0,ra0⟩⟩,⟨za0,(gN na0 fun i=> [st (gT (fa0 i))])⟩⟩:Vl)) (Vl.of (⟨⟨⟨sb0,lb0,hb0⟩,⟨bb0,mb0,rb0⟩⟩,⟨zb0,(gN nb0 fun i=> [st (gT (fb0 i))])⟩⟩:Vl)) (gN nm0 fun i=> [st (gT (fm0 i))])).t.names.length fun k_=> [st (atS (rfB (notI o0) (Vl.of (⟨⟨⟨sa0,la0,ha0⟩,⟨ba0,ma0,ra0⟩⟩,⟨za0,(gN na0 fun i=> [st (gT (fa0 i))])⟩⟩:Vl)) (Vl.of (⟨⟨⟨sb0,lb0,hb0⟩,⟨bb0,mb0,rb0⟩⟩,⟨zb0,(gN nb0 fun i=> [st (gT (fb0 i))])⟩⟩:Vl)) (gN nm0 fun i=> [st (gT (fm0 i))])).t.names k_)]⟩⟩:Vl) y0=true:=fun k n s=>have e:=refine_sound (op:=notI o0) (a:=(⟨⟨⟨sa0,la0,ha0⟩,⟨ba0,ma0,ra0⟩⟩,⟨za0,(gN na0 fun i=> [st (gT (fa0 i))])⟩⟩:Vl)) (b:=(⟨⟨⟨sb0,lb0,hb0⟩,⟨bb0,mb0,rb0⟩⟩,⟨zb0,(gN nb0 fun i=> [st (gT (fb0 i))])⟩⟩:Vl)) ha.2 hb.2 hx hy hA hB (gN nm0 fun i=> [st (gT (fm0 i))]) (.inr (.inr ((not_way (eq_of_beq k) n).1 s)));⟨(congrArg (fun v=>Vl.hasInt v x0) (vlEq2 _)).trans e.1,(congrArg (fun v=>Vl.hasInt v y0) (vlEq2 _)).trans e.2⟩)|skip
   all_goals first|(have hW: ∀_:(doI o0 x0 y0==0)=true, ∀_:(notI o0 !=0)=true, ∀_:notB o0=true,Vl.hasInt (⟨(rfB (notI o0) (Vl.of (⟨⟨⟨sb0,lb0,hb0⟩,⟨bb0,mb0,rb0⟩⟩,⟨zb0,(gN nb0 fun i=> [st (gT (fb0 i))])⟩⟩:Vl)) (Vl.of (⟨⟨⟨sa0,la0,ha0⟩,⟨ba0,ma0,ra0⟩⟩,⟨za0,(gN na0 fun i=> [st (gT (fa0 i))])⟩⟩:Vl)) (gN nm0 fun i=> [st (gT (fm0 i))])).i,⟨(rfB (notI o0) (Vl.of (⟨⟨⟨sb0,lb0,hb0⟩,⟨bb0,mb0,rb0⟩⟩,⟨zb0,(gN nb0 fun i=> [st (gT (fb0 i))])⟩⟩:Vl)) (Vl.of (⟨⟨⟨sa0,la0,ha0⟩,⟨ba0,ma0,ra0⟩⟩,⟨za0,(gN na0 fun i=> [st (gT (fa0 i))])⟩⟩:Vl)) (gN nm0 fun i=> [st (gT (fm0 i))])).t.null,gN (rfB (notI o0) (Vl.of (⟨⟨⟨sb0,lb0,hb0⟩,⟨bb0,mb0,rb0⟩⟩,⟨zb0,(gN nb0 fun i=> [st (gT (fb0 i))])⟩⟩:Vl)) (Vl.of (⟨⟨⟨sa0,la0,ha0⟩,⟨ba0,ma0,ra0⟩⟩,⟨za0,(gN na0 fun i=> [st (gT (fa0 i))])⟩⟩:Vl)) (gN nm0 fun i=> [st (gT (fm0 i))])).t.names.length fun k_=> [st (atS (rfB (notI o0) (Vl.of (⟨⟨⟨sb0,lb0,hb0⟩,⟨bb0,mb0,rb0⟩⟩,⟨zb0,(gN nb0 fun i=> [st (gT (fb0 i))])⟩⟩:Vl)) (Vl.of (⟨⟨⟨sa0,la0,ha0⟩,⟨ba0,ma0,ra0⟩⟩,⟨za0,(gN na0 fun i=> [st (gT (fa0 i))])⟩⟩:Vl)) (gN nm0 fun i=> [st (gT (fm0 i))])).t.names k_)]⟩⟩:Vl) x0=true/\ Vl.hasInt (⟨(rfA (notI o0) (Vl.of (⟨⟨⟨sb0,lb0,hb0⟩,⟨bb0,mb0,rb0⟩⟩,⟨zb0,(gN nb0 fun i=> [st (gT (fb0 i))])⟩⟩:Vl)) (Vl.of (⟨⟨⟨sa0,la0,ha0⟩,⟨ba0,ma0,ra0⟩⟩,⟨za0,(gN na0 fun i=> [st (gT (fa0 i))])⟩⟩:Vl)) (gN nm0 fun i=> [st (gT (fm0 i))])).i,⟨(rfA (notI o0) (Vl.of (⟨⟨⟨sb0,lb0,hb0⟩,⟨bb0,mb0,rb0⟩⟩,⟨zb0,(gN nb0 fun i=> [st (gT (fb0 i))])⟩⟩:Vl)) (Vl.of (⟨⟨⟨sa0,la0,ha0⟩,⟨ba0,ma0,ra0⟩⟩,⟨za0,(gN na0 fun i=> [st (gT (fa0 i))])⟩⟩:Vl)) (gN nm0 fun i=> [st (gT (fm0 i))])).t.null,gN (rfA (notI o0) (Vl.of (⟨⟨⟨sb0,lb0,hb0⟩,⟨bb0,mb0,rb0⟩⟩,⟨zb0,(gN nb0 fun i=> [st (gT (fb0 i))])⟩⟩:Vl)) (Vl.of (⟨⟨⟨sa0,la0,ha0⟩,⟨ba0,ma0,ra0⟩⟩,⟨za0,(gN na0 fun i=> [st (gT (fa0 i))])⟩⟩:Vl)) (gN nm0 fun i=> [st (gT (fm0 i))])).t.names.length fun k_=> [st (atS (rfA (notI o0) (Vl.of (⟨⟨⟨sb0,lb0,hb0⟩,⟨bb0,mb0,rb0⟩⟩,⟨zb0,(gN nb0 fun i=> [st (gT (fb0 i))])⟩⟩:Vl)) (Vl.of (⟨⟨⟨sa0,la0,ha0⟩,⟨ba0,ma0,ra0⟩⟩,⟨za0,(gN na0 fun i=> [st (gT (fa0 i))])⟩⟩:Vl)) (gN nm0 fun i=> [st (gT (fm0 i))])).t.names k_)]⟩⟩:Vl) y0=true:=fun k n s=>have e:=refine_sound (op:=notI o0) (a:=(⟨⟨⟨sb0,lb0,hb0⟩,⟨bb0,mb0,rb0⟩⟩,⟨zb0,(gN nb0 fun i=> [st (gT (fb0 i))])⟩⟩:Vl)) (b:=(⟨⟨⟨sa0,la0,ha0⟩,⟨ba0,ma0,ra0⟩⟩,⟨za0,(gN na0 fun i=> [st (gT (fa0 i))])⟩⟩:Vl)) hb.2 ha.2 hy hx hB hA (gN nm0 fun i=> [st (gT (fm0 i))]) (.inr (.inr ((not_way (eq_of_beq k) n).2 s)));⟨(congrArg (fun v=>Vl.hasInt v x0) (vlEq2 _)).trans e.2,(congrArg (fun v=>Vl.hasInt v y0) (vlEq2 _)).trans e.1⟩)|skip
   all_goals repeat' (first|exact trivial|(with_reducible first|exact ho|exact ha|exact hb|exact hm|exact hx|exact hy|exact ha.1|exact ha.2|exact hb.1|exact hb.2|exact hm.1|exact ha.1.1|exact hb.1.1|exact ha.2.1|exact ha.2.2|exact hb.2.1|exact hb.2.2|exact rn|exact rm|exact rq|exact lD|exact lO|exact lR.1|exact lR.2|exact lQ.1|exact lQ.2|exact lS.1|exact lS.2|exact iD|exact iD.1|exact iD.2|exact iO|exact iO.1|exact iO.2|exact iR.1|exact iR.1.1|exact iR.1.2|exact iR.2|exact iR.2.1|exact iR.2.2|exact iQ.1|exact iQ.1.1|exact iQ.1.2|exact iQ.2|exact iQ.2.1|exact iQ.2.2|exact iS.1|exact iS.1.1|exact iS.1.2|exact iS.2|exact iS.2.1|exact iS.2.2|exact And.intro ho (And.intro hx hy)|exact And.intro ho hx|exact (fun h=>absurd ((hD hE).symm.trans h) (by decide))|exact (fun h=>absurd ((hO hF).symm.trans h) (by decide))|exact (fun h=>absurd ((hR h1).1.symm.trans h) (by decide))|exact (fun h=>absurd ((hR h1).2.symm.trans h) (by decide))|exact (fun h=>absurd ((hQ h0 hN hS_).1.symm.trans h) (by decide))|exact (fun h=>absurd ((hQ h0 hN hS_).2.symm.trans h) (by decide))|exact (fun h=>absurd ((hW h0 hN hS_).1.symm.trans h) (by decide))|exact (fun h=>absurd ((hW h0 hN hS_).2.symm.trans h) (by decide))|exact (fun h=>absurd (h01.symm.trans h) (by decide))|exact (fun h=>absurd ((congrArg Bool.not (hD hE)).symm.trans h) (by decide))|exact (fun h=>absurd ((congrArg Bool.not (hO hF)).symm.trans h) (by decide))|exact (fun h=>absurd ((congrArg Bool.not (hR h1).1).symm.trans h) (by decide))|exact (fun h=>absurd ((congrArg Bool.not (hR h1).2).symm.trans h) (by decide))|exact (fun h=>absurd ((congrArg Bool.not (hQ h0 hN hS_).1).symm.trans h) (by decide))|exact (fun h=>absurd ((congrArg Bool.not (hQ h0 hN hS_).2).symm.trans h) (by decide))|exact (fun h=>absurd ((congrArg Bool.not (hW h0 hN hS_).1).symm.trans h) (by decide))|exact (fun h=>absurd ((congrArg Bool.not (hW h0 hN hS_).2).symm.trans h) (by decide))|exact (fun h=>absurd ((congrArg Bool.not h01).symm.trans h) (by decide))|exact (fun h=>absurd (hA.symm.trans h) (by decide))|exact (fun h=>absurd (hB.symm.trans h) (by decide))|exact (fun h=>absurd (hE.symm.trans h) (by decide))|exact (fun h=>absurd (hF.symm.trans h) (by decide))|exact (fun h=>absurd (h1.symm.trans h) (by decide))|exact (fun h=>absurd (h0.symm.trans h) (by decide))|exact (fun h=>absurd (hN.symm.trans h) (by decide))|exact (fun h=>absurd (hS_.symm.trans h) (by decide))|exact (fun h=>absurd ((congrArg Bool.not hA).symm.trans h) (by decide))|exact (fun h=>absurd ((congrArg Bool.not hB).symm.trans h) (by decide))|exact (fun h=>absurd ((congrArg Bool.not hE).symm.trans h) (by decide))|exact (fun h=>absurd ((congrArg Bool.not hF).symm.trans h) (by decide))|exact (fun h=>absurd ((congrArg Bool.not h1).symm.trans h) (by decide))|exact (fun h=>absurd ((congrArg Bool.not h0).symm.trans h) (by decide))|exact (fun h=>absurd ((congrArg Bool.not hN).symm.trans h) (by decide))|exact (fun h=>absurd ((congrArg Bool.not hS_).symm.trans h) (by decide))|exact (fun h=>absurd h (by decide)))|refine ⟨?_, ?_⟩|intro _)
   all_goals first|(with_reducible first|apply qa|apply qb|apply qc|apply qd)|(conv=>whnf)
   all_goals first|(with_reducible rfl)|decide|(intro _ _;exact rfl)|exact rfl
 . cases h
end Go.Proofs.YtehpbhpmkhlldaaGreat
