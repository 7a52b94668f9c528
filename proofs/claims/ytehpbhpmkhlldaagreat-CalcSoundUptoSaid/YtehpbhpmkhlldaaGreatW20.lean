/- What operators on values come to: numbers, pointers. No condition. -/
import Derived.Test.YtehpbhpmkhlldaaGreatW19
set_option linter.all false
set_option maxHeartbeats 8000000
set_option maxRecDepth 100000
namespace Go.Proofs.YtehpbhpmkhlldaaGreat
open Go.Sx
theorem wrapI_inR (l h:Int):(wrapI l h).inR:=by
 have ha:allS.inR:=by unfold allS;exact Sp.of_inR (by unfold rI;decide) (by unfold rI;decide)
 unfold wrapI;(repeat' split)
 . exact ha
 . exact ha
 . exact Sp.of_inR (wr_r l) (wr_r h)
theorem noS_inR:noS.inR:=by unfold noS Sp.inR;decide
theorem around_inR (l:List Int):(around l).inR:=by
 cases l with
 |nil=>exact noS_inR
 |cons x l=>exact wrapI_inR _ _
theorem truthS_inR (x y:Bool):(truthS x y).inR:=by
 have a1:(Sp.of 1 1).inR:=Sp.of_inR (by unfold rI;decide) (by unfold rI;decide)
 have a2:(Sp.of 0 0).inR:=Sp.of_inR (by unfold rI;decide) (by unfold rI;decide)
 have a3:(Sp.of 0 1).inR:=Sp.of_inR (by unfold rI;decide) (by unfold rI;decide)
 unfold truthS;(repeat' split)<;>assumption
theorem cmpS_inR (op:Int) (a b:Sp):(cmpS op a b).inR:=by
 unfold cmpS;(repeat' split)<;>first|exact truthS_inR _ _|exact noS_inR
theorem restS_inR {a b:Sp} (ha:a.inR) (hb:b.inR):(restS a b).inR:=by
 have hr:=restM_r hb
 have hd:=doI_rng (op:=9) (b:=b.lo) ha.1
 obtain ⟨⟨a1,a2⟩,a3,a4⟩:=ha
 unfold restS;(repeat' split)
 all_goals first|exact noS_inR|exact Sp.of_inR hd hd|(refine Sp.of_inR ?_ ?_<;>(unfold rI;omega))
theorem rkDo_inR {op:Int} {a b:Sp} (ha:a.inR) (hb:b.inR):(rkDo op a b).inR:=by
 unfold rkDo divS;(repeat' split)<;>first|exact noS_inR|exact around_inR _|exact restS_inR ha hb|exact cmpS_inR _ _ _
theorem rkOne_inR {op:Int} {a:Sp} (ha:a.inR):(rkOne op a).inR:=by
 unfold rkOne;(repeat' split)<;>first|exact noS_inR|exact truthS_inR _ _|exact rkDo_inR (Sp.of_inR (by unfold rI;decide) (by unfold rI;decide)) ha
theorem cg_inR1 {m r:Int} (h:0<=m/\ m<9223372036854775808) (hr: -9223372036854775808<=r/\ r<9223372036854775808):(Cg.of m r).inR:=Cg.of_inR m r (by omega) h.2 hr.1 hr.2
theorem cg_none_inR:Cg.none.inR:=by unfold Cg.none Cg.inR;decide
theorem cg_all_inR:(Cg.of 1 0).inR:=cg_inR1 (by decide) (by decide)
theorem linC_inR {op m:Int} {a b:Cg} {w:Bool} (h:0<=m/\ m<9223372036854775808):(linC op m a b w).inR:=by
 have hP:=part_r h.1 h.2
 have key: ∀k:Int,0<=k->k<9223372036854775808->(if exB op=false \/k=0 then Cg.all else Cg.of k (exI op a.r b.r%k)).inR:=by
  intro k k0 k1
  split
  . exact cg_all_inR
  . rename_i hh
    have hk:k≠0:=fun e=>hh (.inr e)
    have e1:=Int.emod_nonneg (exI op a.r b.r) hk
    have e2:=Int.emod_lt_of_pos (exI op a.r b.r) (show 0<k by omega)
    exact cg_inR1 ⟨k0,k1⟩ (by omega)
 unfold linC;split
 . exact key _ hP.1 hP.2
 . exact key _ h.1 h.2
theorem prod0_inR {a b:Cg} {w:Bool} (ra:a.inR) (rb:b.inR) (ha:0<=a.m) (hb:0<=b.m):(prod0 a b w).inR:=by
 have hg:=gcd_r ra.1 rb.1 ⟨ha,hb⟩
 have hs:=scl_r (c:=a.r) rb.1 hb
 unfold prod0;(repeat' split)
 . exact cg00_inR
 . exact linC_inR ⟨hs.2,hs.1.2⟩
 . exact linC_inR ⟨hg.2,hg.1.2⟩
theorem rsDo0_inR {op:Int} {a b:Cg} {w:Bool} (ra:a.inR) (rb:b.inR) (ha:0<=a.m) (hb:0<=b.m) (ta:a.tidy) (tb:b.tidy):(rsDo0 op a b w).inR:=by
 have hg:=gcd_r ra.1 rb.1 ⟨ha,hb⟩
 have h01:(Cg.of 0 1).inR:=cg_inR1 (by decide) (by decide)
 unfold rsDo0
 split
 . exact cg_none_inR
 . split
   . split
     . exact cg_none_inR
     . exact cg_inR1 (by decide) (doI_rng ra.2)
   . rename_i nz
     (repeat' split)
     . exact linC_inR ⟨hg.2,hg.1.2⟩
     . unfold prodC;split
       . exact prod0_inR rb ra hb ha
       . exact prod0_inR ra rb ha hb
     . unfold quoC;(repeat' split)
       . exact cg_none_inR
       . exact cg_all_inR
       . exact cg_all_inR
       . rename_i h1 h2 h3
         have hl:alC b 0=false:=by simpa using h1
         have hbm:b.m=0:=by omega
         have hz:b.r≠0:=al_r hl (by simp [hbm])
         have q:=quo_rng ra.2 rb.2 hz (qpre ta tb nz)
         have hp:=size_pos hz
         have d1:=Int.ediv_nonneg ha (Int.le_of_lt hp)
         have d2:=Int.ediv_le_self (sizeI b.r) ha
         have:=ra.1
         exact cg_inR1 ⟨d1,by omega⟩ q
     . unfold rstC;split
       . exact cg_none_inR
       . have hp:0<Int.gcd a.m b.m:=by rw [Int.gcd_pos_iff];exact nzo nz
         have hle:Int.gcd (Int.gcd a.m b.m:Int) (sizeI b.r)<=Int.gcd a.m b.m:=Nat.le_of_dvd hp (Int.ofNat_dvd.1 (Int.gcd_dvd_left ..))
         exact cg_inR1 (by omega) ra.2
     . unfold cmpC;(repeat' split)<;>first|exact cg_none_inR|exact h01|exact cg00_inR|exact cg_all_inR
theorem rsDo_inR {op:Int} {a b:Cg} {w:Bool} (ra:a.inR) (rb:b.inR):(rsDo op a b w).inR:=
 rsDo0_inR (Cg.clean_inR ra) (Cg.clean_inR rb) (Cg.clean_nn a) (Cg.clean_nn b) (cg_clean_tidy a) (cg_clean_tidy b)
theorem rsOne_inR {op:Int} {a:Cg} {w:Bool} (ra:a.inR):(rsOne op a w).inR:=by
 have h01:(Cg.of 0 1).inR:=cg_inR1 (by decide) (by decide)
 unfold rsOne rsOne0;(repeat' split)<;>first|exact Cg.clean_inR ra|exact cg_none_inR|exact h01|exact cg00_inR|exact cg_all_inR|exact rsDo_inR cg00_inR (Cg.clean_inR ra)
def zeroV:Vl:=⟨Ig.zero,⟨false,[]⟩⟩
def intsB (v:Vl):Bool:= !v.i.s.none&&v.i.c.some
def bothV (s:Sp) (c:Cg):Vl:=if s.none=true then zeroV else if c.some=false then zeroV else Vl.reduce ⟨⟨s,c⟩,⟨false,[]⟩⟩
def numV (op:Int) (a b:Vl):Vl:=if intsB a=false then zeroV else if intsB b=false then zeroV else bothV (rkDo op a.i.s b.i.s) (rsDo op a.i.c b.i.c (wrB op a.i.s b.i.s))
def lenN (a:Ns):Int:=((ofS a.names).length:Int)+if a.null then 1 else 0
def onlyB (a:Ns):Bool:= !a.null&&decide ((ofS a.names).length=1)
def onlyT (a:Ns):ByteArray:=if onlyB a then atS (ofS a.names) 0 else ByteArray.empty
def mayB (a b:Ns):Bool:= !(!(a.null&&b.null)&&decide (ofS (meetS a.names b.names)= []))
def mustB (a b:Ns):Bool:=mayB a b&&(lenN a==1&&lenN b==1)
def eqMust (a b:Ns) (many:List ByteArray):Bool:=mustB a b&& !(onlyB a&&memS (onlyT a) many)
def noneN (a:Ns):Bool:= !a.null&&decide (a.names= [])
def numO (n:Int):Vl:=⟨⟨Sp.of n n,Cg.of 0 n⟩,⟨false,[]⟩⟩
def b01:Vl:=Vl.reduce ⟨⟨Sp.of 0 1,Cg.of 1 0⟩,⟨false,[]⟩⟩
def ptrV (op:Int) (a b:Ns) (many:List ByteArray):Vl:=
 if noneN a=true then zeroV else if noneN b=true then zeroV else if op≠14/\ op≠15 then zeroV
 else if eqMust a b many=true then numO (if op=15 then 0 else 1) else if mayB a b=false then numO (if op=15 then 1 else 0) else b01
def calcDo (op:Int) (a b:Vl) (many:List ByteArray):Vl:=Vl.join (numV op a.of b.of) (ptrV op a.of.t b.of.t many)
section
variable {b b':Bool} {L L' M:List ByteArray}
theorem len_t (h:b=true) (hl:(ofS L).length<1000000000000000):IntKind.wrap .i64 (((ofS L).length:Int)+1)=lenN ⟨b,L⟩:=by
 unfold lenN;dsimp only;rw [if_pos h];exact wI_id _ (by omega) (by omega)
theorem len_f (h:b=false):((ofS L).length:Int)=lenN ⟨b,L⟩:=by unfold lenN;dsimp only;rw [if_neg (by rw [h];decide)];omega
theorem on_1 (h:b=true):onlyB ⟨b,L⟩=false/\ onlyT ⟨b,L⟩=ByteArray.empty:=by
 have e:onlyB ⟨b,L⟩=false:=by unfold onlyB;dsimp only;rw [h];rfl
 exact ⟨e,by unfold onlyT;rw [if_neg (by rw [e];decide)]⟩
theorem on_2 (h2:(((ofS L).length:Int) !=1)=true):onlyB ⟨b,L⟩=false/\ onlyT ⟨b,L⟩=ByteArray.empty:=by
 have e:onlyB ⟨b,L⟩=false:=by unfold onlyB;dsimp only;rw [decide_eq_false (by simp at h2;omega),Bool.and_false]
 exact ⟨e,by unfold onlyT;rw [if_neg (by rw [e];decide)]⟩
theorem on_3 (h:b=false) (h2:(((ofS L).length:Int) !=1)=false):onlyB ⟨b,L⟩=true/\ onlyT ⟨b,L⟩=atS (ofS L) 0/\ (0:Int)<((ofS L).length:Int):=by
 have hl:(ofS L).length=1:=by simp at h2;omega
 have e:onlyB ⟨b,L⟩=true:=by unfold onlyB;dsimp only;rw [h,decide_eq_true hl];rfl
 exact ⟨e,by unfold onlyT;rw [if_pos e],by omega⟩
theorem may_eq:mayB ⟨b,L⟩ ⟨b',L'⟩= !(!(b&&b')&&decide (gN (ofS (meetS L L')).length (fun i=> [st (atS (ofS (meetS L L')) i)])= [])):=by unfold mayB;rw [gN_lst]
end
section
variable {s:Sp} {c:Cg} {a b:Vl} {op:Int} {x y:Ns} {m:List ByteArray}
theorem bo_1 (h:s.none=true):bothV s c=zeroV:=by unfold bothV;rw [if_pos h]
theorem bo_2 (h:c.some=false):bothV s c=zeroV:=by unfold bothV;by_cases k:s.none=true;rw [if_pos k];rw [if_neg k,if_pos h]
theorem bo_3 (h:s.none=false) (h2:c.some=true):bothV s c=Vl.reduce ⟨⟨s,c⟩,⟨false,[]⟩⟩:=by unfold bothV;rw [if_neg (by rw [h];decide),if_neg (by rw [h2];decide)]
theorem nu_1 (h:intsB a=false):numV op a b=zeroV:=by unfold numV;rw [if_pos h]
theorem nu_2 (h:intsB b=false):numV op a b=zeroV:=by unfold numV;by_cases k:intsB a=false;rw [if_pos k];rw [if_neg k,if_pos h]
theorem nu_3 (h:intsB a=true) (h2:intsB b=true):numV op a b=bothV (rkDo op a.i.s b.i.s) (rsDo op a.i.c b.i.c (wrB op a.i.s b.i.s)):=by unfold numV;rw [if_neg (by rw [h];decide),if_neg (by rw [h2];decide)]
theorem pt_1 (h:noneN x=true):ptrV op x y m=zeroV:=by unfold ptrV;rw [if_pos h]
theorem pt_2 (h:noneN y=true):ptrV op x y m=zeroV:=by unfold ptrV;by_cases k:noneN x=true;rw [if_pos k];rw [if_neg k,if_pos h]
theorem pt_3 (h:op≠14/\ op≠15):ptrV op x y m=zeroV:=by unfold ptrV;by_cases k:noneN x=true;rw [if_pos k];rw [if_neg k];by_cases k:noneN y=true;rw [if_pos k];rw [if_neg k,if_pos h]
section
variable (h:noneN x=false) (h2:noneN y=false)
include h h2
theorem pt_i (ho: ¬(op≠14/\ op≠15)):ptrV op x y m=if eqMust x y m=true then numO (if op=15 then 0 else 1) else if mayB x y=false then numO (if op=15 then 1 else 0) else b01:=by
 unfold ptrV;rw [if_neg (by rw [h];decide),if_neg (by rw [h2];decide),if_neg ho]
theorem pt_4 (k:eqMust x y m=true):ptrV 14 x y m=numO 1/\ ptrV 15 x y m=numO 0:=by
 constructor<;>(rw [pt_i h h2 (by decide)];simp [k])
theorem pt_5 (k:eqMust x y m=false) (k2:mayB x y=false):ptrV 14 x y m=numO 0/\ ptrV 15 x y m=numO 1:=by
 constructor<;>(rw [pt_i h h2 (by decide)];simp [k,k2])
theorem pt_6 (k:eqMust x y m=false) (k2:mayB x y=true):ptrV 14 x y m=b01/\ ptrV 15 x y m=b01:=by
 constructor<;>(rw [pt_i h h2 (by decide)];simp [k,k2])
end
end
theorem b01_inR:(Sp.of 0 1).inR/\ (Cg.of 1 0).inR:=⟨truthS_inR false false,cg_all_inR⟩
def FNLen:List Ar->Option Rs
 | [.agg [.d (.v (.bool b0)),.d (.lst 1 n0 f0)]]=>some ⟨(n0*16<=140737488351232/\ ∀i,i<n0->f0 i= [st (gT (f0 i))]),.va (.c (.d (it (lenN (⟨b0,gN n0 f0⟩:Ns))))),[]⟩
 |_=>none
theorem fcNLen:FC Tryz.prog 111 FNLen:=by
 intro xs pre r us h hp
 unfold FNLen at h
 split at h
 . rename_i b0 n0 f0
   cases h
   have hp0:=hp
   refine FCat.of_eq (as':= [.agg [.d (.v (.bool b0)),.d (.lst 1 n0 fun i=> [st (gT (f0 i))])]]) ?_ rfl rfl ?_
   . repeat' (first|exact trivial|exact rfl|refine ⟨?_, ?_⟩|fail)
     all_goals first|exact hp0.2|exact hp1.2|exact hp2.2|(intro i hi;exact (hp0.2 i hi).1)|(intro i hi;exact (hp1.2 i hi).1)|(intro i hi;exact (hp2.2 i hi).1)|grind
   refine fcat tys_ok (l:= [(82,⟨[],FNClean⟩)]) ⟨fcNClean,trivial⟩ Tryz.func111 rfl (by kernel_rfl) false ?_
   have hL:=ofS_len (gN n0 f0);rw [gN_length] at hL
   have c0:(gN n0 fun i=> [st (gT (f0 i))])=gN n0 f0:=rfl
   rw [<-c0]
   rw [<-c0] at hL
   cases hb:b0
   . have hbn:=congrArg Bool.not hb;simp only [Bool.not_true,Bool.not_false] at hbn
     repeat' (first|exact trivial|(with_reducible first|exact hp0|exact hp0.1|exact hp1|exact hp1.1|exact (fun h:false=true=>absurd h (by decide))|exact (fun h:true=false=>absurd h (by decide))|exact (fun h:(!false)=false=>absurd h (by decide))|exact (fun h:(!true)=true=>absurd h (by decide))|exact hp0|exact hp0.1|exact hp1|exact hp1.1|exact (fun h=>absurd (hb.symm.trans h) (by decide))|exact (fun h=>absurd (hbn.symm.trans h) (by decide)))|refine ⟨?_, ?_⟩|intro _)
     all_goals first|(with_reducible first|apply qa|apply qb|apply qc|apply qd)|(conv=>whnf)
     all_goals first|(with_reducible rfl)|decide|(intro _ _;exact rfl)|exact rfl|exact congrArg (Value.int .i64) (len_f (by assumption))|rfl
   . have hbn:=congrArg Bool.not hb;simp only [Bool.not_true,Bool.not_false] at hbn
     repeat' (first|exact trivial|(with_reducible first|exact hp0|exact hp0.1|exact hp1|exact hp1.1|exact (fun h:false=true=>absurd h (by decide))|exact (fun h:true=false=>absurd h (by decide))|exact (fun h:(!false)=false=>absurd h (by decide))|exact (fun h:(!true)=true=>absurd h (by decide))|exact hp0|exact hp0.1|exact hp1|exact hp1.1|exact (fun h=>absurd (hb.symm.trans h) (by decide))|exact (fun h=>absurd (hbn.symm.trans h) (by decide)))|refine ⟨?_, ?_⟩|intro _)
     all_goals first|(with_reducible first|apply qa|apply qb|apply qc|apply qd)|(conv=>whnf)
     all_goals first|(with_reducible rfl)|decide|(intro _ _;exact rfl)|exact rfl|exact congrArg (Value.int .i64) (len_t (by assumption) (by omega))|rfl
 . cases h
def FNOnly:List Ar->Option Rs
 | [.agg [.d (.v (.bool b0)),.d (.lst 1 n0 f0)]]=>some ⟨(n0*16<=140737488351232/\ ∀i,i<n0->f0 i= [st (gT (f0 i))]),.tup [.c (.d (st (onlyT (⟨b0,gN n0 f0⟩:Ns)))),.c (.d (bo (onlyB (⟨b0,gN n0 f0⟩:Ns))))],[]⟩
 |_=>none
theorem fcNOnly:FC Tryz.prog 112 FNOnly:=by
 intro xs pre r us h hp
 unfold FNOnly at h
 split at h
 . rename_i b0 n0 f0
   cases h
   have hp0:=hp
   refine FCat.of_eq (as':= [.agg [.d (.v (.bool b0)),.d (.lst 1 n0 fun i=> [st (gT (f0 i))])]]) ?_ rfl rfl ?_
   . repeat' (first|exact trivial|exact rfl|refine ⟨?_, ?_⟩|fail)
     all_goals first|exact hp0.2|exact hp1.2|exact hp2.2|(intro i hi;exact (hp0.2 i hi).1)|(intro i hi;exact (hp1.2 i hi).1)|(intro i hi;exact (hp2.2 i hi).1)|grind
   refine fcat tys_ok (l:= [(82,⟨[],FNClean⟩)]) ⟨fcNClean,trivial⟩ Tryz.func112 rfl (by kernel_rfl) false ?_
   have hL:=ofS_len (gN n0 f0);rw [gN_length] at hL
   have c0:(gN n0 fun i=> [st (gT (f0 i))])=gN n0 f0:=rfl
   rw [<-c0]
   rw [<-c0] at hL
   cases hb:b0
   . cases h1:(((ofS (gN n0 fun i=> [st (gT (f0 i))])).length:Int) !=1)
     . have hbn:=congrArg Bool.not hb;simp only [Bool.not_true,Bool.not_false] at hbn
       have h1n:=congrArg Bool.not h1;simp only [Bool.not_true,Bool.not_false] at h1n
       have e:=on_3 (b:=false) (L:=(gN n0 fun i=> [st (gT (f0 i))])) rfl h1
       repeat' (first|exact trivial|(with_reducible first|exact hp0|exact hp0.1|exact hp1|exact hp1.1|exact (fun h:false=true=>absurd h (by decide))|exact (fun h:true=false=>absurd h (by decide))|exact (fun h:(!false)=false=>absurd h (by decide))|exact (fun h:(!true)=true=>absurd h (by decide))|exact (fun h=>absurd (hb.symm.trans h) (by decide))|exact (fun h=>absurd (h1.symm.trans h) (by decide))|exact (fun h=>absurd (hbn.symm.trans h) (by decide))|exact (fun h=>absurd (h1n.symm.trans h) (by decide)))|refine ⟨?_, ?_⟩|intro _)
       all_goals first|(with_reducible first|apply qa|apply qb|apply qc|apply qd)|(conv=>whnf)
       all_goals first|(with_reducible rfl)|decide|(intro _ _;exact rfl)|exact rfl|(rw [e.1];done)|(rw [e.2];done)|(rw [e.2];rfl)|(rw [e.2.1];done)|(rw [e.2.1];rfl)|exact e.2.2|exact Int.le_refl _|rfl
     . have hbn:=congrArg Bool.not hb;simp only [Bool.not_true,Bool.not_false] at hbn
       have h1n:=congrArg Bool.not h1;simp only [Bool.not_true,Bool.not_false] at h1n
       have e:=on_2 (b:=false) (L:=(gN n0 fun i=> [st (gT (f0 i))])) h1
       repeat' (first|exact trivial|(with_reducible first|exact hp0|exact hp0.1|exact hp1|exact hp1.1|exact (fun h:false=true=>absurd h (by decide))|exact (fun h:true=false=>absurd h (by decide))|exact (fun h:(!false)=false=>absurd h (by decide))|exact (fun h:(!true)=true=>absurd h (by decide))|exact (fun h=>absurd (hb.symm.trans h) (by decide))|exact (fun h=>absurd (h1.symm.trans h) (by decide))|exact (fun h=>absurd (hbn.symm.trans h) (by decide))|exact (fun h=>absurd (h1n.symm.trans h) (by decide)))|refine ⟨?_, ?_⟩|intro _)
       all_goals first|(with_reducible first|apply qa|apply qb|apply qc|apply qd)|(conv=>whnf)
       all_goals first|(with_reducible rfl)|decide|(intro _ _;exact rfl)|exact rfl|(rw [e.1];done)|(rw [e.2];done)|(rw [e.2];rfl)|(rw [e.2.1];done)|(rw [e.2.1];rfl)|exact e.2.2|exact Int.le_refl _|rfl
   . have hbn:=congrArg Bool.not hb;simp only [Bool.not_true,Bool.not_false] at hbn
     have e:=on_1 (L:=(gN n0 fun i=> [st (gT (f0 i))])) (rfl:true=true)
     repeat' (first|exact trivial|(with_reducible first|exact hp0|exact hp0.1|exact hp1|exact hp1.1|exact (fun h:false=true=>absurd h (by decide))|exact (fun h:true=false=>absurd h (by decide))|exact (fun h:(!false)=false=>absurd h (by decide))|exact (fun h:(!true)=true=>absurd h (by decide))|exact (fun h=>absurd (hb.symm.trans h) (by decide))|exact (fun h=>absurd (hbn.symm.trans h) (by decide)))|refine ⟨?_, ?_⟩|intro _)
     all_goals first|(with_reducible first|apply qa|apply qb|apply qc|apply qd)|(conv=>whnf)
     all_goals first|(with_reducible rfl)|decide|(intro _ _;exact rfl)|exact rfl|(rw [e.1];done)|(rw [e.2];done)|(rw [e.2];rfl)|(rw [e.2.1];done)|(rw [e.2.1];rfl)|exact e.2.2|exact Int.le_refl _|rfl
 . cases h
def FNEqual:List Ar->Option Rs
 | [.agg [.d (.v (.bool b0)),.d (.lst 1 n0 f0)],.agg [.d (.v (.bool b1)),.d (.lst 1 n1 f1)]]=>some ⟨(n0*16<=140737488351232/\ ∀i,i<n0->f0 i= [st (gT (f0 i))])/\ (n1*16<=140737488351232/\ ∀i,i<n1->f1 i= [st (gT (f1 i))]),.tup [.c (.d (bo (mayB (⟨b0,gN n0 f0⟩:Ns) (⟨b1,gN n1 f1⟩:Ns)))),.c (.d (bo (mustB (⟨b0,gN n0 f0⟩:Ns) (⟨b1,gN n1 f1⟩:Ns))))],[]⟩
 |_=>none
theorem fcNEqual:FC Tryz.prog 153 FNEqual:=by
 intro xs pre r us h hp
 unfold FNEqual at h
 split at h
 . rename_i b0 n0 f0 b1 n1 f1
   cases h
   obtain ⟨hp0,hp1⟩:=hp
   refine FCat.of_eq (as':= [.agg [.d (.v (.bool b0)),.d (.lst 1 n0 fun i=> [st (gT (f0 i))])],.agg [.d (.v (.bool b1)),.d (.lst 1 n1 fun i=> [st (gT (f1 i))])]]) ?_ rfl rfl ?_
   . repeat' (first|exact trivial|exact rfl|refine ⟨?_, ?_⟩|fail)
     all_goals first|exact hp0.2|exact hp1.2|exact hp2.2|(intro i hi;exact (hp0.2 i hi).1)|(intro i hi;exact (hp1.2 i hi).1)|(intro i hi;exact (hp2.2 i hi).1)|grind
   refine fcat tys_ok (l:= [(41,⟨[],FNMeet⟩),(73,⟨[],FNNone⟩),(111,⟨[],FNLen⟩)]) ⟨fcNMeet,fcNNone,fcNLen,trivial⟩ Tryz.func153 rfl (by kernel_rfl) false ?_
   have hr:=ofS_room (n:=n0) (f:=f0) hp0.1
   have hml:(meetS (gN n0 f0) (gN n1 f1)).length<=(gN n0 f0).length:=List.length_filter_le _ _
   have hol:=ofS_len (meetS (gN n0 f0) (gN n1 f1))
   rw [gN_length] at hml
   have c0:(gN n0 fun i=> [st (gT (f0 i))])=gN n0 f0:=rfl
   rw [<-c0]
   have c1:(gN n1 fun i=> [st (gT (f1 i))])=gN n1 f1:=rfl
   rw [<-c1]
   rw [<-c0, <-c1] at hol
   have hroom:(ofS (meetS (gN n0 fun i=> [st (gT (f0 i))]) (gN n1 fun i=> [st (gT (f1 i))]))).length*16<=140737488351232:=by have h1:=hp0.1;have h2:(meetS (gN n0 fun i=> [st (gT (f0 i))]) (gN n1 fun i=> [st (gT (f1 i))])).length<=n0:=hml;omega
   cases mr:(!(b0&&b1)&&decide (gN (ofS (meetS (gN n0 fun i=> [st (gT (f0 i))]) (gN n1 fun i=> [st (gT (f1 i))]))).length (fun i=> [st (atS (ofS (meetS (gN n0 fun i=> [st (gT (f0 i))]) (gN n1 fun i=> [st (gT (f1 i))]))) i)])= []))
   . cases l0:(lenN (⟨b0,(gN n0 fun i=> [st (gT (f0 i))])⟩:Ns)==1)
     . have mrn:=congrArg Bool.not mr;simp only [Bool.not_true,Bool.not_false] at mrn
       have l0n:=congrArg Bool.not l0;simp only [Bool.not_true,Bool.not_false] at l0n
       have em:=may_eq (b:=b0) (b':=b1) (L:=(gN n0 fun i=> [st (gT (f0 i))])) (L':=(gN n1 fun i=> [st (gT (f1 i))]))
       rw [mr] at em
       have eu:mustB (⟨b0,(gN n0 fun i=> [st (gT (f0 i))])⟩:Ns) (⟨b1,(gN n1 fun i=> [st (gT (f1 i))])⟩:Ns)=false:=by unfold mustB;rw [em];simp only [l0,reduceIte,Bool.not_true,Bool.not_false,Bool.true_and,Bool.false_and,Bool.and_true,Bool.and_false,Bool.true_or,Bool.false_or,Bool.or_true,Bool.or_false,Bool.false_eq_true,Bool.true_eq_false]
       repeat' (first|exact trivial|(with_reducible first|exact hp0|exact hp0.1|exact hp1|exact hp1.1|exact (fun h:false=true=>absurd h (by decide))|exact (fun h:true=false=>absurd h (by decide))|exact (fun h:(!false)=false=>absurd h (by decide))|exact (fun h:(!true)=true=>absurd h (by decide))|exact (fun h=>absurd (mr.symm.trans h) (by decide))|exact (fun h=>absurd (l0.symm.trans h) (by decide))|exact (fun h=>absurd (mrn.symm.trans h) (by decide))|exact (fun h=>absurd (l0n.symm.trans h) (by decide)))|refine ⟨?_, ?_⟩|intro _)
       all_goals first|(with_reducible first|apply qa|apply qb|apply qc|apply qd)|(conv=>whnf)
       all_goals first|(with_reducible rfl)|decide|(intro _ _;exact rfl)|exact rfl|(rw [em];done)|(rw [em];rfl)|(rw [eu];done)|(rw [eu];rfl)|exact hroom|(rw [em];exact congrArg Value.bool (congrArg Bool.not mr))|exact (congrArg Value.bool l1).trans (congrArg Value.bool eu).symm|rfl
     . have mrn:=congrArg Bool.not mr;simp only [Bool.not_true,Bool.not_false] at mrn
       have l0n:=congrArg Bool.not l0;simp only [Bool.not_true,Bool.not_false] at l0n
       have em:=may_eq (b:=b0) (b':=b1) (L:=(gN n0 fun i=> [st (gT (f0 i))])) (L':=(gN n1 fun i=> [st (gT (f1 i))]))
       rw [mr] at em
       have eu:mustB (⟨b0,(gN n0 fun i=> [st (gT (f0 i))])⟩:Ns) (⟨b1,(gN n1 fun i=> [st (gT (f1 i))])⟩:Ns)=(lenN (⟨b1,(gN n1 fun i=> [st (gT (f1 i))])⟩:Ns)==1):=by unfold mustB;rw [em];simp only [l0,reduceIte,Bool.not_true,Bool.not_false,Bool.true_and,Bool.false_and,Bool.and_true,Bool.and_false,Bool.true_or,Bool.false_or,Bool.or_true,Bool.or_false,Bool.false_eq_true,Bool.true_eq_false]
       repeat' (first|exact trivial|(with_reducible first|exact hp0|exact hp0.1|exact hp1|exact hp1.1|exact (fun h:false=true=>absurd h (by decide))|exact (fun h:true=false=>absurd h (by decide))|exact (fun h:(!false)=false=>absurd h (by decide))|exact (fun h:(!true)=true=>absurd h (by decide))|exact (fun h=>absurd (mr.symm.trans h) (by decide))|exact (fun h=>absurd (l0.symm.trans h) (by decide))|exact (fun h=>absurd (mrn.symm.trans h) (by decide))|exact (fun h=>absurd (l0n.symm.trans h) (by decide)))|refine ⟨?_, ?_⟩|intro _)
       all_goals first|(with_reducible first|apply qa|apply qb|apply qc|apply qd)|(conv=>whnf)
       all_goals first|(with_reducible rfl)|decide|(intro _ _;exact rfl)|exact rfl|(rw [em];done)|(rw [em];rfl)|(rw [eu];done)|(rw [eu];rfl)|exact hroom|(rw [em];exact congrArg Value.bool (congrArg Bool.not mr))|exact (congrArg Value.bool l1).trans (congrArg Value.bool eu).symm|rfl
   . have mrn:=congrArg Bool.not mr;simp only [Bool.not_true,Bool.not_false] at mrn
     have em:=may_eq (b:=b0) (b':=b1) (L:=(gN n0 fun i=> [st (gT (f0 i))])) (L':=(gN n1 fun i=> [st (gT (f1 i))]))
     rw [mr] at em
     have eu:mustB (⟨b0,(gN n0 fun i=> [st (gT (f0 i))])⟩:Ns) (⟨b1,(gN n1 fun i=> [st (gT (f1 i))])⟩:Ns)=false:=by unfold mustB;rw [em];simp only [reduceIte,Bool.not_true,Bool.not_false,Bool.true_and,Bool.false_and,Bool.and_true,Bool.and_false,Bool.true_or,Bool.false_or,Bool.or_true,Bool.or_false,Bool.false_eq_true,Bool.true_eq_false]
     repeat' (first|exact trivial|(with_reducible first|exact hp0|exact hp0.1|exact hp1|exact hp1.1|exact (fun h:false=true=>absurd h (by decide))|exact (fun h:true=false=>absurd h (by decide))|exact (fun h:(!false)=false=>absurd h (by decide))|exact (fun h:(!true)=true=>absurd h (by decide))|exact (fun h=>absurd (mr.symm.trans h) (by decide))|exact (fun h=>absurd (mrn.symm.trans h) (by decide)))|refine ⟨?_, ?_⟩|intro _)
     all_goals first|(with_reducible first|apply qa|apply qb|apply qc|apply qd)|(conv=>whnf)
     all_goals first|(with_reducible rfl)|decide|(intro _ _;exact rfl)|exact rfl|(rw [em];done)|(rw [em];rfl)|(rw [eu];done)|(rw [eu];rfl)|exact hroom|(rw [em];exact congrArg Value.bool (congrArg Bool.not mr))|exact (congrArg Value.bool l1).trans (congrArg Value.bool eu).symm|rfl
 . cases h
def FCInts:List Ar->Option Rs
 | [.agg [.d (.v (.bool s0)),.d (.v (.int .i64 l0)),.d (.v (.int .i64 h0)),.d (.v (.bool b0)),.d (.v (.int .i64 m0)),.d (.v (.int .i64 r0)),.d (.v (.bool z0)),.d (.lst 1 n0 f0)]]=>some ⟨((n0*16<=140737488351232/\ ∀i,i<n0->f0 i= [st (gT (f0 i))])/\ Sp.inR ⟨s0,l0,h0⟩/\ Cg.inR ⟨b0,m0,r0⟩),.va (.c (.d (bo (intsB (⟨⟨⟨s0,l0,h0⟩,⟨b0,m0,r0⟩⟩,⟨z0,gN n0 f0⟩⟩:Vl))))),[]⟩
 |_=>none
theorem fcCInts:FC Tryz.prog 77 FCInts:=by
 intro xs pre r us h hp
 unfold FCInts at h
 split at h
 . rename_i s0 l0 h0 b0 m0 r0 z0 n0 f0
   cases h
   have hp0:=hp
   refine FCat.of_eq (as':= [.agg [.d (.v (.bool s0)),.d (.v (.int .i64 l0)),.d (.v (.int .i64 h0)),.d (.v (.bool b0)),.d (.v (.int .i64 m0)),.d (.v (.int .i64 r0)),.d (.v (.bool z0)),.d (.lst 1 n0 fun i=> [st (gT (f0 i))])]]) ?_ rfl rfl ?_
   . repeat' (first|exact trivial|exact rfl|refine ⟨?_, ?_⟩|fail)
     all_goals first|exact hp0.2|exact hp1.2|exact hp2.2|(intro i hi;exact (hp0.2 i hi).1)|(intro i hi;exact (hp1.2 i hi).1)|(intro i hi;exact (hp2.2 i hi).1)|grind
   refine fcat tys_ok (l:= [(83,⟨[],FSNone⟩),(87,⟨[],FCNone⟩)]) ⟨fcSNone,fcCNone,trivial⟩ Tryz.func77 rfl (by kernel_rfl) false ?_
   have q0:=hp0.2.2;unfold Cg.inR at q0;dsimp only at q0
   have c0:(gN n0 fun i=> [st (gT (f0 i))])=gN n0 f0:=rfl
   rw [<-c0]
   cases nA:Sp.none ⟨s0,l0,h0⟩
   . cases hb:b0
     . have nAn:=congrArg Bool.not nA;simp only [Bool.not_true,Bool.not_false] at nAn
       have hbn:=congrArg Bool.not hb;simp only [Bool.not_true,Bool.not_false] at hbn
       have e:intsB (⟨⟨⟨s0,l0,h0⟩,⟨false,m0,r0⟩⟩,⟨z0,(gN n0 fun i=> [st (gT (f0 i))])⟩⟩:Vl)=false:=by unfold intsB;dsimp only;rw [nA];rfl
       repeat' (first|exact trivial|(with_reducible first|exact hp0|exact hp0.1|exact hp0.2|exact hp0.2.1|exact hp0.2.2|exact hp0.1.1|exact q0.1|exact q0.2|exact q0.1.1|exact q0.1.2|exact q0.2.1|exact q0.2.2|exact (fun h:false=true=>absurd h (by decide))|exact (fun h:true=false=>absurd h (by decide))|exact (fun h:(!false)=false=>absurd h (by decide))|exact (fun h:(!true)=true=>absurd h (by decide))|exact (fun h=>absurd (nA.symm.trans h) (by decide))|exact (fun h=>absurd (hb.symm.trans h) (by decide))|exact (fun h=>absurd (nAn.symm.trans h) (by decide))|exact (fun h=>absurd (hbn.symm.trans h) (by decide)))|refine ⟨?_, ?_⟩|intro _)
       all_goals first|(with_reducible first|apply qa|apply qb|apply qc|apply qd)|(conv=>whnf)
       all_goals first|(with_reducible rfl)|decide|(rw [e];done)|(rw [e];rfl)|rfl
     . have nAn:=congrArg Bool.not nA;simp only [Bool.not_true,Bool.not_false] at nAn
       have hbn:=congrArg Bool.not hb;simp only [Bool.not_true,Bool.not_false] at hbn
       have e:intsB (⟨⟨⟨s0,l0,h0⟩,⟨true,m0,r0⟩⟩,⟨z0,(gN n0 fun i=> [st (gT (f0 i))])⟩⟩:Vl)=true:=by unfold intsB;dsimp only;rw [nA];rfl
       repeat' (first|exact trivial|(with_reducible first|exact hp0|exact hp0.1|exact hp0.2|exact hp0.2.1|exact hp0.2.2|exact hp0.1.1|exact q0.1|exact q0.2|exact q0.1.1|exact q0.1.2|exact q0.2.1|exact q0.2.2|exact (fun h:false=true=>absurd h (by decide))|exact (fun h:true=false=>absurd h (by decide))|exact (fun h:(!false)=false=>absurd h (by decide))|exact (fun h:(!true)=true=>absurd h (by decide))|exact (fun h=>absurd (nA.symm.trans h) (by decide))|exact (fun h=>absurd (hb.symm.trans h) (by decide))|exact (fun h=>absurd (nAn.symm.trans h) (by decide))|exact (fun h=>absurd (hbn.symm.trans h) (by decide)))|refine ⟨?_, ?_⟩|intro _)
       all_goals first|(with_reducible first|apply qa|apply qb|apply qc|apply qd)|(conv=>whnf)
       all_goals first|(with_reducible rfl)|decide|(rw [e];done)|(rw [e];rfl)|rfl
   . cases hb:b0
     . have nAn:=congrArg Bool.not nA;simp only [Bool.not_true,Bool.not_false] at nAn
       have hbn:=congrArg Bool.not hb;simp only [Bool.not_true,Bool.not_false] at hbn
       have e:intsB (⟨⟨⟨s0,l0,h0⟩,⟨false,m0,r0⟩⟩,⟨z0,(gN n0 fun i=> [st (gT (f0 i))])⟩⟩:Vl)=false:=by unfold intsB;dsimp only;rw [nA];rfl
       repeat' (first|exact trivial|(with_reducible first|exact hp0|exact hp0.1|exact hp0.2|exact hp0.2.1|exact hp0.2.2|exact hp0.1.1|exact q0.1|exact q0.2|exact q0.1.1|exact q0.1.2|exact q0.2.1|exact q0.2.2|exact (fun h:false=true=>absurd h (by decide))|exact (fun h:true=false=>absurd h (by decide))|exact (fun h:(!false)=false=>absurd h (by decide))|exact (fun h:(!true)=true=>absurd h (by decide))|exact (fun h=>absurd (nA.symm.trans h) (by decide))|exact (fun h=>absurd (hb.symm.trans h) (by decide))|exact (fun h=>absurd (nAn.symm.trans h) (by decide))|exact (fun h=>absurd (hbn.symm.trans h) (by decide)))|refine ⟨?_, ?_⟩|intro _)
       all_goals first|(with_reducible first|apply qa|apply qb|apply qc|apply qd)|(conv=>whnf)
       all_goals first|(with_reducible rfl)|decide|(rw [e];done)|(rw [e];rfl)|rfl
     . have nAn:=congrArg Bool.not nA;simp only [Bool.not_true,Bool.not_false] at nAn
       have hbn:=congrArg Bool.not hb;simp only [Bool.not_true,Bool.not_false] at hbn
       have e:intsB (⟨⟨⟨s0,l0,h0⟩,⟨true,m0,r0⟩⟩,⟨z0,(gN n0 fun i=> [st (gT (f0 i))])⟩⟩:Vl)=false:=by unfold intsB;dsimp only;rw [nA];rfl
       repeat' (first|exact trivial|(with_reducible first|exact hp0|exact hp0.1|exact hp0.2|exact hp0.2.1|exact hp0.2.2|exact hp0.1.1|exact q0.1|exact q0.2|exact q0.1.1|exact q0.1.2|exact q0.2.1|exact q0.2.2|exact (fun h:false=true=>absurd h (by decide))|exact (fun h:true=false=>absurd h (by decide))|exact (fun h:(!false)=false=>absurd h (by decide))|exact (fun h:(!true)=true=>absurd h (by decide))|exact (fun h=>absurd (nA.symm.trans h) (by decide))|exact (fun h=>absurd (hb.symm.trans h) (by decide))|exact (fun h=>absurd (nAn.symm.trans h) (by decide))|exact (fun h=>absurd (hbn.symm.trans h) (by decide)))|refine ⟨?_, ?_⟩|intro _)
       all_goals first|(with_reducible first|apply qa|apply qb|apply qc|apply qd)|(conv=>whnf)
       all_goals first|(with_reducible rfl)|decide|(rw [e];done)|(rw [e];rfl)|rfl
 . cases h
def FCBothV:List Ar->Option Rs
 | [.agg [.d (.v (.bool s0)),.d (.v (.int .i64 l0)),.d (.v (.int .i64 h0))],.agg [.d (.v (.bool b1)),.d (.v (.int .i64 m1)),.d (.v (.int .i64 r1))]]=>some ⟨(Sp.inR ⟨s0,l0,h0⟩)/\ (Cg.inR ⟨b1,m1,r1⟩),.va (Vl.ar (bothV (⟨s0,l0,h0⟩:Sp) (⟨b1,m1,r1⟩:Cg))),[]⟩
 |_=>none
theorem fcCBothV:FC Tryz.prog 79 FCBothV:=by
 intro xs pre r us h hp
 unfold FCBothV at h
 split at h
 . rename_i s0 l0 h0 b1 m1 r1
   cases h
   obtain ⟨hp0,hp1⟩:=hp
   refine fcat tys_ok (l:= [(83,⟨[],FSNone⟩),(87,⟨[],FCNone⟩),(59,⟨[],FVInt⟩)]) ⟨fcSNone,fcCNone,fcVInt,trivial⟩ Tryz.func79 rfl (by kernel_rfl) true ?_
   have q0:=hp0;unfold Sp.inR at q0;dsimp only at q0
   have q1:=hp1;unfold Cg.inR at q1;dsimp only at q1
   cases nA:Sp.none ⟨s0,l0,h0⟩
   . cases hb:b1
     . have nAn:=congrArg Bool.not nA;simp only [Bool.not_true,Bool.not_false] at nAn
       have hbn:=congrArg Bool.not hb;simp only [Bool.not_true,Bool.not_false] at hbn
       have e:=bo_2 (s:=⟨s0,l0,h0⟩) (c:=⟨false,m1,r1⟩) rfl
       repeat' (first|exact trivial|(with_reducible first|exact hp0|exact hp1|exact q0.1|exact q0.2|exact q0.1.1|exact q0.1.2|exact q0.2.1|exact q0.2.2|exact q1.1|exact q1.2|exact q1.1.1|exact q1.1.2|exact q1.2.1|exact q1.2.2|exact (fun h:false=true=>absurd h (by decide))|exact (fun h:true=false=>absurd h (by decide))|exact (fun h:(!false)=false=>absurd h (by decide))|exact (fun h:(!true)=true=>absurd h (by decide))|exact (fun h=>absurd (nA.symm.trans h) (by decide))|exact (fun h=>absurd (hb.symm.trans h) (by decide))|exact (fun h=>absurd (nAn.symm.trans h) (by decide))|exact (fun h=>absurd (hbn.symm.trans h) (by decide)))|refine ⟨?_, ?_⟩|intro _)
       all_goals first|(with_reducible first|apply qa|apply qb|apply qc|apply qd)|(conv=>whnf)
       all_goals first|(with_reducible rfl)|decide|(rw [e];done)|(rw [e];rfl)|rfl
     . have nAn:=congrArg Bool.not nA;simp only [Bool.not_true,Bool.not_false] at nAn
       have hbn:=congrArg Bool.not hb;simp only [Bool.not_true,Bool.not_false] at hbn
       have e:=bo_3 (c:=⟨true,m1,r1⟩) nA rfl
       repeat' (first|exact trivial|(with_reducible first|exact hp0|exact hp1|exact q0.1|exact q0.2|exact q0.1.1|exact q0.1.2|exact q0.2.1|exact q0.2.2|exact q1.1|exact q1.2|exact q1.1.1|exact q1.1.2|exact q1.2.1|exact q1.2.2|exact (fun h:false=true=>absurd h (by decide))|exact (fun h:true=false=>absurd h (by decide))|exact (fun h:(!false)=false=>absurd h (by decide))|exact (fun h:(!true)=true=>absurd h (by decide))|exact (fun h=>absurd (nA.symm.trans h) (by decide))|exact (fun h=>absurd (hb.symm.trans h) (by decide))|exact (fun h=>absurd (nAn.symm.trans h) (by decide))|exact (fun h=>absurd (hbn.symm.trans h) (by decide)))|refine ⟨?_, ?_⟩|intro _)
       all_goals first|(with_reducible first|apply qa|apply qb|apply qc|apply qd)|(conv=>whnf)
       all_goals first|(with_reducible rfl)|decide|(rw [e];done)|(rw [e];rfl)|rfl
   . have nAn:=congrArg Bool.not nA;simp only [Bool.not_true,Bool.not_false] at nAn
     have e:=bo_1 (c:=⟨b1,m1,r1⟩) nA
     repeat' (first|exact trivial|(with_reducible first|exact hp0|exact hp1|exact q0.1|exact q0.2|exact q0.1.1|exact q0.1.2|exact q0.2.1|exact q0.2.2|exact q1.1|exact q1.2|exact q1.1.1|exact q1.1.2|exact q1.2.1|exact q1.2.2|exact (fun h:false=true=>absurd h (by decide))|exact (fun h:true=false=>absurd h (by decide))|exact (fun h:(!false)=false=>absurd h (by decide))|exact (fun h:(!true)=true=>absurd h (by decide))|exact (fun h=>absurd (nA.symm.trans h) (by decide))|exact (fun h=>absurd (nAn.symm.trans h) (by decide)))|refine ⟨?_, ?_⟩|intro _)
     all_goals first|(with_reducible first|apply qa|apply qb|apply qc|apply qd)|(conv=>whnf)
     all_goals first|(with_reducible rfl)|decide|(rw [e];done)|(rw [e];rfl)|rfl
 . cases h
def FCNumbers:List Ar->Option Rs
 | [.c (.d (.v (.int .i64 i0))),.agg [.d (.v (.bool s1)),.d (.v (.int .i64 l1)),.d (.v (.int .i64 h1)),.d (.v (.bool b1)),.d (.v (.int .i64 m1)),.d (.v (.int .i64 r1)),.d (.v (.bool z1)),.d (.lst 1 n1 f1)],.agg [.d (.v (.bool s2)),.d (.v (.int .i64 l2)),.d (.v (.int .i64 h2)),.d (.v (.bool b2)),.d (.v (.int .i64 m2)),.d (.v (.int .i64 r2)),.d (.v (.bool z2)),.d (.lst 1 n2 f2)]]=>some ⟨(-9223372036854775808<=i0/\ i0<9223372036854775808)/\ ((n1*16<=140737488351232/\ ∀i,i<n1->f1 i= [st (gT (f1 i))])/\ Sp.inR ⟨s1,l1,h1⟩/\ Cg.inR ⟨b1,m1,r1⟩)/\ ((n2*16<=140737488351232/\ ∀i,i<n2->f2 i= [st (gT (f2 i))])/\ Sp.inR ⟨s2,l2,h2⟩/\ Cg.inR ⟨b2,m2,r2⟩),.va (Vl.ar (numV i0 (⟨⟨⟨s1,l1,h1⟩,⟨b1,m1,r1⟩⟩,⟨z1,gN n1 f1⟩⟩:Vl) (⟨⟨⟨s2,l2,h2⟩,⟨b2,m2,r2⟩⟩,⟨z2,gN n2 f2⟩⟩:Vl))),[]⟩
 |_=>none
theorem fcCNumbers:FC Tryz.prog 61 FCNumbers:=by
 intro xs pre r us h hp
 unfold FCNumbers at h
 split at h
 . rename_i i0 s1 l1 h1 b1 m1 r1 z1 n1 f1 s2 l2 h2 b2 m2 r2 z2 n2 f2
   cases h
   obtain ⟨hp0,hp1,hp2⟩:=hp
   refine FCat.of_eq (as':= [.c (.d (.v (.int .i64 i0))),.agg [.d (.v (.bool s1)),.d (.v (.int .i64 l1)),.d (.v (.int .i64 h1)),.d (.v (.bool b1)),.d (.v (.int .i64 m1)),.d (.v (.int .i64 r1)),.d (.v (.bool z1)),.d (.lst 1 n1 fun i=> [st (gT (f1 i))])],.agg [.d (.v (.bool s2)),.d (.v (.int .i64 l2)),.d (.v (.int .i64 h2)),.d (.v (.bool b2)),.d (.v (.int .i64 m2)),.d (.v (.int .i64 r2)),.d (.v (.bool z2)),.d (.lst 1 n2 fun i=> [st (gT (f2 i))])]]) ?_ rfl rfl ?_
   . repeat' (first|exact trivial|exact rfl|refine ⟨?_, ?_⟩|fail)
     all_goals first|exact hp0.2|exact hp1.2|exact hp2.2|(intro i hi;exact (hp0.2 i hi).1)|(intro i hi;exact (hp1.2 i hi).1)|(intro i hi;exact (hp2.2 i hi).1)|grind
   refine fcat tys_ok (l:= [(77,⟨[],FCInts⟩),(105,⟨[],FReDo⟩),(106,⟨[],FRsDo⟩),(78,⟨[],FCWraps⟩),(79,⟨[],FCBothV⟩)]) ⟨fcCInts,fcReDo,fcRsDo,fcCWraps,fcCBothV,trivial⟩ Tryz.func61 rfl (by kernel_rfl) true ?_
   have c1:(gN n1 fun i=> [st (gT (f1 i))])=gN n1 f1:=rfl
   rw [<-c1]
   have c2:(gN n2 fun i=> [st (gT (f2 i))])=gN n2 f2:=rfl
   rw [<-c2]
   have k1:=rkDo_inR (op:=i0) hp1.2.1 hp2.2.1
   have k2:=rsDo_inR (op:=i0) (w:=wrB i0 ⟨s1,l1,h1⟩ ⟨s2,l2,h2⟩) hp1.2.2 hp2.2.2
   have k3:=And.intro k1 k2
   cases iA:intsB (⟨⟨⟨s1,l1,h1⟩,⟨b1,m1,r1⟩⟩,⟨z1,(gN n1 fun i=> [st (gT (f1 i))])⟩⟩:Vl)
   . have iAn:=congrArg Bool.not iA;simp only [Bool.not_true,Bool.not_false] at iAn
     have e:=nu_1 (op:=i0) (a:=(⟨⟨⟨s1,l1,h1⟩,⟨b1,m1,r1⟩⟩,⟨z1,(gN n1 fun i=> [st (gT (f1 i))])⟩⟩:Vl)) (b:=(⟨⟨⟨s2,l2,h2⟩,⟨b2,m2,r2⟩⟩,⟨z2,(gN n2 fun i=> [st (gT (f2 i))])⟩⟩:Vl)) iA
     repeat' (first|exact trivial|(with_reducible first|exact hp1|exact hp1.1|exact hp1.2|exact hp1.2.1|exact hp1.2.2|exact hp1.1.1|exact hp2|exact hp2.1|exact hp2.2|exact hp2.2.1|exact hp2.2.2|exact hp2.1.1|exact hp0|exact k1|exact k2|exact (fun h:false=true=>absurd h (by decide))|exact (fun h:true=false=>absurd h (by decide))|exact (fun h:(!false)=false=>absurd h (by decide))|exact (fun h:(!true)=true=>absurd h (by decide))|exact (fun h=>absurd (iA.symm.trans h) (by decide))|exact (fun h=>absurd (iAn.symm.trans h) (by decide)))|refine ⟨?_, ?_⟩|intro _)
     all_goals first|(with_reducible first|apply qa|apply qb|apply qc|apply qd)|(conv=>whnf)
     all_goals first|(with_reducible rfl)|decide|(with_reducible exact k1.1.1)|(exact k1)|(exact k2)|(intro _ _;exact rfl)|exact rfl|(rw [e];done)|(rw [e];rfl)|rfl
   . cases iB:intsB (⟨⟨⟨s2,l2,h2⟩,⟨b2,m2,r2⟩⟩,⟨z2,(gN n2 fun i=> [st (gT (f2 i))])⟩⟩:Vl)
     . have iAn:=congrArg Bool.not iA;simp only [Bool.not_true,Bool.not_false] at iAn
       have iBn:=congrArg Bool.not iB;simp only [Bool.not_true,Bool.not_false] at iBn
       have e:=nu_2 (op:=i0) (a:=(⟨⟨⟨s1,l1,h1⟩,⟨b1,m1,r1⟩⟩,⟨z1,(gN n1 fun i=> [st (gT (f1 i))])⟩⟩:Vl)) (b:=(⟨⟨⟨s2,l2,h2⟩,⟨b2,m2,r2⟩⟩,⟨z2,(gN n2 fun i=> [st (gT (f2 i))])⟩⟩:Vl)) iB
       repeat' (first|exact trivial|(with_reducible first|exact hp1|exact hp1.1|exact hp1.2|exact hp1.2.1|exact hp1.2.2|exact hp1.1.1|exact hp2|exact hp2.1|exact hp2.2|exact hp2.2.1|exact hp2.2.2|exact hp2.1.1|exact hp0|exact k1|exact k2|exact (fun h:false=true=>absurd h (by decide))|exact (fun h:true=false=>absurd h (by decide))|exact (fun h:(!false)=false=>absurd h (by decide))|exact (fun h:(!true)=true=>absurd h (by decide))|exact (fun h=>absurd (iA.symm.trans h) (by decide))|exact (fun h=>absurd (iB.symm.trans h) (by decide))|exact (fun h=>absurd (iAn.symm.trans h) (by decide))|exact (fun h=>absurd (iBn.symm.trans h) (by decide)))|refine ⟨?_, ?_⟩|intro _)
       all_goals first|(with_reducible first|apply qa|apply qb|apply qc|apply qd)|(conv=>whnf)
       all_goals first|(with_reducible rfl)|decide|(with_reducible exact k1.1.1)|(exact k1)|(exact k2)|(intro _ _;exact rfl)|exact rfl|(rw [e];done)|(rw [e];rfl)|rfl
     . have iAn:=congrArg Bool.not iA;simp only [Bool.not_true,Bool.not_false] at iAn
       have iBn:=congrArg Bool.not iB;simp only [Bool.not_true,Bool.not_false] at iBn
       have e:=nu_3 (op:=i0) (a:=(⟨⟨⟨s1,l1,h1⟩,⟨b1,m1,r1⟩⟩,⟨z1,(gN n1 fun i=> [st (gT (f1 i))])⟩⟩:Vl)) (b:=(⟨⟨⟨s2,l2,h2⟩,⟨b2,m2,r2⟩⟩,⟨z2,(gN n2 fun i=> [st (gT (f2 i))])⟩⟩:Vl)) iA iB
       repeat' (first|exact trivial|(with_reducible first|exact hp1|exact hp1.1|exact hp1.2|exact hp1.2.1|exact hp1.2.2|exact hp1.1.1|exact hp2|exact hp2.1|exact hp2.2|exact hp2.2.1|exact hp2.2.2|exact hp2.1.1|exact hp0|exact k1|exact k2|exact (fun h:false=true=>absurd h (by decide))|exact (fun h:true=false=>absurd h (by decide))|exact (fun h:(!false)=false=>absurd h (by decide))|exact (fun h:(!true)=true=>absurd h (by decide))|exact (fun h=>absurd (iA.symm.trans h) (by decide))|exact (fun h=>absurd (iB.symm.trans h) (by decide))|exact (fun h=>absurd (iAn.symm.trans h) (by decide))|exact (fun h=>absurd (iBn.symm.trans h) (by decide)))|refine ⟨?_, ?_⟩|intro _)
       all_goals first|(with_reducible first|apply qa|apply qb|apply qc|apply qd)|(conv=>whnf)
       all_goals first|(with_reducible rfl)|decide|(with_reducible exact k1.1.1)|(exact k1)|(exact k2)|(intro _ _;exact rfl)|exact rfl|(rw [e];done)|(rw [e];rfl)|rfl
 . cases h
def FCEqual:List Ar->Option Rs
 | [.agg [.d (.v (.bool b0)),.d (.lst 1 n0 f0)],.agg [.d (.v (.bool b1)),.d (.lst 1 n1 f1)],.c (.d (.lst 1 n2 f2))]=>some ⟨(n0*16<=140737488351232/\ ∀i,i<n0->f0 i= [st (gT (f0 i))])/\ (n1*16<=140737488351232/\ ∀i,i<n1->f1 i= [st (gT (f1 i))])/\ (n2*16<=140737488351232/\ ∀i,i<n2->f2 i= [st (gT (f2 i))]),.tup [.c (.d (bo (mayB (⟨b0,gN n0 f0⟩:Ns) (⟨b1,gN n1 f1⟩:Ns)))),.c (.d (bo (eqMust (⟨b0,gN n0 f0⟩:Ns) (⟨b1,gN n1 f1⟩:Ns) (gN n2 f2))))],[]⟩
 |_=>none
theorem fcCEqual:FC Tryz.prog 107 FCEqual:=by
 intro xs pre r us h hp
 unfold FCEqual at h
 split at h
 . rename_i b0 n0 f0 b1 n1 f1 n2 f2
   cases h
   obtain ⟨hp0,hp1,hp2⟩:=hp
   refine FCat.of_eq (as':= [.agg [.d (.v (.bool b0)),.d (.lst 1 n0 fun i=> [st (gT (f0 i))])],.agg [.d (.v (.bool b1)),.d (.lst 1 n1 fun i=> [st (gT (f1 i))])],.c (.d (.lst 1 n2 fun i=> [st (gT (f2 i))]))]) ?_ rfl rfl ?_
   . repeat' (first|exact trivial|exact rfl|refine ⟨?_, ?_⟩|fail)
     all_goals first|exact hp0.2|exact hp1.2|exact hp2.2|(intro i hi;exact (hp0.2 i hi).1)|(intro i hi;exact (hp1.2 i hi).1)|(intro i hi;exact (hp2.2 i hi).1)|grind
   refine fcat tys_ok (l:= [(153,⟨[],FNEqual⟩),(112,⟨[],FNOnly⟩),(97,⟨[],FNContains⟩)]) ⟨fcNEqual,fcNOnly,fcNContains,trivial⟩ Tryz.func107 rfl (by kernel_rfl) false ?_
   have c0:(gN n0 fun i=> [st (gT (f0 i))])=gN n0 f0:=rfl
   rw [<-c0]
   have c1:(gN n1 fun i=> [st (gT (f1 i))])=gN n1 f1:=rfl
   rw [<-c1]
   have c2:(gN n2 fun i=> [st (gT (f2 i))])=gN n2 f2:=rfl
   rw [<-c2]
   cases mu:mustB (⟨b0,(gN n0 fun i=> [st (gT (f0 i))])⟩:Ns) (⟨b1,(gN n1 fun i=> [st (gT (f1 i))])⟩:Ns)
   . have mun:=congrArg Bool.not mu;simp only [Bool.not_true,Bool.not_false] at mun
     have e:eqMust (⟨b0,(gN n0 fun i=> [st (gT (f0 i))])⟩:Ns) (⟨b1,(gN n1 fun i=> [st (gT (f1 i))])⟩:Ns) (gN n2 fun i=> [st (gT (f2 i))])=false:=by unfold eqMust;simp only [mu,reduceIte,Bool.not_true,Bool.not_false,Bool.true_and,Bool.false_and,Bool.and_true,Bool.and_false,Bool.true_or,Bool.false_or,Bool.or_true,Bool.or_false,Bool.false_eq_true,Bool.true_eq_false]
     repeat' (first|exact trivial|(with_reducible first|exact hp0|exact hp0.1|exact hp1|exact hp1.1|exact hp2|exact hp2.1|exact (fun h:false=true=>absurd h (by decide))|exact (fun h:true=false=>absurd h (by decide))|exact (fun h:(!false)=false=>absurd h (by decide))|exact (fun h:(!true)=true=>absurd h (by decide))|exact (fun h=>absurd (mu.symm.trans h) (by decide))|exact (fun h=>absurd (mun.symm.trans h) (by decide)))|refine ⟨?_, ?_⟩|intro _)
     all_goals first|(with_reducible first|apply qa|apply qb|apply qc|apply qd)|(conv=>whnf)
     all_goals first|(with_reducible rfl)|decide|(intro _ _;exact rfl)|exact rfl|(rw [e];done)|(rw [e];rfl)|rfl
   . cases on:onlyB (⟨b0,(gN n0 fun i=> [st (gT (f0 i))])⟩:Ns)
     . have mun:=congrArg Bool.not mu;simp only [Bool.not_true,Bool.not_false] at mun
       have onn:=congrArg Bool.not on;simp only [Bool.not_true,Bool.not_false] at onn
       have e:eqMust (⟨b0,(gN n0 fun i=> [st (gT (f0 i))])⟩:Ns) (⟨b1,(gN n1 fun i=> [st (gT (f1 i))])⟩:Ns) (gN n2 fun i=> [st (gT (f2 i))])=true:=by unfold eqMust;simp only [mu,on,reduceIte,Bool.not_true,Bool.not_false,Bool.true_and,Bool.false_and,Bool.and_true,Bool.and_false,Bool.true_or,Bool.false_or,Bool.or_true,Bool.or_false,Bool.false_eq_true,Bool.true_eq_false]
       repeat' (first|exact trivial|(with_reducible first|exact hp0|exact hp0.1|exact hp1|exact hp1.1|exact hp2|exact hp2.1|exact (fun h:false=true=>absurd h (by decide))|exact (fun h:true=false=>absurd h (by decide))|exact (fun h:(!false)=false=>absurd h (by decide))|exact (fun h:(!true)=true=>absurd h (by decide))|exact (fun h=>absurd (mu.symm.trans h) (by decide))|exact (fun h=>absurd (on.symm.trans h) (by decide))|exact (fun h=>absurd (mun.symm.trans h) (by decide))|exact (fun h=>absurd (onn.symm.trans h) (by decide)))|refine ⟨?_, ?_⟩|intro _)
       all_goals first|(with_reducible first|apply qa|apply qb|apply qc|apply qd)|(conv=>whnf)
       all_goals first|(with_reducible rfl)|decide|(intro _ _;exact rfl)|exact rfl|(rw [e];done)|(rw [e];rfl)|rfl
     . cases me:memS (onlyT (⟨b0,(gN n0 fun i=> [st (gT (f0 i))])⟩:Ns)) (gN n2 fun i=> [st (gT (f2 i))])
       . have mun:=congrArg Bool.not mu;simp only [Bool.not_true,Bool.not_false] at mun
         have onn:=congrArg Bool.not on;simp only [Bool.not_true,Bool.not_false] at onn
         have men:=congrArg Bool.not me;simp only [Bool.not_true,Bool.not_false] at men
         have e:eqMust (⟨b0,(gN n0 fun i=> [st (gT (f0 i))])⟩:Ns) (⟨b1,(gN n1 fun i=> [st (gT (f1 i))])⟩:Ns) (gN n2 fun i=> [st (gT (f2 i))])=true:=by unfold eqMust;simp only [mu,on,me,reduceIte,Bool.not_true,Bool.not_false,Bool.true_and,Bool.false_and,Bool.and_true,Bool.and_false,Bool.true_or,Bool.false_or,Bool.or_true,Bool.or_false,Bool.false_eq_true,Bool.true_eq_false]
         repeat' (first|exact trivial|(with_reducible first|exact hp0|exact hp0.1|exact hp1|exact hp1.1|exact hp2|exact hp2.1|exact (fun h:false=true=>absurd h (by decide))|exact (fun h:true=false=>absurd h (by decide))|exact (fun h:(!false)=false=>absurd h (by decide))|exact (fun h:(!true)=true=>absurd h (by decide))|exact (fun h=>absurd (mu.symm.trans h) (by decide))|exact (fun h=>absurd (on.symm.trans h) (by decide))|exact (fun h=>absurd (me.symm.trans h) (by decide))|exact (fun h=>absurd (mun.symm.trans h) (by decide))|exact (fun h=>absurd (onn.symm.trans h) (by decide))|exact (fun h=>absurd (men.symm.trans h) (by decide)))|refine ⟨?_, ?_⟩|intro _)
         all_goals first|(with_reducible first|apply qa|apply qb|apply qc|apply qd)|(conv=>whnf)
         all_goals first|(with_reducible rfl)|decide|(intro _ _;exact rfl)|exact rfl|(rw [e];done)|(rw [e];rfl)|(rw [e];exact congrArg Value.bool (congrArg Bool.not me))|rfl
       . have mun:=congrArg Bool.not mu;simp only [Bool.not_true,Bool.not_false] at mun
         have onn:=congrArg Bool.not on;simp only [Bool.not_true,Bool.not_false] at onn
         have men:=congrArg Bool.not me;simp only [Bool.not_true,Bool.not_false] at men
         have e:eqMust (⟨b0,(gN n0 fun i=> [st (gT (f0 i))])⟩:Ns) (⟨b1,(gN n1 fun i=> [st (gT (f1 i))])⟩:Ns) (gN n2 fun i=> [st (gT (f2 i))])=false:=by unfold eqMust;simp only [mu,on,me,reduceIte,Bool.not_true,Bool.not_false,Bool.true_and,Bool.false_and,Bool.and_true,Bool.and_false,Bool.true_or,Bool.false_or,Bool.or_true,Bool.or_false,Bool.false_eq_true,Bool.true_eq_false]
         repeat' (first|exact trivial|(with_reducible first|exact hp0|exact hp0.1|exact hp1|exact hp1.1|exact hp2|exact hp2.1|exact (fun h:false=true=>absurd h (by decide))|exact (fun h:true=false=>absurd h (by decide))|exact (fun h:(!false)=false=>absurd h (by decide))|exact (fun h:(!true)=true=>absurd h (by decide))|exact (fun h=>absurd (mu.symm.trans h) (by decide))|exact (fun h=>absurd (on.symm.trans h) (by decide))|exact (fun h=>absurd (me.symm.trans h) (by decide))|exact (fun h=>absurd (mun.symm.trans h) (by decide))|exact (fun h=>absurd (onn.symm.trans h) (by decide))|exact (fun h=>absurd (men.symm.trans h) (by decide)))|refine ⟨?_, ?_⟩|intro _)
         all_goals first|(with_reducible first|apply qa|apply qb|apply qc|apply qd)|(conv=>whnf)
         all_goals first|(with_reducible rfl)|decide|(intro _ _;exact rfl)|exact rfl|(rw [e];done)|(rw [e];rfl)|(rw [e];exact congrArg Value.bool (congrArg Bool.not me))|rfl
 . cases h
def FCPointers:List Ar->Option Rs
 | [.c (.d (.v (.int .i64 i0))),.agg [.d (.v (.bool b1)),.d (.lst 1 n1 f1)],.agg [.d (.v (.bool b2)),.d (.lst 1 n2 f2)],.c (.d (.lst 1 n3 f3))]=>some ⟨(-9223372036854775808<=i0/\ i0<9223372036854775808)/\ (n1*16<=140737488351232/\ ∀i,i<n1->f1 i= [st (gT (f1 i))])/\ (n2*16<=140737488351232/\ ∀i,i<n2->f2 i= [st (gT (f2 i))])/\ (n3*16<=140737488351232/\ ∀i,i<n3->f3 i= [st (gT (f3 i))]),.va (Vl.ar (ptrV i0 (⟨b1,gN n1 f1⟩:Ns) (⟨b2,gN n2 f2⟩:Ns) (gN n3 f3))),[]⟩
 |_=>none
theorem fcCPointers:FC Tryz.prog 62 FCPointers:=by
 intro xs pre r us h hp
 unfold FCPointers at h
 split at h
 . rename_i i0 b1 n1 f1 b2 n2 f2 n3 f3
   cases h
   obtain ⟨hp0,hp1,hp2,hp3⟩:=hp
   refine FCat.of_eq (as':= [.c (.d (.v (.int .i64 i0))),.agg [.d (.v (.bool b1)),.d (.lst 1 n1 fun i=> [st (gT (f1 i))])],.agg [.d (.v (.bool b2)),.d (.lst 1 n2 fun i=> [st (gT (f2 i))])],.c (.d (.lst 1 n3 fun i=> [st (gT (f3 i))]))]) ?_ rfl rfl ?_
   . repeat' (first|exact trivial|exact rfl|refine ⟨?_, ?_⟩|fail)
     all_goals first|exact hp0.2|exact hp1.2|exact hp2.2|(intro i hi;exact (hp0.2 i hi).1)|(intro i hi;exact (hp1.2 i hi).1)|(intro i hi;exact (hp2.2 i hi).1)|grind
   refine fcat tys_ok (l:= [(73,⟨[],FNNone⟩),(107,⟨[],FCEqual⟩),(22,⟨[],FVNum⟩),(59,⟨[],FVInt⟩),(85,⟨[],FSOf⟩),(57,⟨[],FCAll⟩)]) ⟨fcNNone,fcCEqual,fcVNum,fcVInt,fcSOf,fcCAll,trivial⟩ Tryz.func62 rfl (by kernel_rfl) true ?_
   have c1:(gN n1 fun i=> [st (gT (f1 i))])=gN n1 f1:=rfl
   rw [<-c1]
   have c2:(gN n2 fun i=> [st (gT (f2 i))])=gN n2 f2:=rfl
   rw [<-c2]
   have c3:(gN n3 fun i=> [st (gT (f3 i))])=gN n3 f3:=rfl
   rw [<-c3]
   have b01i:=b01_inR
   unfold Sp.inR Cg.inR at b01i
   all_goals first|(by_cases e14:i0=14)|skip
   all_goals first|(have _:=(show¬_ from e14);by_cases e15:i0=15)|skip
   all_goals first|(cases v1:(!b1&&decide ((gN n1 fun i=> [st (gT (f1 i))])= [])))|skip
   all_goals first|(have _:=(show _=false from v1);cases v2:(!b2&&decide ((gN n2 fun i=> [st (gT (f2 i))])= [])))|skip
   all_goals first|(have _:=(show _=false from v2);have _:=(show _=_ from e14);cases mu:eqMust (⟨b1,(gN n1 fun i=> [st (gT (f1 i))])⟩:Ns) (⟨b2,(gN n2 fun i=> [st (gT (f2 i))])⟩:Ns) (gN n3 fun i=> [st (gT (f3 i))]))|skip
   all_goals first|(have _:=(show _=false from v2);have _:=(show _=_ from e15);cases mu:eqMust (⟨b1,(gN n1 fun i=> [st (gT (f1 i))])⟩:Ns) (⟨b2,(gN n2 fun i=> [st (gT (f2 i))])⟩:Ns) (gN n3 fun i=> [st (gT (f3 i))]))|skip
   all_goals first|(have _:=(show _=false from mu);cases ma:mayB (⟨b1,(gN n1 fun i=> [st (gT (f1 i))])⟩:Ns) (⟨b2,(gN n2 fun i=> [st (gT (f2 i))])⟩:Ns))|skip
   all_goals first|(have k14:=e14;have _:=(show _=_ from k14))|(have k15:=e15;have _:=(show _=_ from k15))|skip
   all_goals first|subst e14|subst e15|skip
   all_goals first|(have _:=k14;have e:=pt_1 (op:=14) (x:=(⟨b1,(gN n1 fun i=> [st (gT (f1 i))])⟩:Ns)) (y:=(⟨b2,(gN n2 fun i=> [st (gT (f2 i))])⟩:Ns)) (m:=(gN n3 fun i=> [st (gT (f3 i))])) v1)|(have _:=k14;have e:=pt_2 (op:=14) (x:=(⟨b1,(gN n1 fun i=> [st (gT (f1 i))])⟩:Ns)) (y:=(⟨b2,(gN n2 fun i=> [st (gT (f2 i))])⟩:Ns)) (m:=(gN n3 fun i=> [st (gT (f3 i))])) v2)|(have _:=k15;have e:=pt_1 (op:=15) (x:=(⟨b1,(gN n1 fun i=> [st (gT (f1 i))])⟩:Ns)) (y:=(⟨b2,(gN n2 fun i=> [st (gT (f2 i))])⟩:Ns)) (m:=(gN n3 fun i=> [st (gT (f3 i))])) v1)|(have _:=k15;have e:=pt_2 (op:=15) (x:=(⟨b1,(gN n1 fun i=> [st (gT (f1 i))])⟩:Ns)) (y:=(⟨b2,(gN n2 fun i=> [st (gT (f2 i))])⟩:Ns)) (m:=(gN n3 fun i=> [st (gT (f3 i))])) v2)|(have e:=pt_1 (op:=i0) (x:=(⟨b1,(gN n1 fun i=> [st (gT (f1 i))])⟩:Ns)) (y:=(⟨b2,(gN n2 fun i=> [st (gT (f2 i))])⟩:Ns)) (m:=(gN n3 fun i=> [st (gT (f3 i))])) v1)|(have e:=pt_2 (op:=i0) (x:=(⟨b1,(gN n1 fun i=> [st (gT (f1 i))])⟩:Ns)) (y:=(⟨b2,(gN n2 fun i=> [st (gT (f2 i))])⟩:Ns)) (m:=(gN n3 fun i=> [st (gT (f3 i))])) v2)|(have _:=k14;have e:=(pt_4 (x:=(⟨b1,(gN n1 fun i=> [st (gT (f1 i))])⟩:Ns)) (y:=(⟨b2,(gN n2 fun i=> [st (gT (f2 i))])⟩:Ns)) (m:=(gN n3 fun i=> [st (gT (f3 i))])) v1 v2 mu).1)|(have _:=k14;have e:=(pt_5 (x:=(⟨b1,(gN n1 fun i=> [st (gT (f1 i))])⟩:Ns)) (y:=(⟨b2,(gN n2 fun i=> [st (gT (f2 i))])⟩:Ns)) (m:=(gN n3 fun i=> [st (gT (f3 i))])) v1 v2 mu ma).1)|(have _:=k14;have e:=(pt_6 (x:=(⟨b1,(gN n1 fun i=> [st (gT (f1 i))])⟩:Ns)) (y:=(⟨b2,(gN n2 fun i=> [st (gT (f2 i))])⟩:Ns)) (m:=(gN n3 fun i=> [st (gT (f3 i))])) v1 v2 mu ma).1)|(have _:=k15;have e:=(pt_4 (x:=(⟨b1,(gN n1 fun i=> [st (gT (f1 i))])⟩:Ns)) (y:=(⟨b2,(gN n2 fun i=> [st (gT (f2 i))])⟩:Ns)) (m:=(gN n3 fun i=> [st (gT (f3 i))])) v1 v2 mu).2)|(have _:=k15;have e:=(pt_5 (x:=(⟨b1,(gN n1 fun i=> [st (gT (f1 i))])⟩:Ns)) (y:=(⟨b2,(gN n2 fun i=> [st (gT (f2 i))])⟩:Ns)) (m:=(gN n3 fun i=> [st (gT (f3 i))])) v1 v2 mu ma).2)|(have _:=k15;have e:=(pt_6 (x:=(⟨b1,(gN n1 fun i=> [st (gT (f1 i))])⟩:Ns)) (y:=(⟨b2,(gN n2 fun i=> [st (gT (f2 i))])⟩:Ns)) (m:=(gN n3 fun i=> [st (gT (f3 i))])) v1 v2 mu ma).2)|(have e:=pt_3 (op:=i0) (x:=(⟨b1,(gN n1 fun i=> [st (gT (f1 i))])⟩:Ns)) (y:=(⟨b2,(gN n2 fun i=> [st (gT (f2 i))])⟩:Ns)) (m:=(gN n3 fun i=> [st (gT (f3 i))])) ⟨e14,e15⟩)|skip
   all_goals repeat' (first|exact trivial|(with_reducible first|exact (fun h:(!false)=false=>absurd h (by decide))|exact (fun h:(!true)=true=>absurd h (by decide))|exact hp0|exact hp1|exact hp2|exact hp3|exact hp1.1|exact hp2.1|exact hp3.1|exact b01_inR.1|exact b01_inR.2|exact (fun h=>absurd ((beq_eq_false_iff_ne.2 e14).symm.trans h) (by decide))|exact (fun h=>absurd ((beq_eq_false_iff_ne.2 e15).symm.trans h) (by decide))|exact (fun h=>absurd ((bne_iff_ne.2 e14).symm.trans h) (by decide))|exact (fun h=>absurd ((bne_iff_ne.2 e15).symm.trans h) (by decide))|exact (fun h=>absurd (v1.symm.trans h) (by decide))|exact (fun h=>absurd (v2.symm.trans h) (by decide))|exact (fun h=>absurd (mu.symm.trans h) (by decide))|exact (fun h=>absurd (mu.symm.trans h) (by decide))|exact (fun h=>absurd (ma.symm.trans h) (by decide))|exact (fun h=>absurd ((congrArg Bool.not v1).symm.trans h) (by decide))|exact (fun h=>absurd ((congrArg Bool.not v2).symm.trans h) (by decide))|exact (fun h=>absurd ((congrArg Bool.not mu).symm.trans h) (by decide))|exact (fun h=>absurd ((congrArg Bool.not mu).symm.trans h) (by decide))|exact (fun h=>absurd ((congrArg Bool.not ma).symm.trans h) (by decide))|exact (fun h=>absurd h (by decide)))|refine ⟨?_, ?_⟩|intro _)
   all_goals first|(with_reducible first|apply qa|apply qb|apply qc|apply qd)|(conv=>whnf)
   all_goals first|(with_reducible rfl)|decide|exact b01_inR.1|exact b01_inR.2|(intro _ _;exact rfl)|exact rfl|(rw [e];done)|(rw [e];rfl)
 . cases h
end Go.Proofs.YtehpbhpmkhlldaaGreat
