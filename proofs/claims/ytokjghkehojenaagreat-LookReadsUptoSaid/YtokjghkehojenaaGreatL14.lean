/- What operators on values come to: numbers, pointers. No condition. -/
import Derived.Test.YtokjghkehojenaaGreatL13
set_option linter.all false
set_option maxHeartbeats 8000000
set_option maxRecDepth 100000
namespace Go.Proofs.YtokjghkehojenaaGreat
open Go.Sx
theorem wrapI_inR (l h:Int):(wrapI l h).inR:=by
 have ha:allS.inR:=by unfold allS;exact Sp.of_inR (by unfold rI;decide) (by unfold rI;decide)
 unfold wrapI;(repeat' split)
 . exact ha
 . exact ha
 . exact Sp.of_inR (wr_r l) (wr_r h)
theorem noS_inR:noS.inR:=by unfold noS Sp.inR;decide
theorem around_inR (l:List Int):(around l).inR:=by
 cases l with
 |nil=>exact noS_inR
 |cons x l=>exact wrapI_inR _ _
theorem truthS_inR (x y:Bool):(truthS x y).inR:=by
 have a1:(Sp.of 1 1).inR:=Sp.of_inR (by unfold rI;decide) (by unfold rI;decide)
 have a2:(Sp.of 0 0).inR:=Sp.of_inR (by unfold rI;decide) (by unfold rI;decide)
 have a3:(Sp.of 0 1).inR:=Sp.of_inR (by unfold rI;decide) (by unfold rI;decide)
 unfold truthS;(repeat' split)<;>assumption
theorem cmpS_inR (op:Int) (a b:Sp):(cmpS op a b).inR:=by
 unfold cmpS;(repeat' split)<;>first|exact truthS_inR _ _|exact noS_inR
theorem restS_inR {a b:Sp} (ha:a.inR) (hb:b.inR):(restS a b).inR:=by
 have hr:=restM_r hb
 have hd:=doI_rng (op:=9) (b:=b.lo) ha.1
 obtain ⟨⟨a1,a2⟩,a3,a4⟩:=ha
 unfold restS;(repeat' split)
 all_goals first|exact noS_inR|exact Sp.of_inR hd hd|(refine Sp.of_inR ?_ ?_<;>(unfold rI;omega))
theorem rkDo_inR {op:Int} {a b:Sp} (ha:a.inR) (hb:b.inR):(rkDo op a b).inR:=by
 unfold rkDo divS;(repeat' split)<;>first|exact noS_inR|exact around_inR _|exact restS_inR ha hb|exact cmpS_inR _ _ _
theorem rkOne_inR {op:Int} {a:Sp} (ha:a.inR):(rkOne op a).inR:=by
 unfold rkOne;(repeat' split)<;>first|exact noS_inR|exact truthS_inR _ _|exact rkDo_inR (Sp.of_inR (by unfold rI;decide) (by unfold rI;decide)) ha
theorem cg_inR1 {m r:Int} (h:0<=m/\ m<9223372036854775808) (hr: -9223372036854775808<=r/\ r<9223372036854775808):(Cg.of m r).inR:=Cg.of_inR m r (by omega) h.2 hr.1 hr.2
theorem cg_none_inR:Cg.none.inR:=by unfold Cg.none Cg.inR;decide
theorem cg_all_inR:(Cg.of 1 0).inR:=cg_inR1 (by decide) (by decide)
theorem linC_inR {op m:Int} {a b:Cg} {w:Bool} (h:0<=m/\ m<9223372036854775808):(linC op m a b w).inR:=by
 have hP:=part_r h.1 h.2
 have key: ∀k:Int,0<=k->k<9223372036854775808->(if exB op=false \/k=0 then Cg.all else Cg.of k (exI op a.r b.r%k)).inR:=by
  intro k k0 k1;split
  . exact cg_all_inR
  . rename_i hh
    have hk:k≠0:=fun e=>hh (.inr e)
    have e1:=Int.emod_nonneg (exI op a.r b.r) hk
    have e2:=Int.emod_lt_of_pos (exI op a.r b.r) (show 0<k by omega)
    exact cg_inR1 ⟨k0,k1⟩ (by omega)
 unfold linC;split
 . exact key _ hP.1 hP.2
 . exact key _ h.1 h.2
theorem prod0_inR {a b:Cg} {w:Bool} (ra:a.inR) (rb:b.inR) (ha:0<=a.m) (hb:0<=b.m):(prod0 a b w).inR:=by
 have hg:=gcd_r ra.1 rb.1 ⟨ha,hb⟩
 have hs:=scl_r (c:=a.r) rb.1 hb
 unfold prod0;(repeat' split)
 . exact cg00_inR
 . exact linC_inR ⟨hs.2,hs.1.2⟩
 . exact linC_inR ⟨hg.2,hg.1.2⟩
theorem rsDo0_inR {op:Int} {a b:Cg} {w:Bool} (ra:a.inR) (rb:b.inR) (ha:0<=a.m) (hb:0<=b.m) (ta:a.tidy) (tb:b.tidy):(rsDo0 op a b w).inR:=by
 have hg:=gcd_r ra.1 rb.1 ⟨ha,hb⟩
 have h01:(Cg.of 0 1).inR:=cg_inR1 (by decide) (by decide)
 unfold rsDo0;split
 . exact cg_none_inR
 . split
   . split
     . exact cg_none_inR
     . exact cg_inR1 (by decide) (doI_rng ra.2)
   . rename_i nz
     (repeat' split)
     . exact linC_inR ⟨hg.2,hg.1.2⟩
     . unfold prodC;split
       . exact prod0_inR rb ra hb ha
       . exact prod0_inR ra rb ha hb
     . unfold quoC;(repeat' split)
       . exact cg_none_inR
       . exact cg_all_inR
       . exact cg_all_inR
       . rename_i h1 h2 h3
         have hl:alC b 0=false:=by simpa using h1
         have hbm:b.m=0:=by omega
         have hz:b.r≠0:=al_r hl (by simp [hbm])
         have q:=quo_rng ra.2 rb.2 hz (qpre ta tb nz)
         have hp:=size_pos hz
         have d1:=Int.ediv_nonneg ha (Int.le_of_lt hp)
         have d2:=Int.ediv_le_self (sizeI b.r) ha
         have:=ra.1
         exact cg_inR1 ⟨d1,by omega⟩ q
     . unfold rstC;split
       . exact cg_none_inR
       . have hp:0<Int.gcd a.m b.m:=by rw [Int.gcd_pos_iff];exact nzo nz
         have hle:Int.gcd (Int.gcd a.m b.m:Int) (sizeI b.r)<=Int.gcd a.m b.m:=Nat.le_of_dvd hp (Int.ofNat_dvd.1 (Int.gcd_dvd_left ..))
         exact cg_inR1 (by omega) ra.2
     . unfold cmpC;(repeat' split)<;>first|exact cg_none_inR|exact h01|exact cg00_inR|exact cg_all_inR
theorem rsDo_inR {op:Int} {a b:Cg} {w:Bool} (ra:a.inR) (rb:b.inR):(rsDo op a b w).inR:=
 rsDo0_inR (Cg.clean_inR ra) (Cg.clean_inR rb) (Cg.clean_nn a) (Cg.clean_nn b) (cg_clean_tidy a) (cg_clean_tidy b)
theorem rsOne_inR {op:Int} {a:Cg} {w:Bool} (ra:a.inR):(rsOne op a w).inR:=by
 have h01:(Cg.of 0 1).inR:=cg_inR1 (by decide) (by decide)
 unfold rsOne rsOne0;(repeat' split)<;>first|exact Cg.clean_inR ra|exact cg_none_inR|exact h01|exact cg00_inR|exact cg_all_inR|exact rsDo_inR cg00_inR (Cg.clean_inR ra)
def zeroV:Vl:=⟨Ig.zero,⟨false,[]⟩⟩
def intsB (v:Vl):Bool:= !v.i.s.none&&v.i.c.some
def bothV (s:Sp) (c:Cg):Vl:=if s.none=true then zeroV else if c.some=false then zeroV else Vl.reduce ⟨⟨s,c⟩,⟨false,[]⟩⟩
def numV (op:Int) (a b:Vl):Vl:=if intsB a=false then zeroV else if intsB b=false then zeroV else bothV (rkDo op a.i.s b.i.s) (rsDo op a.i.c b.i.c (wrB op a.i.s b.i.s))
def lenN (a:Ns):Int:=((ofS a.names).length:Int)+if a.null then 1 else 0
def onlyB (a:Ns):Bool:= !a.null&&decide ((ofS a.names).length=1)
def onlyT (a:Ns):ByteArray:=if onlyB a then atS (ofS a.names) 0 else ByteArray.empty
def mayB (a b:Ns):Bool:= !(!(a.null&&b.null)&&decide (ofS (meetS a.names b.names)= []))
def mustB (a b:Ns):Bool:=mayB a b&&(lenN a==1&&lenN b==1)
def eqMust (a b:Ns) (many:List ByteArray):Bool:=mustB a b&& !(onlyB a&&memS (onlyT a) many)
def noneN (a:Ns):Bool:= !a.null&&decide (a.names= [])
def numO (n:Int):Vl:=⟨⟨Sp.of n n,Cg.of 0 n⟩,⟨false,[]⟩⟩
def b01:Vl:=Vl.reduce ⟨⟨Sp.of 0 1,Cg.of 1 0⟩,⟨false,[]⟩⟩
def ptrV (op:Int) (a b:Ns) (many:List ByteArray):Vl:=
 if noneN a=true then zeroV else if noneN b=true then zeroV else if op≠14/\ op≠15 then zeroV
 else if eqMust a b many=true then numO (if op=15 then 0 else 1) else if mayB a b=false then numO (if op=15 then 1 else 0) else b01
def calcDo (op:Int) (a b:Vl) (many:List ByteArray):Vl:=Vl.join (numV op a.of b.of) (ptrV op a.of.t b.of.t many)
section
variable {b b':Bool} {L L' M:List ByteArray}
theorem len_t (h:b=true) (hl:(ofS L).length<1000000000000000):IntKind.wrap .i64 (((ofS L).length:Int)+1)=lenN ⟨b,L⟩:=by
 unfold lenN;dsimp only;rw [if_pos h];exact wI_id _ (by omega) (by omega)
theorem len_f (h:b=false):((ofS L).length:Int)=lenN ⟨b,L⟩:=by unfold lenN;dsimp only;rw [if_neg (by rw [h];decide)];omega
theorem on_1 (h:b=true):onlyB ⟨b,L⟩=false/\ onlyT ⟨b,L⟩=ByteArray.empty:=by
 have e:onlyB ⟨b,L⟩=false:=by unfold onlyB;dsimp only;rw [h];rfl
 exact ⟨e,by unfold onlyT;rw [if_neg (by rw [e];decide)]⟩
theorem on_2 (h2:(((ofS L).length:Int) !=1)=true):onlyB ⟨b,L⟩=false/\ onlyT ⟨b,L⟩=ByteArray.empty:=by
 have e:onlyB ⟨b,L⟩=false:=by unfold onlyB;dsimp only;rw [decide_eq_false (by simp at h2;omega),Bool.and_false]
 exact ⟨e,by unfold onlyT;rw [if_neg (by rw [e];decide)]⟩
theorem on_3 (h:b=false) (h2:(((ofS L).length:Int) !=1)=false):onlyB ⟨b,L⟩=true/\ onlyT ⟨b,L⟩=atS (ofS L) 0/\ (0:Int)<((ofS L).length:Int):=by
 have hl:(ofS L).length=1:=by simp at h2;omega
 have e:onlyB ⟨b,L⟩=true:=by unfold onlyB;dsimp only;rw [h,decide_eq_true hl];rfl
 exact ⟨e,by unfold onlyT;rw [if_pos e],by omega⟩
theorem may_eq:mayB ⟨b,L⟩ ⟨b',L'⟩= !(!(b&&b')&&decide (gN (ofS (meetS L L')).length (fun i=> [st (atS (ofS (meetS L L')) i)])= [])):=by unfold mayB;rw [gN_lst]
end
section
variable {s:Sp} {c:Cg} {a b:Vl} {op:Int} {x y:Ns} {m:List ByteArray}
theorem bo_1 (h:s.none=true):bothV s c=zeroV:=by unfold bothV;rw [if_pos h]
theorem bo_2 (h:c.some=false):bothV s c=zeroV:=by unfold bothV;by_cases k:s.none=true;rw [if_pos k];rw [if_neg k,if_pos h]
theorem bo_3 (h:s.none=false) (h2:c.some=true):bothV s c=Vl.reduce ⟨⟨s,c⟩,⟨false,[]⟩⟩:=by unfold bothV;rw [if_neg (by rw [h];decide),if_neg (by rw [h2];decide)]
theorem nu_1 (h:intsB a=false):numV op a b=zeroV:=by unfold numV;rw [if_pos h]
theorem nu_2 (h:intsB b=false):numV op a b=zeroV:=by unfold numV;by_cases k:intsB a=false;rw [if_pos k];rw [if_neg k,if_pos h]
theorem nu_3 (h:intsB a=true) (h2:intsB b=true):numV op a b=bothV (rkDo op a.i.s b.i.s) (rsDo op a.i.c b.i.c (wrB op a.i.s b.i.s)):=by unfold numV;rw [if_neg (by rw [h];decide),if_neg (by rw [h2];decide)]
theorem pt_1 (h:noneN x=true):ptrV op x y m=zeroV:=by unfold ptrV;rw [if_pos h]
theorem pt_2 (h:noneN y=true):ptrV op x y m=zeroV:=by unfold ptrV;by_cases k:noneN x=true;rw [if_pos k];rw [if_neg k,if_pos h]
theorem pt_3 (h:op≠14/\ op≠15):ptrV op x y m=zeroV:=by unfold ptrV;by_cases k:noneN x=true;rw [if_pos k];rw [if_neg k];by_cases k:noneN y=true;rw [if_pos k];rw [if_neg k,if_pos h]
section
variable (h:noneN x=false) (h2:noneN y=false)
include h h2
theorem pt_i (ho: ¬(op≠14/\ op≠15)):ptrV op x y m=if eqMust x y m=true then numO (if op=15 then 0 else 1) else if mayB x y=false then numO (if op=15 then 1 else 0) else b01:=by
 unfold ptrV;rw [if_neg (by rw [h];decide),if_neg (by rw [h2];decide),if_neg ho]
theorem pt_4 (k:eqMust x y m=true):ptrV 14 x y m=numO 1/\ ptrV 15 x y m=numO 0:=by
 constructor<;>(rw [pt_i h h2 (by decide)];simp [k])
theorem pt_5 (k:eqMust x y m=false) (k2:mayB x y=false):ptrV 14 x y m=numO 0/\ ptrV 15 x y m=numO 1:=by
 constructor<;>(rw [pt_i h h2 (by decide)];simp [k,k2])
theorem pt_6 (k:eqMust x y m=false) (k2:mayB x y=true):ptrV 14 x y m=b01/\ ptrV 15 x y m=b01:=by
 constructor<;>(rw [pt_i h h2 (by decide)];simp [k,k2])
end
end
theorem b01_inR:(Sp.of 0 1).inR/\ (Cg.of 1 0).inR:=⟨truthS_inR false false,cg_all_inR⟩
def FNLen:List Ar->Option Rs
 | [.agg [.d (.v (.bool b0)),.d (.lst 1 n0 f0)]]=>some ⟨(n0*16<=140737488351232/\ ∀i,i<n0->f0 i= [st (gT (f0 i))]),.va (.c (.d (it (lenN (⟨b0,gN n0 f0⟩:Ns))))),[]⟩
 |_=>none
theorem fcNLen:FC Tryz.prog 201 FNLen:=by
 intro xs pre r us h hp;unfold FNLen at h;split at h
 . rename_i b0 n0 f0
   cases h;have hp0:=hp
   refine FCat.of_eq (as':= [.agg [.d (.v (.bool b0)),.d (.lst 1 n0 fun i=> [st (gT (f0 i))])]]) ?_ rfl rfl ?_
   . repeat' (first|exact trivial|exact rfl|refine ⟨?_, ?_⟩|fail)
     all_goals first|exact hp0.2|exact hp1.2|exact hp2.2|(intro i hi;exact (hp0.2 i hi).1)|(intro i hi;exact (hp1.2 i hi).1)|(intro i hi;exact (hp2.2 i hi).1)|grind
   refine fcat tys_ok (l:= [(95,⟨[],FNClean⟩)]) ⟨fcNClean,trivial⟩ Tryz.func201 rfl (by kernel_rfl) false ?_
   have hL:=ofS_len (gN n0 f0);rw [gN_length] at hL
   have c0:(gN n0 fun i=> [st (gT (f0 i))])=gN n0 f0:=rfl
   rw [<-c0];rw [<-c0] at hL;cases hb:b0
   . have hbn:=congrArg Bool.not hb;simp only [Bool.not_true,Bool.not_false] at hbn
     repeat' (first|exact trivial|(with_reducible first|assumption|exact hp0.1|exact hp1.1|exact (fun h:false=true=>absurd h (by decide))|exact (fun h:true=false=>absurd h (by decide))|exact (fun h:(!false)=false=>absurd h (by decide))|exact (fun h:(!true)=true=>absurd h (by decide))|exact hp0.1|exact hp1.1|exact nx hb|exact nx hbn)|refine ⟨?_, ?_⟩|intro _)
     all_goals first|(with_reducible apply qq)|(conv=>whnf)
     all_goals first|(with_reducible rfl)|decide|(intro _ _;exact rfl)|exact rfl|exact congrArg (Value.int .i64) (len_f (by assumption))|rfl
   . have hbn:=congrArg Bool.not hb;simp only [Bool.not_true,Bool.not_false] at hbn
     repeat' (first|exact trivial|(with_reducible first|assumption|exact hp0.1|exact hp1.1|exact (fun h:false=true=>absurd h (by decide))|exact (fun h:true=false=>absurd h (by decide))|exact (fun h:(!false)=false=>absurd h (by decide))|exact (fun h:(!true)=true=>absurd h (by decide))|exact hp0.1|exact hp1.1|exact nx hb|exact nx hbn)|refine ⟨?_, ?_⟩|intro _)
     all_goals first|(with_reducible apply qq)|(conv=>whnf)
     all_goals first|(with_reducible rfl)|decide|(intro _ _;exact rfl)|exact rfl|exact congrArg (Value.int .i64) (len_t (by assumption) (by omega))|rfl
 . cases h
def FNOnly:List Ar->Option Rs
 | [.agg [.d (.v (.bool b0)),.d (.lst 1 n0 f0)]]=>some ⟨(n0*16<=140737488351232/\ ∀i,i<n0->f0 i= [st (gT (f0 i))]),.tup [.c (.d (st (onlyT (⟨b0,gN n0 f0⟩:Ns)))),.c (.d (bo (onlyB (⟨b0,gN n0 f0⟩:Ns))))],[]⟩
 |_=>none
theorem fcNOnly:FC Tryz.prog 169 FNOnly:=by
 intro xs pre r us h hp;unfold FNOnly at h;split at h
 . rename_i b0 n0 f0
   cases h;have hp0:=hp
   refine FCat.of_eq (as':= [.agg [.d (.v (.bool b0)),.d (.lst 1 n0 fun i=> [st (gT (f0 i))])]]) ?_ rfl rfl ?_
   . repeat' (first|exact trivial|exact rfl|refine ⟨?_, ?_⟩|fail)
     all_goals first|exact hp0.2|exact hp1.2|exact hp2.2|(intro i hi;exact (hp0.2 i hi).1)|(intro i hi;exact (hp1.2 i hi).1)|(intro i hi;exact (hp2.2 i hi).1)|grind
   refine fcat tys_ok (l:= [(95,⟨[],FNClean⟩)]) ⟨fcNClean,trivial⟩ Tryz.func169 rfl (by kernel_rfl) false ?_
   have hL:=ofS_len (gN n0 f0);rw [gN_length] at hL
   have c0:(gN n0 fun i=> [st (gT (f0 i))])=gN n0 f0:=rfl
   rw [<-c0];rw [<-c0] at hL;cases hb:b0
   . cases h1:(((ofS (gN n0 fun i=> [st (gT (f0 i))])).length:Int) !=1)
     . have hbn:=congrArg Bool.not hb;simp only [Bool.not_true,Bool.not_false] at hbn
       have h1n:=congrArg Bool.not h1;simp only [Bool.not_true,Bool.not_false] at h1n
       have e:=on_3 (b:=false) (L:=(gN n0 fun i=> [st (gT (f0 i))])) rfl h1
       repeat' (first|exact trivial|(with_reducible first|assumption|exact hp0.1|exact hp1.1|exact (fun h:false=true=>absurd h (by decide))|exact (fun h:true=false=>absurd h (by decide))|exact (fun h:(!false)=false=>absurd h (by decide))|exact (fun h:(!true)=true=>absurd h (by decide))|exact nx hb|exact nx h1|exact nx hbn|exact nx h1n)|refine ⟨?_, ?_⟩|intro _)
       all_goals first|(with_reducible apply qq)|(conv=>whnf)
       all_goals first|(with_reducible rfl)|decide|(intro _ _;exact rfl)|exact rfl|(rw [e.1];done)|(rw [e.2];done)|(rw [e.2];rfl)|(rw [e.2.1];done)|(rw [e.2.1];rfl)|exact e.2.2|exact Int.le_refl _|rfl
     . have hbn:=congrArg Bool.not hb;simp only [Bool.not_true,Bool.not_false] at hbn
       have h1n:=congrArg Bool.not h1;simp only [Bool.not_true,Bool.not_false] at h1n
       have e:=on_2 (b:=false) (L:=(gN n0 fun i=> [st (gT (f0 i))])) h1
       repeat' (first|exact trivial|(with_reducible first|assumption|exact hp0.1|exact hp1.1|exact (fun h:false=true=>absurd h (by decide))|exact (fun h:true=false=>absurd h (by decide))|exact (fun h:(!false)=false=>absurd h (by decide))|exact (fun h:(!true)=true=>absurd h (by decide))|exact nx hb|exact nx h1|exact nx hbn|exact nx h1n)|refine ⟨?_, ?_⟩|intro _)
       all_goals first|(with_reducible apply qq)|(conv=>whnf)
       all_goals first|(with_reducible rfl)|decide|(intro _ _;exact rfl)|exact rfl|(rw [e.1];done)|(rw [e.2];done)|(rw [e.2];rfl)|(rw [e.2.1];done)|(rw [e.2.1];rfl)|exact e.2.2|exact Int.le_refl _|rfl
   . have hbn:=congrArg Bool.not hb;simp only [Bool.not_true,Bool.not_false] at hbn
     have e:=on_1 (L:=(gN n0 fun i=> [st (gT (f0 i))])) (rfl:true=true)
     repeat' (first|exact trivial|(with_reducible first|assumption|exact hp0.1|exact hp1.1|exact (fun h:false=true=>absurd h (by decide))|exact (fun h:true=false=>absurd h (by decide))|exact (fun h:(!false)=false=>absurd h (by decide))|exact (fun h:(!true)=true=>absurd h (by decide))|exact nx hb|exact nx hbn)|refine ⟨?_, ?_⟩|intro _)
     all_goals first|(with_reducible apply qq)|(conv=>whnf)
     all_goals first|(with_reducible rfl)|decide|(intro _ _;exact rfl)|exact rfl|(rw [e.1];done)|(rw [e.2];done)|(rw [e.2];rfl)|(rw [e.2.1];done)|(rw [e.2.1];rfl)|exact e.2.2|exact Int.le_refl _|rfl
 . cases h
def FNEqual:List Ar->Option Rs
 | [.agg [.d (.v (.bool b0)),.d (.lst 1 n0 f0)],.agg [.d (.v (.bool b1)),.d (.lst 1 n1 f1)]]=>some ⟨(n0*16<=140737488351232/\ ∀i,i<n0->f0 i= [st (gT (f0 i))])/\ (n1*16<=140737488351232/\ ∀i,i<n1->f1 i= [st (gT (f1 i))]),.tup [.c (.d (bo (mayB (⟨b0,gN n0 f0⟩:Ns) (⟨b1,gN n1 f1⟩:Ns)))),.c (.d (bo (mustB (⟨b0,gN n0 f0⟩:Ns) (⟨b1,gN n1 f1⟩:Ns))))],[]⟩
 |_=>none
theorem fcNEqual:FC Tryz.prog 168 FNEqual:=by
 intro xs pre r us h hp;unfold FNEqual at h;split at h
 . rename_i b0 n0 f0 b1 n1 f1
   cases h;obtain ⟨hp0,hp1⟩:=hp
   refine FCat.of_eq (as':= [.agg [.d (.v (.bool b0)),.d (.lst 1 n0 fun i=> [st (gT (f0 i))])],.agg [.d (.v (.bool b1)),.d (.lst 1 n1 fun i=> [st (gT (f1 i))])]]) ?_ rfl rfl ?_
   . repeat' (first|exact trivial|exact rfl|refine ⟨?_, ?_⟩|fail)
     all_goals first|exact hp0.2|exact hp1.2|exact hp2.2|(intro i hi;exact (hp0.2 i hi).1)|(intro i hi;exact (hp1.2 i hi).1)|(intro i hi;exact (hp2.2 i hi).1)|grind
   refine fcat tys_ok (l:= [(65,⟨[],FNMeet⟩),(123,⟨[],FNNone⟩),(201,⟨[],FNLen⟩)]) ⟨fcNMeet,fcNNone,fcNLen,trivial⟩ Tryz.func168 rfl (by kernel_rfl) false ?_
   have hr:=ofS_room (n:=n0) (f:=f0) hp0.1
   have hml:(meetS (gN n0 f0) (gN n1 f1)).length<=(gN n0 f0).length:=List.length_filter_le _ _
   have hol:=ofS_len (meetS (gN n0 f0) (gN n1 f1))
   rw [gN_length] at hml;have c0:(gN n0 fun i=> [st (gT (f0 i))])=gN n0 f0:=rfl
   rw [<-c0];have c1:(gN n1 fun i=> [st (gT (f1 i))])=gN n1 f1:=rfl
   rw [<-c1];rw [<-c0, <-c1] at hol;have hroom:(ofS (meetS (gN n0 fun i=> [st (gT (f0 i))]) (gN n1 fun i=> [st (gT (f1 i))]))).length*16<=140737488351232:=by have h1:=hp0.1;have h2:(meetS (gN n0 fun i=> [st (gT (f0 i))]) (gN n1 fun i=> [st (gT (f1 i))])).length<=n0:=hml;omega
   cases mr:(!(b0&&b1)&&decide (gN (ofS (meetS (gN n0 fun i=> [st (gT (f0 i))]) (gN n1 fun i=> [st (gT (f1 i))]))).length (fun i=> [st (atS (ofS (meetS (gN n0 fun i=> [st (gT (f0 i))]) (gN n1 fun i=> [st (gT (f1 i))]))) i)])= []))
   . cases l0:(lenN (⟨b0,(gN n0 fun i=> [st (gT (f0 i))])⟩:Ns)==1)
     . have mrn:=congrArg Bool.not mr;simp only [Bool.not_true,Bool.not_false] at mrn
       have l0n:=congrArg Bool.not l0;simp only [Bool.not_true,Bool.not_false] at l0n
       have em:=may_eq (b:=b0) (b':=b1) (L:=(gN n0 fun i=> [st (gT (f0 i))])) (L':=(gN n1 fun i=> [st (gT (f1 i))]))
       rw [mr] at em;have eu:mustB (⟨b0,(gN n0 fun i=> [st (gT (f0 i))])⟩:Ns) (⟨b1,(gN n1 fun i=> [st (gT (f1 i))])⟩:Ns)=false:=by unfold mustB;rw [em];simp only [l0,reduceIte,Bool.not_true,Bool.not_false,Bool.true_and,Bool.false_and,Bool.and_true,Bool.and_false,Bool.true_or,Bool.false_or,Bool.or_true,Bool.or_false,Bool.false_eq_true,Bool.true_eq_false]
       repeat' (first|exact trivial|(with_reducible first|assumption|exact hp0.1|exact hp1.1|exact (fun h:false=true=>absurd h (by decide))|exact (fun h:true=false=>absurd h (by decide))|exact (fun h:(!false)=false=>absurd h (by decide))|exact (fun h:(!true)=true=>absurd h (by decide))|exact nx mr|exact nx l0|exact nx mrn|exact nx l0n)|refine ⟨?_, ?_⟩|intro _)
       all_goals first|(with_reducible apply qq)|(conv=>whnf)
       all_goals first|(with_reducible rfl)|decide|(intro _ _;exact rfl)|exact rfl|(rw [em];done)|(rw [em];rfl)|(rw [eu];done)|(rw [eu];rfl)|exact hroom|(rw [em];exact congrArg Value.bool (congrArg Bool.not mr))|exact (congrArg Value.bool l1).trans (congrArg Value.bool eu).symm|rfl
     . have mrn:=congrArg Bool.not mr;simp only [Bool.not_true,Bool.not_false] at mrn
       have l0n:=congrArg Bool.not l0;simp only [Bool.not_true,Bool.not_false] at l0n
       have em:=may_eq (b:=b0) (b':=b1) (L:=(gN n0 fun i=> [st (gT (f0 i))])) (L':=(gN n1 fun i=> [st (gT (f1 i))]))
       rw [mr] at em;have eu:mustB (⟨b0,(gN n0 fun i=> [st (gT (f0 i))])⟩:Ns) (⟨b1,(gN n1 fun i=> [st (gT (f1 i))])⟩:Ns)=(lenN (⟨b1,(gN n1 fun i=> [st (gT (f1 i))])⟩:Ns)==1):=by unfold mustB;rw [em];simp only [l0,reduceIte,Bool.not_true,Bool.not_false,Bool.true_and,Bool.false_and,Bool.and_true,Bool.and_false,Bool.true_or,Bool.false_or,Bool.or_true,Bool.or_false,Bool.false_eq_true,Bool.true_eq_false]
       repeat' (first|exact trivial|(with_reducible first|assumption|exact hp0.1|exact hp1.1|exact (fun h:false=true=>absurd h (by decide))|exact (fun h:true=false=>absurd h (by decide))|exact (fun h:(!false)=false=>absurd h (by decide))|exact (fun h:(!true)=true=>absurd h (by decide))|exact nx mr|exact nx l0|exact nx mrn|exact nx l0n)|refine ⟨?_, ?_⟩|intro _)
       all_goals first|(with_reducible apply qq)|(conv=>whnf)
       all_goals first|(with_reducible rfl)|decide|(intro _ _;exact rfl)|exact rfl|(rw [em];done)|(rw [em];rfl)|(rw [eu];done)|(rw [eu];rfl)|exact hroom|(rw [em];exact congrArg Value.bool (congrArg Bool.not mr))|exact (congrArg Value.bool l1).trans (congrArg Value.bool eu).symm|rfl
   . have mrn:=congrArg Bool.not mr;simp only [Bool.not_true,Bool.not_false] at mrn
     have em:=may_eq (b:=b0) (b':=b1) (L:=(gN n0 fun i=> [st (gT (f0 i))])) (L':=(gN n1 fun i=> [st (gT (f1 i))]))
     rw [mr] at em;have eu:mustB (⟨b0,(gN n0 fun i=> [st (gT (f0 i))])⟩:Ns) (⟨b1,(gN n1 fun i=> [st (gT (f1 i))])⟩:Ns)=false:=by unfold mustB;rw [em];simp only [reduceIte,Bool.not_true,Bool.not_false,Bool.true_and,Bool.false_and,Bool.and_true,Bool.and_false,Bool.true_or,Bool.false_or,Bool.or_true,Bool.or_false,Bool.false_eq_true,Bool.true_eq_false]
     repeat' (first|exact trivial|(with_reducible first|assumption|exact hp0.1|exact hp1.1|exact (fun h:false=true=>absurd h (by decide))|exact (fun h:true=false=>absurd h (by decide))|exact (fun h:(!false)=false=>absurd h (by decide))|exact (fun h:(!true)=true=>absurd h (by decide))|exact nx mr|exact nx mrn)|refine ⟨?_, ?_⟩|intro _)
     all_goals first|(with_reducible apply qq)|(conv=>whnf)
     all_goals first|(with_reducible rfl)|decide|(intro _ _;exact rfl)|exact rfl|(rw [em];done)|(rw [em];rfl)|(rw [eu];done)|(rw [eu];rfl)|exact hroom|(rw [em];exact congrArg Value.bool (congrArg Bool.not mr))|exact (congrArg Value.bool l1).trans (congrArg Value.bool eu).symm|rfl
 . cases h
def FCInts:List Ar->Option Rs
 | [.agg [.d (.v (.bool s0)),.d (.v (.int .i64 l0)),.d (.v (.int .i64 h0)),.d (.v (.bool b0)),.d (.v (.int .i64 m0)),.d (.v (.int .i64 r0)),.d (.v (.bool z0)),.d (.lst 1 n0 f0)]]=>some ⟨((n0*16<=140737488351232/\ ∀i,i<n0->f0 i= [st (gT (f0 i))])/\ Sp.inR ⟨s0,l0,h0⟩/\ Cg.inR ⟨b0,m0,r0⟩),.va (.c (.d (bo (intsB (⟨⟨⟨s0,l0,h0⟩,⟨b0,m0,r0⟩⟩,⟨z0,gN n0 f0⟩⟩:Vl))))),[]⟩
 |_=>none
theorem fcCInts:FC Tryz.prog 113 FCInts:=by
 intro xs pre r us h hp;unfold FCInts at h;split at h
 . rename_i s0 l0 h0 b0 m0 r0 z0 n0 f0
   cases h;have hp0:=hp
   refine FCat.of_eq (as':= [.agg [.d (.v (.bool s0)),.d (.v (.int .i64 l0)),.d (.v (.int .i64 h0)),.d (.v (.bool b0)),.d (.v (.int .i64 m0)),.d (.v (.int .i64 r0)),.d (.v (.bool z0)),.d (.lst 1 n0 fun i=> [st (gT (f0 i))])]]) ?_ rfl rfl ?_
   . repeat' (first|exact trivial|exact rfl|refine ⟨?_, ?_⟩|fail)
     all_goals first|exact hp0.2|exact hp1.2|exact hp2.2|(intro i hi;exact (hp0.2 i hi).1)|(intro i hi;exact (hp1.2 i hi).1)|(intro i hi;exact (hp2.2 i hi).1)|grind
   refine fcat tys_ok (l:= [(34,⟨[],FSNone⟩),(96,⟨[],FCNone⟩)]) ⟨fcSNone,fcCNone,trivial⟩ Tryz.func113 rfl (by kernel_rfl) false ?_
   have q0:=hp0.2.2;unfold Cg.inR at q0;dsimp only at q0
   have c0:(gN n0 fun i=> [st (gT (f0 i))])=gN n0 f0:=rfl
   rw [<-c0];cases nA:Sp.none ⟨s0,l0,h0⟩
   . cases hb:b0
     . have nAn:=congrArg Bool.not nA;simp only [Bool.not_true,Bool.not_false] at nAn
       have hbn:=congrArg Bool.not hb;simp only [Bool.not_true,Bool.not_false] at hbn
       have e:intsB (⟨⟨⟨s0,l0,h0⟩,⟨false,m0,r0⟩⟩,⟨z0,(gN n0 fun i=> [st (gT (f0 i))])⟩⟩:Vl)=false:=by unfold intsB;dsimp only;rw [nA];rfl
       repeat' (first|exact trivial|(with_reducible first|exact hp0|exact hp0.1|exact hp0.2|exact hp0.2.1|exact hp0.2.2|exact hp0.1.1|exact q0.1|exact q0.2|exact q0.1.1|exact q0.1.2|exact q0.2.1|exact q0.2.2|exact (fun h:false=true=>absurd h (by decide))|exact (fun h:true=false=>absurd h (by decide))|exact (fun h:(!false)=false=>absurd h (by decide))|exact (fun h:(!true)=true=>absurd h (by decide))|exact nx nA|exact nx hb|exact nx nAn|exact nx hbn)|refine ⟨?_, ?_⟩|intro _)
       all_goals first|(with_reducible apply qq)|(conv=>whnf)
       all_goals first|(with_reducible rfl)|decide|(rw [e];done)|(rw [e];rfl)|rfl
     . have nAn:=congrArg Bool.not nA;simp only [Bool.not_true,Bool.not_false] at nAn
       have hbn:=congrArg Bool.not hb;simp only [Bool.not_true,Bool.not_false] at hbn
       have e:intsB (⟨⟨⟨s0,l0,h0⟩,⟨true,m0,r0⟩⟩,⟨z0,(gN n0 fun i=> [st (gT (f0 i))])⟩⟩:Vl)=true:=by unfold intsB;dsimp only;rw [nA];rfl
       repeat' (first|exact trivial|(with_reducible first|exact hp0|exact hp0.1|exact hp0.2|exact hp0.2.1|exact hp0.2.2|exact hp0.1.1|exact q0.1|exact q0.2|exact q0.1.1|exact q0.1.2|exact q0.2.1|exact q0.2.2|exact (fun h:false=true=>absurd h (by decide))|exact (fun h:true=false=>absurd h (by decide))|exact (fun h:(!false)=false=>absurd h (by decide))|exact (fun h:(!true)=true=>absurd h (by decide))|exact nx nA|exact nx hb|exact nx nAn|exact nx hbn)|refine ⟨?_, ?_⟩|intro _)
       all_goals first|(with_reducible apply qq)|(conv=>whnf)
       all_goals first|(with_reducible rfl)|decide|(rw [e];done)|(rw [e];rfl)|rfl
   . cases hb:b0
     . have nAn:=congrArg Bool.not nA;simp only [Bool.not_true,Bool.not_false] at nAn
       have hbn:=congrArg Bool.not hb;simp only [Bool.not_true,Bool.not_false] at hbn
       have e:intsB (⟨⟨⟨s0,l0,h0⟩,⟨false,m0,r0⟩⟩,⟨z0,(gN n0 fun i=> [st (gT (f0 i))])⟩⟩:Vl)=false:=by unfold intsB;dsimp only;rw [nA];rfl
       repeat' (first|exact trivial|(with_reducible first|exact hp0|exact hp0.1|exact hp0.2|exact hp0.2.1|exact hp0.2.2|exact hp0.1.1|exact q0.1|exact q0.2|exact q0.1.1|exact q0.1.2|exact q0.2.1|exact q0.2.2|exact (fun h:false=true=>absurd h (by decide))|exact (fun h:true=false=>absurd h (by decide))|exact (fun h:(!false)=false=>absurd h (by decide))|exact (fun h:(!true)=true=>absurd h (by decide))|exact nx nA|exact nx hb|exact nx nAn|exact nx hbn)|refine ⟨?_, ?_⟩|intro _)
       all_goals first|(with_reducible apply qq)|(conv=>whnf)
       all_goals first|(with_reducible rfl)|decide|(rw [e];done)|(rw [e];rfl)|rfl
     . have nAn:=congrArg Bool.not nA;simp only [Bool.not_true,Bool.not_false] at nAn
       have hbn:=congrArg Bool.not hb;simp only [Bool.not_true,Bool.not_false] at hbn
       have e:intsB (⟨⟨⟨s0,l0,h0⟩,⟨true,m0,r0⟩⟩,⟨z0,(gN n0 fun i=> [st (gT (f0 i))])⟩⟩:Vl)=false:=by unfold intsB;dsimp only;rw [nA];rfl
       repeat' (first|exact trivial|(with_reducible first|exact hp0|exact hp0.1|exact hp0.2|exact hp0.2.1|exact hp0.2.2|exact hp0.1.1|exact q0.1|exact q0.2|exact q0.1.1|exact q0.1.2|exact q0.2.1|exact q0.2.2|exact (fun h:false=true=>absurd h (by decide))|exact (fun h:true=false=>absurd h (by decide))|exact (fun h:(!false)=false=>absurd h (by decide))|exact (fun h:(!true)=true=>absurd h (by decide))|exact nx nA|exact nx hb|exact nx nAn|exact nx hbn)|refine ⟨?_, ?_⟩|intro _)
       all_goals first|(with_reducible apply qq)|(conv=>whnf)
       all_goals first|(with_reducible rfl)|decide|(rw [e];done)|(rw [e];rfl)|rfl
 . cases h
def FCBothV:List Ar->Option Rs
 | [.agg [.d (.v (.bool s0)),.d (.v (.int .i64 l0)),.d (.v (.int .i64 h0))],.agg [.d (.v (.bool b1)),.d (.v (.int .i64 m1)),.d (.v (.int .i64 r1))]]=>some ⟨(Sp.inR ⟨s0,l0,h0⟩)/\ (Cg.inR ⟨b1,m1,r1⟩),.va (Vl.ar (bothV (⟨s0,l0,h0⟩:Sp) (⟨b1,m1,r1⟩:Cg))),[]⟩
 |_=>none
theorem fcCBothV:FC Tryz.prog 115 FCBothV:=by
 intro xs pre r us h hp;unfold FCBothV at h;split at h
 . rename_i s0 l0 h0 b1 m1 r1
   cases h;obtain ⟨hp0,hp1⟩:=hp
   refine fcat tys_ok (l:= [(34,⟨[],FSNone⟩),(96,⟨[],FCNone⟩),(31,⟨[],FVInt⟩)]) ⟨fcSNone,fcCNone,fcVInt,trivial⟩ Tryz.func115 rfl (by kernel_rfl) true ?_
   have q0:=hp0;unfold Sp.inR at q0;dsimp only at q0
   have q1:=hp1;unfold Cg.inR at q1;dsimp only at q1
   cases nA:Sp.none ⟨s0,l0,h0⟩
   . cases hb:b1
     . have nAn:=congrArg Bool.not nA;simp only [Bool.not_true,Bool.not_false] at nAn
       have hbn:=congrArg Bool.not hb;simp only [Bool.not_true,Bool.not_false] at hbn
       have e:=bo_2 (s:=⟨s0,l0,h0⟩) (c:=⟨false,m1,r1⟩) rfl
       repeat' (first|exact trivial|(with_reducible first|assumption|exact q0.1|exact q0.2|exact q0.1.1|exact q0.1.2|exact q0.2.1|exact q0.2.2|exact q1.1|exact q1.2|exact q1.1.1|exact q1.1.2|exact q1.2.1|exact q1.2.2|exact (fun h:false=true=>absurd h (by decide))|exact (fun h:true=false=>absurd h (by decide))|exact (fun h:(!false)=false=>absurd h (by decide))|exact (fun h:(!true)=true=>absurd h (by decide))|exact nx nA|exact nx hb|exact nx nAn|exact nx hbn)|refine ⟨?_, ?_⟩|intro _)
       all_goals first|(with_reducible apply qq)|(conv=>whnf)
       all_goals first|(with_reducible rfl)|decide|(rw [e];done)|(rw [e];rfl)|rfl
     . have nAn:=congrArg Bool.not nA;simp only [Bool.not_true,Bool.not_false] at nAn
       have hbn:=congrArg Bool.not hb;simp only [Bool.not_true,Bool.not_false] at hbn
       have e:=bo_3 (c:=⟨true,m1,r1⟩) nA rfl
       repeat' (first|exact trivial|(with_reducible first|assumption|exact q0.1|exact q0.2|exact q0.1.1|exact q0.1.2|exact q0.2.1|exact q0.2.2|exact q1.1|exact q1.2|exact q1.1.1|exact q1.1.2|exact q1.2.1|exact q1.2.2|exact (fun h:false=true=>absurd h (by decide))|exact (fun h:true=false=>absurd h (by decide))|exact (fun h:(!false)=false=>absurd h (by decide))|exact (fun h:(!true)=true=>absurd h (by decide))|exact nx nA|exact nx hb|exact nx nAn|exact nx hbn)|refine ⟨?_, ?_⟩|intro _)
       all_goals first|(with_reducible apply qq)|(conv=>whnf)
       all_goals first|(with_reducible rfl)|decide|(rw [e];done)|(rw [e];rfl)|rfl
   . have nAn:=congrArg Bool.not nA;simp only [Bool.not_true,Bool.not_false] at nAn
     have e:=bo_1 (c:=⟨b1,m1,r1⟩) nA
     repeat' (first|exact trivial|(with_reducible first|assumption|exact q0.1|exact q0.2|exact q0.1.1|exact q0.1.2|exact q0.2.1|exact q0.2.2|exact q1.1|exact q1.2|exact q1.1.1|exact q1.1.2|exact q1.2.1|exact q1.2.2|exact (fun h:false=true=>absurd h (by decide))|exact (fun h:true=false=>absurd h (by decide))|exact (fun h:(!false)=false=>absurd h (by decide))|exact (fun h:(!true)=true=>absurd h (by decide))|exact nx nA|exact nx nAn)|refine ⟨?_, ?_⟩|intro _)
     all_goals first|(with_reducible apply qq)|(conv=>whnf)
     all_goals first|(with_reducible rfl)|decide|(rw [e];done)|(rw [e];rfl)|rfl
 . cases h
def FCNumbers:List Ar->Option Rs
 | [.c (.d (.v (.int .i64 i0))),.agg [.d (.v (.bool s1)),.d (.v (.int .i64 l1)),.d (.v (.int .i64 h1)),.d (.v (.bool b1)),.d (.v (.int .i64 m1)),.d (.v (.int .i64 r1)),.d (.v (.bool z1)),.d (.lst 1 n1 f1)],.agg [.d (.v (.bool s2)),.d (.v (.int .i64 l2)),.d (.v (.int .i64 h2)),.d (.v (.bool b2)),.d (.v (.int .i64 m2)),.d (.v (.int .i64 r2)),.d (.v (.bool z2)),.d (.lst 1 n2 f2)]]=>some ⟨(-9223372036854775808<=i0/\ i0<9223372036854775808)/\ ((n1*16<=140737488351232/\ ∀i,i<n1->f1 i= [st (gT (f1 i))])/\ Sp.inR ⟨s1,l1,h1⟩/\ Cg.inR ⟨b1,m1,r1⟩)/\ ((n2*16<=140737488351232/\ ∀i,i<n2->f2 i= [st (gT (f2 i))])/\ Sp.inR ⟨s2,l2,h2⟩/\ Cg.inR ⟨b2,m2,r2⟩),.va (Vl.ar (numV i0 (⟨⟨⟨s1,l1,h1⟩,⟨b1,m1,r1⟩⟩,⟨z1,gN n1 f1⟩⟩:Vl) (⟨⟨⟨s2,l2,h2⟩,⟨b2,m2,r2⟩⟩,⟨z2,gN n2 f2⟩⟩:Vl))),[]⟩
 |_=>none
theorem fcCNumbers:FC Tryz.prog 83 FCNumbers:=by
 intro xs pre r us h hp;unfold FCNumbers at h;split at h
 . rename_i i0 s1 l1 h1 b1 m1 r1 z1 n1 f1 s2 l2 h2 b2 m2 r2 z2 n2 f2
   cases h;obtain ⟨hp0,hp1,hp2⟩:=hp
   refine FCat.of_eq (as':= [.c (.d (.v (.int .i64 i0))),.agg [.d (.v (.bool s1)),.d (.v (.int .i64 l1)),.d (.v (.int .i64 h1)),.d (.v (.bool b1)),.d (.v (.int .i64 m1)),.d (.v (.int .i64 r1)),.d (.v (.bool z1)),.d (.lst 1 n1 fun i=> [st (gT (f1 i))])],.agg [.d (.v (.bool s2)),.d (.v (.int .i64 l2)),.d (.v (.int .i64 h2)),.d (.v (.bool b2)),.d (.v (.int .i64 m2)),.d (.v (.int .i64 r2)),.d (.v (.bool z2)),.d (.lst 1 n2 fun i=> [st (gT (f2 i))])]]) ?_ rfl rfl ?_
   . repeat' (first|exact trivial|exact rfl|refine ⟨?_, ?_⟩|fail)
     all_goals first|exact hp0.2|exact hp1.2|exact hp2.2|(intro i hi;exact (hp0.2 i hi).1)|(intro i hi;exact (hp1.2 i hi).1)|(intro i hi;exact (hp2.2 i hi).1)|grind
   refine fcat tys_ok (l:= [(113,⟨[],FCInts⟩),(121,⟨[],FReDo⟩),(122,⟨[],FRsDo⟩),(114,⟨[],FCWraps⟩),(115,⟨[],FCBothV⟩)]) ⟨fcCInts,fcReDo,fcRsDo,fcCWraps,fcCBothV,trivial⟩ Tryz.func83 rfl (by kernel_rfl) true ?_
   have c1:(gN n1 fun i=> [st (gT (f1 i))])=gN n1 f1:=rfl
   rw [<-c1];have c2:(gN n2 fun i=> [st (gT (f2 i))])=gN n2 f2:=rfl
   rw [<-c2];have k1:=rkDo_inR (op:=i0) hp1.2.1 hp2.2.1
   have k2:=rsDo_inR (op:=i0) (w:=wrB i0 ⟨s1,l1,h1⟩ ⟨s2,l2,h2⟩) hp1.2.2 hp2.2.2
   have k3:=And.intro k1 k2
   cases iA:intsB (⟨⟨⟨s1,l1,h1⟩,⟨b1,m1,r1⟩⟩,⟨z1,(gN n1 fun i=> [st (gT (f1 i))])⟩⟩:Vl)
   . have iAn:=congrArg Bool.not iA;simp only [Bool.not_true,Bool.not_false] at iAn
     have e:=nu_1 (op:=i0) (a:=(⟨⟨⟨s1,l1,h1⟩,⟨b1,m1,r1⟩⟩,⟨z1,(gN n1 fun i=> [st (gT (f1 i))])⟩⟩:Vl)) (b:=(⟨⟨⟨s2,l2,h2⟩,⟨b2,m2,r2⟩⟩,⟨z2,(gN n2 fun i=> [st (gT (f2 i))])⟩⟩:Vl)) iA
     repeat' (first|exact trivial|(with_reducible first|assumption|exact hp1.1|exact hp1.2|exact hp1.2.1|exact hp1.2.2|exact hp1.1.1|exact hp2.1|exact hp2.2|exact hp2.2.1|exact hp2.2.2|exact hp2.1.1|exact k1|exact k2|exact (fun h:false=true=>absurd h (by decide))|exact (fun h:true=false=>absurd h (by decide))|exact (fun h:(!false)=false=>absurd h (by decide))|exact (fun h:(!true)=true=>absurd h (by decide))|exact nx iA|exact nx iAn)|refine ⟨?_, ?_⟩|intro _)
     all_goals first|(with_reducible apply qq)|(conv=>whnf)
     all_goals first|(with_reducible rfl)|decide|(with_reducible exact k1.1.1)|(exact k1)|(exact k2)|(intro _ _;exact rfl)|exact rfl|(rw [e];done)|(rw [e];rfl)|rfl
   . cases iB:intsB (⟨⟨⟨s2,l2,h2⟩,⟨b2,m2,r2⟩⟩,⟨z2,(gN n2 fun i=> [st (gT (f2 i))])⟩⟩:Vl)
     . have iAn:=congrArg Bool.not iA;simp only [Bool.not_true,Bool.not_false] at iAn
       have iBn:=congrArg Bool.not iB;simp only [Bool.not_true,Bool.not_false] at iBn
       have e:=nu_2 (op:=i0) (a:=(⟨⟨⟨s1,l1,h1⟩,⟨b1,m1,r1⟩⟩,⟨z1,(gN n1 fun i=> [st (gT (f1 i))])⟩⟩:Vl)) (b:=(⟨⟨⟨s2,l2,h2⟩,⟨b2,m2,r2⟩⟩,⟨z2,(gN n2 fun i=> [st (gT (f2 i))])⟩⟩:Vl)) iB
       repeat' (first|exact trivial|(with_reducible first|assumption|exact hp1.1|exact hp1.2|exact hp1.2.1|exact hp1.2.2|exact hp1.1.1|exact hp2.1|exact hp2.2|exact hp2.2.1|exact hp2.2.2|exact hp2.1.1|exact k1|exact k2|exact (fun h:false=true=>absurd h (by decide))|exact (fun h:true=false=>absurd h (by decide))|exact (fun h:(!false)=false=>absurd h (by decide))|exact (fun h:(!true)=true=>absurd h (by decide))|exact nx iA|exact nx iB|exact nx iAn|exact nx iBn)|refine ⟨?_, ?_⟩|intro _)
       all_goals first|(with_reducible apply qq)|(conv=>whnf)
       all_goals first|(with_reducible rfl)|decide|(with_reducible exact k1.1.1)|(exact k1)|(exact k2)|(intro _ _;exact rfl)|exact rfl|(rw [e];done)|(rw [e];rfl)|rfl
     . have iAn:=congrArg Bool.not iA;simp only [Bool.not_true,Bool.not_false] at iAn
       have iBn:=congrArg Bool.not iB;simp only [Bool.not_true,Bool.not_false] at iBn
       have e:=nu_3 (op:=i0) (a:=(⟨⟨⟨s1,l1,h1⟩,⟨b1,m1,r1⟩⟩,⟨z1,(gN n1 fun i=> [st (gT (f1 i))])⟩⟩:Vl)) (b:=(⟨⟨⟨s2,l2,h2⟩,⟨b2,m2,r2⟩⟩,⟨z2,(gN n2 fun i=> [st (gT (f2 i))])⟩⟩:Vl)) iA iB
       repeat' (first|exact trivial|(with_reducible first|assumption|exact hp1.1|exact hp1.2|exact hp1.2.1|exact hp1.2.2|exact hp1.1.1|exact hp2.1|exact hp2.2|exact hp2.2.1|exact hp2.2.2|exact hp2.1.1|exact k1|exact k2|exact (fun h:false=true=>absurd h (by decide))|exact (fun h:true=false=>absurd h (by decide))|exact (fun h:(!false)=false=>absurd h (by decide))|exact (fun h:(!true)=true=>absurd h (by decide))|exact nx iA|exact nx iB|exact nx iAn|exact nx iBn)|refine ⟨?_, ?_⟩|intro _)
       all_goals first|(with_reducible apply qq)|(conv=>whnf)
       all_goals first|(with_reducible rfl)|decide|(with_reducible exact k1.1.1)|(exact k1)|(exact k2)|(intro _ _;exact rfl)|exact rfl|(rw [e];done)|(rw [e];rfl)|rfl
 . cases h
def FCEqual:List Ar->Option Rs
 | [.agg [.d (.v (.bool b0)),.d (.lst 1 n0 f0)],.agg [.d (.v (.bool b1)),.d (.lst 1 n1 f1)],.c (.d (.lst 1 n2 f2))]=>some ⟨(n0*16<=140737488351232/\ ∀i,i<n0->f0 i= [st (gT (f0 i))])/\ (n1*16<=140737488351232/\ ∀i,i<n1->f1 i= [st (gT (f1 i))])/\ (n2*16<=140737488351232/\ ∀i,i<n2->f2 i= [st (gT (f2 i))]),.tup [.c (.d (bo (mayB (⟨b0,gN n0 f0⟩:Ns) (⟨b1,gN n1 f1⟩:Ns)))),.c (.d (bo (eqMust (⟨b0,gN n0 f0⟩:Ns) (⟨b1,gN n1 f1⟩:Ns) (gN n2 f2))))],[]⟩
 |_=>none
theorem fcCEqual:FC Tryz.prog 124 FCEqual:=by
 intro xs pre r us h hp;unfold FCEqual at h;split at h
 . rename_i b0 n0 f0 b1 n1 f1 n2 f2
   cases h;obtain ⟨hp0,hp1,hp2⟩:=hp
   refine FCat.of_eq (as':= [.agg [.d (.v (.bool b0)),.d (.lst 1 n0 fun i=> [st (gT (f0 i))])],.agg [.d (.v (.bool b1)),.d (.lst 1 n1 fun i=> [st (gT (f1 i))])],.c (.d (.lst 1 n2 fun i=> [st (gT (f2 i))]))]) ?_ rfl rfl ?_
   . repeat' (first|exact trivial|exact rfl|refine ⟨?_, ?_⟩|fail)
     all_goals first|exact hp0.2|exact hp1.2|exact hp2.2|(intro i hi;exact (hp0.2 i hi).1)|(intro i hi;exact (hp1.2 i hi).1)|(intro i hi;exact (hp2.2 i hi).1)|grind
   refine fcat tys_ok (l:= [(168,⟨[],FNEqual⟩),(169,⟨[],FNOnly⟩),(29,⟨[],FNContains⟩)]) ⟨fcNEqual,fcNOnly,fcNContains,trivial⟩ Tryz.func124 rfl (by kernel_rfl) false ?_
   have c0:(gN n0 fun i=> [st (gT (f0 i))])=gN n0 f0:=rfl
   rw [<-c0];have c1:(gN n1 fun i=> [st (gT (f1 i))])=gN n1 f1:=rfl
   rw [<-c1];have c2:(gN n2 fun i=> [st (gT (f2 i))])=gN n2 f2:=rfl
   rw [<-c2];cases mu:mustB (⟨b0,(gN n0 fun i=> [st (gT (f0 i))])⟩:Ns) (⟨b1,(gN n1 fun i=> [st (gT (f1 i))])⟩:Ns)
   . have mun:=congrArg Bool.not mu;simp only [Bool.not_true,Bool.not_false] at mun
     have e:eqMust (⟨b0,(gN n0 fun i=> [st (gT (f0 i))])⟩:Ns) (⟨b1,(gN n1 fun i=> [st (gT (f1 i))])⟩:Ns) (gN n2 fun i=> [st (gT (f2 i))])=false:=by unfold eqMust;simp only [mu,reduceIte,Bool.not_true,Bool.not_false,Bool.true_and,Bool.false_and,Bool.and_true,Bool.and_false,Bool.true_or,Bool.false_or,Bool.or_true,Bool.or_false,Bool.false_eq_true,Bool.true_eq_false]
     repeat' (first|exact trivial|(with_reducible first|assumption|exact hp0.1|exact hp1.1|exact hp2.1|exact (fun h:false=true=>absurd h (by decide))|exact (fun h:true=false=>absurd h (by decide))|exact (fun h:(!false)=false=>absurd h (by decide))|exact (fun h:(!true)=true=>absurd h (by decide))|exact nx mu|exact nx mun)|refine ⟨?_, ?_⟩|intro _)
     all_goals first|(with_reducible apply qq)|(conv=>whnf)
     all_goals first|(with_reducible rfl)|decide|(intro _ _;exact rfl)|exact rfl|(rw [e];done)|(rw [e];rfl)|rfl
   . cases on:onlyB (⟨b0,(gN n0 fun i=> [st (gT (f0 i))])⟩:Ns)
     . have mun:=congrArg Bool.not mu;simp only [Bool.not_true,Bool.not_false] at mun
       have onn:=congrArg Bool.not on;simp only [Bool.not_true,Bool.not_false] at onn
       have e:eqMust (⟨b0,(gN n0 fun i=> [st (gT (f0 i))])⟩:Ns) (⟨b1,(gN n1 fun i=> [st (gT (f1 i))])⟩:Ns) (gN n2 fun i=> [st (gT (f2 i))])=true:=by unfold eqMust;simp only [mu,on,reduceIte,Bool.not_true,Bool.not_false,Bool.true_and,Bool.false_and,Bool.and_true,Bool.and_false,Bool.true_or,Bool.false_or,Bool.or_true,Bool.or_false,Bool.false_eq_true,Bool.true_eq_false]
       repeat' (first|exact trivial|(with_reducible first|assumption|exact hp0.1|exact hp1.1|exact hp2.1|exact (fun h:false=true=>absurd h (by decide))|exact (fun h:true=false=>absurd h (by decide))|exact (fun h:(!false)=false=>absurd h (by decide))|exact (fun h:(!true)=true=>absurd h (by decide))|exact nx mu|exact nx on|exact nx mun|exact nx onn)|refine ⟨?_, ?_⟩|intro _)
       all_goals first|(with_reducible apply qq)|(conv=>whnf)
       all_goals first|(with_reducible rfl)|decide|(intro _ _;exact rfl)|exact rfl|(rw [e];done)|(rw [e];rfl)|rfl
     . cases me:memS (onlyT (⟨b0,(gN n0 fun i=> [st (gT (f0 i))])⟩:Ns)) (gN n2 fun i=> [st (gT (f2 i))])
       . have mun:=congrArg Bool.not mu;simp only [Bool.not_true,Bool.not_false] at mun
         have onn:=congrArg Bool.not on;simp only [Bool.not_true,Bool.not_false] at onn
         have men:=congrArg Bool.not me;simp only [Bool.not_true,Bool.not_false] at men
         have e:eqMust (⟨b0,(gN n0 fun i=> [st (gT (f0 i))])⟩:Ns) (⟨b1,(gN n1 fun i=> [st (gT (f1 i))])⟩:Ns) (gN n2 fun i=> [st (gT (f2 i))])=true:=by unfold eqMust;simp only [mu,on,me,reduceIte,Bool.not_true,Bool.not_false,Bool.true_and,Bool.false_and,Bool.and_true,Bool.and_false,Bool.true_or,Bool.false_or,Bool.or_true,Bool.or_false,Bool.false_eq_true,Bool.true_eq_false]
         repeat' (first|exact trivial|(with_reducible first|assumption|exact hp0.1|exact hp1.1|exact hp2.1|exact (fun h:false=true=>absurd h (by decide))|exact (fun h:true=false=>absurd h (by decide))|exact (fun h:(!false)=false=>absurd h (by decide))|exact (fun h:(!true)=true=>absurd h (by decide))|exact nx mu|exact nx on|exact nx me|exact nx mun|exact nx onn|exact nx men)|refine ⟨?_, ?_⟩|intro _)
         all_goals first|(with_reducible apply qq)|(conv=>whnf)
         all_goals first|(with_reducible rfl)|decide|(intro _ _;exact rfl)|exact rfl|(rw [e];done)|(rw [e];rfl)|(rw [e];exact congrArg Value.bool (congrArg Bool.not me))|rfl
       . have mun:=congrArg Bool.not mu;simp only [Bool.not_true,Bool.not_false] at mun
         have onn:=congrArg Bool.not on;simp only [Bool.not_true,Bool.not_false] at onn
         have men:=congrArg Bool.not me;simp only [Bool.not_true,Bool.not_false] at men
         have e:eqMust (⟨b0,(gN n0 fun i=> [st (gT (f0 i))])⟩:Ns) (⟨b1,(gN n1 fun i=> [st (gT (f1 i))])⟩:Ns) (gN n2 fun i=> [st (gT (f2 i))])=false:=by unfold eqMust;simp only [mu,on,me,reduceIte,Bool.not_true,Bool.not_false,Bool.true_and,Bool.false_and,Bool.and_true,Bool.and_false,Bool.true_or,Bool.false_or,Bool.or_true,Bool.or_false,Bool.false_eq_true,Bool.true_eq_false]
         repeat' (first|exact trivial|(with_reducible first|assumption|exact hp0.1|exact hp1.1|exact hp2.1|exact (fun h:false=true=>absurd h (by decide))|exact (fun h:true=false=>absurd h (by decide))|exact (fun h:(!false)=false=>absurd h (by decide))|exact (fun h:(!true)=true=>absurd h (by decide))|exact nx mu|exact nx on|exact nx me|exact nx mun|exact nx onn|exact nx men)|refine ⟨?_, ?_⟩|intro _)
         all_goals first|(with_reducible apply qq)|(conv=>whnf)
         all_goals first|(with_reducible rfl)|decide|(intro _ _;exact rfl)|exact rfl|(rw [e];done)|(rw [e];rfl)|(rw [e];exact congrArg Value.bool (congrArg Bool.not me))|rfl
 . cases h
def FCPointers:List Ar->Option Rs
 | [.c (.d (.v (.int .i64 i0))),.agg [.d (.v (.bool b1)),.d (.lst 1 n1 f1)],.agg [.d (.v (.bool b2)),.d (.lst 1 n2 f2)],.c (.d (.lst 1 n3 f3))]=>some ⟨(-9223372036854775808<=i0/\ i0<9223372036854775808)/\ (n1*16<=140737488351232/\ ∀i,i<n1->f1 i= [st (gT (f1 i))])/\ (n2*16<=140737488351232/\ ∀i,i<n2->f2 i= [st (gT (f2 i))])/\ (n3*16<=140737488351232/\ ∀i,i<n3->f3 i= [st (gT (f3 i))]),.va (Vl.ar (ptrV i0 (⟨b1,gN n1 f1⟩:Ns) (⟨b2,gN n2 f2⟩:Ns) (gN n3 f3))),[]⟩
 |_=>none
theorem fcCPointers:FC Tryz.prog 84 FCPointers:=by
 intro xs pre r us h hp;unfold FCPointers at h;split at h
 . rename_i i0 b1 n1 f1 b2 n2 f2 n3 f3
   cases h;obtain ⟨hp0,hp1,hp2,hp3⟩:=hp
   refine FCat.of_eq (as':= [.c (.d (.v (.int .i64 i0))),.agg [.d (.v (.bool b1)),.d (.lst 1 n1 fun i=> [st (gT (f1 i))])],.agg [.d (.v (.bool b2)),.d (.lst 1 n2 fun i=> [st (gT (f2 i))])],.c (.d (.lst 1 n3 fun i=> [st (gT (f3 i))]))]) ?_ rfl rfl ?_
   . repeat' (first|exact trivial|exact rfl|refine ⟨?_, ?_⟩|fail)
     all_goals first|exact hp0.2|exact hp1.2|exact hp2.2|(intro i hi;exact (hp0.2 i hi).1)|(intro i hi;exact (hp1.2 i hi).1)|(intro i hi;exact (hp2.2 i hi).1)|grind
   refine fcat tys_ok (l:= [(123,⟨[],FNNone⟩),(124,⟨[],FCEqual⟩),(22,⟨[],FVNum⟩),(31,⟨[],FVInt⟩),(32,⟨[],FSOf⟩),(33,⟨[],FCAll⟩)]) ⟨fcNNone,fcCEqual,fcVNum,fcVInt,fcSOf,fcCAll,trivial⟩ Tryz.func84 rfl (by kernel_rfl) true ?_
   have c1:(gN n1 fun i=> [st (gT (f1 i))])=gN n1 f1:=rfl
   rw [<-c1];have c2:(gN n2 fun i=> [st (gT (f2 i))])=gN n2 f2:=rfl
   rw [<-c2];have c3:(gN n3 fun i=> [st (gT (f3 i))])=gN n3 f3:=rfl
   rw [<-c3];have b01i:=b01_inR
   unfold Sp.inR Cg.inR at b01i
   all_goals first|(by_cases e14:i0=14)|skip
   all_goals first|(have _:=(show¬_ from e14);by_cases e15:i0=15)|skip
   all_goals first|(cases v1:(!b1&&decide ((gN n1 fun i=> [st (gT (f1 i))])= [])))|skip
   all_goals first|(have _:=(show _=false from v1);cases v2:(!b2&&decide ((gN n2 fun i=> [st (gT (f2 i))])= [])))|skip
   all_goals first|(have _:=(show _=false from v2);have _:=(show _=_ from e14);cases mu:eqMust (⟨b1,(gN n1 fun i=> [st (gT (f1 i))])⟩:Ns) (⟨b2,(gN n2 fun i=> [st (gT (f2 i))])⟩:Ns) (gN n3 fun i=> [st (gT (f3 i))]))|skip
   all_goals first|(have _:=(show _=false from v2);have _:=(show _=_ from e15);cases mu:eqMust (⟨b1,(gN n1 fun i=> [st (gT (f1 i))])⟩:Ns) (⟨b2,(gN n2 fun i=> [st (gT (f2 i))])⟩:Ns) (gN n3 fun i=> [st (gT (f3 i))]))|skip
   all_goals first|(have _:=(show _=false from mu);cases ma:mayB (⟨b1,(gN n1 fun i=> [st (gT (f1 i))])⟩:Ns) (⟨b2,(gN n2 fun i=> [st (gT (f2 i))])⟩:Ns))|skip
   all_goals first|(have k14:=e14;have _:=(show _=_ from k14))|(have k15:=e15;have _:=(show _=_ from k15))|skip
   all_goals first|subst e14|subst e15|skip
   all_goals first|(have _:=k14;have e:=pt_1 (op:=14) (x:=(⟨b1,(gN n1 fun i=> [st (gT (f1 i))])⟩:Ns)) (y:=(⟨b2,(gN n2 fun i=> [st (gT (f2 i))])⟩:Ns)) (m:=(gN n3 fun i=> [st (gT (f3 i))])) v1)|(have _:=k14;have e:=pt_2 (op:=14) (x:=(⟨b1,(gN n1 fun i=> [st (gT (f1 i))])⟩:Ns)) (y:=(⟨b2,(gN n2 fun i=> [st (gT (f2 i))])⟩:Ns)) (m:=(gN n3 fun i=> [st (gT (f3 i))])) v2)|(have _:=k15;have e:=pt_1 (op:=15) (x:=(⟨b1,(gN n1 fun i=> [st (gT (f1 i))])⟩:Ns)) (y:=(⟨b2,(gN n2 fun i=> [st (gT (f2 i))])⟩:Ns)) (m:=(gN n3 fun i=> [st (gT (f3 i))])) v1)|(have _:=k15;have e:=pt_2 (op:=15) (x:=(⟨b1,(gN n1 fun i=> [st (gT (f1 i))])⟩:Ns)) (y:=(⟨b2,(gN n2 fun i=> [st (gT (f2 i))])⟩:Ns)) (m:=(gN n3 fun i=> [st (gT (f3 i))])) v2)|(have e:=pt_1 (op:=i0) (x:=(⟨b1,(gN n1 fun i=> [st (gT (f1 i))])⟩:Ns)) (y:=(⟨b2,(gN n2 fun i=> [st (gT (f2 i))])⟩:Ns)) (m:=(gN n3 fun i=> [st (gT (f3 i))])) v1)|(have e:=pt_2 (op:=i0) (x:=(⟨b1,(gN n1 fun i=> [st (gT (f1 i))])⟩:Ns)) (y:=(⟨b2,(gN n2 fun i=> [st (gT (f2 i))])⟩:Ns)) (m:=(gN n3 fun i=> [st (gT (f3 i))])) v2)|(have _:=k14;have e:=(pt_4 (x:=(⟨b1,(gN n1 fun i=> [st (gT (f1 i))])⟩:Ns)) (y:=(⟨b2,(gN n2 fun i=> [st (gT (f2 i))])⟩:Ns)) (m:=(gN n3 fun i=> [st (gT (f3 i))])) v1 v2 mu).1)|(have _:=k14;have e:=(pt_5 (x:=(⟨b1,(gN n1 fun i=> [st (gT (f1 i))])⟩:Ns)) (y:=(⟨b2,(gN n2 fun i=> [st (gT (f2 i))])⟩:Ns)) (m:=(gN n3 fun i=> [st (gT (f3 i))])) v1 v2 mu ma).1)|(have _:=k14;have e:=(pt_6 (x:=(⟨b1,(gN n1 fun i=> [st (gT (f1 i))])⟩:Ns)) (y:=(⟨b2,(gN n2 fun i=> [st (gT (f2 i))])⟩:Ns)) (m:=(gN n3 fun i=> [st (gT (f3 i))])) v1 v2 mu ma).1)|(have _:=k15;have e:=(pt_4 (x:=(⟨b1,(gN n1 fun i=> [st (gT (f1 i))])⟩:Ns)) (y:=(⟨b2,(gN n2 fun i=> [st (gT (f2 i))])⟩:Ns)) (m:=(gN n3 fun i=> [st (gT (f3 i))])) v1 v2 mu).2)|(have _:=k15;have e:=(pt_5 (x:=(⟨b1,(gN n1 fun i=> [st (gT (f1 i))])⟩:Ns)) (y:=(⟨b2,(gN n2 fun i=> [st (gT (f2 i))])⟩:Ns)) (m:=(gN n3 fun i=> [st (gT (f3 i))])) v1 v2 mu ma).2)|(have _:=k15;have e:=(pt_6 (x:=(⟨b1,(gN n1 fun i=> [st (gT (f1 i))])⟩:Ns)) (y:=(⟨b2,(gN n2 fun i=> [st (gT (f2 i))])⟩:Ns)) (m:=(gN n3 fun i=> [st (gT (f3 i))])) v1 v2 mu ma).2)|(have e:=pt_3 (op:=i0) (x:=(⟨b1,(gN n1 fun i=> [st (gT (f1 i))])⟩:Ns)) (y:=(⟨b2,(gN n2 fun i=> [st (gT (f2 i))])⟩:Ns)) (m:=(gN n3 fun i=> [st (gT (f3 i))])) ⟨e14,e15⟩)|skip
   all_goals repeat' (first|exact trivial|(with_reducible first|assumption|exact (fun h:(!false)=false=>absurd h (by decide))|exact (fun h:(!true)=true=>absurd h (by decide))|exact hp1.1|exact hp2.1|exact hp3.1|exact b01_inR.1|exact b01_inR.2|exact (nx (beq_eq_false_iff_ne.2 e14))|exact (nx (beq_eq_false_iff_ne.2 e15))|exact (nx (bne_iff_ne.2 e14))|exact (nx (bne_iff_ne.2 e15))|exact nx v1|exact nx v2|exact nx mu|exact nx mu|exact nx ma|exact (nx (congrArg Bool.not v1))|exact (nx (congrArg Bool.not v2))|exact (nx (congrArg Bool.not mu))|exact (nx (congrArg Bool.not mu))|exact (nx (congrArg Bool.not ma))|exact nd)|refine ⟨?_, ?_⟩|intro _)
   all_goals first|(with_reducible apply qq)|(conv=>whnf)
   all_goals first|(with_reducible rfl)|decide|exact b01_inR.1|exact b01_inR.2|(intro _ _;exact rfl)|exact rfl|(rw [e];done)|(rw [e];rfl)
 . cases h
theorem red_t (s:Sp) (c:Cg):(Vl.reduce ⟨⟨s,c⟩,⟨false,[]⟩⟩).t=⟨false,[]⟩:=by show (⟨false,ofS []⟩:Ns)=_;rw [ofS_nil]
theorem reduce_inR {v:Vl} (h:v.i.s.inR) (h2:v.i.c.inR):(Vl.reduce v).i.s.inR/\ (Vl.reduce v).i.c.inR:=red_inR (Ig.clean_inR h h2).1 (Ig.clean_inR h h2).2
theorem zeroV_inR:zeroV.i.s.inR/\ zeroV.i.c.inR:=⟨noS_inR,cg_none_inR⟩
theorem bothV_inR {s:Sp} {c:Cg} (h:s.inR) (h2:c.inR):(bothV s c).i.s.inR/\ (bothV s c).i.c.inR:=by
 unfold bothV;(repeat' split)<;>first|exact zeroV_inR|exact reduce_inR h h2
theorem bothV_t (s:Sp) (c:Cg):(bothV s c).t=⟨false,[]⟩:=by unfold bothV;(repeat' split)<;>first|rfl|exact red_t _ _
theorem numV_t (op:Int) (a b:Vl):(numV op a b).t=⟨false,[]⟩:=by unfold numV;(repeat' split)<;>first|rfl|exact bothV_t _ _
theorem numV_inR {op:Int} {a b:Vl} (ha:a.i.s.inR/\ a.i.c.inR) (hb:b.i.s.inR/\ b.i.c.inR):(numV op a b).i.s.inR/\ (numV op a b).i.c.inR:=by
 unfold numV;(repeat' split)<;>first|exact zeroV_inR|exact bothV_inR (rkDo_inR ha.1 hb.1) (rsDo_inR ha.2 hb.2)
theorem ptrV_t (op:Int) (a b:Ns) (m:List ByteArray):(ptrV op a b m).t=⟨false,[]⟩:=by unfold ptrV;(repeat' split)<;>first|rfl|exact red_t _ _
theorem numO_inR {n:Int} (h: -9223372036854775808<=n/\ n<9223372036854775808):(numO n).i.s.inR/\ (numO n).i.c.inR:=⟨Sp.of_inR h h,cg_inR1 (by decide) h⟩
theorem ptrV_inR (op:Int) (a b:Ns) (m:List ByteArray):(ptrV op a b m).i.s.inR/\ (ptrV op a b m).i.c.inR:=by
 unfold ptrV;(repeat' split)<;>first|exact zeroV_inR|exact numO_inR (by decide)|exact reduce_inR b01_inR.1 b01_inR.2
section
variable {s:Sp} {e f:Int} (hs:s.inR)
include hs
end
def FCDo:List Ar->Option Rs
 | [.c (.d (.v (.int .i64 i0))),.agg [.d (.v (.bool s1)),.d (.v (.int .i64 l1)),.d (.v (.int .i64 h1)),.d (.v (.bool b1)),.d (.v (.int .i64 m1)),.d (.v (.int .i64 r1)),.d (.v (.bool z1)),.d (.lst 1 n1 f1)],.agg [.d (.v (.bool s2)),.d (.v (.int .i64 l2)),.d (.v (.int .i64 h2)),.d (.v (.bool b2)),.d (.v (.int .i64 m2)),.d (.v (.int .i64 r2)),.d (.v (.bool z2)),.d (.lst 1 n2 f2)],.c (.d (.lst 1 n3 f3))]=>some ⟨(-9223372036854775808<=i0/\ i0<9223372036854775808)/\ ((n1*16<=140737488351232/\ ∀i,i<n1->f1 i= [st (gT (f1 i))])/\ Sp.inR ⟨s1,l1,h1⟩/\ Cg.inR ⟨b1,m1,r1⟩)/\ ((n2*16<=140737488351232/\ ∀i,i<n2->f2 i= [st (gT (f2 i))])/\ Sp.inR ⟨s2,l2,h2⟩/\ Cg.inR ⟨b2,m2,r2⟩)/\ (n3*16<=140737488351232/\ ∀i,i<n3->f3 i= [st (gT (f3 i))]),.va (Vl.ar (calcDo i0 (⟨⟨⟨s1,l1,h1⟩,⟨b1,m1,r1⟩⟩,⟨z1,gN n1 f1⟩⟩:Vl) (⟨⟨⟨s2,l2,h2⟩,⟨b2,m2,r2⟩⟩,⟨z2,gN n2 f2⟩⟩:Vl) (gN n3 f3))),[]⟩
 |_=>none
theorem fcCDo:FC Tryz.prog 44 FCDo:=by
 intro xs pre r us h hp;unfold FCDo at h;split at h
 . rename_i i0 s1 l1 h1 b1 m1 r1 z1 n1 f1 s2 l2 h2 b2 m2 r2 z2 n2 f2 n3 f3
   cases h;obtain ⟨hp0,hp1,hp2,hp3⟩:=hp
   refine FCat.of_eq (as':= [.c (.d (.v (.int .i64 i0))),.agg [.d (.v (.bool s1)),.d (.v (.int .i64 l1)),.d (.v (.int .i64 h1)),.d (.v (.bool b1)),.d (.v (.int .i64 m1)),.d (.v (.int .i64 r1)),.d (.v (.bool z1)),.d (.lst 1 n1 fun i=> [st (gT (f1 i))])],.agg [.d (.v (.bool s2)),.d (.v (.int .i64 l2)),.d (.v (.int .i64 h2)),.d (.v (.bool b2)),.d (.v (.int .i64 m2)),.d (.v (.int .i64 r2)),.d (.v (.bool z2)),.d (.lst 1 n2 fun i=> [st (gT (f2 i))])],.c (.d (.lst 1 n3 fun i=> [st (gT (f3 i))]))]) ?_ rfl rfl ?_
   . repeat' (first|exact trivial|exact rfl|refine ⟨?_, ?_⟩|fail)
     all_goals first|exact hp0.2|exact hp1.2|exact hp2.2|(intro i hi;exact (hp0.2 i hi).1)|(intro i hi;exact (hp1.2 i hi).1)|(intro i hi;exact (hp2.2 i hi).1)|grind
   refine fcat tys_ok (l:= [(40,⟨[],FVCleanC⟩),(83,⟨[],FCNumbers⟩),(84,⟨[],FCPointers⟩),(82,⟨[],FVJoin⟩)]) ⟨fcVCleanC,fcCNumbers,fcCPointers,fcVJoin,trivial⟩ Tryz.func44 rfl (by kernel_rfl) true ?_
   have o1:=okV_of (v:=(⟨⟨⟨s1,l1,h1⟩,⟨b1,m1,r1⟩⟩,⟨z1,(gN n1 fun i=> [st (gT (f1 i))])⟩⟩:Vl)) ⟨⟨(by rw [gN_length];exact hp1.1.1),fun _ _=>rfl⟩,hp1.2⟩
   have o2:=okV_of (v:=(⟨⟨⟨s2,l2,h2⟩,⟨b2,m2,r2⟩⟩,⟨z2,(gN n2 fun i=> [st (gT (f2 i))])⟩⟩:Vl)) ⟨⟨(by rw [gN_length];exact hp2.1.1),fun _ _=>rfl⟩,hp2.2⟩
   have c1:(gN n1 fun i=> [st (gT (f1 i))])=gN n1 f1:=rfl
   rw [<-c1];have c2:(gN n2 fun i=> [st (gT (f2 i))])=gN n2 f2:=rfl
   rw [<-c2];have c3:(gN n3 fun i=> [st (gT (f3 i))])=gN n3 f3:=rfl
   rw [<-c3];unfold calcDo;have k1:=numV_inR (op:=i0) (a:=((⟨⟨⟨s1,l1,h1⟩,⟨b1,m1,r1⟩⟩,⟨z1,(gN n1 fun i=> [st (gT (f1 i))])⟩⟩:Vl)).of) (b:=((⟨⟨⟨s2,l2,h2⟩,⟨b2,m2,r2⟩⟩,⟨z2,(gN n2 fun i=> [st (gT (f2 i))])⟩⟩:Vl)).of) o1.2 o2.2
   have k2:=ptrV_inR i0 ((⟨⟨⟨s1,l1,h1⟩,⟨b1,m1,r1⟩⟩,⟨z1,(gN n1 fun i=> [st (gT (f1 i))])⟩⟩:Vl)).of.t ((⟨⟨⟨s2,l2,h2⟩,⟨b2,m2,r2⟩⟩,⟨z2,(gN n2 fun i=> [st (gT (f2 i))])⟩⟩:Vl)).of.t (gN n3 fun i=> [st (gT (f3 i))])
   have t1:=numV_t i0 ((⟨⟨⟨s1,l1,h1⟩,⟨b1,m1,r1⟩⟩,⟨z1,(gN n1 fun i=> [st (gT (f1 i))])⟩⟩:Vl)).of ((⟨⟨⟨s2,l2,h2⟩,⟨b2,m2,r2⟩⟩,⟨z2,(gN n2 fun i=> [st (gT (f2 i))])⟩⟩:Vl)).of
   have t2:=ptrV_t i0 ((⟨⟨⟨s1,l1,h1⟩,⟨b1,m1,r1⟩⟩,⟨z1,(gN n1 fun i=> [st (gT (f1 i))])⟩⟩:Vl)).of.t ((⟨⟨⟨s2,l2,h2⟩,⟨b2,m2,r2⟩⟩,⟨z2,(gN n2 fun i=> [st (gT (f2 i))])⟩⟩:Vl)).of.t (gN n3 fun i=> [st (gT (f3 i))])
   have u1:(numV i0 ((⟨⟨⟨s1,l1,h1⟩,⟨b1,m1,r1⟩⟩,⟨z1,(gN n1 fun i=> [st (gT (f1 i))])⟩⟩:Vl)).of ((⟨⟨⟨s2,l2,h2⟩,⟨b2,m2,r2⟩⟩,⟨z2,(gN n2 fun i=> [st (gT (f2 i))])⟩⟩:Vl)).of).t.names= []:=by rw [t1]
   have u2:(ptrV i0 ((⟨⟨⟨s1,l1,h1⟩,⟨b1,m1,r1⟩⟩,⟨z1,(gN n1 fun i=> [st (gT (f1 i))])⟩⟩:Vl)).of.t ((⟨⟨⟨s2,l2,h2⟩,⟨b2,m2,r2⟩⟩,⟨z2,(gN n2 fun i=> [st (gT (f2 i))])⟩⟩:Vl)).of.t (gN n3 fun i=> [st (gT (f3 i))])).t.names= []:=by rw [t2]
   have w1:((numV i0 ((⟨⟨⟨s1,l1,h1⟩,⟨b1,m1,r1⟩⟩,⟨z1,(gN n1 fun i=> [st (gT (f1 i))])⟩⟩:Vl)).of ((⟨⟨⟨s2,l2,h2⟩,⟨b2,m2,r2⟩⟩,⟨z2,(gN n2 fun i=> [st (gT (f2 i))])⟩⟩:Vl)).of).t.names.length+(ptrV i0 ((⟨⟨⟨s1,l1,h1⟩,⟨b1,m1,r1⟩⟩,⟨z1,(gN n1 fun i=> [st (gT (f1 i))])⟩⟩:Vl)).of.t ((⟨⟨⟨s2,l2,h2⟩,⟨b2,m2,r2⟩⟩,⟨z2,(gN n2 fun i=> [st (gT (f2 i))])⟩⟩:Vl)).of.t (gN n3 fun i=> [st (gT (f3 i))])).t.names.length)*16<=140737488351232:=by rw [u1,u2];decide
   have w2:(numV i0 ((⟨⟨⟨s1,l1,h1⟩,⟨b1,m1,r1⟩⟩,⟨z1,(gN n1 fun i=> [st (gT (f1 i))])⟩⟩:Vl)).of ((⟨⟨⟨s2,l2,h2⟩,⟨b2,m2,r2⟩⟩,⟨z2,(gN n2 fun i=> [st (gT (f2 i))])⟩⟩:Vl)).of).t.names.length*16<=140737488351232:=by rw [u1];decide
   have w3:(ptrV i0 ((⟨⟨⟨s1,l1,h1⟩,⟨b1,m1,r1⟩⟩,⟨z1,(gN n1 fun i=> [st (gT (f1 i))])⟩⟩:Vl)).of.t ((⟨⟨⟨s2,l2,h2⟩,⟨b2,m2,r2⟩⟩,⟨z2,(gN n2 fun i=> [st (gT (f2 i))])⟩⟩:Vl)).of.t (gN n3 fun i=> [st (gT (f3 i))])).t.names.length*16<=140737488351232:=by rw [u2];decide
   have K1:=k1
   have K2:=k2
   unfold Sp.inR Cg.inR at K1 K2;unfold okV at o1 o2
   repeat' (first|exact trivial|(with_reducible first|assumption|exact hp3.1|exact o1|exact o2|exact k1|exact k2|exact o1.2|exact o2.2|exact o1.2.1|exact o1.2.2|exact o2.2.1|exact o2.2.2|exact k1.1|exact k1.2|exact k2.1|exact k2.2|exact w2|exact w3|exact o1.1.1|exact o2.1.1|exact hp1.1|exact hp1.2|exact hp1.2.1|exact hp1.2.2|exact hp1.1.1|exact hp2.1|exact hp2.2|exact hp2.2.1|exact hp2.2.2|exact hp2.1.1|exact (fun h:false=true=>absurd h (by decide))|exact (fun h:true=false=>absurd h (by decide)))|refine ⟨?_, ?_⟩|intro _)
   all_goals first|(with_reducible apply qq)|(conv=>whnf)
   all_goals (try simp only [gN_lst] at*)
   all_goals first|(with_reducible rfl)|decide|(with_reducible first|exact K1.1.1.1|exact K1.1.1.2|exact K1.1.2.1|exact K1.1.2.2|exact K1.2.1.1|exact K1.2.1.2|exact K1.2.2.1|exact K1.2.2.2|exact K2.1.1.1|exact K2.1.1.2|exact K2.1.2.1|exact K2.1.2.2|exact K2.2.1.1|exact K2.2.1.2|exact K2.2.2.1|exact K2.2.2.2)|exact w1|exact w2|exact w3|exact o1.1.1|exact o2.1.1|(intro _ _;exact rfl)|exact rfl|rfl
 . cases h
def calcOne (op:Int) (a:Vl):Vl:=if intsB a.of=false then zeroV else bothV (rkOne op a.of.i.s) (rsOne op a.of.i.c (decide (op=5)&&wrB 11 (Sp.of 0 0) a.of.i.s))
theorem co_1 {op:Int} {a:Vl} (h:intsB a.of=false):calcOne op a=zeroV:=by unfold calcOne;rw [if_pos h]
theorem co_2 {op:Int} {a:Vl} (h:intsB a.of=true):calcOne op a=bothV (rkOne op a.of.i.s) (rsOne op a.of.i.c (decide (op=5)&&wrB 11 (Sp.of 0 0) a.of.i.s)):=by unfold calcOne;rw [if_neg (by rw [h];decide)]
theorem co_5 {a:Vl} (h:intsB a.of=true):calcOne 5 a=bothV (rkOne 5 a.of.i.s) (rsOne 5 a.of.i.c (wrB 11 (Sp.of 0 0) a.of.i.s)):=co_2 h
theorem co_x {op:Int} {a:Vl} (h:intsB a.of=true) (h5:op≠5):calcOne op a=bothV (rkOne op a.of.i.s) (rsOne op a.of.i.c false):=by rw [co_2 h,decide_eq_false h5];rfl
def FCalcOneV:List Ar->Option Rs
 | [.c (.d (.v (.int .i64 i0))),.agg [.d (.v (.bool s1)),.d (.v (.int .i64 l1)),.d (.v (.int .i64 h1)),.d (.v (.bool b1)),.d (.v (.int .i64 m1)),.d (.v (.int .i64 r1)),.d (.v (.bool z1)),.d (.lst 1 n1 f1)]]=>some ⟨(-9223372036854775808<=i0/\ i0<9223372036854775808)/\ ((n1*16<=140737488351232/\ ∀i,i<n1->f1 i= [st (gT (f1 i))])/\ Sp.inR ⟨s1,l1,h1⟩/\ Cg.inR ⟨b1,m1,r1⟩),.va (Vl.ar (calcOne i0 (⟨⟨⟨s1,l1,h1⟩,⟨b1,m1,r1⟩⟩,⟨z1,gN n1 f1⟩⟩:Vl))),[]⟩
 |_=>none
theorem fcCalcOneV:FC Tryz.prog 81 FCalcOneV:=by
 intro xs pre r us h hp;unfold FCalcOneV at h;split at h
 . rename_i i0 s1 l1 h1 b1 m1 r1 z1 n1 f1
   cases h;obtain ⟨hp0,hp1⟩:=hp
   refine FCat.of_eq (as':= [.c (.d (.v (.int .i64 i0))),.agg [.d (.v (.bool s1)),.d (.v (.int .i64 l1)),.d (.v (.int .i64 h1)),.d (.v (.bool b1)),.d (.v (.int .i64 m1)),.d (.v (.int .i64 r1)),.d (.v (.bool z1)),.d (.lst 1 n1 fun i=> [st (gT (f1 i))])]]) ?_ rfl rfl ?_
   . repeat' (first|exact trivial|exact rfl|refine ⟨?_, ?_⟩|fail)
     all_goals first|exact hp0.2|exact hp1.2|exact hp2.2|(intro i hi;exact (hp0.2 i hi).1)|(intro i hi;exact (hp1.2 i hi).1)|(intro i hi;exact (hp2.2 i hi).1)|grind
   refine fcat tys_ok (l:= [(40,⟨[],FVCleanC⟩),(113,⟨[],FCInts⟩),(114,⟨[],FCWraps⟩),(45,⟨[],FSOne⟩),(116,⟨[],FReOne⟩),(117,⟨[],FRsOne⟩),(115,⟨[],FCBothV⟩)]) ⟨fcVCleanC,fcCInts,fcCWraps,fcSOne,fcReOne,fcRsOne,fcCBothV,trivial⟩ Tryz.func81 rfl (by kernel_rfl) true ?_
   have o1:=okV_of (v:=(⟨⟨⟨s1,l1,h1⟩,⟨b1,m1,r1⟩⟩,⟨z1,(gN n1 fun i=> [st (gT (f1 i))])⟩⟩:Vl)) ⟨⟨(by rw [gN_length];exact hp1.1.1),fun _ _=>rfl⟩,hp1.2⟩
   have c1:(gN n1 fun i=> [st (gT (f1 i))])=gN n1 f1:=rfl
   rw [<-c1];have z0:Sp.inR (Sp.of 0 0):=Sp.of_inR (by unfold rI;decide) (by unfold rI;decide)
   have y1:=rkOne_inR (op:=i0) o1.2.1
   have y2:=fun w=>rsOne_inR (op:=i0) (w:=w) o1.2.2
   unfold okV at o1
   all_goals first|(by_cases e5:i0=5)|skip
   all_goals first|(cases iA:intsB (⟨(Vl.of (⟨⟨⟨s1,l1,h1⟩,⟨b1,m1,r1⟩⟩,⟨z1,(gN n1 fun i=> [st (gT (f1 i))])⟩⟩:Vl)).i,⟨(Vl.of (⟨⟨⟨s1,l1,h1⟩,⟨b1,m1,r1⟩⟩,⟨z1,(gN n1 fun i=> [st (gT (f1 i))])⟩⟩:Vl)).t.null,gN (Vl.of (⟨⟨⟨s1,l1,h1⟩,⟨b1,m1,r1⟩⟩,⟨z1,(gN n1 fun i=> [st (gT (f1 i))])⟩⟩:Vl)).t.names.length fun k_=> [st (atS (Vl.of (⟨⟨⟨s1,l1,h1⟩,⟨b1,m1,r1⟩⟩,⟨z1,(gN n1 fun i=> [st (gT (f1 i))])⟩⟩:Vl)).t.names k_)]⟩⟩:Vl))|skip
   all_goals first|(have k5:=e5;have _:=(show _=_ from k5))|skip
   all_goals first|subst e5|skip
   all_goals first|(have _:=k5;have e:=co_1 (op:=5) (a:=(⟨⟨⟨s1,l1,h1⟩,⟨b1,m1,r1⟩⟩,⟨z1,(gN n1 fun i=> [st (gT (f1 i))])⟩⟩:Vl)) iA)|(have e:=co_1 (op:=i0) (a:=(⟨⟨⟨s1,l1,h1⟩,⟨b1,m1,r1⟩⟩,⟨z1,(gN n1 fun i=> [st (gT (f1 i))])⟩⟩:Vl)) iA)|(have _:=k5;have e:=co_5 (a:=(⟨⟨⟨s1,l1,h1⟩,⟨b1,m1,r1⟩⟩,⟨z1,(gN n1 fun i=> [st (gT (f1 i))])⟩⟩:Vl)) iA)|(have e:=co_x (op:=i0) (a:=(⟨⟨⟨s1,l1,h1⟩,⟨b1,m1,r1⟩⟩,⟨z1,(gN n1 fun i=> [st (gT (f1 i))])⟩⟩:Vl)) iA e5)|skip
   all_goals repeat' (first|exact trivial|(with_reducible first|exact hp0|exact o1|exact o1.2|exact o1.2.1|exact o1.2.2|exact o1.1.1|exact z0|exact And.intro z0 o1.2.1|exact y1|exact y2 _|exact And.intro y1 (y2 _)|exact hp1|exact hp1.1|exact hp1.2|exact hp1.2.1|exact hp1.2.2|exact hp1.1.1|exact (fun h:(!false)=false=>absurd h (by decide))|exact (fun h:(!true)=true=>absurd h (by decide))|exact (nx (beq_eq_false_iff_ne.2 e5))|exact nx iA|exact (nx (congrArg Bool.not iA))|exact nd)|refine ⟨?_, ?_⟩|intro _)
   all_goals first|(with_reducible apply qq)|(conv=>whnf)
   all_goals (try simp only [gN_lst] at*)
   all_goals first|(with_reducible rfl)|decide|exact o1.1.1|(intro _ _;exact rfl)|exact rfl|(rw [e];done)|(rw [e];rfl)|rfl
 . cases h
open Go.RowKit Go.Lib Go.Sort
theorem ofS_n0 (f:Nat->List DV):ofS (gN 0 f)= []:=List.eq_nil_of_length_eq_zero (by have:=ofS_len (gN 0 f);rw [gN_length] at this;omega)
theorem ofS_00:ofS []= []:=ofS_n0 fun _=> []
def numL (n:Int):Vl:=⟨⟨Sp.of n n,Cg.of 0 n⟩,⟨false,[]⟩⟩
def nullL:Vl:=⟨Ig.zero,⟨true,[]⟩⟩
def leafS (R:Ro) (s:Se) (op n:Int) (x:ByteArray):Vl×Se:=
 if op=1 then (numL n,s) else if op=2 then nameS R s x else if op=4 then loadS R s x else if op=19 then (adrV x (glI R.G x),s) else (nullL,s)
def oneS (R:Ro) (s:Se) (op:Int) (x:ByteArray) (k:Vl):Vl×Se:=
 if op=3 then (if plS R.G x k=true then readS R s x else (Vl.zero,s)) else if op=20 then (adrV x (plS R.G x k),s) else (calcOne op k,s)
theorem mLeaf {R:Ro} (hR:R.ok) (s:Se) (op n:Int) (x:ByteArray) (k_:Nat) (f_:Nat->List DV) (at_:Int) (hs:okSe R s) (hop:rI op) (hn:rI n):Meth Tryz.prog 42 [.c (.own 0 0),.agg [.d (it op),.d (it n),.d (st x),.d (.lst 5 k_ f_),.d (it at_)]] (HE R s) (vlT (leafS R s op n x).1) (HE R (leafS R s op n x).2):=by
 have hG:=rows_okG hR.g
 have hgn:=hR.gn
 have hK:=rows_K s.gets
 have hkl:=okSe_len hs
 have hgg:=gGs_row R.G
 unfold rI at hop hn;have hc:(op=1/\ leafS R s op n x=(numL n,s)) \/(op=2/\ leafS R s op n x=nameS R s x) \/(op=4/\ leafS R s op n x=loadS R s x) \/(op=19/\ leafS R s op n x=(adrV x (glI R.G x),s)) \/(op≠1/\ op≠2/\ op≠4/\ op≠19/\ leafS R s op n x=(nullL,s)):=by
  unfold leafS;by_cases e1:op=1
  . exact .inl ⟨e1,if_pos e1⟩
  rw [if_neg e1];by_cases e2:op=2
  . exact .inr (.inl ⟨e2,if_pos e2⟩)
  rw [if_neg e2];by_cases e4:op=4
  . exact .inr (.inr (.inl ⟨e4,if_pos e4⟩))
  rw [if_neg e4];by_cases e19:op=19
  . exact .inr (.inr (.inr (.inl ⟨e19,if_pos e19⟩)))
  . exact .inr (.inr (.inr (.inr ⟨e1,e2,e4,e19,if_neg e19⟩)))
 rcases hc with ⟨rfl,e⟩|⟨rfl,e⟩|⟨rfl,e⟩|⟨rfl,e⟩|⟨e1,e2,e4,e19,e⟩
 all_goals rw [e]
 all_goals refine meth_of (c:=13) (inl tys_ok (l:= [(22,⟨[],FVNum⟩),(28,⟨[],FGlob⟩),(78,⟨[],FAddr⟩),(79,⟨[],FVPtr⟩),(80,⟨[],FN 1 FNOf⟩)]) ⟨fcVNum,fcGlob,fcAddr,fcVPtr,fc_nil 1 fcNOf,trivial⟩ Tryz.func42 rfl (by kernel_rfl) (by kernel_rfl) rfl ?_)
 all_goals repeat' (first|exact trivial|(with_reducible first|assumption|exact n1|exact n2|exact nd|exact (nx (beq_eq_false_iff_ne.2 e1))|exact (nx (beq_eq_false_iff_ne.2 e2))|exact (nx (beq_eq_false_iff_ne.2 e4))|exact (nx (beq_eq_false_iff_ne.2 e19)))|refine ⟨?_, ?_⟩|intro _)
 all_goals first|(with_reducible apply qq)|(conv=>whnf)
 all_goals first|((with_reducible show ASat _ _ (.region 9 _ _) _ _);refine draw_sto tys_ok (l:= [(22,⟨[],FVNum⟩),(28,⟨[],FGlob⟩),(78,⟨[],FAddr⟩),(79,⟨[],FVPtr⟩),(80,⟨[],FN 1 FNOf⟩)]) ⟨fcVNum,fcGlob,fcAddr,fcVPtr,fc_nil 1 fcNOf,trivial⟩ (by kernel_rfl) 14 [(12,11)] (.done) [0,1,3,4,6,8,9,14,20,26] (by kernel_rfl) (by kernel_rfl) ?_)|skip
 all_goals repeat' (first|exact trivial|(with_reducible first|assumption|exact n1|exact n2|exact nd|exact (nx (beq_eq_false_iff_ne.2 e1))|exact (nx (beq_eq_false_iff_ne.2 e2))|exact (nx (beq_eq_false_iff_ne.2 e4))|exact (nx (beq_eq_false_iff_ne.2 e19)))|refine ⟨?_, ?_⟩|intro _)
 all_goals first|(with_reducible apply qq)|(conv=>whnf)
 all_goals first|((with_reducible show Tl _ _);apply tl_intro; · (repeat' (first|exact trivial|refine ⟨?_, ?_⟩|intro _))<;>(first|exact rfl|omega|assumption|(dsimp only;omega)))|skip
 all_goals repeat' (first|exact trivial|(with_reducible first|assumption|exact n1|exact n2|exact nd|exact (nx (beq_eq_false_iff_ne.2 e1))|exact (nx (beq_eq_false_iff_ne.2 e2))|exact (nx (beq_eq_false_iff_ne.2 e4))|exact (nx (beq_eq_false_iff_ne.2 e19)))|refine ⟨?_, ?_⟩|intro _)
 all_goals first|(with_reducible apply qq)|(conv=>whnf)
 all_goals first|((with_reducible show ACall _ _ 25 _ _ _);refine Meth.go 13 (mName hR s x hkl) rfl rfl rfl rfl rfl rfl ?_ ?_ ?_)|skip
 all_goals repeat' (first|exact trivial|(with_reducible first|assumption|exact n1|exact n2|exact nd|exact (nx (beq_eq_false_iff_ne.2 e1))|exact (nx (beq_eq_false_iff_ne.2 e2))|exact (nx (beq_eq_false_iff_ne.2 e4))|exact (nx (beq_eq_false_iff_ne.2 e19)))|refine ⟨?_, ?_⟩|intro _)
 all_goals first|(with_reducible apply qq)|(conv=>whnf)
 all_goals first|((with_reducible show Tl _ _);apply tl_intro; · (repeat' (first|exact trivial|refine ⟨?_, ?_⟩|intro _))<;>(first|exact rfl|omega|assumption|(dsimp only;omega)))|skip
 all_goals repeat' (first|exact trivial|(with_reducible first|assumption|exact n1|exact n2|exact nd|exact (nx (beq_eq_false_iff_ne.2 e1))|exact (nx (beq_eq_false_iff_ne.2 e2))|exact (nx (beq_eq_false_iff_ne.2 e4))|exact (nx (beq_eq_false_iff_ne.2 e19)))|refine ⟨?_, ?_⟩|intro _)
 all_goals first|(with_reducible apply qq)|(conv=>whnf)
 all_goals first|((with_reducible show ACall _ _ 77 _ _ _);refine Meth.go 13 (mLoad hR s x hs) rfl rfl rfl rfl rfl rfl ?_ ?_ ?_)|skip
 all_goals repeat' (first|exact trivial|(with_reducible first|assumption|exact n1|exact n2|exact nd|exact (nx (beq_eq_false_iff_ne.2 e1))|exact (nx (beq_eq_false_iff_ne.2 e2))|exact (nx (beq_eq_false_iff_ne.2 e4))|exact (nx (beq_eq_false_iff_ne.2 e19)))|refine ⟨?_, ?_⟩|intro _)
 all_goals first|(with_reducible apply qq)|(conv=>whnf)
 all_goals first|((with_reducible show Tl _ _);apply tl_intro; · (repeat' (first|exact trivial|refine ⟨?_, ?_⟩|intro _))<;>(first|exact rfl|omega|assumption|(dsimp only;omega)))|skip
 all_goals repeat' (first|exact trivial|(with_reducible first|assumption|exact n1|exact n2|exact nd|exact (nx (beq_eq_false_iff_ne.2 e1))|exact (nx (beq_eq_false_iff_ne.2 e2))|exact (nx (beq_eq_false_iff_ne.2 e4))|exact (nx (beq_eq_false_iff_ne.2 e19)))|refine ⟨?_, ?_⟩|intro _)
 all_goals first|(with_reducible apply qq)|(conv=>whnf)
 all_goals (try simp only [gGs_row,gN_lst,gN_canon,ofS_n0,ofS_00])
 all_goals first|(exact rfl)|(rw [List.length_append];rfl)|(exact row_snocK rfl _ (by assumption))|omega|((with_reducible show idsOk _ _=true);rfl)|(intro _ _;rfl)|exact Nat.zero_le _
abbrev sl6L:List (Nat×Sm):= [(17,⟨[],FPlaces⟩),(78,⟨[],FAddr⟩),(81,⟨[],FCalcOneV⟩)]
theorem sp6L:sumsOk Tryz.prog sl6L:=⟨fcPlaces,fcAddr,fcCalcOneV,trivial⟩
theorem mOne {R:Ro} (hR:R.ok) (s:Se) (op n:Int) (x:ByteArray) (k_:Nat) (f_:Nat->List DV) (at_:Int) (v_:Vl) (hs:okSe R s) (hop:rI op) (hn:rI n) (hv:okV v_):Meth Tryz.prog 43 [.c (.own 0 0),.agg [.d (it op),.d (it n),.d (st x),.d (.lst 5 k_ f_),.d (it at_)],.agg [.d (bo (v_).i.s.some),.d (it (v_).i.s.lo),.d (it (v_).i.s.hi),.d (bo (v_).i.c.some),.d (it (v_).i.c.m),.d (it (v_).i.c.r),.d (bo (v_).t.null),.d (lst (v_).t.names)]] (HE R s) (vlT (oneS R s op x v_).1) (HE R (oneS R s op x v_).2):=by
 have hG:=rows_okG hR.g
 have hgn:=hR.gn
 have hK:=rows_K s.gets
 have hkl:=okSe_len hs
 have hgg:=gGs_row R.G
 unfold rI at hop hn;have hc:(op=3/\ plS (gGs R.G.length (rwG R.G)) x ⟨⟨⟨v_.i.s.some,v_.i.s.lo,v_.i.s.hi⟩,⟨v_.i.c.some,v_.i.c.m,v_.i.c.r⟩⟩,⟨v_.t.null,gN v_.t.names.length fun i=> [st (atS v_.t.names i)]⟩⟩=true/\ oneS R s op x v_=readS R s x) \/(op=3/\ plS (gGs R.G.length (rwG R.G)) x ⟨⟨⟨v_.i.s.some,v_.i.s.lo,v_.i.s.hi⟩,⟨v_.i.c.some,v_.i.c.m,v_.i.c.r⟩⟩,⟨v_.t.null,gN v_.t.names.length fun i=> [st (atS v_.t.names i)]⟩⟩=false/\ oneS R s op x v_=(Vl.zero,s)) \/(op=20/\ oneS R s op x v_=(adrV x (plS R.G x v_),s)) \/(op≠3/\ op≠20/\ oneS R s op x v_=(calcOne op v_,s)):=by
  rw [hgg,gN_lst];unfold oneS;by_cases e3:op=3
  . rw [if_pos e3];by_cases hq:plS R.G x v_=true
    . exact .inl ⟨e3,hq,if_pos hq⟩
    . exact .inr (.inl ⟨e3,Bool.eq_false_iff.2 hq,if_neg hq⟩)
  rw [if_neg e3];by_cases e20:op=20
  . exact .inr (.inr (.inl ⟨e20,if_pos e20⟩))
  . exact .inr (.inr (.inr ⟨e3,e20,if_neg e20⟩))
 rcases hc with ⟨rfl,hqg,e⟩|⟨rfl,hqg,e⟩|⟨rfl,e⟩|⟨e3,e20,e⟩
 all_goals rw [e]
 all_goals refine meth_of (c:=13) (inl tys_ok (l:=sl6L) sp6L Tryz.func43 rfl (by kernel_rfl) (by kernel_rfl) rfl ?_)
 all_goals repeat' (first|exact trivial|(with_reducible first|assumption|exact n1|exact n2|exact nd|exact nx hqg|exact (nx (congrArg Bool.not hqg))|exact (nx (beq_eq_false_iff_ne.2 e3))|exact (nx (beq_eq_false_iff_ne.2 e20)))|refine ⟨?_, ?_⟩|intro _)
 all_goals first|(with_reducible apply qq)|(conv=>whnf)
 all_goals first|((with_reducible show ASat _ _ (.region 3 _ _) _ _);refine draw_sto tys_ok (l:=sl6L) sp6L (by kernel_rfl) 9 [] (.done) [0,1,2,4,5,6,8,9,19,25] (by kernel_rfl) (by kernel_rfl) ?_)|((with_reducible show ASat _ _ (.region 7 _ _) _ _);refine draw_sto tys_ok (l:=sl6L) sp6L (by kernel_rfl) 12 [] (.all [(12,.done)]) [0,1,2,4,5,6,8,9,19,25] (by kernel_rfl) (by kernel_rfl) ?_)|skip
 all_goals repeat' (first|exact trivial|(with_reducible first|assumption|exact n1|exact n2|exact nd|exact nx hqg|exact (nx (congrArg Bool.not hqg))|exact (nx (beq_eq_false_iff_ne.2 e3))|exact (nx (beq_eq_false_iff_ne.2 e20)))|refine ⟨?_, ?_⟩|intro _)
 all_goals first|(with_reducible apply qq)|(conv=>whnf)
 all_goals first|((with_reducible show Tl _ _);apply tl_intro; · (repeat' (first|exact trivial|refine ⟨?_, ?_⟩|intro _))<;>(first|exact rfl|omega|assumption|(dsimp only;omega)))|skip
 all_goals repeat' (first|exact trivial|(with_reducible first|assumption|exact n1|exact n2|exact nd|exact nx hqg|exact (nx (congrArg Bool.not hqg))|exact (nx (beq_eq_false_iff_ne.2 e3))|exact (nx (beq_eq_false_iff_ne.2 e20)))|refine ⟨?_, ?_⟩|intro _)
 all_goals first|(with_reducible apply qq)|(conv=>whnf)
 all_goals first|((with_reducible show ACall _ _ 52 _ _ _);refine Meth.go 13 (mRead hR s x hkl) rfl rfl rfl rfl rfl rfl ?_ ?_ ?_)|skip
 all_goals repeat' (first|exact trivial|(with_reducible first|assumption|exact n1|exact n2|exact nd|exact nx hqg|exact (nx (congrArg Bool.not hqg))|exact (nx (beq_eq_false_iff_ne.2 e3))|exact (nx (beq_eq_false_iff_ne.2 e20)))|refine ⟨?_, ?_⟩|intro _)
 all_goals first|(with_reducible apply qq)|(conv=>whnf)
 all_goals first|((with_reducible show Tl _ _);apply tl_intro; · (repeat' (first|exact trivial|refine ⟨?_, ?_⟩|intro _))<;>(first|exact rfl|omega|assumption|(dsimp only;omega)))|skip
 all_goals repeat' (first|exact trivial|(with_reducible first|assumption|exact n1|exact n2|exact nd|exact nx hqg|exact (nx (congrArg Bool.not hqg))|exact (nx (beq_eq_false_iff_ne.2 e3))|exact (nx (beq_eq_false_iff_ne.2 e20)))|refine ⟨?_, ?_⟩|intro _)
 all_goals first|(with_reducible apply qq)|(conv=>whnf)
 all_goals (try simp only [gGs_row,gN_lst,gN_canon,ofS_n0,ofS_00])
 all_goals first|(exact rfl)|(rw [List.length_append];rfl)|(exact row_snocK rfl _ (by assumption))|omega|((with_reducible show idsOk _ _=true);rfl)|(intro _ _;rfl)|exact Nat.zero_le _|exact hv.1.1|exact hv.2.1.1.1|exact hv.2.1.1.2|exact hv.2.1.2.1|exact hv.2.1.2.2|exact hv.2.2.1.1|exact hv.2.2.1.2|exact hv.2.2.2.1|exact hv.2.2.2.2
end Go.Proofs.YtokjghkehojenaaGreat
namespace Go.Proofs.YtokjghkehojenaaGreat
open Go.Sx
open Go.RowKit Go.Lib Go.Sort
def kidsD:DV->Nat×(Nat->List DV)
 | .lst _ k f=>(k,f)
 |_=>(0,fun _=> [])
abbrev xpC (op n:Int) (x:ByteArray) (kd:DV) (at_:Int):List DV:= [it op,it n,st x,kd,it at_]
def exprS (R:Ro):Nat->Se->List DV->Vl×Se
 |0,s,_=>(Vl.zero,s)
 |M+1,s,c=>match c with
  | [.v (.int .i64 op),.v (.int .i64 n),.v (.string x),kd,.v (.int .i64 _)]=>
    if needsI op=(kidsD kd).1 then
     if (kidsD kd).1=0 then leafS R s op n x
     else if (kidsD kd).1=1 then oneS R (exprS R M s ((kidsD kd).2 0)).2 op x (exprS R M s ((kidsD kd).2 0)).1
     else (calcDo op (exprS R M s ((kidsD kd).2 0)).1 (exprS R M (exprS R M s ((kidsD kd).2 0)).2 ((kidsD kd).2 1)).1 (arrS R.G R.G.length),(exprS R M (exprS R M s ((kidsD kd).2 0)).2 ((kidsD kd).2 1)).2)
    else (Vl.zero,s)
  |_=>(Vl.zero,s)
def XOk:Nat->List DV->Prop
 |0,_=>False
 |M+1,c=> ∃op n x kd at_,c=xpC op n x kd at_/\ rI op/\ rI n/\ rI at_/\ (kd= .v (.slice none 0 0) \/ ∃k f,kd= .lst 5 k f/\ k<=1099511627776/\ ∀i,i<k->XOk M (f i))
theorem needs_r (op:Int):needsI op= -1 \/needsI op=0 \/needsI op=1 \/needsI op=2:=by
 unfold needsI;(repeat' split)<;>simp
theorem adr_ok (x:ByteArray) (b:Bool):okV (adrV x b)/\ (adrV x b).t.names.length<=1:=by
 cases b
 . exact ⟨okV_z,Nat.zero_le _⟩
 . have h:(ofS (ofS [x])).length<=1:=Nat.le_trans (ofS_len _) (ofS_len _)
   exact ⟨⟨⟨by show (ofS (ofS [x])).length*16<=_;omega,fun _ _=>rfl⟩,okV_z.2⟩,h⟩
theorem leafS_ok {R:Ro} (hR:R.ok) {s:Se} (hs:okSe R s) {op n:Int} (hn:rI n) (x:ByteArray):okP R (leafS R s op n x) 1099511627776:=by
 unfold leafS;split
 . exact ⟨⟨⟨Nat.zero_le _,fun _ h=>absurd h (Nat.not_lt_zero _)⟩,Sp.of_inR hn hn,by unfold rI at hn;exact Cg.of_inR 0 n (by decide) (by decide) hn.1 hn.2⟩,Nat.zero_le _,hs⟩
 . split
   . have h:=nameS_ok hR s x;exact ⟨h.1,Nat.le_trans h.2 (by decide),nameS_se hs x⟩
   . split
     . exact loadS_ok hR hs x
     . split
       . have h:=adr_ok x (glI R.G x);exact ⟨h.1,Nat.le_trans h.2 (by decide),hs⟩
       . exact ⟨⟨⟨Nat.zero_le _,fun _ h=>absurd h (Nat.not_lt_zero _)⟩,okV_z.2⟩,Nat.zero_le _,hs⟩
theorem both_ok {s:Sp} {c:Cg} (h:s.inR) (h2:c.inR):okV (bothV s c)/\ (bothV s c).t.names= []:=by
 have ht:(bothV s c).t.names= []:=by rw [bothV_t]
 exact ⟨⟨⟨by rw [ht];exact Nat.zero_le _,fun i hi=>absurd hi (by rw [ht];exact Nat.not_lt_zero i)⟩,bothV_inR h h2⟩,ht⟩
theorem one_ok {op:Int} {a:Vl} (h:okV a):okV (calcOne op a)/\ (calcOne op a).t.names= []:=by
 have o:=(okV_of h).2
 unfold calcOne;split
 . exact ⟨okV_z,rfl⟩
 . exact both_ok (rkOne_inR o.1) (rsOne_inR o.2)
theorem do_ok {op:Int} {a b:Vl} {m:List ByteArray} (h:okV a) (h2:okV b):okV (calcDo op a b m)/\ (calcDo op a b m).t.names.length<=0:=by
 have o:=(okV_of h).2
 have o2:=(okV_of h2).2
 have k1:=numV_inR (op:=op) (a:=a.of) (b:=b.of) o o2
 have k2:=ptrV_inR op a.of.t b.of.t m
 have t1:(numV op a.of b.of).t.names= []:=by rw [numV_t]
 have t2:(ptrV op a.of.t b.of.t m).t.names= []:=by rw [ptrV_t]
 have hn:=join_nm (numV op a.of b.of) (ptrV op a.of.t b.of.t m)
 rw [t1,t2] at hn;refine ⟨okV_joinL ⟨⟨by rw [t1];exact Nat.zero_le _,fun i hi=>absurd hi (by rw [t1];exact Nat.not_lt_zero i)⟩,k1⟩ ⟨⟨by rw [t2];exact Nat.zero_le _,fun i hi=>absurd hi (by rw [t2];exact Nat.not_lt_zero i)⟩,k2⟩ (by rw [t1,t2];decide),hn⟩
theorem oneS_ok {R:Ro} (hR:R.ok) {s:Se} (hs:okSe R s) {op:Int} (x:ByteArray) {k:Vl} (hk:okV k):okP R (oneS R s op x k) 1099511627776:=by
 unfold oneS;split
 . split
   . have h:=readS_ok hR s x;exact ⟨h.1,Nat.le_trans h.2 (by decide),readS_se hs x⟩
   . exact ⟨okV_z,Nat.zero_le _,hs⟩
 . split
   . have h:=adr_ok x (plS R.G x k);exact ⟨h.1,Nat.le_trans h.2 (by decide),hs⟩
   . have h:=one_ok (op:=op) hk;exact ⟨h.1,by show (calcOne op k).t.names.length<=_;rw [h.2];exact Nat.zero_le _,hs⟩
theorem exprS_ok {R:Ro} (hR:R.ok): ∀M {s:Se} {c:List DV},okSe R s->XOk M c->okP R (exprS R M s c) 1099511627776
 |0,_,_,_,h=>h.elim
 |M+1,s,c,hs,h=>by
  obtain ⟨op,n,x,kd,at_,rfl, -,h2, -,hk⟩:=h
  have hkid: ∀i,i<(kidsD kd).1->XOk M ((kidsD kd).2 i):=by
   rcases hk with rfl|⟨k,f,rfl, -,hf⟩
   . intro i hi;exact absurd hi (Nat.not_lt_zero i)
   . exact hf
  show okP R (if _ then _ else _) _
  split
  . rename_i hn
    split
    . exact leafS_ok hR hs h2 x
    . split
      . have h0:=exprS_ok hR M hs (hkid 0 (by omega))
        exact oneS_ok hR h0.s x h0.v
      . have hr:=needs_r op
        have h0:=exprS_ok hR M hs (hkid 0 (by omega))
        have h1:=exprS_ok hR M h0.s (hkid 1 (by omega))
        have hd:=do_ok (op:=op) (m:=arrS R.G R.G.length) h0.v h1.v
        exact ⟨hd.1,Nat.le_trans hd.2 (Nat.zero_le _),h1.s⟩
  . exact ⟨okV_z,Nat.zero_le _,hs⟩
end Go.Proofs.YtokjghkehojenaaGreat
