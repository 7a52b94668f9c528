/- What the rest of the layer of names computes. No condition. -/
import Derived.Test.YtokjghkehojenaaGreatL4
set_option linter.all false
set_option maxHeartbeats 8000000
set_option maxRecDepth 100000
namespace Go.Proofs.YtokjghkehojenaaGreat
open Go.Sx
open Go.RowKit Go.Lib Go.Sort
def ofS (l:List ByteArray):List ByteArray:=(compL ((sortL l).map bS)).map bS
theorem gT_st (x:ByteArray):gT [st x]=x:=rfl
theorem ofS_len (l:List ByteArray):(ofS l).length<=l.length:=by
 have:=compact_le (((sortL l).map bS).map fun s=>s.data.toList)
 simpa [ofS,compL,sortL_length] using this
theorem ofS_len2 (l:List ByteArray):(compL ((sortL l).map bS)).length=(ofS l).length:=by simp [ofS]
theorem gN_put {len:Nat} {L:List (List UInt8)} (hL:L.length=len) (f:Nat->List DV):gN len (fun i=>if i<len then [.v (encStr L.toArray[i]!)] else f i)=L.map bS:=by
 subst hL;unfold gN;apply List.ext_getElem
 . simp
 . intro i h1 h2;have h3:i<L.length:=by simpa using h2
   simp [h3,gT,encStr,bS]
theorem ofS_at {l:List ByteArray} {i:Nat} {M:List ByteArray} (hM:M=(sortL l).map bS) (hi:i<(compL M).length): [DV.v (encStr (compRow M).toArray[i]!)]= [st (atS (ofS l) i)]:=by
 subst hM;have h2:i<(compRow ((sortL l).map bS)).length:=by unfold compRow;simp;omega
 unfold ofS atS;simp only [List.getD_eq_getElem?_getD,List.getElem?_map,List.getElem?_eq_getElem hi,Option.map_some,Option.getD_some];simp only [List.getElem!_toArray];rw [getElem!_pos _ i h2];simp only [compRow,List.getElem_append_left hi];rfl
def FNClone:List Ar->Option Rs
 | [.c (.d (.lst 1 n0 f0))]=>some ⟨(n0*16<=140737488351232/\ ∀i,i<n0->f0 i= [st (gT (f0 i))]),.va (.c (.ow 1 n0 fun i=> [st (gT (f0 i))])),[]⟩
 |_=>none
theorem fcNClone:FC Tryz.prog 108 FNClone:=by
 intro xs pre r us h hp;unfold FNClone at h;split at h
 . rename_i n0 f0
   cases h;have hp0:=hp
   refine FCat.of_eq (as':= [.c (.d (.lst 1 n0 fun i=> [st (gT (f0 i))]))]) ?_ rfl rfl ?_
   . repeat' (first|exact trivial|exact rfl|refine ⟨?_, ?_⟩|fail)
     all_goals first|exact hp0.2|exact hp1.2|exact hp2.2|(intro i hi;exact (hp0.2 i hi).1)|(intro i hi;exact (hp1.2 i hi).1)|(intro i hi;exact (hp2.2 i hi).1)|grind
   refine fcat tys_ok (l:= []) trivial Tryz.func108 rfl (by kernel_rfl) false ?_
   repeat' (first|exact trivial|refine ⟨?_, ?_⟩|intro _)
   all_goals first|(with_reducible apply qq)|(conv=>whnf)
   all_goals first|omega|(simp_all;done)|(simp [appRow];done)|exact ‹_=true->_› ‹_›
 . cases h
def FNOf:List Ar->Option Rs
 | [.c (.d (.v (.bool b0))),.c (.d (.lst 1 n1 f1))]=>some ⟨(n1*16<=140737488351232/\ ∀i,i<n1->f1 i= [st (gT (f1 i))]),.va (Ns.ar (⟨b0,ofS (gN n1 f1)⟩)),[]⟩
 |_=>none
theorem fcNOf:FC Tryz.prog 80 FNOf:=by
 intro xs pre r us h hp;unfold FNOf at h;split at h
 . rename_i b0 n1 f1
   cases h;have hp0:=hp
   refine FCat.of_eq (as':= [.c (.d (.v (.bool b0))),.c (.d (.lst 1 n1 fun i=> [st (gT (f1 i))]))]) ?_ rfl rfl ?_
   . repeat' (first|exact trivial|exact rfl|refine ⟨?_, ?_⟩|fail)
     all_goals first|exact hp0.2|exact hp1.2|exact hp2.2|(intro i hi;exact (hp0.2 i hi).1)|(intro i hi;exact (hp1.2 i hi).1)|(intro i hi;exact (hp2.2 i hi).1)|grind
   refine fcat tys_ok (l:= [(108,⟨[],FNClone⟩)]) ⟨fcNClone,trivial⟩ Tryz.func80 rfl (by kernel_rfl) true ?_
   repeat' (first|exact trivial|refine ⟨?_, ?_⟩|intro _)
   all_goals first|(with_reducible apply qq)|(conv=>whnf)
   all_goals first|exact hp0.1|rfl|refine acall_sort rfl (Nat.le_refl _) (fun _ _=>rfl) (by omega) ?_
   refine acall_compact rfl (Nat.le_refl _) (fun i hi=>by simp [hi,gT,encStr]) (by omega) ?_
   repeat' (first|exact trivial|refine ⟨?_, ?_⟩|intro _)
   all_goals first|(with_reducible apply qq)|(conv=>whnf)
   all_goals (have hE:=gN_put (len:=n1) (L:=sortL (gN n1 f1)) (by rw [sortL_length,gN_length]) (fun i=> [st (gT (f1 i))]))
   all_goals (try simp only [gN_canon,gT_st,hE,ofS_len2])
   all_goals (have hL:=ofS_len (gN n1 f1);rw [gN_length] at hL)
   all_goals first|omega|skip
   rename_i i hi
   simp only [gN_canon,gT_st,hE,ofS_len2] at hi;have e0:0+Int.toNat 0+i=i:=by simp
   rw [e0,if_pos (by omega)];exact ofS_at rfl (by rw [ofS_len2];omega)
 . cases h
def FNClean:List Ar->Option Rs
 | [.agg [.d (.v (.bool b0)),.d (.lst 1 n0 f0)]]=>some ⟨(n0*16<=140737488351232/\ ∀i,i<n0->f0 i= [st (gT (f0 i))]),.va (Ns.ar (⟨b0,ofS (gN n0 f0)⟩)),[]⟩
 |_=>none
theorem fcNClean:FC Tryz.prog 95 FNClean:=by
 intro xs pre r us h hp;unfold FNClean at h;split at h
 . rename_i b0 n0 f0
   cases h;have hp0:=hp
   refine FCat.of_eq (as':= [.agg [.d (.v (.bool b0)),.d (.lst 1 n0 fun i=> [st (gT (f0 i))])]]) ?_ rfl rfl ?_
   . repeat' (first|exact trivial|exact rfl|refine ⟨?_, ?_⟩|fail)
     all_goals first|exact hp0.2|exact hp1.2|exact hp2.2|(intro i hi;exact (hp0.2 i hi).1)|(intro i hi;exact (hp1.2 i hi).1)|(intro i hi;exact (hp2.2 i hi).1)|grind
   refine fcat tys_ok (l:= [(80,⟨[],FNOf⟩)]) ⟨fcNOf,trivial⟩ Tryz.func95 rfl (by kernel_rfl) true ?_
   repeat' (first|exact trivial|refine ⟨?_, ?_⟩|intro _)
   all_goals first|(with_reducible apply qq)|(conv=>whnf)
   all_goals first|exact hp0.1|rfl
 . cases h
end Go.Proofs.YtokjghkehojenaaGreat
namespace Go.Proofs.YtokjghkehojenaaGreat
open Go.Sx
structure Cg where
 some:Bool
 m:Int
 r:Int
abbrev Cg.ar (c:Cg):Ar:= .agg [.d (bo c.some),.d (it c.m),.d (it c.r)]
def Cg.inR (c:Cg):Prop:=(-9223372036854775808<=c.m/\ c.m<9223372036854775808)/\ -9223372036854775808<=c.r/\ c.r<9223372036854775808
def md (n m:Int):Int:=if m<=0 then n else n%m
namespace Cg
def none:Cg:=⟨false,0,0⟩
def of (m r:Int):Cg:=if m<0 then ⟨true,1,md r 1⟩ else ⟨true,m,md r m⟩
def clean (c:Cg):Cg:=if c.some then of c.m c.r else none
def has (c:Cg) (n:Int):Bool:=c.clean.some&&decide (md n c.clean.m=c.clean.r)
def factor (a b:Int):Bool:=if a=0 then decide (b=0) else decide (b%a=0)
def leq (a b:Cg):Bool:=if a.clean.some&&b.clean.some then factor b.clean.m a.clean.m&&has b.clean a.clean.r else !a.clean.some
def eq (a b:Cg):Bool:=a.some==b.some&&(a.m==b.m&&a.r==b.r)
end Cg
theorem tmod_fix (n m:Int) (h:0<m):(n.tmod m<0->n.tmod m+m=n%m)/\ (¬n.tmod m<0->n.tmod m=n%m):=by
 have h1:=Int.emod_nonneg n (show m≠0 by omega)
 have h2:=Int.emod_lt_of_pos n h
 have h3:n.tmod m=n%m-if 0<=n \/m∣n then 0 else m:=by rw [Int.tmod_eq_emod];split<;>simp<;>omega
 rw [h3];split<;>omega
theorem md_bound (n m:Int) (h:0<m):0<=md n m/\ md n m<m:=by
 unfold md;rw [if_neg (by omega)];exact ⟨Int.emod_nonneg _ (by omega),Int.emod_lt_of_pos _ h⟩
theorem Cg.of_inR (m r:Int) (h0: -9223372036854775808<=m) (h1:m<9223372036854775808) (h2: -9223372036854775808<=r) (h3:r<9223372036854775808):(Cg.of m r).inR:=by
 unfold Cg.of;by_cases hm:m<0
 . rw [if_pos hm];have:=md_bound r 1 (by omega)
   unfold Cg.inR;dsimp only;omega
 . rw [if_neg hm];by_cases h0:m=0
   . subst h0;unfold Cg.inR md;dsimp only;rw [if_pos (by omega)];omega
   . have:=md_bound r m (by omega)
     unfold Cg.inR;dsimp only;omega
theorem Cg.eta (c:Cg):(⟨c.some,c.m,c.r⟩:Cg)=c:=rfl
theorem Cg.clean_nn (c:Cg):0<=c.clean.m:=by
 unfold Cg.clean Cg.of Cg.none;split
 . split
   . dsimp only;omega
   . dsimp only;omega
 . decide
theorem Cg.clean_inR {c:Cg} (h:c.inR):c.clean.inR:=by
 unfold Cg.clean;split
 . exact Cg.of_inR _ _ h.1.1 h.1.2 h.2.1 h.2.2
 . unfold Cg.none Cg.inR;decide
def FCMod:List Ar->Option Rs
 | [.c (.d (.v (.int .i64 i0))),.c (.d (.v (.int .i64 i1)))]=>some ⟨(-9223372036854775808<=i0/\ i0<9223372036854775808)/\ (-9223372036854775808<=i1/\ i1<9223372036854775808),.va (.c (.d (it (md i0 i1)))),[]⟩
 |_=>none
theorem fcCMod:FC Tryz.prog 86 FCMod:=by
 intro xs pre r us h hp;unfold FCMod at h;split at h
 . rename_i i0 i1
   cases h;obtain ⟨hp0,hp1⟩:=hp
   refine fcat tys_ok (l:= []) trivial Tryz.func86 rfl (by kernel_rfl) false ?_
   repeat' (first|exact trivial|refine ⟨?_, ?_⟩|intro _)
   all_goals first|(with_reducible apply qq)|(conv=>whnf)
   all_goals (try simp only [decide_eq_true_eq,decide_eq_false_iff_not] at*)
   all_goals first|omega|(have q:=tmod_fix i0 i1 (by omega);have q2:=md_bound i0 i1 (by omega);unfold md at*;rw [if_neg (by omega)] at*;first|(rw [q.2 (by assumption)])|(rw [wI_id _ (by omega) (by omega),q.1 (by assumption)]))|(unfold md;rw [if_pos (by assumption)])
 . cases h
def FCOf:List Ar->Option Rs
 | [.c (.d (.v (.int .i64 i0))),.c (.d (.v (.int .i64 i1)))]=>some ⟨(-9223372036854775808<=i0/\ i0<9223372036854775808)/\ (-9223372036854775808<=i1/\ i1<9223372036854775808),.va (Cg.ar (Cg.of i0 i1)),[]⟩
 |_=>none
theorem fcCOf:FC Tryz.prog 61 FCOf:=by
 intro xs pre r us h hp;unfold FCOf at h;split at h
 . rename_i i0 i1
   cases h;obtain ⟨hp0,hp1⟩:=hp
   refine fcat tys_ok (l:= [(86,⟨[],FCMod⟩)]) ⟨fcCMod,trivial⟩ Tryz.func61 rfl (by kernel_rfl) false ?_
   repeat' (first|exact trivial|refine ⟨?_, ?_⟩|intro _)
   all_goals first|(with_reducible apply qq)|(conv=>whnf)
   all_goals grind [Cg.of]
 . cases h
def FCOne:List Ar->Option Rs
 | [.c (.d (.v (.int .i64 i0)))]=>some ⟨(-9223372036854775808<=i0/\ i0<9223372036854775808),.va (Cg.ar (Cg.of 0 i0)),[]⟩
 |_=>none
theorem fcCOne:FC Tryz.prog 46 FCOne:=by
 intro xs pre r us h hp;unfold FCOne at h;split at h
 . rename_i i0
   cases h;have hp0:=hp
   refine fcat tys_ok (l:= [(61,⟨[],FCOf⟩)]) ⟨fcCOf,trivial⟩ Tryz.func46 rfl (by kernel_rfl) false ?_
   repeat' (first|exact trivial|refine ⟨?_, ?_⟩|intro _)
   all_goals first|(with_reducible apply qq)|(conv=>whnf)
   all_goals first|rfl|omega
 . cases h
def FCAll:List Ar->Option Rs
 | []=>some ⟨True,.va (Cg.ar (Cg.of 1 0)),[]⟩
 |_=>none
theorem fcCAll:FC Tryz.prog 33 FCAll:=by
 intro xs pre r us h hp;unfold FCAll at h;split at h
 . cases h;refine fcat tys_ok (l:= [(61,⟨[],FCOf⟩)]) ⟨fcCOf,trivial⟩ Tryz.func33 rfl (by kernel_rfl) false ?_
   repeat' (first|exact trivial|refine ⟨?_, ?_⟩|intro _)
   all_goals first|(with_reducible apply qq)|(conv=>whnf)
   all_goals first|rfl|omega
 . cases h
def FCNone:List Ar->Option Rs
 | [.agg [.d (.v (.bool b0)),.d (.v (.int .i64 m0)),.d (.v (.int .i64 r0))]]=>some ⟨(Cg.inR ⟨b0,m0,r0⟩),.va (.c (.d (bo (!b0)))),[]⟩
 |_=>none
theorem fcCNone:FC Tryz.prog 96 FCNone:=by
 intro xs pre r us h hp;unfold FCNone at h;split at h
 . rename_i b0 m0 r0
   cases h;have hp0:=hp
   refine fcat tys_ok (l:= []) trivial Tryz.func96 rfl (by kernel_rfl) false ?_
   repeat' (first|exact trivial|refine ⟨?_, ?_⟩|intro _)
   all_goals first|(with_reducible apply qq)|(conv=>whnf)
   all_goals rfl
 . cases h
def FCClean:List Ar->Option Rs
 | [.agg [.d (.v (.bool b0)),.d (.v (.int .i64 m0)),.d (.v (.int .i64 r0))]]=>some ⟨(Cg.inR ⟨b0,m0,r0⟩),.va (Cg.ar (Cg.clean (⟨b0,m0,r0⟩:Cg))),[]⟩
 |_=>none
theorem fcCClean:FC Tryz.prog 85 FCClean:=by
 intro xs pre r us h hp;unfold FCClean at h;split at h
 . rename_i b0 m0 r0
   cases h;have hp0:=hp
   refine fcat tys_ok (l:= [(61,⟨[],FCOf⟩)]) ⟨fcCOf,trivial⟩ Tryz.func85 rfl (by kernel_rfl) false ?_
   repeat' (first|exact trivial|refine ⟨?_, ?_⟩|intro _)
   all_goals first|(with_reducible apply qq)|(conv=>whnf)
   all_goals first|grind [Cg.clean,Cg.none,Cg.inR]
 . cases h
def FCHas:List Ar->Option Rs
 | [.agg [.d (.v (.bool b0)),.d (.v (.int .i64 m0)),.d (.v (.int .i64 r0))],.c (.d (.v (.int .i64 i1)))]=>some ⟨(Cg.inR ⟨b0,m0,r0⟩)/\ (-9223372036854775808<=i1/\ i1<9223372036854775808),.va (.c (.d (bo (Cg.has (⟨b0,m0,r0⟩:Cg) i1)))),[]⟩
 |_=>none
theorem fcCHas:FC Tryz.prog 48 FCHas:=by
 intro xs pre r us h hp;unfold FCHas at h;split at h
 . rename_i b0 m0 r0 i1
   cases h;obtain ⟨hp0,hp1⟩:=hp
   refine fcat tys_ok (l:= [(85,⟨[],FCClean⟩),(86,⟨[],FCMod⟩)]) ⟨fcCClean,fcCMod,trivial⟩ Tryz.func48 rfl (by kernel_rfl) false ?_
   repeat' (first|exact trivial|refine ⟨?_, ?_⟩|intro _)
   all_goals first|(with_reducible apply qq)|(conv=>whnf)
   all_goals first|grind [Cg.has,Cg.inR,Cg.clean_inR]
 . cases h
structure Sp where
 some:Bool
 lo:Int
 hi:Int
abbrev Sp.ar (s:Sp):Ar:= .agg [.d (bo s.some),.d (it s.lo),.d (it s.hi)]
namespace Sp
def none (s:Sp):Bool:= !s.some||decide (s.lo>s.hi)
def has (s:Sp) (n:Int):Bool:=s.some&&decide (s.lo<=n)&&decide (n<=s.hi)
def clean (s:Sp):Sp:=if s.none then ⟨false,0,0⟩ else s
def leq (a b:Sp):Bool:=a.none||(b.has a.lo&&b.has a.hi)
def of (lo hi:Int):Sp:=if lo>hi then ⟨false,0,0⟩ else ⟨true,lo,hi⟩
def eq (a b:Sp):Bool:=a.some==b.some&&(a.lo==b.lo&&a.hi==b.hi)
def join (a b:Sp):Sp:=if a.none then b.clean else if b.none then a else of (min a.lo b.lo) (max a.hi b.hi)
def meet (a b:Sp):Sp:=if a.none||b.none then ⟨false,0,0⟩ else of (max a.lo b.lo) (min a.hi b.hi)
def narrow (a b:Sp):Sp:=if !leq b a then a.clean else if b.none then ⟨false,0,0⟩ else ⟨a.some,if a.lo= -9223372036854775808 then b.lo else a.lo,if a.hi=9223372036854775807 then b.hi else a.hi⟩
def inR (s:Sp):Prop:=(-9223372036854775808<=s.lo/\ s.lo<9223372036854775808)/\ -9223372036854775808<=s.hi/\ s.hi<9223372036854775808
theorem clean_inR {s:Sp} (h:s.inR):s.clean.inR:=by
 unfold clean;split
 . unfold inR;decide
 . exact h
end Sp
def FSNone:List Ar->Option Rs
 | [.agg [.d (.v (.bool s0)),.d (.v (.int .i64 l0)),.d (.v (.int .i64 h0))]]=>some ⟨(Sp.inR ⟨s0,l0,h0⟩),.va (.c (.d (bo (Sp.none (⟨s0,l0,h0⟩:Sp))))),[]⟩
 |_=>none
theorem fcSNone:FC Tryz.prog 34 FSNone:=by
 intro xs pre r us h hp;unfold FSNone at h;split at h
 . rename_i s0 l0 h0
   cases h;have hp0:=hp
   refine fcat tys_ok (l:= []) trivial Tryz.func34 rfl (by kernel_rfl) false ?_
   repeat' (first|exact trivial|refine ⟨?_, ?_⟩|intro _)
   all_goals first|(with_reducible apply qq)|(conv=>whnf)
   all_goals grind [Sp.none,Sp.inR]
 . cases h
def FSHas:List Ar->Option Rs
 | [.agg [.d (.v (.bool s0)),.d (.v (.int .i64 l0)),.d (.v (.int .i64 h0))],.c (.d (.v (.int .i64 i1)))]=>some ⟨(Sp.inR ⟨s0,l0,h0⟩)/\ (-9223372036854775808<=i1/\ i1<9223372036854775808),.va (.c (.d (bo (Sp.has (⟨s0,l0,h0⟩:Sp) i1)))),[]⟩
 |_=>none
theorem fcSHas:FC Tryz.prog 47 FSHas:=by
 intro xs pre r us h hp;unfold FSHas at h;split at h
 . rename_i s0 l0 h0 i1
   cases h;obtain ⟨hp0,hp1⟩:=hp
   refine fcat tys_ok (l:= []) trivial Tryz.func47 rfl (by kernel_rfl) false ?_
   repeat' (first|exact trivial|refine ⟨?_, ?_⟩|intro _)
   all_goals first|(with_reducible apply qq)|(conv=>whnf)
   all_goals grind [Sp.has,Sp.inR]
 . cases h
def FSOf:List Ar->Option Rs
 | [.c (.d (.v (.int .i64 i0))),.c (.d (.v (.int .i64 i1)))]=>some ⟨(-9223372036854775808<=i0/\ i0<9223372036854775808)/\ (-9223372036854775808<=i1/\ i1<9223372036854775808),.va (Sp.ar (Sp.of i0 i1)),[]⟩
 |_=>none
theorem fcSOf:FC Tryz.prog 32 FSOf:=by
 intro xs pre r us h hp;unfold FSOf at h;split at h
 . rename_i i0 i1
   cases h;obtain ⟨hp0,hp1⟩:=hp
   refine fcat tys_ok (l:= []) trivial Tryz.func32 rfl (by kernel_rfl) false ?_
   repeat' (first|exact trivial|refine ⟨?_, ?_⟩|intro _)
   all_goals first|(with_reducible apply qq)|(conv=>whnf)
   all_goals grind [Sp.of]
 . cases h
def FSOne:List Ar->Option Rs
 | [.c (.d (.v (.int .i64 i0)))]=>some ⟨(-9223372036854775808<=i0/\ i0<9223372036854775808),.va (Sp.ar (Sp.of i0 i0)),[]⟩
 |_=>none
theorem fcSOne:FC Tryz.prog 45 FSOne:=by
 intro xs pre r us h hp;unfold FSOne at h;split at h
 . rename_i i0
   cases h;have hp0:=hp
   refine fcat tys_ok (l:= [(32,⟨[],FSOf⟩)]) ⟨fcSOf,trivial⟩ Tryz.func45 rfl (by kernel_rfl) false ?_
   repeat' (first|exact trivial|refine ⟨?_, ?_⟩|intro _)
   all_goals first|(with_reducible apply qq)|(conv=>whnf)
   all_goals first|rfl|omega
 . cases h
def FSAll:List Ar->Option Rs
 | []=>some ⟨True,.va (Sp.ar (Sp.of (-9223372036854775808) 9223372036854775807)),[]⟩
 |_=>none
theorem fcSAll:FC Tryz.prog 211 FSAll:=by
 intro xs pre r us h hp;unfold FSAll at h;split at h
 . cases h;refine fcat tys_ok (l:= [(32,⟨[],FSOf⟩)]) ⟨fcSOf,trivial⟩ Tryz.func211 rfl (by kernel_rfl) false ?_
   repeat' (first|exact trivial|refine ⟨?_, ?_⟩|intro _)
   all_goals first|(with_reducible apply qq)|(conv=>whnf)
   all_goals first|rfl|omega
 . cases h
def FSClean:List Ar->Option Rs
 | [.agg [.d (.v (.bool s0)),.d (.v (.int .i64 l0)),.d (.v (.int .i64 h0))]]=>some ⟨(Sp.inR ⟨s0,l0,h0⟩),.va (Sp.ar (Sp.clean (⟨s0,l0,h0⟩:Sp))),[]⟩
 |_=>none
theorem fcSClean:FC Tryz.prog 136 FSClean:=by
 intro xs pre r us h hp;unfold FSClean at h;split at h
 . rename_i s0 l0 h0
   cases h;have hp0:=hp
   refine fcat tys_ok (l:= [(34,⟨[],FSNone⟩)]) ⟨fcSNone,trivial⟩ Tryz.func136 rfl (by kernel_rfl) false ?_
   repeat' (first|exact trivial|refine ⟨?_, ?_⟩|intro _)
   all_goals first|(with_reducible apply qq)|(conv=>whnf)
   all_goals grind [Sp.clean,Sp.inR]
 . cases h
def wCmp (a b:Int):Int:=if a<b then-1 else if b<a then 1 else 0
structure Ig where
 s:Sp
 c:Cg
abbrev Ig.ar (i:Ig):Ar:= .agg [.d (bo i.s.some),.d (it i.s.lo),.d (it i.s.hi),.d (bo i.c.some),.d (it i.c.m),.d (it i.c.r)]
structure Vl where
 i:Ig
 t:Ns
abbrev Vl.ar (v:Vl):Ar:= .agg [.d (bo v.i.s.some),.d (it v.i.s.lo),.d (it v.i.s.hi),.d (bo v.i.c.some),.d (it v.i.c.m),.d (it v.i.c.r),.d (bo v.t.null),.d (lst v.t.names)]
def Cg.red (c:Cg):Prop:=0<=c.m/\ (0<c.m->0<=c.r/\ c.r<c.m)
theorem Cg.clean_red (c:Cg):c.clean.red:=by
 unfold Cg.clean Cg.of Cg.none Cg.red;split
 . split
   . have:=md_bound c.r 1 (by omega)
     dsimp only;omega
   . refine ⟨by dsimp only;omega,fun h=> ?_⟩
     exact md_bound c.r c.m h
 . dsimp only;omega
theorem sub_md (a b m:Int) (h:0<m):md (a-md b m) m=(a-b)%m:=by
 unfold md;rw [if_neg (by omega),if_neg (by omega),Int.sub_emod,Int.emod_emod_of_dvd _ (Int.dvd_refl m), <-Int.sub_emod]
theorem md_sub (a b m:Int) (h:0<m):md (md a m-b) m=(a-b)%m:=by
 unfold md;rw [if_neg (by omega),if_neg (by omega),Int.sub_emod,Int.emod_emod_of_dvd _ (Int.dvd_refl m), <-Int.sub_emod]
def upW (n:Int) (c:Cg):Int:=n+(c.r-n)%c.m
def dnW (n:Int) (c:Cg):Int:=n-(n-c.r)%c.m
def upV (n:Int) (c:Cg):Int:=if c.m=0 then c.r else wIntV (upW n c)
def upB (n:Int) (c:Cg):Bool:=if c.m=0 then decide (c.r≥n) else wIntB (upW n c)
def dnV (n:Int) (c:Cg):Int:=if c.m=0 then c.r else wIntV (dnW n c)
def dnB (n:Int) (c:Cg):Bool:=if c.m=0 then decide (c.r<=n) else wIntB (dnW n c)
namespace Ig
def zero:Ig:=⟨⟨false,0,0⟩,⟨false,0,0⟩⟩
def none (i:Ig):Bool:=i.s.none|| !i.c.some
def clean (i:Ig):Ig:=if i.none then zero else ⟨i.s.clean,i.c.clean⟩
def leq (i j:Ig):Bool:=i.s.leq j.s&&i.c.leq j.c
def red (i:Ig):Ig:=if i.none then zero else if (!upB i.s.lo i.c|| !dnB i.s.hi i.c)||decide (upV i.s.lo i.c>dnV i.s.hi i.c) then zero else
 if upV i.s.lo i.c=dnV i.s.hi i.c then ⟨Sp.of (upV i.s.lo i.c) (upV i.s.lo i.c),Cg.of 0 (upV i.s.lo i.c)⟩ else ⟨Sp.of (upV i.s.lo i.c) (dnV i.s.hi i.c),i.c⟩
theorem clean_inR {i:Ig} (h1:i.s.inR) (h2:i.c.inR):i.clean.s.inR/\ i.clean.c.inR:=by
 unfold clean;split
 . unfold zero Sp.inR Cg.inR;decide
 . exact ⟨Sp.clean_inR h1,Cg.clean_inR h2⟩
end Ig
theorem wInt_r (v:Int): -9223372036854775808<=wIntV v/\ wIntV v<9223372036854775808:=by unfold wIntV;split<;>omega
def FVNone:List Ar->Option Rs
 | [.agg [.d (.v (.bool s0)),.d (.v (.int .i64 l0)),.d (.v (.int .i64 h0)),.d (.v (.bool b0)),.d (.v (.int .i64 m0)),.d (.v (.int .i64 r0))]]=>some ⟨(Sp.inR ⟨s0,l0,h0⟩/\ Cg.inR ⟨b0,m0,r0⟩),.va (.c (.d (bo (Ig.none (⟨⟨s0,l0,h0⟩,⟨b0,m0,r0⟩⟩:Ig))))),[]⟩
 |_=>none
theorem fcVNone:FC Tryz.prog 133 FVNone:=by
 intro xs pre r us h hp;unfold FVNone at h;split at h
 . rename_i s0 l0 h0 b0 m0 r0
   cases h;have hp0:=hp
   refine fcat tys_ok (l:= [(34,⟨[],FSNone⟩),(96,⟨[],FCNone⟩)]) ⟨fcSNone,fcCNone,trivial⟩ Tryz.func133 rfl (by kernel_rfl) false ?_
   repeat' (first|exact trivial|refine ⟨?_, ?_⟩|intro _)
   all_goals first|(with_reducible apply qq)|(conv=>whnf)
   all_goals first|grind [Ig.none,Sp.inR,Cg.inR]
 . cases h
def FVClean:List Ar->Option Rs
 | [.agg [.d (.v (.bool s0)),.d (.v (.int .i64 l0)),.d (.v (.int .i64 h0)),.d (.v (.bool b0)),.d (.v (.int .i64 m0)),.d (.v (.int .i64 r0))]]=>some ⟨(Sp.inR ⟨s0,l0,h0⟩/\ Cg.inR ⟨b0,m0,r0⟩),.va (Ig.ar (Ig.clean (⟨⟨s0,l0,h0⟩,⟨b0,m0,r0⟩⟩:Ig))),[]⟩
 |_=>none
theorem fcVClean:FC Tryz.prog 94 FVClean:=by
 intro xs pre r us h hp;unfold FVClean at h;split at h
 . rename_i s0 l0 h0 b0 m0 r0
   cases h;have hp0:=hp
   refine fcat tys_ok (l:= [(133,⟨[],FVNone⟩),(136,⟨[],FSClean⟩),(85,⟨[],FCClean⟩)]) ⟨fcVNone,fcSClean,fcCClean,trivial⟩ Tryz.func94 rfl (by kernel_rfl) false ?_
   repeat' (first|exact trivial|refine ⟨?_, ?_⟩|intro _)
   all_goals first|(with_reducible apply qq)|(conv=>whnf)
   all_goals first|grind [Ig.clean,Ig.zero,Sp.inR,Cg.inR]
 . cases h
theorem up_key {n m r:Int} {b:Bool} (hm: ¬m=0) (hr:Cg.red ⟨b,m,r⟩) (hi:Cg.inR ⟨b,m,r⟩):IntKind.wrap .i64 (r-md n m)=r-md n m/\ md (IntKind.wrap .i64 (r-md n m)) m=(r-n)%m/\ 0<=(r-n)%m/\ (r-n)%m<9223372036854775808:=by
 unfold Cg.red at hr;unfold Cg.inR at hi
 dsimp only at hr hi
 have h0:0<m:=by omega
 have h1:=md_bound n m h0
 have h2:=hr.2 h0
 rw [wI_id _ (by omega) (by omega),sub_md _ _ _ h0];have h3:=Int.emod_nonneg (r-n) (show m≠0 by omega)
 have h4:=Int.emod_lt_of_pos (r-n) h0
 omega
theorem dn_key {n m r:Int} {b:Bool} (hm: ¬m=0) (hr:Cg.red ⟨b,m,r⟩) (hi:Cg.inR ⟨b,m,r⟩):IntKind.wrap .i64 (md n m-r)=md n m-r/\ md (IntKind.wrap .i64 (md n m-r)) m=(n-r)%m/\ 0<=(n-r)%m/\ (n-r)%m<9223372036854775808:=by
 unfold Cg.red at hr;unfold Cg.inR at hi
 dsimp only at hr hi
 have h0:0<m:=by omega
 have h1:=md_bound n m h0
 have h2:=hr.2 h0
 rw [wI_id _ (by omega) (by omega),md_sub _ _ _ h0];have h3:=Int.emod_nonneg (n-r) (show m≠0 by omega)
 have h4:=Int.emod_lt_of_pos (n-r) h0
 omega
theorem up_val {n k:Int} (hn: -9223372036854775808<=n/\ n<9223372036854775808) (h0:0<=k) (h1:k<9223372036854775808):Wd.val (wd (Wd.val (wd n)+Wd.val (wd k)))=n+k:=by
 rw [wd_val (by rw [wd_val (v:=n) (by omega) (by omega),wd_val (v:=k) (by omega) (by omega)];omega) (by rw [wd_val (v:=n) (by omega) (by omega),wd_val (v:=k) (by omega) (by omega)];omega),wd_val (v:=n) (by omega) (by omega),wd_val (v:=k) (by omega) (by omega)]
theorem dn_val {n k:Int} (hn: -9223372036854775808<=n/\ n<9223372036854775808) (h0:0<=k) (h1:k<9223372036854775808):Wd.val (wd (Wd.val (wd n)-Wd.val (wd k)))=n-k:=by
 rw [wd_val (by rw [wd_val (v:=n) (by omega) (by omega),wd_val (v:=k) (by omega) (by omega)];omega) (by rw [wd_val (v:=n) (by omega) (by omega),wd_val (v:=k) (by omega) (by omega)];omega),wd_val (v:=n) (by omega) (by omega),wd_val (v:=k) (by omega) (by omega)]
theorem up_V {n m r:Int} {b:Bool} (hm: ¬m=0) (hr:Cg.red ⟨b,m,r⟩) (hi:Cg.inR ⟨b,m,r⟩) (hn: -9223372036854775808<=n/\ n<9223372036854775808):Wd.val (wd (Wd.val (wd n)+Wd.val (wd (md (IntKind.wrap .i64 (r-md n m)) m))))=upW n ⟨b,m,r⟩:=by
 have hk:=up_key (n:=n) hm hr hi
 rw [hk.2.1,up_val hn hk.2.2.1 hk.2.2.2];rfl
theorem dn_V {n m r:Int} {b:Bool} (hm: ¬m=0) (hr:Cg.red ⟨b,m,r⟩) (hi:Cg.inR ⟨b,m,r⟩) (hn: -9223372036854775808<=n/\ n<9223372036854775808):Wd.val (wd (Wd.val (wd n)-Wd.val (wd (md (IntKind.wrap .i64 (md n m-r)) m))))=dnW n ⟨b,m,r⟩:=by
 have hk:=dn_key (n:=n) hm hr hi
 rw [hk.2.1,dn_val hn hk.2.2.1 hk.2.2.2];rfl
theorem upV_0 {n m r:Int} {b:Bool} (hm:m=0):upV n ⟨b,m,r⟩=r/\ upB n ⟨b,m,r⟩=decide (r≥n)/\ dnV n ⟨b,m,r⟩=r/\ dnB n ⟨b,m,r⟩=decide (r<=n):=by unfold upV upB dnV dnB;simp [hm]
theorem upV_1 {n m r:Int} {b:Bool} (hm: ¬m=0):upV n ⟨b,m,r⟩=wIntV (upW n ⟨b,m,r⟩)/\ upB n ⟨b,m,r⟩=wIntB (upW n ⟨b,m,r⟩)/\ dnV n ⟨b,m,r⟩=wIntV (dnW n ⟨b,m,r⟩)/\ dnB n ⟨b,m,r⟩=wIntB (dnW n ⟨b,m,r⟩):=by unfold upV upB dnV dnB;simp [hm]
def FVUp:List Ar->Option Rs
 | [.c (.d (.v (.int .i64 i0))),.agg [.d (.v (.bool b1)),.d (.v (.int .i64 m1)),.d (.v (.int .i64 r1))]]=>some ⟨(-9223372036854775808<=i0/\ i0<9223372036854775808)/\ (Cg.inR ⟨b1,m1,r1⟩)/\ (Cg.red (⟨b1,m1,r1⟩:Cg)),.tup [.c (.d (it (upV i0 (⟨b1,m1,r1⟩:Cg)))),.c (.d (bo (upB i0 (⟨b1,m1,r1⟩:Cg))))],[]⟩
 |_=>none
theorem fcVUp:FC Tryz.prog 134 FVUp:=by
 intro xs pre r us h hp;unfold FVUp at h;split at h
 . rename_i i0 b1 m1 r1
   cases h;obtain ⟨hp0,hp1,hp2⟩:=hp
   refine fcat tys_ok (l:= [(86,⟨[],FCMod⟩),(138,⟨[],FWOf⟩),(146,⟨[],FWAdd⟩),(99,⟨[],FWInt⟩)]) ⟨fcCMod,fcWOf,fcWAdd,fcWInt,trivial⟩ Tryz.func134 rfl (by kernel_rfl) false ?_
   repeat' (first|exact trivial|refine ⟨?_, ?_⟩|intro _)
   all_goals first|(with_reducible apply qq)|(conv=>whnf)
   all_goals (try simp only [beq_iff_eq,beq_eq_false_iff_ne,ne_eq] at*)
   all_goals first|omega|exact (wd_ok _).1.1|exact (wd_ok _).1.2|exact (wd_ok _).2.1|exact (wd_ok _).2.2|(unfold Cg.inR at hp1;dsimp only at hp1;omega)|skip
   all_goals first|((with_reducible show Value.int _ _=Value.int _ _);rw [(upV_0 (by assumption)).1])|((with_reducible show Value.bool _=Value.bool _);rw [(upV_0 (by assumption)).2.1])|(have hk:=up_key (n:=i0) ‹¬m1=0› hp2 hp1;have hv:=up_V ‹¬m1=0› hp2 hp1 hp0;have hw:=upV_1 (n:=i0) (r:=r1) (b:=b1) ‹¬m1=0›;first|(rw [hw.1];exact congrArg (fun x=>Value.int .i64 (wIntV x)) hv)|(rw [hw.2.1];exact congrArg (fun x=>Value.bool (wIntB x)) hv)|(unfold md at*;unfold Cg.inR at hp1;dsimp only at hp1;rw [hk.2.1];omega)|(rw [hk.2.1];omega)|(have hb:=md_bound i0 m1;unfold Cg.inR Cg.red at*;dsimp only at*;rw [hk.1];omega))
 . cases h
def FVDown:List Ar->Option Rs
 | [.c (.d (.v (.int .i64 i0))),.agg [.d (.v (.bool b1)),.d (.v (.int .i64 m1)),.d (.v (.int .i64 r1))]]=>some ⟨(-9223372036854775808<=i0/\ i0<9223372036854775808)/\ (Cg.inR ⟨b1,m1,r1⟩)/\ (Cg.red (⟨b1,m1,r1⟩:Cg)),.tup [.c (.d (it (dnV i0 (⟨b1,m1,r1⟩:Cg)))),.c (.d (bo (dnB i0 (⟨b1,m1,r1⟩:Cg))))],[]⟩
 |_=>none
theorem fcVDown:FC Tryz.prog 135 FVDown:=by
 intro xs pre r us h hp;unfold FVDown at h;split at h
 . rename_i i0 b1 m1 r1
   cases h;obtain ⟨hp0,hp1,hp2⟩:=hp
   refine fcat tys_ok (l:= [(86,⟨[],FCMod⟩),(138,⟨[],FWOf⟩),(137,⟨[],FWSub⟩),(99,⟨[],FWInt⟩)]) ⟨fcCMod,fcWOf,fcWSub,fcWInt,trivial⟩ Tryz.func135 rfl (by kernel_rfl) false ?_
   repeat' (first|exact trivial|refine ⟨?_, ?_⟩|intro _)
   all_goals first|(with_reducible apply qq)|(conv=>whnf)
   all_goals (try simp only [beq_iff_eq,beq_eq_false_iff_ne,ne_eq] at*)
   all_goals first|omega|exact (wd_ok _).1.1|exact (wd_ok _).1.2|exact (wd_ok _).2.1|exact (wd_ok _).2.2|(unfold Cg.inR at hp1;dsimp only at hp1;omega)|skip
   all_goals first|((with_reducible show Value.int _ _=Value.int _ _);rw [(upV_0 (by assumption)).2.2.1])|((with_reducible show Value.bool _=Value.bool _);rw [(upV_0 (by assumption)).2.2.2])|(have hk:=dn_key (n:=i0) ‹¬m1=0› hp2 hp1;have hv:=dn_V ‹¬m1=0› hp2 hp1 hp0;have hw:=upV_1 (n:=i0) (r:=r1) (b:=b1) ‹¬m1=0›;first|(rw [hw.2.2.1];exact congrArg (fun x=>Value.int .i64 (wIntV x)) hv)|(rw [hw.2.2.2];exact congrArg (fun x=>Value.bool (wIntB x)) hv)|(unfold md at*;unfold Cg.inR at hp1;dsimp only at hp1;rw [hk.2.1];omega)|(rw [hk.2.1];omega)|(have hb:=md_bound i0 m1;unfold Cg.inR Cg.red at*;dsimp only at*;rw [hk.1];omega))
 . cases h
theorem upV_r {n:Int} {c:Cg} (h:c.inR): -9223372036854775808<=upV n c/\ upV n c<9223372036854775808:=by
 unfold upV;split
 . exact h.2
 . exact wInt_r _
theorem dnV_r {n:Int} {c:Cg} (h:c.inR): -9223372036854775808<=dnV n c/\ dnV n c<9223372036854775808:=by
 unfold dnV;split
 . exact h.2
 . exact wInt_r _
def FVRed:List Ar->Option Rs
 | [.agg [.d (.v (.bool s0)),.d (.v (.int .i64 l0)),.d (.v (.int .i64 h0)),.d (.v (.bool b0)),.d (.v (.int .i64 m0)),.d (.v (.int .i64 r0))]]=>some ⟨(Sp.inR ⟨s0,l0,h0⟩/\ Cg.inR ⟨b0,m0,r0⟩)/\ (Cg.red ⟨b0,m0,r0⟩),.va (Ig.ar (Ig.red (⟨⟨s0,l0,h0⟩,⟨b0,m0,r0⟩⟩:Ig))),[]⟩
 |_=>none
theorem fcVRed:FC Tryz.prog 93 FVRed:=by
 intro xs pre r us h hp;unfold FVRed at h;split at h
 . rename_i s0 l0 h0 b0 m0 r0
   cases h;obtain ⟨hp0,hp1⟩:=hp
   refine fcat tys_ok (l:= [(133,⟨[],FVNone⟩),(134,⟨[],FVUp⟩),(135,⟨[],FVDown⟩),(45,⟨[],FSOne⟩),(46,⟨[],FCOne⟩),(32,⟨[],FSOf⟩)]) ⟨fcVNone,fcVUp,fcVDown,fcSOne,fcCOne,fcSOf,trivial⟩ Tryz.func93 rfl (by kernel_rfl) false ?_
   repeat' (first|exact trivial|refine ⟨?_, ?_⟩|intro _)
   all_goals first|(with_reducible apply qq)|(conv=>whnf)
   all_goals first|exact hp0.1.1.1|exact hp0.1.1.2|exact hp0.1.2.1|exact hp0.1.2.2|exact hp0.2.1.1|exact hp0.2.1.2|exact hp0.2.2.1|exact hp0.2.2.2|exact hp1.1|exact (hp1.2 (by assumption)).1|exact (hp1.2 (by assumption)).2|exact hp1|exact hp0.2|exact hp0.1|exact (upV_r hp0.2).1|exact (upV_r hp0.2).2|exact (dnV_r hp0.2).1|exact (dnV_r hp0.2).2|grind [Ig.red,Ig.zero]
 . cases h
namespace Vl
def of (v:Vl):Vl:=⟨v.i.clean,⟨v.t.null,ofS v.t.names⟩⟩
def reduce (v:Vl):Vl:=⟨v.of.i.red,v.of.t⟩
def hasInt (v:Vl) (n:Int):Bool:=v.i.s.has n&&v.i.c.has n
def leq (a b:Vl):Bool:=a.of.i.leq b.of.i&&((!a.t.null||b.t.null)&&subS (ofS a.t.names) (ofS b.t.names))
def rclean (v:Vl):Vl:=⟨v.i.clean,⟨v.t.null,cleanS v.t.names⟩⟩
def rreduce (v:Vl):Vl:=⟨v.rclean.i.red,v.rclean.t⟩
def exact (a b:Vl):Bool:=(Sp.eq a.i.s b.i.s&&Cg.eq a.i.c b.i.c)&&(a.t.null==b.t.null&&decide (a.t.names=b.t.names))
end Vl
theorem atS_gN {n i:Nat} {f:Nat->List DV} (h:i<n):atS (gN n f) i=gT (f i):=by
 simp [atS,gN,List.getD_eq_getElem?_getD,h]
theorem ofS_room {n:Nat} {f:Nat->List DV} (h:n*16<=140737488351232):(ofS (gN n f)).length*16<=140737488351232:=by
 have:=ofS_len (gN n f)
 rw [gN_length] at this;omega
theorem red_inR {i:Ig} (h1:i.s.inR) (h2:i.c.inR):i.red.s.inR/\ i.red.c.inR:=by
 have e1:=upV_r (n:=i.s.lo) h2
 have e2:=dnV_r (n:=i.s.hi) h2
 unfold Ig.red;split
 . unfold Ig.zero Sp.inR Cg.inR;decide
 . split
   . unfold Ig.zero Sp.inR Cg.inR;decide
   . split
     . refine ⟨?_,Cg.of_inR _ _ (by omega) (by omega) e1.1 e1.2⟩
       unfold Sp.of Sp.inR;split
       . dsimp only;omega
       . exact ⟨e1,e1⟩
     . refine ⟨?_,h2⟩
       unfold Sp.of Sp.inR;split
       . dsimp only;omega
       . exact ⟨e1,e2⟩
theorem clean_red {i:Ig}:i.clean.c.red:=by
 unfold Ig.clean;split
 . unfold Ig.zero Cg.red;decide
 . exact Cg.clean_red _
def FVOf:List Ar->Option Rs
 | [.agg [.d (.v (.bool s0)),.d (.v (.int .i64 l0)),.d (.v (.int .i64 h0)),.d (.v (.bool b0)),.d (.v (.int .i64 m0)),.d (.v (.int .i64 r0)),.d (.v (.bool z0)),.d (.lst 1 n0 f0)]]=>some ⟨((n0*16<=140737488351232/\ ∀i,i<n0->f0 i= [st (gT (f0 i))])/\ Sp.inR ⟨s0,l0,h0⟩/\ Cg.inR ⟨b0,m0,r0⟩),.va (Vl.ar (Vl.of (⟨⟨⟨s0,l0,h0⟩,⟨b0,m0,r0⟩⟩,⟨z0,gN n0 f0⟩⟩:Vl))),[]⟩
 |_=>none
theorem fcVOf:FC Tryz.prog 62 FVOf:=by
 intro xs pre r us h hp;unfold FVOf at h;split at h
 . rename_i s0 l0 h0 b0 m0 r0 z0 n0 f0
   cases h;have hp0:=hp
   refine FCat.of_eq (as':= [.agg [.d (.v (.bool s0)),.d (.v (.int .i64 l0)),.d (.v (.int .i64 h0)),.d (.v (.bool b0)),.d (.v (.int .i64 m0)),.d (.v (.int .i64 r0)),.d (.v (.bool z0)),.d (.lst 1 n0 fun i=> [st (gT (f0 i))])]]) ?_ rfl rfl ?_
   . repeat' (first|exact trivial|exact rfl|refine ⟨?_, ?_⟩|fail)
     all_goals first|exact hp0.2|exact hp1.2|exact hp2.2|(intro i hi;exact (hp0.2 i hi).1)|(intro i hi;exact (hp1.2 i hi).1)|(intro i hi;exact (hp2.2 i hi).1)|grind
   refine fcat tys_ok (l:= [(94,⟨[],FVClean⟩),(95,⟨[],FNClean⟩)]) ⟨fcVClean,fcNClean,trivial⟩ Tryz.func62 rfl (by kernel_rfl) true ?_
   repeat' (first|exact trivial|refine ⟨?_, ?_⟩|intro _)
   all_goals first|(with_reducible apply qq)|(conv=>whnf)
   all_goals first|exact hp0.2|exact hp0.1.1|exact (hp0.1.2 _ ‹_›)|exact hp0.2.1|exact hp0.2.2|exact hp0.2.1.1.1|exact hp0.2.1.1.2|exact hp0.2.1.2.1|exact hp0.2.1.2.2|exact hp0.2.2.1.1|exact hp0.2.2.1.2|exact hp0.2.2.2.1|exact hp0.2.2.2.2|rfl
 . cases h
def FVValue:List Ar->Option Rs
 | [.agg [.d (.v (.bool s0)),.d (.v (.int .i64 l0)),.d (.v (.int .i64 h0)),.d (.v (.bool b0)),.d (.v (.int .i64 m0)),.d (.v (.int .i64 r0)),.d (.v (.bool z0)),.d (.lst 1 n0 f0)]]=>some ⟨((n0*16<=140737488351232/\ ∀i,i<n0->f0 i= [st (gT (f0 i))])/\ Sp.inR ⟨s0,l0,h0⟩/\ Cg.inR ⟨b0,m0,r0⟩),.va (.agg [.d (.v (.bool s0)),.d (.v (.int .i64 l0)),.d (.v (.int .i64 h0)),.d (.v (.bool b0)),.d (.v (.int .i64 m0)),.d (.v (.int .i64 r0)),.d (.v (.bool z0)),.d (.lst 1 n0 fun i=> [st (gT (f0 i))])]),[]⟩
 |_=>none
theorem fcVValue:FC Tryz.prog 66 FVValue:=by
 intro xs pre r us h hp;unfold FVValue at h;split at h
 . rename_i s0 l0 h0 b0 m0 r0 z0 n0 f0
   cases h;have hp0:=hp
   refine FCat.of_eq (as':= [.agg [.d (.v (.bool s0)),.d (.v (.int .i64 l0)),.d (.v (.int .i64 h0)),.d (.v (.bool b0)),.d (.v (.int .i64 m0)),.d (.v (.int .i64 r0)),.d (.v (.bool z0)),.d (.lst 1 n0 fun i=> [st (gT (f0 i))])]]) ?_ rfl rfl ?_
   . repeat' (first|exact trivial|exact rfl|refine ⟨?_, ?_⟩|fail)
     all_goals first|exact hp0.2|exact hp1.2|exact hp2.2|(intro i hi;exact (hp0.2 i hi).1)|(intro i hi;exact (hp1.2 i hi).1)|(intro i hi;exact (hp2.2 i hi).1)|grind
   refine fcat tys_ok (l:= []) trivial Tryz.func66 rfl (by kernel_rfl) false ?_
   repeat' (first|exact trivial|refine ⟨?_, ?_⟩|intro _)
   all_goals first|(with_reducible apply qq)|(conv=>whnf)
   all_goals first|exact hp0.2|exact hp0.1.1|exact (hp0.1.2 _ ‹_›)|exact hp0.2.1|exact hp0.2.2|exact hp0.2.1.1.1|exact hp0.2.1.1.2|exact hp0.2.1.2.1|exact hp0.2.1.2.2|exact hp0.2.2.1.1|exact hp0.2.2.1.2|exact hp0.2.2.2.1|exact hp0.2.2.2.2|rfl
 . cases h
def FVReduce:List Ar->Option Rs
 | [.agg [.d (.v (.bool s0)),.d (.v (.int .i64 l0)),.d (.v (.int .i64 h0)),.d (.v (.bool b0)),.d (.v (.int .i64 m0)),.d (.v (.int .i64 r0)),.d (.v (.bool z0)),.d (.lst 1 n0 f0)]]=>some ⟨((n0*16<=140737488351232/\ ∀i,i<n0->f0 i= [st (gT (f0 i))])/\ Sp.inR ⟨s0,l0,h0⟩/\ Cg.inR ⟨b0,m0,r0⟩),.va (Vl.ar (Vl.reduce (⟨⟨⟨s0,l0,h0⟩,⟨b0,m0,r0⟩⟩,⟨z0,gN n0 f0⟩⟩:Vl))),[]⟩
 |_=>none
theorem fcVReduce:FC Tryz.prog 60 FVReduce:=by
 intro xs pre r us h hp;unfold FVReduce at h;split at h
 . rename_i s0 l0 h0 b0 m0 r0 z0 n0 f0
   cases h;have hp0:=hp
   refine FCat.of_eq (as':= [.agg [.d (.v (.bool s0)),.d (.v (.int .i64 l0)),.d (.v (.int .i64 h0)),.d (.v (.bool b0)),.d (.v (.int .i64 m0)),.d (.v (.int .i64 r0)),.d (.v (.bool z0)),.d (.lst 1 n0 fun i=> [st (gT (f0 i))])]]) ?_ rfl rfl ?_
   . repeat' (first|exact trivial|exact rfl|refine ⟨?_, ?_⟩|fail)
     all_goals first|exact hp0.2|exact hp1.2|exact hp2.2|(intro i hi;exact (hp0.2 i hi).1)|(intro i hi;exact (hp1.2 i hi).1)|(intro i hi;exact (hp2.2 i hi).1)|grind
   refine fcat tys_ok (l:= [(62,⟨[],FVOf⟩),(93,⟨[],FVRed⟩),(66,⟨[],FVValue⟩)]) ⟨fcVOf,fcVRed,fcVValue,trivial⟩ Tryz.func60 rfl (by kernel_rfl) true ?_
   have hc:=Ig.clean_inR (i:=⟨⟨s0,l0,h0⟩,⟨b0,m0,r0⟩⟩) hp0.2.1 hp0.2.2
   have hr:=red_inR hc.1 hc.2
   have hd:=clean_red (i:=⟨⟨s0,l0,h0⟩,⟨b0,m0,r0⟩⟩)
   have hm:=ofS_room (f:=f0) hp0.1.1
   repeat' (first|exact trivial|refine ⟨?_, ?_⟩|intro _)
   all_goals first|(with_reducible apply qq)|(conv=>whnf)
   all_goals first|exact hp0.2|exact hp0.1.1|exact (hp0.1.2 _ ‹_›)|exact hp0.2.1|exact hp0.2.2|exact hp0.2.1.1.1|exact hp0.2.1.1.2|exact hp0.2.1.2.1|exact hp0.2.1.2.2|exact hp0.2.2.1.1|exact hp0.2.2.1.2|exact hp0.2.2.2.1|exact hp0.2.2.2.2|rfl|exact hc.1.1.1|exact hc.1.1.2|exact hc.1.2.1|exact hc.1.2.2|exact hc.2.1.1|exact hc.2.1.2|exact hc.2.2.1|exact hc.2.2.2|exact hc.1|exact hc.2|exact hr.1.1.1|exact hr.1.1.2|exact hr.1.2.1|exact hr.1.2.2|exact hr.2.1.1|exact hr.2.1.2|exact hr.2.2.1|exact hr.2.2.2|exact hr.1|exact hr.2|exact hd.1|exact (hd.2 (by assumption)).1|exact (hd.2 (by assumption)).2|exact hd|exact hm|rfl
 . cases h
def FVNum:List Ar->Option Rs
 | [.c (.d (.v (.int .i64 i0)))]=>some ⟨(-9223372036854775808<=i0/\ i0<9223372036854775808),.va (Vl.ar (⟨⟨Sp.of i0 i0,Cg.of 0 i0⟩,⟨false,[]⟩⟩)),[]⟩
 |_=>none
theorem fcVNum:FC Tryz.prog 22 FVNum:=by
 intro xs pre r us h hp;unfold FVNum at h;split at h
 . rename_i i0
   cases h;have hp0:=hp
   refine fcat tys_ok (l:= [(45,⟨[],FSOne⟩),(46,⟨[],FCOne⟩)]) ⟨fcSOne,fcCOne,trivial⟩ Tryz.func22 rfl (by kernel_rfl) false ?_
   repeat' (first|exact trivial|refine ⟨?_, ?_⟩|intro _)
   all_goals first|(with_reducible apply qq)|(conv=>whnf)
   all_goals first|omega|rfl
 . cases h
def FVHasInt:List Ar->Option Rs
 | [.agg [.d (.v (.bool s0)),.d (.v (.int .i64 l0)),.d (.v (.int .i64 h0)),.d (.v (.bool b0)),.d (.v (.int .i64 m0)),.d (.v (.int .i64 r0)),.d (.v (.bool z0)),.d (.lst 1 n0 f0)],.c (.d (.v (.int .i64 i1)))]=>some ⟨((n0*16<=140737488351232/\ ∀i,i<n0->f0 i= [st (gT (f0 i))])/\ Sp.inR ⟨s0,l0,h0⟩/\ Cg.inR ⟨b0,m0,r0⟩)/\ (-9223372036854775808<=i1/\ i1<9223372036854775808),.va (.c (.d (bo (Vl.hasInt (⟨⟨⟨s0,l0,h0⟩,⟨b0,m0,r0⟩⟩,⟨z0,gN n0 f0⟩⟩:Vl) i1)))),[]⟩
 |_=>none
theorem fcVHasInt:FC Tryz.prog 23 FVHasInt:=by
 intro xs pre r us h hp;unfold FVHasInt at h;split at h
 . rename_i s0 l0 h0 b0 m0 r0 z0 n0 f0 i1
   cases h;obtain ⟨hp0,hp1⟩:=hp
   refine FCat.of_eq (as':= [.agg [.d (.v (.bool s0)),.d (.v (.int .i64 l0)),.d (.v (.int .i64 h0)),.d (.v (.bool b0)),.d (.v (.int .i64 m0)),.d (.v (.int .i64 r0)),.d (.v (.bool z0)),.d (.lst 1 n0 fun i=> [st (gT (f0 i))])],.c (.d (.v (.int .i64 i1)))]) ?_ rfl rfl ?_
   . repeat' (first|exact trivial|exact rfl|refine ⟨?_, ?_⟩|fail)
     all_goals first|exact hp0.2|exact hp1.2|exact hp2.2|(intro i hi;exact (hp0.2 i hi).1)|(intro i hi;exact (hp1.2 i hi).1)|(intro i hi;exact (hp2.2 i hi).1)|grind
   refine fcat tys_ok (l:= [(47,⟨[],FSHas⟩),(48,⟨[],FCHas⟩)]) ⟨fcSHas,fcCHas,trivial⟩ Tryz.func23 rfl (by kernel_rfl) false ?_
   repeat' (first|exact trivial|refine ⟨?_, ?_⟩|intro _)
   all_goals first|(with_reducible apply qq)|(conv=>whnf)
   all_goals first|exact hp0.2|exact hp0.1.1|exact (hp0.1.2 _ ‹_›)|exact hp0.2.1|exact hp0.2.2|exact hp0.2.1.1.1|exact hp0.2.1.1.2|exact hp0.2.1.2.1|exact hp0.2.1.2.2|exact hp0.2.2.1.1|exact hp0.2.2.1.2|exact hp0.2.2.2.1|exact hp0.2.2.2.2|rfl|exact hp1|exact hp1.1|exact hp1.2|(unfold Vl.hasInt;simp_all;done)
 . cases h
def FVPtr:List Ar->Option Rs
 | [.agg [.d (.v (.bool b0)),.d (.lst 1 n0 f0)]]=>some ⟨(n0*16<=140737488351232/\ ∀i,i<n0->f0 i= [st (gT (f0 i))]),.va (Vl.ar (⟨Ig.zero,⟨b0,ofS (gN n0 f0)⟩⟩)),[]⟩
 |_=>none
theorem fcVPtr:FC Tryz.prog 79 FVPtr:=by
 intro xs pre r us h hp;unfold FVPtr at h;split at h
 . rename_i b0 n0 f0
   cases h;have hp0:=hp
   refine FCat.of_eq (as':= [.agg [.d (.v (.bool b0)),.d (.lst 1 n0 fun i=> [st (gT (f0 i))])]]) ?_ rfl rfl ?_
   . repeat' (first|exact trivial|exact rfl|refine ⟨?_, ?_⟩|fail)
     all_goals first|exact hp0.2|exact hp1.2|exact hp2.2|(intro i hi;exact (hp0.2 i hi).1)|(intro i hi;exact (hp1.2 i hi).1)|(intro i hi;exact (hp2.2 i hi).1)|grind
   refine fcat tys_ok (l:= [(95,⟨[],FNClean⟩)]) ⟨fcNClean,trivial⟩ Tryz.func79 rfl (by kernel_rfl) true ?_
   repeat' (first|exact trivial|refine ⟨?_, ?_⟩|intro _)
   all_goals first|(with_reducible apply qq)|(conv=>whnf)
   all_goals first|exact hp0.1|rfl
 . cases h
theorem sp_clean_some {s:Sp}:s.clean.some= !s.none:=by
 unfold Sp.clean Sp.none;cases h1:s.some<;>by_cases h:s.lo>s.hi<;>simp [h,h1]
theorem cg_clean_some {c:Cg}:c.clean.some=c.some:=by
 unfold Cg.clean Cg.of Cg.none;cases h:c.some<;>simp
 split<;>rfl
theorem sp_eq4 {s0 s1:Bool} {l0 l1 h0 h1:Int}:(s0==s1&&(l0==l1&&(h0==h1&&true)))=Sp.eq ⟨s0,l0,h0⟩ ⟨s1,l1,h1⟩:=by simp [Sp.eq]
theorem cg_eq4 {s0 s1:Bool} {l0 l1 h0 h1:Int}:(s0==s1&&(l0==l1&&(h0==h1&&true)))=Cg.eq ⟨s0,l0,h0⟩ ⟨s1,l1,h1⟩:=by simp [Cg.eq]
def FRVExact:List Ar->Option Rs
 | [.agg [.d (.v (.bool s0)),.d (.v (.int .i64 l0)),.d (.v (.int .i64 h0)),.d (.v (.bool b0)),.d (.v (.int .i64 m0)),.d (.v (.int .i64 r0)),.d (.v (.bool z0)),.d (.lst 1 n0 f0)],.agg [.d (.v (.bool s1)),.d (.v (.int .i64 l1)),.d (.v (.int .i64 h1)),.d (.v (.bool b1)),.d (.v (.int .i64 m1)),.d (.v (.int .i64 r1)),.d (.v (.bool z1)),.d (.lst 1 n1 f1)]]=>some ⟨((n0*16<=140737488351232/\ ∀i,i<n0->f0 i= [st (gT (f0 i))])/\ Sp.inR ⟨s0,l0,h0⟩/\ Cg.inR ⟨b0,m0,r0⟩)/\ ((n1*16<=140737488351232/\ ∀i,i<n1->f1 i= [st (gT (f1 i))])/\ Sp.inR ⟨s1,l1,h1⟩/\ Cg.inR ⟨b1,m1,r1⟩),.va (.c (.d (bo (Vl.exact (⟨⟨⟨s0,l0,h0⟩,⟨b0,m0,r0⟩⟩,⟨z0,gN n0 f0⟩⟩:Vl) (⟨⟨⟨s1,l1,h1⟩,⟨b1,m1,r1⟩⟩,⟨z1,gN n1 f1⟩⟩:Vl))))),[]⟩
 |_=>none
theorem fcRVExact:FC Tryz.prog 11 FRVExact:=by
 intro xs pre r us h hp;unfold FRVExact at h;split at h
 . rename_i s0 l0 h0 b0 m0 r0 z0 n0 f0 s1 l1 h1 b1 m1 r1 z1 n1 f1
   cases h;obtain ⟨hp0,hp1⟩:=hp
   refine FCat.of_eq (as':= [.agg [.d (.v (.bool s0)),.d (.v (.int .i64 l0)),.d (.v (.int .i64 h0)),.d (.v (.bool b0)),.d (.v (.int .i64 m0)),.d (.v (.int .i64 r0)),.d (.v (.bool z0)),.d (.lst 1 n0 fun i=> [st (gT (f0 i))])],.agg [.d (.v (.bool s1)),.d (.v (.int .i64 l1)),.d (.v (.int .i64 h1)),.d (.v (.bool b1)),.d (.v (.int .i64 m1)),.d (.v (.int .i64 r1)),.d (.v (.bool z1)),.d (.lst 1 n1 fun i=> [st (gT (f1 i))])]]) ?_ rfl rfl ?_
   . repeat' (first|exact trivial|exact rfl|refine ⟨?_, ?_⟩|fail)
     all_goals first|exact hp0.2|exact hp1.2|exact hp2.2|(intro i hi;exact (hp0.2 i hi).1)|(intro i hi;exact (hp1.2 i hi).1)|(intro i hi;exact (hp2.2 i hi).1)|grind
   refine fcat tys_ok (l:= [(24,⟨[],FRExact⟩)]) ⟨fcRExact,trivial⟩ Tryz.func11 rfl (by kernel_rfl) false ?_
   repeat' (first|exact trivial|refine ⟨?_, ?_⟩|intro _)
   all_goals first|(with_reducible apply qq)|(conv=>whnf)
   all_goals first|exact hp0.1.1|exact hp1.1.1|rfl|skip
   all_goals (simp only [sp_eq4 (s0:=s0)] at*;try simp only [cg_eq4 (s0:=b0)] at*)
   all_goals (unfold Vl.exact;dsimp only)
   all_goals first|(simp only [*,gN_canon,Bool.true_and,Bool.false_and,Bool.and_false];done)|(rw [‹Sp.eq _ _=true›,‹Cg.eq _ _=true›,Bool.true_and,Bool.true_and];rfl)
 . cases h
def nilD (sz:Nat):DV->DV
 | .v (.slice none 0 0)=> .lst sz 0 (fun _=> [])
 |x=>x
def nilI (sz:Nat):Ic->Ic
 | .d x=> .d (nilD sz x)
 |x=>x
def nilA (sz:Nat):Ar->Ar
 | .c x=> .c (nilI sz x)
 | .agg xs=> .agg (xs.map (nilI sz))
 |x=>x
def FN (sz:Nat) (F:List Ar->Option Rs) (qs:List Ar):Option Rs:=
 match arsRows qs with
 | []=>match F (qs.map (nilA sz)) with
   |some ⟨p,r,[]⟩=>some ⟨p,r,[]⟩
   |_=>none
 |_=>none
theorem dvEq_refl (x:DV):dvEq x x:=by cases x<;>simp [dvEq]
theorem nilD_eq (sz:Nat) (x:DV):dvEq x (nilD sz x):=by
 unfold nilD;split
 . exact ⟨rfl,rfl⟩
 . exact dvEq_refl x
theorem nilI_eq (sz:Nat) (x:Ic):icEq x (nilI sz x):=by
 cases x with
 |d x=>exact nilD_eq sz x
 |ow a b c=>exact ⟨rfl,rfl,fun _ _=>rfl⟩
theorem nilIs_eq (sz:Nat): ∀xs:List Ic,icsEq xs (xs.map (nilI sz))
 | []=>trivial
 |x::xs=>⟨nilI_eq sz x,nilIs_eq sz xs⟩
theorem nilA_eq (sz:Nat) (x:Ar):arEq x (nilA sz x):=by
 cases x with
 |c x=>exact nilI_eq sz x
 |agg xs=>exact nilIs_eq sz xs
 |rp _=>rfl
 |fv _=>rfl
theorem nilAs_eq (sz:Nat): ∀xs:List Ar,arsEq xs (xs.map (nilA sz))
 | []=>trivial
 |x::xs=>⟨nilA_eq sz x,nilAs_eq sz xs⟩
theorem nil_icRows (sz:Nat): ∀xs:List Ic,icRows (xs.map (nilI sz))=icRows xs
 | []=>rfl
 | .d x::xs=>by simp only [List.map_cons,nilI,icRows];exact nil_icRows sz xs
 | .ow a b c::xs=>by simp only [List.map_cons,nilI,icRows];rw [nil_icRows sz xs]
theorem nil_arRows (sz:Nat) (x:Ar):arRows (nilA sz x)=arRows x:=by
 cases x with
 |c x=>cases x<;>rfl
 |agg xs=>exact nil_icRows sz xs
 |rp _=>rfl
 |fv _=>rfl
theorem nil_arsRows (sz:Nat): ∀xs:List Ar,arsRows (xs.map (nilA sz))=arsRows xs
 | []=>rfl
 |x::xs=>by simp only [List.map_cons,arsRows];rw [nil_arRows,nil_arsRows sz xs]
theorem fc_nil {P:Program} {f:Nat} {F:List Ar->Option Rs} (sz:Nat) (h:FC P f F):FC P f (FN sz F):=by
 intro qs pre r us he hp;unfold FN at he;split at he
 . rename_i h0
   split at he
   . rename_i p r' hF
     cases he;exact FCat.of_eq (nilAs_eq sz qs) h0 (by rw [nil_arsRows];exact h0) (h _ _ _ _ hF hp)
   . cases he
 . cases he
def FVInt:List Ar->Option Rs
 | [.agg [.d (.v (.bool s0)),.d (.v (.int .i64 l0)),.d (.v (.int .i64 h0))],.agg [.d (.v (.bool b1)),.d (.v (.int .i64 m1)),.d (.v (.int .i64 r1))]]=>some ⟨(Sp.inR ⟨s0,l0,h0⟩)/\ (Cg.inR ⟨b1,m1,r1⟩),.va (Vl.ar (Vl.reduce ⟨⟨(⟨s0,l0,h0⟩:Sp),(⟨b1,m1,r1⟩:Cg)⟩,⟨false,[]⟩⟩)),[]⟩
 |_=>none
theorem fcVInt:FC Tryz.prog 31 FVInt:=by
 intro xs pre r us h hp;unfold FVInt at h;split at h
 . rename_i s0 l0 h0 b1 m1 r1
   cases h;obtain ⟨hp0,hp1⟩:=hp
   refine fcat tys_ok (l:= [(60,⟨[],FN 1 FVReduce⟩)]) ⟨fc_nil 1 fcVReduce,trivial⟩ Tryz.func31 rfl (by kernel_rfl) true ?_
   repeat' (first|exact trivial|refine ⟨?_, ?_⟩|intro _)
   all_goals first|(with_reducible apply qq)|(conv=>whnf)
   all_goals first|exact hp0.1.1|exact hp0.1.2|exact hp0.2.1|exact hp0.2.2|exact hp1.1.1|exact hp1.1.2|exact hp1.2.1|exact hp1.2.2|exact hp0|exact hp1|exact Nat.zero_le _|rfl|(intro _ h;exact absurd h (Nat.not_lt_zero _))|(exact absurd ‹_<0› (Nat.not_lt_zero _))
 . cases h
theorem clean_live {i:Ig} (h:i.clean.s.some=true):i.clean.c.some=true/\ i.clean.s.lo<=i.clean.s.hi:=by
 unfold Ig.clean at*
 split at h
 . simp [Ig.zero] at h
 . rename_i hn
   rw [if_neg hn];rw [sp_clean_some] at h;rw [cg_clean_some];unfold Ig.none at hn;have hs:i.s.none=false:=by simpa using h
   have hcs:i.c.some=true:=by simpa [hs] using hn
   have e:i.s.clean=i.s:=by unfold Sp.clean;rw [hs];rfl
   refine ⟨hcs, ?_⟩
   dsimp only;rw [e];unfold Sp.none at hs;simp at hs
   omega
theorem clean_dead {i:Ig} (h:i.clean.s.some=false):i.clean=Ig.zero:=by
 unfold Ig.clean at*
 split at h
 . rename_i hn;rw [if_pos hn]
 . rename_i hn
   rw [sp_clean_some] at h;unfold Ig.none at hn
   simp_all
theorem rd_has {S:Bool} {L H R:Int} (hS:S=true):Sp.has ⟨S,L,H⟩ R=(decide (R≥L)&&decide (R<=H)):=by unfold Sp.has;simp [hS]
theorem rd_nn {S B:Bool} {L H M R:Int} (hS:S=true) (hl:S=true->B=true/\ L<=H):Ig.none ⟨⟨S,L,H⟩,⟨B,M,R⟩⟩=false:=by
 have:=hl hS
 unfold Ig.none Sp.none;simp_all
theorem rd_2 {S B:Bool} {L H M R:Int} (hS:S=true) (hM:M=0) (h:Sp.has ⟨S,L,H⟩ R=false):Ig.red ⟨⟨S,L,H⟩,⟨B,M,R⟩⟩=Ig.zero:=by
 rw [rd_has hS] at h;unfold Ig.red;split
 . rfl
 . rw [if_pos];have h1:=upV_0 (n:=L) (r:=R) (b:=B) hM
   have h2:=upV_0 (n:=H) (r:=R) (b:=B) hM
   rw [h1.2.1,h2.2.2.2,h1.1,h2.2.2.1];simp only [Bool.and_eq_false_iff,decide_eq_false_iff_not] at h;simp;omega
theorem rd_3 {S B:Bool} {L H M R:Int} (hS:S=true) (hl:S=true->B=true/\ L<=H) (hM:M=0) (h:Sp.has ⟨S,L,H⟩ R=true):Ig.red ⟨⟨S,L,H⟩,⟨B,M,R⟩⟩=⟨Sp.of R R,⟨true,0,R⟩⟩:=by
 rw [rd_has hS] at h;unfold Ig.red;have h1:=upV_0 (n:=L) (r:=R) (b:=B) hM
 have h2:=upV_0 (n:=H) (r:=R) (b:=B) hM
 rw [rd_nn hS hl,h1.2.1,h2.2.2.2,h1.1,h2.2.2.1];simp only [Bool.and_eq_true,decide_eq_true_eq] at h;simp [h.1,h.2,Cg.of,md]
theorem rd_4 {S B:Bool} {L H M R:Int} (hM: ¬M=0) (h:((!wIntB (upW L ⟨B,M,R⟩)|| !wIntB (dnW H ⟨B,M,R⟩))||decide (wIntV (upW L ⟨B,M,R⟩)>wIntV (dnW H ⟨B,M,R⟩)))=true):Ig.red ⟨⟨S,L,H⟩,⟨B,M,R⟩⟩=Ig.zero:=by
 unfold Ig.red;have h1:=upV_1 (n:=L) (r:=R) (b:=B) hM
 have h2:=upV_1 (n:=H) (r:=R) (b:=B) hM
 rw [h1.2.1,h2.2.2.2,h1.1,h2.2.2.1];rw [if_pos (c:=_=true) h];split<;>rfl
theorem rd_5 {S B:Bool} {L H M R:Int} (hS:S=true) (hl:S=true->B=true/\ L<=H) (hM: ¬M=0) (h:((!wIntB (upW L ⟨B,M,R⟩)|| !wIntB (dnW H ⟨B,M,R⟩))||decide (wIntV (upW L ⟨B,M,R⟩)>wIntV (dnW H ⟨B,M,R⟩)))=false):
 Ig.red ⟨⟨S,L,H⟩,⟨B,M,R⟩⟩=if wIntV (upW L ⟨B,M,R⟩)=wIntV (dnW H ⟨B,M,R⟩) then ⟨Sp.of (wIntV (upW L ⟨B,M,R⟩)) (wIntV (upW L ⟨B,M,R⟩)),⟨true,0,wIntV (upW L ⟨B,M,R⟩)⟩⟩ else ⟨Sp.of (wIntV (upW L ⟨B,M,R⟩)) (wIntV (dnW H ⟨B,M,R⟩)),⟨B,M,R⟩⟩:=by
 unfold Ig.red;have h1:=upV_1 (n:=L) (r:=R) (b:=B) hM
 have h2:=upV_1 (n:=H) (r:=R) (b:=B) hM
 rw [rd_nn hS hl,h1.2.1,h2.2.2.2,h1.1,h2.2.2.1,h];rw [if_neg (by decide),if_neg (by decide)];split
 . simp [Cg.of,md]
 . rfl
theorem rd_4a {S B:Bool} {L H M R:Int} (hM: ¬M=0) (h:(!wIntB (upW L ⟨B,M,R⟩))=true):Ig.red ⟨⟨S,L,H⟩,⟨B,M,R⟩⟩=Ig.zero:=rd_4 hM (by rw [h];rfl)
theorem rd_4b {S B:Bool} {L H M R:Int} (hM: ¬M=0) (h:(!wIntB (dnW H ⟨B,M,R⟩))=true):Ig.red ⟨⟨S,L,H⟩,⟨B,M,R⟩⟩=Ig.zero:=rd_4 hM (by rw [h];simp)
theorem rd_4c {S B:Bool} {L H M R:Int} (hM: ¬M=0) (h:decide (wIntV (upW L ⟨B,M,R⟩)>wIntV (dnW H ⟨B,M,R⟩))=true):Ig.red ⟨⟨S,L,H⟩,⟨B,M,R⟩⟩=Ig.zero:=rd_4 hM (by rw [h];simp)
open Go.Lib Go.Sort
abbrev kS (s:ByteArray):List UInt8:=s.data.toList
theorem kS_inj {a b:ByteArray} (h:kS a=kS b):a=b:=by
 have:a.data=b.data:=Array.ext' h
 cases a;cases b;simp_all
theorem kS_tl (s:ByteArray):s.toList=kS s:=ByteArray.toList_eq s
theorem slt_eq (a b:ByteArray):slt a b=decide (kS a<kS b):=by unfold slt;rw [bytesLess_eq,kS_tl,kS_tl]
theorem sle_eq (a b:ByteArray):sle a b=(decide (kS a<kS b)||decide (a=b)):=by unfold sle;rw [bytesLess_eq,seq_iff,kS_tl,kS_tl]
def Srt (l:List ByteArray):Prop:=l.Pairwise fun a b=>kS a<kS b
def insS (x:ByteArray):List ByteArray->List ByteArray
 | []=> [x]
 |y::ys=>if kS x<kS y then x::y::ys else if x=y then y::ys else y::insS x ys
theorem foldl_in (x:ByteArray) (l:List ByteArray): ∀out,l.foldl (stepP x) (out,true)=(out++l,true):=by
 induction l with
 |nil=>intro out;simp
 |cons y ys ih=>intro out;rw [List.foldl_cons,stepP_in,ih];simp
theorem foldl_put (x:ByteArray) (l:List ByteArray): ∀out,(if (l.foldl (stepP x) (out,false)).2 then (l.foldl (stepP x) (out,false)).1 else (l.foldl (stepP x) (out,false)).1++ [x])=out++insS x l:=by
 induction l with
 |nil=>intro out;simp [insS]
 |cons y ys ih=>
  intro out;rw [List.foldl_cons];unfold insS;by_cases h1:kS x<kS y
  . rw [if_pos h1,stepP_lt (by rw [sle_eq];simp [h1]) (by rw [slt_eq];simp [h1]),foldl_in];simp
  . rw [if_neg h1];by_cases h2:x=y
    . rw [if_pos h2,stepP_eq (by rw [sle_eq];simp [h2]) (by rw [slt_eq];simp [h1]),foldl_in];simp
    . rw [if_neg h2,stepP_gt (by rw [sle_eq];simp [h1,h2]),ih];simp
theorem putS_ins (l:List ByteArray) (x:ByteArray):putS l x=insS x l:=by
 have:=foldl_put x l []
 rw [List.nil_append] at this;rw [<-this];rfl
theorem mem_ins {x z:ByteArray} {l:List ByteArray}:z∈insS x l↔z=x \/z∈l:=by
 induction l with
 |nil=>simp [insS]
 |cons y ys ih=>
  unfold insS;split
  . simp
  . split
    . rename_i h;subst h;simp
    . simp only [List.mem_cons,ih];constructor
      . rintro (h|h|h)<;>simp [h]
      . rintro (h|h|h)<;>simp [h]
theorem kS_tri {a b:ByteArray} (h1: ¬kS a<kS b) (h2: ¬a=b):kS b<kS a:=by
 rcases Decidable.em (kS b<kS a) with h|h
 . exact h
 . exact absurd (kS_inj (List.le_antisymm (List.not_lt.1 h) (List.not_lt.1 h1))) h2
theorem srt_ins {x:ByteArray} {l:List ByteArray} (h:Srt l):Srt (insS x l):=by
 induction l with
 |nil=>simp [insS,Srt]
 |cons y ys ih=>
  unfold Srt at h ih⊢
  rw [List.pairwise_cons] at h;unfold insS;split
  . rename_i hx
    rw [List.pairwise_cons,List.pairwise_cons];refine ⟨fun a ha=> ?_,h⟩
    rcases List.mem_cons.1 ha with rfl|ha
    . exact hx
    . exact List.lt_trans hx (h.1 a ha)
  . split
    . rw [List.pairwise_cons];exact h
    . rename_i h1 h2
      rw [List.pairwise_cons];refine ⟨fun a ha=> ?_,ih h.2⟩
      rcases mem_ins.1 ha with rfl|ha
      . exact kS_tri h1 h2
      . exact h.1 a ha
theorem cleanS_fold (l:List ByteArray): ∀s,Srt s->Srt (l.foldl putS s)/\ ∀z,z∈l.foldl putS s↔z∈s \/z∈l:=by
 induction l with
 |nil=>intro s h;exact ⟨h,fun z=>by simp⟩
 |cons x l ih=>
  intro s h;rw [List.foldl_cons,putS_ins];obtain ⟨h1,h2⟩:=ih _ (srt_ins (x:=x) h)
  refine ⟨h1,fun z=> ?_⟩
  rw [h2,mem_ins];simp only [List.mem_cons];constructor
  . rintro ((h|h)|h)<;>simp [h]
  . rintro (h|h|h)<;>simp [h]
theorem srt_nil:Srt []:=by simp [Srt]
theorem cleanS_srt (l:List ByteArray):Srt (cleanS l):=(cleanS_fold l [] srt_nil).1
theorem cleanS_mem {l:List ByteArray} {z:ByteArray}:z∈cleanS l↔z∈l:=by
 have:=(cleanS_fold l [] srt_nil).2 z
 simpa [cleanS] using this
theorem srt_ext: ∀{l m:List ByteArray},Srt l->Srt m->(∀z,z∈l↔z∈m)->l=m
 | [],[],_,_,_=>rfl
 | [],y::m,_,_,h=>absurd ((h y).2 (by simp)) (by simp)
 |x::l,[],_,_,h=>absurd ((h x).1 (by simp)) (by simp)
 |x::l,y::m,h1,h2,h=>by
  unfold Srt at h1 h2;rw [List.pairwise_cons] at h1 h2;have hxy:x=y:=by
   rcases List.mem_cons.1 ((h x).1 (by simp)) with e|e
   . exact e
   . rcases List.mem_cons.1 ((h y).2 (by simp)) with e'|e'
     . exact e'.symm
     . exact absurd (List.lt_trans (h1.1 y e') (h2.1 x e)) (List.lt_irrefl _)
  subst hxy
  congr 1
  refine srt_ext h1.2 h2.2 fun z=> ?_
  have hz:=h z
  simp only [List.mem_cons] at hz;constructor
  . intro hl;rcases hz.1 (.inr hl) with e|e
    . subst e;exact absurd (h1.1 z hl) (List.lt_irrefl _)
    . exact e
  . intro hm;rcases hz.2 (.inr hm) with e|e
    . subst e;exact absurd (h2.1 z hm) (List.lt_irrefl _)
    . exact e
theorem compact_law {xs:List (List UInt8)} (hs:xs.Pairwise fun a b=> ¬b<a): ∀n,n<=xs.length->
 ((compactUpTo xs.toArray n).Pairwise fun a b=>a<b)/\ (∀z,z∈compactUpTo xs.toArray n↔z∈xs.take n):=by
 intro n
 induction n with
 |zero=>intro _;simp [compactUpTo]
 |succ n ih=>
  intro hn;obtain ⟨h1,h2⟩:=ih (by omega)
  have hlt:n<xs.length:=by omega
  have hget:(xs.toArray)[n]! =xs[n]:=by simp [hlt]
  rw [compactUpTo_succ,hget];have htake: ∀z,z∈xs.take (n+1)↔z∈xs.take n \/z=xs[n]:=by
   intro z;rw [List.take_succ_eq_append_getElem hlt,List.mem_append,List.mem_singleton]
  have hle: ∀z,z∈xs.take n-> ¬xs[n]<z:=by
   intro z hz;obtain ⟨i,hi,rfl⟩:=List.mem_take_iff_getElem.1 hz
   exact List.pairwise_iff_getElem.1 hs i n (by omega) hlt (by omega)
  by_cases hk:keeps xs.toArray n=true
  . rw [if_pos hk];refine ⟨?_,fun z=> ?_⟩
    . rw [List.pairwise_append];refine ⟨h1,by simp,fun a ha b hb=> ?_⟩
      simp only [List.mem_singleton] at hb;subst hb;have ha:=(h2 a).1 ha
      have h3:=hle a ha
      rcases Decidable.em (a<xs[n]) with h|h
      . exact h
      . exfalso
        have he:a=xs[n]:=List.le_antisymm (List.not_lt.1 h3) (List.not_lt.1 h)
        unfold keeps at hk;rcases Nat.eq_zero_or_pos n with h0|h0
        . subst h0;simp at ha
        . have hp:(xs.toArray)[n-1]! =xs[n-1]'(by omega):=by
           rw [getElem!_pos _ _ (by simp;omega)];simp
          rw [hget,hp] at hk;have hne: ¬xs[n]=xs[n-1]'(by omega):=by
           intro e;simp [e] at hk
           omega
          obtain ⟨i,hi,rfl⟩:=List.mem_take_iff_getElem.1 ha
          rcases Nat.lt_or_ge i (n-1) with h4|h4
          . have q1:=List.pairwise_iff_getElem.1 hs i (n-1) (by omega) (by omega) (by omega)
            have q2:=List.pairwise_iff_getElem.1 hs (n-1) n (by omega) hlt (by omega)
            rw [he] at q1;exact hne (List.le_antisymm (List.not_lt.1 q1) (List.not_lt.1 q2))
          . have:i=n-1:=by omega
            subst this;exact hne he.symm
    . rw [List.mem_append,h2,htake];simp
  . rw [if_neg hk,List.append_nil];refine ⟨h1,fun z=> ?_⟩
    rw [h2,htake];constructor
    . exact .inl
    . rintro (h|h)
      . exact h
      . subst h;unfold keeps at hk;rcases Nat.eq_zero_or_pos n with h0|h0
        . subst h0;simp at hk
        . have hp:(xs.toArray)[n-1]! =xs[n-1]'(by omega):=by
           rw [getElem!_pos _ _ (by simp;omega)];simp
          rw [hget,hp] at hk;have he:xs[n]=xs[n-1]'(by omega):=by
           simp at hk
           exact hk.2
          rw [he];exact List.mem_take_iff_getElem.2 ⟨n-1,by omega,rfl⟩
theorem bS_kS (s:ByteArray):bS (kS s)=s:=by unfold bS kS;cases s;rfl
theorem kS_bS (l:List UInt8):kS (bS l)=l:=by unfold bS kS;simp
theorem map_kb (l:List (List UInt8)):(l.map bS).map (fun s=>s.data.toList)=l:=by
 rw [List.map_map];have:(fun s:ByteArray=>s.data.toList)∘bS=id:=by funext x;exact kS_bS x
 rw [this,List.map_id]
theorem ofS_eq (l:List ByteArray):ofS l=cleanS l:=by
 have hs:(sortL l).Pairwise fun a b=> ¬b<a:=by
  have:=List.pairwise_mergeSort (le:=fun x y:List UInt8=> !(ltOf cfL) y x) (fun a b c h1 h2=>by
   rw [ltOf_cfL] at*
   simp only [Bool.not_eq_true',decide_eq_false_iff_not,List.not_lt] at*
   exact List.le_trans h1 h2) (fun a b=>by
   rw [ltOf_cfL,ltOf_cfL];simp only [Bool.or_eq_true,Bool.not_eq_true',decide_eq_false_iff_not,List.not_lt];exact List.le_total a b) (l.map fun s=>s.data.toList)
  refine this.imp fun {a b} h=> ?_
  rw [ltOf_cfL] at h
  simpa using h
 have hc:=compact_law hs (sortL l).length (Nat.le_refl _)
 rw [List.take_length] at hc;have he:compL ((sortL l).map bS)=compactUpTo (sortL l).toArray (sortL l).length:=by
  unfold compL;rw [map_kb];rfl
 refine srt_ext ?_ (cleanS_srt l) fun z=> ?_
 . unfold ofS Srt;rw [List.pairwise_map,he];exact hc.1.imp fun h=>by rw [kS_bS,kS_bS];exact h
 . rw [cleanS_mem];unfold ofS;rw [List.mem_map,he];constructor
   . rintro ⟨x,hx,rfl⟩
     rw [hc.2] at hx;have hx:x∈l.map fun s=>s.data.toList:=List.mem_mergeSort.1 hx
     obtain ⟨s,hs,rfl⟩:=List.mem_map.1 hx
     rw [show bS s.data.toList=s from bS_kS s];exact hs
   . intro hz;refine ⟨kS z, ?_,bS_kS z⟩
     rw [hc.2];exact List.mem_mergeSort.2 (List.mem_map.2 ⟨z,hz,rfl⟩)
theorem cleanS_fix {l:List ByteArray} (h:Srt l):cleanS l=l:=srt_ext (cleanS_srt l) h fun _=>cleanS_mem
theorem cleanS_idem (l:List ByteArray):cleanS (cleanS l)=cleanS l:=cleanS_fix (cleanS_srt l)
theorem subS_iff {l m:List ByteArray}:subS l m=true↔ ∀z,z∈l->z∈m:=by
 unfold subS;rw [List.all_eq_true];exact ⟨fun h z hz=>memS_iff.1 (h z hz),fun h z hz=>memS_iff.2 (h z hz)⟩
end Go.Proofs.YtokjghkehojenaaGreat
namespace Go.Proofs.YtokjghkehojenaaGreat
open Go.Sx
theorem of_rclean (v:Vl):v.of=v.rclean:=by unfold Vl.of Vl.rclean;rw [ofS_eq]
theorem reduce_eq (v:Vl):v.reduce=v.rreduce:=by unfold Vl.reduce Vl.rreduce;rw [of_rclean]
theorem sp_eq_refl (a:Sp):Sp.eq a a=true:=by simp [Sp.eq]
theorem cg_eq_refl (a:Cg):Cg.eq a a=true:=by simp [Cg.eq]
theorem exact_refl (v:Vl):v.exact v=true:=by unfold Vl.exact;simp [sp_eq_refl,cg_eq_refl]
def Ig.tidy (i:Ig):Prop:=i=Ig.zero \/((i.s.some=true/\ i.c.some=true)/\ i.s.lo<=i.s.hi/\ i.c.red)
theorem clean_tidy (i:Ig):i.clean.tidy:=by
 cases h:i.clean.s.some with
 |false=>exact .inl (clean_dead h)
 |true=>exact .inr ⟨⟨h,(clean_live h).1⟩,(clean_live h).2,clean_red⟩
theorem cg_fix {c:Cg} (h:c.some=true) (hr:c.red):c.clean=c:=by
 obtain ⟨b,m,r⟩:=c
 unfold Cg.clean Cg.of md;unfold Cg.red at hr;dsimp only at*
 subst h;rw [if_pos rfl,if_neg (by omega)];split
 . rfl
 . have:=hr.2 (by omega)
   rw [Int.emod_eq_of_lt this.1 this.2]
theorem tidy_fix {i:Ig} (h:i.tidy):i.clean=i:=by
 rcases h with rfl|⟨⟨h1,h2⟩,h3,h4⟩
 . rfl
 . obtain ⟨⟨s,l,h⟩,c⟩:=i
   dsimp only at*
   subst h1;have hn:Sp.none ⟨true,l,h⟩=false:=by unfold Sp.none;simp;omega
   unfold Ig.clean Ig.none;dsimp only;rw [hn,h2];rw [cg_fix h2 h4];unfold Sp.clean;rw [hn];rfl
theorem of_le {a b:Int} (h:a<=b):Sp.of a b=⟨true,a,b⟩:=by unfold Sp.of;rw [if_neg (by omega)]
theorem up_facts {n m r:Int} (h:0<m):0<=(r-n)%m/\ (r-n)%m<m/\ (n+(r-n)%m-r)%m=0:=by
 refine ⟨Int.emod_nonneg _ (by omega),Int.emod_lt_of_pos _ h, ?_⟩
 have h1:n+(r-n)%m-r=(r-n)%m-(r-n):=by omega
 rw [h1];have h2:=Int.emod_add_mul_ediv (r-n) m
 have h3:(r-n)%m-(r-n)=m*(-((r-n)/m)):=by rw [Int.mul_neg];omega
 rw [h3,Int.mul_emod_right]
theorem md_eq0 {n m r:Int} (hm:0<m) (h0:0<=r) (h1:r<m):md n m=r↔(n-r)%m=0:=by
 unfold md;rw [if_neg (by omega)];have h2:=Int.emod_nonneg n (show m≠0 by omega)
 have h3:=Int.emod_lt_of_pos n hm
 have h4:=Int.emod_add_mul_ediv n m
 have h5:=Int.emod_add_mul_ediv (n-r) m
 have h6:=Int.emod_nonneg (n-r) (show m≠0 by omega)
 have h7:=Int.emod_lt_of_pos (n-r) hm
 constructor
 . intro h;have:n-r=m*(n/m):=by omega
   rw [this,Int.mul_emod_right]
 . intro h;have:n=r+m*((n-r)/m):=by omega
   rw [this,Int.add_mul_emod_self_left,Int.emod_eq_of_lt h0 h1]
def Cg.on (c:Cg) (n:Int):Prop:=md n c.m=c.r
instance (c:Cg) (n:Int):Decidable (c.on n):=inferInstanceAs (Decidable (md n c.m=c.r))
theorem has_on {c:Cg} (h:c.some=true) (hr:c.red) (n:Int):c.has n=decide (c.on n):=by
 unfold Cg.has Cg.on;rw [cg_fix h hr,h];rfl
theorem wIn {n:Int} (h: -9223372036854775808<=n/\ n<9223372036854775808):wIntV n=n/\ wIntB n=true:=by unfold wIntV wIntB;simp [h]
theorem wOut {n:Int} (h: ¬(-9223372036854775808<=n/\ n<9223372036854775808)):wIntB n=false:=by unfold wIntB;simp [h]
theorem modge {a m:Int} (hm:0<m) (ha:0<=a):a%m<=a:=by
 have h4:=Int.emod_add_mul_ediv a m
 have h5:0<=m*(a/m):=Int.mul_nonneg (by omega) (Int.ediv_nonneg ha (by omega))
 omega
theorem emod_of_sub {a b m:Int} (h:(a-b)%m=0):a%m=b%m:=by
 have h4:=Int.emod_add_mul_ediv (a-b) m
 rw [h] at h4;have:a=b+m*((a-b)/m):=by omega
 rw [this,Int.add_mul_emod_self_left]
theorem red_cases {L H M R:Int} (hl:L<=H) (hr:Cg.red ⟨true,M,R⟩) (hs:Sp.inR ⟨true,L,H⟩) (hc:Cg.inR ⟨true,M,R⟩):
 (Ig.red ⟨⟨true,L,H⟩,⟨true,M,R⟩⟩=Ig.zero/\ ∀n, -9223372036854775808<=n->n<9223372036854775808->L<=n->n<=H-> ¬Cg.on ⟨true,M,R⟩ n) \/
 ∃x y,(L<=x/\ x<=y/\ y<=H)/\ (Cg.on ⟨true,M,R⟩ x/\ Cg.on ⟨true,M,R⟩ y)/\ (∀n,L<=n->n<=H->Cg.on ⟨true,M,R⟩ n->x<=n/\ n<=y)/\ (x≠y->0<M)/\
  Ig.red ⟨⟨true,L,H⟩,⟨true,M,R⟩⟩=if x=y then ⟨⟨true,x,x⟩,⟨true,0,x⟩⟩ else ⟨⟨true,x,y⟩,⟨true,M,R⟩⟩:=by
 unfold Sp.inR at hs;dsimp only at hs
 by_cases hM:M=0
 . subst hM;have hon: ∀n,Cg.on ⟨true,0,R⟩ n↔n=R:=by intro n;unfold Cg.on md;simp
   by_cases h:L<=R/\ R<=H
   . refine .inr ⟨R,R,⟨h.1,Int.le_refl _,h.2⟩,⟨(hon R).2 rfl,(hon R).2 rfl⟩,fun n _ _ h=> ?_,fun h=>absurd rfl h, ?_⟩
     . rw [hon] at h;omega
     . rw [rd_3 rfl (fun _=>⟨rfl,hl⟩) rfl (by rw [rd_has rfl];simp;omega),if_pos rfl,of_le (Int.le_refl _)]
   . refine .inl ⟨rd_2 rfl rfl (by rw [rd_has rfl];simp;omega),fun n _ _ h1 h2 h3=> ?_⟩
     rw [hon] at h3;omega
 . have hm:0<M:=by unfold Cg.red at hr;dsimp only at hr;omega
   have hR:=hr.2 hm
   dsimp only at hR
   have hon: ∀n,Cg.on ⟨true,M,R⟩ n↔(n-R)%M=0:=fun n=>md_eq0 hm hR.1 hR.2
   have u:=up_facts (n:=L) (r:=R) hm
   have hx:(upW L ⟨true,M,R⟩-R)%M=0:=u.2.2
   have hxL:L<=upW L ⟨true,M,R⟩:=by unfold upW;dsimp only;omega
   have d1:=Int.emod_nonneg (H-R) (show M≠0 by omega)
   have hy:(dnW H ⟨true,M,R⟩-R)%M=0:=by
    unfold dnW;dsimp only
    have h2:=Int.emod_add_mul_ediv (H-R) M
    have h3:H-(H-R)%M-R=M*((H-R)/M):=by omega
    rw [h3,Int.mul_emod_right]
   have hyH:dnW H ⟨true,M,R⟩<=H:=by unfold dnW;dsimp only;omega
   have hlow: ∀n,L<=n->Cg.on ⟨true,M,R⟩ n->upW L ⟨true,M,R⟩<=n:=by
    intro n h1 h2;rw [hon] at h2;have e:=emod_of_sub (a:=R-L) (b:=n-L) (m:=M) (by
     have:R-L-(n-L)= -(n-R):=by omega
     rw [this];exact Int.emod_eq_zero_of_dvd (Int.dvd_neg.2 (Int.dvd_of_emod_eq_zero h2)))
    have:=modge (a:=n-L) hm (by omega)
    unfold upW;dsimp only;omega
   have hhigh: ∀n,n<=H->Cg.on ⟨true,M,R⟩ n->n<=dnW H ⟨true,M,R⟩:=by
    intro n h1 h2;rw [hon] at h2;have e:=emod_of_sub (a:=H-R) (b:=H-n) (m:=M) (by
     have:H-R-(H-n)=n-R:=by omega
     rw [this,h2])
    have:=modge (a:=H-n) hm (by omega)
    unfold dnW;dsimp only;omega
   generalize hX:upW L ⟨true,M,R⟩=x at*
   generalize hY:dnW H ⟨true,M,R⟩=y at*
   by_cases hxr:x<9223372036854775808
   . by_cases hyr: -9223372036854775808<=y
     . have wx:=wIn (n:=x) ⟨by omega,hxr⟩
       have wy:=wIn (n:=y) ⟨hyr,by omega⟩
       by_cases hxy:x<=y
       . refine .inr ⟨x,y,⟨hxL,hxy,hyH⟩,⟨(hon x).2 hx,(hon y).2 hy⟩,fun n h1 h2 h3=>⟨hlow n h1 h3,hhigh n h2 h3⟩,fun _=>hm, ?_⟩
         rw [rd_5 rfl (fun _=>⟨rfl,hl⟩) hM (by rw [hX,hY,wx.1,wx.2,wy.1,wy.2];simp;omega),hX,hY,wx.1,wy.1];split
         . rw [of_le (Int.le_refl _)]
         . rw [of_le hxy]
       . refine .inl ⟨rd_4c hM (by rw [hX,hY,wx.1,wy.1];simp;omega),fun n _ _ h1 h2 h3=> ?_⟩
         have:=hlow n h1 h3
         have:=hhigh n h2 h3
         omega
     . refine .inl ⟨rd_4b hM (by rw [hY,wOut (by omega)];rfl),fun n h0 _ h1 h2 h3=> ?_⟩
       have:=hhigh n h2 h3
       omega
   . refine .inl ⟨rd_4a hM (by rw [hX,wOut (by omega)];rfl),fun n _ h0 h1 h2 h3=> ?_⟩
     have:=hlow n h1 h3
     omega
theorem red_one (x:Int):Ig.red ⟨⟨true,x,x⟩,⟨true,0,x⟩⟩=⟨⟨true,x,x⟩,⟨true,0,x⟩⟩:=by
 rw [rd_3 rfl (fun _=>⟨rfl,Int.le_refl _⟩) rfl (by rw [rd_has rfl];simp),of_le (Int.le_refl _)]
theorem up_on {n m r:Int} {b:Bool} (hm:0<m) (hr:Cg.red ⟨b,m,r⟩) (h:Cg.on ⟨b,m,r⟩ n):upW n ⟨b,m,r⟩=n/\ dnW n ⟨b,m,r⟩=n:=by
 have hR:=hr.2 hm
 dsimp only at hR
 have h1:(n-r)%m=0:=(md_eq0 hm hR.1 hR.2).1 h
 have h2:(r-n)%m=0:=by
  have:r-n= -(n-r):=by omega
  rw [this];exact Int.emod_eq_zero_of_dvd (Int.dvd_neg.2 (Int.dvd_of_emod_eq_zero h1))
 unfold upW dnW;dsimp only;rw [h1,h2];omega
theorem red_two {x y M R:Int} (hx: -9223372036854775808<=x) (hy:y<9223372036854775808) (hxy:x<y) (hM:0<M) (hr:Cg.red ⟨true,M,R⟩) (h1:Cg.on ⟨true,M,R⟩ x) (h2:Cg.on ⟨true,M,R⟩ y):Ig.red ⟨⟨true,x,y⟩,⟨true,M,R⟩⟩=⟨⟨true,x,y⟩,⟨true,M,R⟩⟩:=by
 have e1:=(up_on hM hr h1).1
 have e2:=(up_on hM hr h2).2
 have wx:=wIn (n:=x) ⟨hx,by omega⟩
 have wy:=wIn (n:=y) ⟨by omega,hy⟩
 rw [rd_5 rfl (fun _=>⟨rfl,by omega⟩) (by omega) (by rw [e1,e2,wx.1,wx.2,wy.1,wy.2];simp;omega),e1,e2,wx.1,wy.1,if_neg (by omega),of_le (by omega)]
theorem zero_tidy:Ig.zero.tidy:= .inl rfl
theorem one_red (x:Int):Cg.red ⟨true,0,x⟩:=by unfold Cg.red;dsimp only;omega
theorem red_law {i:Ig} (ht:i.tidy) (hs:i.s.inR) (hc:i.c.inR):
 i.red.tidy/\ i.red.red=i.red/\ i.red.leq i=true/\ ∀n, -9223372036854775808<=n->n<9223372036854775808->(i.red.s.has n&&i.red.c.has n)=(i.s.has n&&i.c.has n):=by
 rcases ht with rfl|⟨⟨h1,h2⟩,h3,h4⟩
 . exact ⟨zero_tidy,rfl,by decide,fun _ _ _=>rfl⟩
 . obtain ⟨⟨s,L,H⟩,⟨b,M,R⟩⟩:=i
   dsimp only at*
   subst h1;subst h2
   have hfix:=cg_fix (c:=⟨true,M,R⟩) rfl h4
   have hh: ∀n,(Sp.has ⟨true,L,H⟩ n&&Cg.has ⟨true,M,R⟩ n)=decide ((L<=n/\ n<=H)/\ Cg.on ⟨true,M,R⟩ n):=by
    intro n;rw [has_on rfl h4];unfold Sp.has;simp [Bool.and_assoc]
   rcases red_cases h3 h4 hs hc with ⟨e,hn⟩|⟨x,y,⟨k1,k2,k3⟩,⟨o1,o2⟩,hb,hm,e⟩
   . rw [e];refine ⟨zero_tidy,rfl,by unfold Ig.leq;rfl,fun n n0 n1=> ?_⟩
     rw [hh];have: ¬((L<=n/\ n<=H)/\ Cg.on ⟨true,M,R⟩ n):=fun h=>hn n n0 n1 h.1.1 h.1.2 h.2
     rw [decide_eq_false this];rfl
   . unfold Sp.inR at hs;dsimp only at hs
     have hleq: ∀a:Int,Sp.has ⟨true,L,H⟩ a=decide (L<=a/\ a<=H):=by intro a;unfold Sp.has;simp
     by_cases hxy:x=y
     . rw [if_pos hxy] at e;rw [e];refine ⟨.inr ⟨⟨rfl,rfl⟩,Int.le_refl _,one_red x⟩,red_one x, ?_,fun n n0 n1=> ?_⟩
       . unfold Ig.leq Sp.leq Cg.leq;dsimp only;rw [hleq,cg_fix rfl (one_red x),hfix];have h0:Cg.has ⟨true,M,R⟩ x=true:=by rw [has_on rfl h4];exact decide_eq_true o1
         have hf:Cg.factor M 0=true:=by unfold Cg.factor;split<;>simp
         rw [h0,hf];simp;omega
       . rw [hh];have h5:(Sp.has ⟨true,x,x⟩ n&&Cg.has ⟨true,0,x⟩ n)=decide (n=x):=by
          rw [has_on rfl (one_red x)];unfold Sp.has Cg.on md;rw [Bool.eq_iff_iff];simp
          omega
         rw [h5];rw [decide_eq_decide];constructor
         . rintro rfl;exact ⟨⟨k1,by omega⟩,o1⟩
         . rintro ⟨⟨q1,q2⟩,q3⟩
           have:=hb n q1 q2 q3
           omega
     . have hm:=hm hxy
       rw [if_neg hxy] at e;rw [e];refine ⟨.inr ⟨⟨rfl,rfl⟩,k2,h4⟩,red_two (by omega) (by omega) (by omega) hm h4 o1 o2, ?_,fun n n0 n1=> ?_⟩
       . unfold Ig.leq Sp.leq Cg.leq;dsimp only;rw [hleq,hleq,hfix];have h0:Cg.has ⟨true,M,R⟩ R=true:=by
          rw [has_on rfl h4];refine decide_eq_true ?_
          unfold Cg.on md;dsimp only;have:=h4.2 hm
          dsimp only at this
          rw [if_neg (by omega),Int.emod_eq_of_lt this.1 this.2]
         have hf:Cg.factor M M=true:=by unfold Cg.factor;split<;>simp_all
         rw [h0,hf];simp;omega
       . rw [hh];have h5:(Sp.has ⟨true,x,y⟩ n&&Cg.has ⟨true,M,R⟩ n)=decide ((x<=n/\ n<=y)/\ Cg.on ⟨true,M,R⟩ n):=by
          rw [has_on rfl h4];unfold Sp.has;simp [Bool.and_assoc]
         rw [h5,decide_eq_decide];constructor
         . rintro ⟨q,q3⟩;exact ⟨⟨by omega,by omega⟩,q3⟩
         . rintro ⟨⟨q1,q2⟩,q3⟩;exact ⟨hb n q1 q2 q3,q3⟩
theorem has_clean {i:Ig} (n:Int):(i.clean.s.has n&&i.clean.c.has n)=(i.s.has n&&i.c.has n):=by
 have hcc:i.c.clean.has n=i.c.has n:=by
  unfold Cg.has;cases h:i.c.some with
  |false=>have:i.c.clean=Cg.none:=by unfold Cg.clean;simp [h]
          rw [this];rfl
  |true=>rw [cg_fix (c:=i.c.clean) (by rw [cg_clean_some];exact h) (Cg.clean_red _)]
 have hsc:i.s.clean.has n=i.s.has n:=by
  unfold Sp.clean;split
  . rename_i h
    unfold Sp.none at h;unfold Sp.has;rw [Bool.eq_iff_iff];simp at h⊢
    intro h1 h2;rcases h with h|h
    . simp [h] at h1
    . omega
  . rfl
 unfold Ig.clean;split
 . rename_i h
   unfold Ig.none Sp.none at h;have:(i.s.has n&&i.c.has n)=false:=by
    cases h1:i.c.some with
    |false=>have:i.c.has n=false:=by unfold Cg.has;rw [cg_clean_some,h1];rfl
            rw [this];simp
    |true=>
     rw [h1] at h;have:i.s.has n=false:=by
      unfold Sp.has;cases h2:i.s.some with
      |false=>rfl
      |true=>rw [h2] at h;simp at h;simp;omega
     rw [this];rfl
   rw [this];rfl
 . dsimp only;rw [hcc,hsc]
theorem v1 (v:Vl):v.reduce.exact v.rreduce=true:=by rw [reduce_eq];exact exact_refl _
theorem v2 {v:Vl} (h1:v.i.s.inR) (h2:v.i.c.inR):v.reduce.reduce.exact v.reduce=true:=by
 have hc:=Ig.clean_inR h1 h2
 have h:=red_law (clean_tidy v.i) hc.1 hc.2
 have e:v.reduce.reduce=v.reduce:=by
  unfold Vl.reduce Vl.of;dsimp only;rw [tidy_fix h.1,h.2.1,ofS_eq,ofS_eq,cleanS_idem]
 rw [e];exact exact_refl _
theorem v3 {v:Vl} {n:Int} (h1:v.i.s.inR) (h2:v.i.c.inR) (hn: -9223372036854775808<=n/\ n<9223372036854775808):v.reduce.hasInt n=v.hasInt n:=by
 have hc:=Ig.clean_inR h1 h2
 have h:=red_law (clean_tidy v.i) hc.1 hc.2
 unfold Vl.hasInt Vl.reduce Vl.of;dsimp only;rw [h.2.2.2 n hn.1 hn.2,has_clean]
theorem v4 {v:Vl} (h1:v.i.s.inR) (h2:v.i.c.inR):v.reduce.leq v=true:=by
 have hc:=Ig.clean_inR h1 h2
 have h:=red_law (clean_tidy v.i) hc.1 hc.2
 unfold Vl.leq Vl.reduce Vl.of;dsimp only;rw [tidy_fix h.1,h.2.2.1,ofS_eq,ofS_eq,cleanS_idem];have:subS (cleanS v.t.names) (cleanS v.t.names)=true:=subS_iff.2 fun _ h=>h
 rw [this];cases v.t.null<;>rfl
theorem v9 {n:Int} (hn: -9223372036854775808<=n/\ n<9223372036854775808):Vl.hasInt ⟨⟨Sp.of (-9223372036854775808) 9223372036854775807,Cg.of 1 0⟩,⟨false,[]⟩⟩ n=true:=by
 unfold Vl.hasInt;dsimp only;rw [of_le (by decide)];have e:Cg.of 1 0=⟨true,1,0⟩:=rfl
 have hr:Cg.red ⟨true,1,0⟩:=by unfold Cg.red;decide
 rw [e,has_on rfl hr];unfold Sp.has Cg.on md;simp;omega
def okV (v:Vl):Prop:=(v.t.names.length*16<=140737488351232/\ ∀i,i<v.t.names.length-> [st (atS v.t.names i)]= [st (gT [st (atS v.t.names i)])])/\ v.i.s.inR/\ v.i.c.inR
theorem ok_reduce {i:Ig} {z:Bool} {n:Nat} {f:Nat->List DV} (h:n*16<=140737488351232) (h1:i.s.inR) (h2:i.c.inR):okV (Vl.reduce ⟨i,⟨z,gN n f⟩⟩):=by
 have hc:=Ig.clean_inR h1 h2
 exact ⟨⟨ofS_room h,fun _ _=>rfl⟩,red_inR hc.1 hc.2⟩
def rI (n:Int):Prop:= -9223372036854775808<=n/\ n<9223372036854775808
def gI:List DV->Int
 | [.v (.int .i64 n)]=>n
 |_=>0
def under (l:List Int) (n:Int):Int:=l.foldl (fun b r=>if r<=n/\ b<r then r else b) (-9223372036854775808)
def over (l:List Int) (n:Int):Int:=l.foldl (fun b r=>if n<=r/\ r<b then r else b) 9223372036854775807
namespace Sp
def widen (a b:Sp) (l:List Int):Sp:=if a.none then b.clean else if leq b a then a else ⟨a.some,if b.lo<a.lo then under l b.lo else a.lo,if b.hi>a.hi then over l b.hi else a.hi⟩
theorem of_inR {l h:Int} (h0:rI l) (h1:rI h):(of l h).inR:=by unfold of;split;unfold inR;decide;exact ⟨h0,h1⟩
theorem join_inR {a b:Sp} (ha:a.inR) (hb:b.inR):(join a b).inR:=by
 unfold join;split
 . exact clean_inR hb
 . split
   . exact ha
   . unfold inR at ha hb;exact of_inR (by unfold rI;omega) (by unfold rI;omega)
theorem meet_inR {a b:Sp} (ha:a.inR) (hb:b.inR):(meet a b).inR:=by
 unfold meet;split
 . unfold inR;decide
 . unfold inR at ha hb;exact of_inR (by unfold rI;omega) (by unfold rI;omega)
end Sp
def FSJoin:List Ar->Option Rs
 | [.agg [.d (.v (.bool s0)),.d (.v (.int .i64 l0)),.d (.v (.int .i64 h0))],.agg [.d (.v (.bool s1)),.d (.v (.int .i64 l1)),.d (.v (.int .i64 h1))]]=>some ⟨(Sp.inR ⟨s0,l0,h0⟩)/\ (Sp.inR ⟨s1,l1,h1⟩),.va (Sp.ar (Sp.join (⟨s0,l0,h0⟩:Sp) (⟨s1,l1,h1⟩:Sp))),[]⟩
 |_=>none
theorem fcSJoin:FC Tryz.prog 118 FSJoin:=by
 intro xs pre r us h hp;unfold FSJoin at h;split at h
 . rename_i s0 l0 h0 s1 l1 h1
   cases h;obtain ⟨hp0,hp1⟩:=hp
   refine fcat tys_ok (l:= [(34,⟨[],FSNone⟩),(136,⟨[],FSClean⟩),(32,⟨[],FSOf⟩)]) ⟨fcSNone,fcSClean,fcSOf,trivial⟩ Tryz.func118 rfl (by kernel_rfl) false ?_
   repeat' (first|exact trivial|refine ⟨?_, ?_⟩|intro _)
   all_goals first|(with_reducible apply qq)|(conv=>whnf)
   all_goals grind [Sp.join,Sp.clean,Sp.none,Sp.of,Sp.inR]
 . cases h
def FSMeet:List Ar->Option Rs
 | [.agg [.d (.v (.bool s0)),.d (.v (.int .i64 l0)),.d (.v (.int .i64 h0))],.agg [.d (.v (.bool s1)),.d (.v (.int .i64 l1)),.d (.v (.int .i64 h1))]]=>some ⟨(Sp.inR ⟨s0,l0,h0⟩)/\ (Sp.inR ⟨s1,l1,h1⟩),.va (Sp.ar (Sp.meet (⟨s0,l0,h0⟩:Sp) (⟨s1,l1,h1⟩:Sp))),[]⟩
 |_=>none
theorem fcSMeet:FC Tryz.prog 63 FSMeet:=by
 intro xs pre r us h hp;unfold FSMeet at h;split at h
 . rename_i s0 l0 h0 s1 l1 h1
   cases h;obtain ⟨hp0,hp1⟩:=hp
   refine fcat tys_ok (l:= [(34,⟨[],FSNone⟩),(32,⟨[],FSOf⟩)]) ⟨fcSNone,fcSOf,trivial⟩ Tryz.func63 rfl (by kernel_rfl) false ?_
   repeat' (first|exact trivial|refine ⟨?_, ?_⟩|intro _)
   all_goals first|(with_reducible apply qq)|(conv=>whnf)
   all_goals grind [Sp.meet,Sp.none,Sp.of,Sp.inR]
 . cases h
end Go.Proofs.YtokjghkehojenaaGreat
