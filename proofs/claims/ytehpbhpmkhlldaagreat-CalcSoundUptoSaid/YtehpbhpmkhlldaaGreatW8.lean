/- What the rest of the layer of names computes. No condition. -/
import Derived.Test.YtehpbhpmkhlldaaGreatW7
set_option linter.all false
set_option maxHeartbeats 8000000
set_option maxRecDepth 100000
namespace Go.Proofs.YtehpbhpmkhlldaaGreat
open Go.Sx
open Go.RowKit Go.Lib Go.Sort
def ofS (l:List ByteArray):List ByteArray:=(compL ((sortL l).map bS)).map bS
theorem gT_st (x:ByteArray):gT [st x]=x:=rfl
theorem ofS_len (l:List ByteArray):(ofS l).length<=l.length:=by
 have:=compact_le (((sortL l).map bS).map fun s=>s.data.toList)
 simpa [ofS,compL,sortL_length] using this
theorem ofS_len2 (l:List ByteArray):(compL ((sortL l).map bS)).length=(ofS l).length:=by simp [ofS]
theorem gN_put {len:Nat} {L:List (List UInt8)} (hL:L.length=len) (f:Nat->List DV):gN len (fun i=>if i<len then [.v (encStr L.toArray[i]!)] else f i)=L.map bS:=by
 subst hL
 unfold gN
 apply List.ext_getElem
 . simp
 . intro i h1 h2
   have h3:i<L.length:=by simpa using h2
   simp [h3,gT,encStr,bS]
theorem ofS_at {l:List ByteArray} {i:Nat} {M:List ByteArray} (hM:M=(sortL l).map bS) (hi:i<(compL M).length): [DV.v (encStr (compRow M).toArray[i]!)]= [st (atS (ofS l) i)]:=by
 subst hM
 have h2:i<(compRow ((sortL l).map bS)).length:=by unfold compRow;simp;omega
 unfold ofS atS
 simp only [List.getD_eq_getElem?_getD,List.getElem?_map,List.getElem?_eq_getElem hi,Option.map_some,Option.getD_some]
 simp only [List.getElem!_toArray]
 rw [getElem!_pos _ i h2]
 simp only [compRow,List.getElem_append_left hi]
 rfl
def FNClone:List Ar->Option Rs
 | [.c (.d (.lst 1 n0 f0))]=>some ⟨(n0*16<=140737488351232/\ ∀i,i<n0->f0 i= [st (gT (f0 i))]),.va (.c (.ow 1 n0 fun i=> [st (gT (f0 i))])),[]⟩
 |_=>none
theorem fcNClone:FC Tryz.prog 115 FNClone:=by
 intro xs pre r us h hp
 unfold FNClone at h
 split at h
 . rename_i n0 f0
   cases h
   have hp0:=hp
   refine FCat.of_eq (as':= [.c (.d (.lst 1 n0 fun i=> [st (gT (f0 i))]))]) ?_ rfl rfl ?_
   . repeat' (first|exact trivial|exact rfl|refine ⟨?_, ?_⟩|fail)
     all_goals first|exact hp0.2|exact hp1.2|exact hp2.2|(intro i hi;exact (hp0.2 i hi).1)|(intro i hi;exact (hp1.2 i hi).1)|(intro i hi;exact (hp2.2 i hi).1)|grind
   refine fcat tys_ok (l:= []) trivial Tryz.func115 rfl (by kernel_rfl) false ?_
   repeat' (first|exact trivial|refine ⟨?_, ?_⟩|intro _)
   all_goals first|(with_reducible first|apply qa|apply qb|apply qc|apply qd)|(conv=>whnf)
   all_goals first|omega|(simp_all;done)|(simp [appRow];done)|exact ‹_=true->_› ‹_›
 . cases h
def FNOf:List Ar->Option Rs
 | [.c (.d (.v (.bool b0))),.c (.d (.lst 1 n1 f1))]=>some ⟨(n1*16<=140737488351232/\ ∀i,i<n1->f1 i= [st (gT (f1 i))]),.va (Ns.ar (⟨b0,ofS (gN n1 f1)⟩)),[]⟩
 |_=>none
theorem fcNOf:FC Tryz.prog 91 FNOf:=by
 intro xs pre r us h hp
 unfold FNOf at h
 split at h
 . rename_i b0 n1 f1
   cases h
   have hp0:=hp
   refine FCat.of_eq (as':= [.c (.d (.v (.bool b0))),.c (.d (.lst 1 n1 fun i=> [st (gT (f1 i))]))]) ?_ rfl rfl ?_
   . repeat' (first|exact trivial|exact rfl|refine ⟨?_, ?_⟩|fail)
     all_goals first|exact hp0.2|exact hp1.2|exact hp2.2|(intro i hi;exact (hp0.2 i hi).1)|(intro i hi;exact (hp1.2 i hi).1)|(intro i hi;exact (hp2.2 i hi).1)|grind
   refine fcat tys_ok (l:= [(115,⟨[],FNClone⟩)]) ⟨fcNClone,trivial⟩ Tryz.func91 rfl (by kernel_rfl) true ?_
   repeat' (first|exact trivial|refine ⟨?_, ?_⟩|intro _)
   all_goals first|(with_reducible first|apply qa|apply qb|apply qc|apply qd)|(conv=>whnf)
   all_goals first|exact hp0.1|rfl|refine acall_sort rfl (Nat.le_refl _) (fun _ _=>rfl) (by omega) ?_
   refine acall_compact rfl (Nat.le_refl _) (fun i hi=>by simp [hi,gT,encStr]) (by omega) ?_
   repeat' (first|exact trivial|refine ⟨?_, ?_⟩|intro _)
   all_goals first|(with_reducible first|apply qa|apply qb|apply qc|apply qd)|(conv=>whnf)
   all_goals (have hE:=gN_put (len:=n1) (L:=sortL (gN n1 f1)) (by rw [sortL_length,gN_length]) (fun i=> [st (gT (f1 i))]))
   all_goals (try simp only [gN_canon,gT_st,hE,ofS_len2])
   all_goals (have hL:=ofS_len (gN n1 f1);rw [gN_length] at hL)
   all_goals first|omega|skip
   rename_i i hi
   simp only [gN_canon,gT_st,hE,ofS_len2] at hi
   have e0:0+Int.toNat 0+i=i:=by simp
   rw [e0,if_pos (by omega)]
   exact ofS_at rfl (by rw [ofS_len2];omega)
 . cases h
def FNClean:List Ar->Option Rs
 | [.agg [.d (.v (.bool b0)),.d (.lst 1 n0 f0)]]=>some ⟨(n0*16<=140737488351232/\ ∀i,i<n0->f0 i= [st (gT (f0 i))]),.va (Ns.ar (⟨b0,ofS (gN n0 f0)⟩)),[]⟩
 |_=>none
theorem fcNClean:FC Tryz.prog 82 FNClean:=by
 intro xs pre r us h hp
 unfold FNClean at h
 split at h
 . rename_i b0 n0 f0
   cases h
   have hp0:=hp
   refine FCat.of_eq (as':= [.agg [.d (.v (.bool b0)),.d (.lst 1 n0 fun i=> [st (gT (f0 i))])]]) ?_ rfl rfl ?_
   . repeat' (first|exact trivial|exact rfl|refine ⟨?_, ?_⟩|fail)
     all_goals first|exact hp0.2|exact hp1.2|exact hp2.2|(intro i hi;exact (hp0.2 i hi).1)|(intro i hi;exact (hp1.2 i hi).1)|(intro i hi;exact (hp2.2 i hi).1)|grind
   refine fcat tys_ok (l:= [(91,⟨[],FNOf⟩)]) ⟨fcNOf,trivial⟩ Tryz.func82 rfl (by kernel_rfl) true ?_
   repeat' (first|exact trivial|refine ⟨?_, ?_⟩|intro _)
   all_goals first|(with_reducible first|apply qa|apply qb|apply qc|apply qd)|(conv=>whnf)
   all_goals first|exact hp0.1|rfl
 . cases h
end Go.Proofs.YtehpbhpmkhlldaaGreat
namespace Go.Proofs.YtehpbhpmkhlldaaGreat
open Go.Sx
structure Sp where
 some:Bool
 lo:Int
 hi:Int
abbrev Sp.ar (s:Sp):Ar:= .agg [.d (bo s.some),.d (it s.lo),.d (it s.hi)]
namespace Sp
def none (s:Sp):Bool:= !s.some||decide (s.lo>s.hi)
def has (s:Sp) (n:Int):Bool:=s.some&&decide (s.lo<=n)&&decide (n<=s.hi)
def clean (s:Sp):Sp:=if s.none then ⟨false,0,0⟩ else s
def leq (a b:Sp):Bool:=a.none||(b.has a.lo&&b.has a.hi)
def of (lo hi:Int):Sp:=if lo>hi then ⟨false,0,0⟩ else ⟨true,lo,hi⟩
def eq (a b:Sp):Bool:=a.some==b.some&&(a.lo==b.lo&&a.hi==b.hi)
def join (a b:Sp):Sp:=if a.none then b.clean else if b.none then a else of (min a.lo b.lo) (max a.hi b.hi)
def meet (a b:Sp):Sp:=if a.none||b.none then ⟨false,0,0⟩ else of (max a.lo b.lo) (min a.hi b.hi)
def narrow (a b:Sp):Sp:=if !leq b a then a.clean else if b.none then ⟨false,0,0⟩ else ⟨a.some,if a.lo= -9223372036854775808 then b.lo else a.lo,if a.hi=9223372036854775807 then b.hi else a.hi⟩
def inR (s:Sp):Prop:=(-9223372036854775808<=s.lo/\ s.lo<9223372036854775808)/\ -9223372036854775808<=s.hi/\ s.hi<9223372036854775808
theorem clean_inR {s:Sp} (h:s.inR):s.clean.inR:=by
 unfold clean;split
 . unfold inR;decide
 . exact h
end Sp
def FSNone:List Ar->Option Rs
 | [.agg [.d (.v (.bool s0)),.d (.v (.int .i64 l0)),.d (.v (.int .i64 h0))]]=>some ⟨(Sp.inR ⟨s0,l0,h0⟩),.va (.c (.d (bo (Sp.none (⟨s0,l0,h0⟩:Sp))))),[]⟩
 |_=>none
theorem fcSNone:FC Tryz.prog 83 FSNone:=by
 intro xs pre r us h hp
 unfold FSNone at h
 split at h
 . rename_i s0 l0 h0
   cases h
   have hp0:=hp
   refine fcat tys_ok (l:= []) trivial Tryz.func83 rfl (by kernel_rfl) false ?_
   repeat' (first|exact trivial|refine ⟨?_, ?_⟩|intro _)
   all_goals first|(with_reducible first|apply qa|apply qb|apply qc|apply qd)|(conv=>whnf)
   all_goals grind [Sp.none,Sp.inR]
 . cases h
def FRSNone0:List Ar->Option Rs
 | [.agg [.d (.v (.bool s0)),.d (.v (.int .i64 l0)),.d (.v (.int .i64 h0))]]=>some ⟨(Sp.inR ⟨s0,l0,h0⟩),.va (.c (.d (bo (Sp.none (⟨s0,l0,h0⟩:Sp))))),[]⟩
 |_=>none
theorem fcRSNone0:FC Tryz.prog 71 FRSNone0:=by
 intro xs pre r us h hp
 unfold FRSNone0 at h
 split at h
 . rename_i s0 l0 h0
   cases h
   have hp0:=hp
   refine fcat tys_ok (l:= []) trivial Tryz.func71 rfl (by kernel_rfl) false ?_
   repeat' (first|exact trivial|refine ⟨?_, ?_⟩|intro _)
   all_goals first|(with_reducible first|apply qa|apply qb|apply qc|apply qd)|(conv=>whnf)
   all_goals grind [Sp.none,Sp.inR]
 . cases h
def FSHas:List Ar->Option Rs
 | [.agg [.d (.v (.bool s0)),.d (.v (.int .i64 l0)),.d (.v (.int .i64 h0))],.c (.d (.v (.int .i64 i1)))]=>some ⟨(Sp.inR ⟨s0,l0,h0⟩)/\ (-9223372036854775808<=i1/\ i1<9223372036854775808),.va (.c (.d (bo (Sp.has (⟨s0,l0,h0⟩:Sp) i1)))),[]⟩
 |_=>none
theorem fcSHas:FC Tryz.prog 47 FSHas:=by
 intro xs pre r us h hp
 unfold FSHas at h
 split at h
 . rename_i s0 l0 h0 i1
   cases h
   obtain ⟨hp0,hp1⟩:=hp
   refine fcat tys_ok (l:= []) trivial Tryz.func47 rfl (by kernel_rfl) false ?_
   repeat' (first|exact trivial|refine ⟨?_, ?_⟩|intro _)
   all_goals first|(with_reducible first|apply qa|apply qb|apply qc|apply qd)|(conv=>whnf)
   all_goals grind [Sp.has,Sp.inR]
 . cases h
def FRSHas:List Ar->Option Rs
 | [.agg [.d (.v (.bool s0)),.d (.v (.int .i64 l0)),.d (.v (.int .i64 h0))],.c (.d (.v (.int .i64 i1)))]=>some ⟨(Sp.inR ⟨s0,l0,h0⟩)/\ (-9223372036854775808<=i1/\ i1<9223372036854775808),.va (.c (.d (bo (Sp.has (⟨s0,l0,h0⟩:Sp) i1)))),[]⟩
 |_=>none
theorem fcRSHas:FC Tryz.prog 42 FRSHas:=by
 intro xs pre r us h hp
 unfold FRSHas at h
 split at h
 . rename_i s0 l0 h0 i1
   cases h
   obtain ⟨hp0,hp1⟩:=hp
   refine fcat tys_ok (l:= [(71,⟨[],FRSNone0⟩)]) ⟨fcRSNone0,trivial⟩ Tryz.func42 rfl (by kernel_rfl) false ?_
   repeat' (first|exact trivial|refine ⟨?_, ?_⟩|intro _)
   all_goals first|(with_reducible first|apply qa|apply qb|apply qc|apply qd)|(conv=>whnf)
   all_goals grind [Sp.has,Sp.none,Sp.inR]
 . cases h
def FSOf:List Ar->Option Rs
 | [.c (.d (.v (.int .i64 i0))),.c (.d (.v (.int .i64 i1)))]=>some ⟨(-9223372036854775808<=i0/\ i0<9223372036854775808)/\ (-9223372036854775808<=i1/\ i1<9223372036854775808),.va (Sp.ar (Sp.of i0 i1)),[]⟩
 |_=>none
theorem fcSOf:FC Tryz.prog 85 FSOf:=by
 intro xs pre r us h hp
 unfold FSOf at h
 split at h
 . rename_i i0 i1
   cases h
   obtain ⟨hp0,hp1⟩:=hp
   refine fcat tys_ok (l:= []) trivial Tryz.func85 rfl (by kernel_rfl) false ?_
   repeat' (first|exact trivial|refine ⟨?_, ?_⟩|intro _)
   all_goals first|(with_reducible first|apply qa|apply qb|apply qc|apply qd)|(conv=>whnf)
   all_goals grind [Sp.of]
 . cases h
def FSOne:List Ar->Option Rs
 | [.c (.d (.v (.int .i64 i0)))]=>some ⟨(-9223372036854775808<=i0/\ i0<9223372036854775808),.va (Sp.ar (Sp.of i0 i0)),[]⟩
 |_=>none
theorem fcSOne:FC Tryz.prog 63 FSOne:=by
 intro xs pre r us h hp
 unfold FSOne at h
 split at h
 . rename_i i0
   cases h
   have hp0:=hp
   refine fcat tys_ok (l:= [(85,⟨[],FSOf⟩)]) ⟨fcSOf,trivial⟩ Tryz.func63 rfl (by kernel_rfl) false ?_
   repeat' (first|exact trivial|refine ⟨?_, ?_⟩|intro _)
   all_goals first|(with_reducible first|apply qa|apply qb|apply qc|apply qd)|(conv=>whnf)
   all_goals first|rfl|omega
 . cases h
def FSAll:List Ar->Option Rs
 | []=>some ⟨True,.va (Sp.ar (Sp.of (-9223372036854775808) 9223372036854775807)),[]⟩
 |_=>none
theorem fcSAll:FC Tryz.prog 190 FSAll:=by
 intro xs pre r us h hp
 unfold FSAll at h
 split at h
 . cases h
   refine fcat tys_ok (l:= [(85,⟨[],FSOf⟩)]) ⟨fcSOf,trivial⟩ Tryz.func190 rfl (by kernel_rfl) false ?_
   repeat' (first|exact trivial|refine ⟨?_, ?_⟩|intro _)
   all_goals first|(with_reducible first|apply qa|apply qb|apply qc|apply qd)|(conv=>whnf)
   all_goals first|rfl|omega
 . cases h
def FSClean:List Ar->Option Rs
 | [.agg [.d (.v (.bool s0)),.d (.v (.int .i64 l0)),.d (.v (.int .i64 h0))]]=>some ⟨(Sp.inR ⟨s0,l0,h0⟩),.va (Sp.ar (Sp.clean (⟨s0,l0,h0⟩:Sp))),[]⟩
 |_=>none
theorem fcSClean:FC Tryz.prog 84 FSClean:=by
 intro xs pre r us h hp
 unfold FSClean at h
 split at h
 . rename_i s0 l0 h0
   cases h
   have hp0:=hp
   refine fcat tys_ok (l:= [(83,⟨[],FSNone⟩)]) ⟨fcSNone,trivial⟩ Tryz.func84 rfl (by kernel_rfl) false ?_
   repeat' (first|exact trivial|refine ⟨?_, ?_⟩|intro _)
   all_goals first|(with_reducible first|apply qa|apply qb|apply qc|apply qd)|(conv=>whnf)
   all_goals grind [Sp.clean,Sp.inR]
 . cases h
structure Ig where
 s:Sp
 c:Cg
abbrev Ig.ar (i:Ig):Ar:= .agg [.d (bo i.s.some),.d (it i.s.lo),.d (it i.s.hi),.d (bo i.c.some),.d (it i.c.m),.d (it i.c.r)]
structure Vl where
 i:Ig
 t:Ns
abbrev Vl.ar (v:Vl):Ar:= .agg [.d (bo v.i.s.some),.d (it v.i.s.lo),.d (it v.i.s.hi),.d (bo v.i.c.some),.d (it v.i.c.m),.d (it v.i.c.r),.d (bo v.t.null),.d (lst v.t.names)]
def Cg.red (c:Cg):Prop:=0<=c.m/\ (0<c.m->0<=c.r/\ c.r<c.m)
theorem Cg.clean_red (c:Cg):c.clean.red:=by
 unfold Cg.clean Cg.of Cg.none Cg.red
 split
 . split
   . have:=md_bound c.r 1 (by omega)
     dsimp only;omega
   . refine ⟨by dsimp only;omega,fun h=> ?_⟩
     exact md_bound c.r c.m h
 . dsimp only;omega
theorem sub_md (a b m:Int) (h:0<m):md (a-md b m) m=(a-b)%m:=by
 unfold md
 rw [if_neg (by omega),if_neg (by omega),Int.sub_emod,Int.emod_emod_of_dvd _ (Int.dvd_refl m), <-Int.sub_emod]
theorem md_sub (a b m:Int) (h:0<m):md (md a m-b) m=(a-b)%m:=by
 unfold md
 rw [if_neg (by omega),if_neg (by omega),Int.sub_emod,Int.emod_emod_of_dvd _ (Int.dvd_refl m), <-Int.sub_emod]
def upW (n:Int) (c:Cg):Int:=n+(c.r-n)%c.m
def dnW (n:Int) (c:Cg):Int:=n-(n-c.r)%c.m
def upV (n:Int) (c:Cg):Int:=if c.m=0 then c.r else wIntV (upW n c)
def upB (n:Int) (c:Cg):Bool:=if c.m=0 then decide (c.r≥n) else wIntB (upW n c)
def dnV (n:Int) (c:Cg):Int:=if c.m=0 then c.r else wIntV (dnW n c)
def dnB (n:Int) (c:Cg):Bool:=if c.m=0 then decide (c.r<=n) else wIntB (dnW n c)
namespace Ig
def zero:Ig:=⟨⟨false,0,0⟩,⟨false,0,0⟩⟩
def none (i:Ig):Bool:=i.s.none|| !i.c.some
def clean (i:Ig):Ig:=if i.none then zero else ⟨i.s.clean,i.c.clean⟩
def leq (i j:Ig):Bool:=i.s.leq j.s&&i.c.leq j.c
def red (i:Ig):Ig:=if i.none then zero else if (!upB i.s.lo i.c|| !dnB i.s.hi i.c)||decide (upV i.s.lo i.c>dnV i.s.hi i.c) then zero else
 if upV i.s.lo i.c=dnV i.s.hi i.c then ⟨Sp.of (upV i.s.lo i.c) (upV i.s.lo i.c),Cg.of 0 (upV i.s.lo i.c)⟩ else ⟨Sp.of (upV i.s.lo i.c) (dnV i.s.hi i.c),i.c⟩
theorem clean_inR {i:Ig} (h1:i.s.inR) (h2:i.c.inR):i.clean.s.inR/\ i.clean.c.inR:=by
 unfold clean
 split
 . unfold zero Sp.inR Cg.inR;decide
 . exact ⟨Sp.clean_inR h1,Cg.clean_inR h2⟩
end Ig
theorem wInt_r (v:Int): -9223372036854775808<=wIntV v/\ wIntV v<9223372036854775808:=by unfold wIntV;split<;>omega
def FVNone:List Ar->Option Rs
 | [.agg [.d (.v (.bool s0)),.d (.v (.int .i64 l0)),.d (.v (.int .i64 h0)),.d (.v (.bool b0)),.d (.v (.int .i64 m0)),.d (.v (.int .i64 r0))]]=>some ⟨(Sp.inR ⟨s0,l0,h0⟩/\ Cg.inR ⟨b0,m0,r0⟩),.va (.c (.d (bo (Ig.none (⟨⟨s0,l0,h0⟩,⟨b0,m0,r0⟩⟩:Ig))))),[]⟩
 |_=>none
theorem fcVNone:FC Tryz.prog 76 FVNone:=by
 intro xs pre r us h hp
 unfold FVNone at h
 split at h
 . rename_i s0 l0 h0 b0 m0 r0
   cases h
   have hp0:=hp
   refine fcat tys_ok (l:= [(83,⟨[],FSNone⟩),(87,⟨[],FCNone⟩)]) ⟨fcSNone,fcCNone,trivial⟩ Tryz.func76 rfl (by kernel_rfl) false ?_
   repeat' (first|exact trivial|refine ⟨?_, ?_⟩|intro _)
   all_goals first|(with_reducible first|apply qa|apply qb|apply qc|apply qd)|(conv=>whnf)
   all_goals first|grind [Ig.none,Sp.inR,Cg.inR]
 . cases h
def FVClean:List Ar->Option Rs
 | [.agg [.d (.v (.bool s0)),.d (.v (.int .i64 l0)),.d (.v (.int .i64 h0)),.d (.v (.bool b0)),.d (.v (.int .i64 m0)),.d (.v (.int .i64 r0))]]=>some ⟨(Sp.inR ⟨s0,l0,h0⟩/\ Cg.inR ⟨b0,m0,r0⟩),.va (Ig.ar (Ig.clean (⟨⟨s0,l0,h0⟩,⟨b0,m0,r0⟩⟩:Ig))),[]⟩
 |_=>none
theorem fcVClean:FC Tryz.prog 58 FVClean:=by
 intro xs pre r us h hp
 unfold FVClean at h
 split at h
 . rename_i s0 l0 h0 b0 m0 r0
   cases h
   have hp0:=hp
   refine fcat tys_ok (l:= [(76,⟨[],FVNone⟩),(84,⟨[],FSClean⟩),(86,⟨[],FCClean⟩)]) ⟨fcVNone,fcSClean,fcCClean,trivial⟩ Tryz.func58 rfl (by kernel_rfl) false ?_
   repeat' (first|exact trivial|refine ⟨?_, ?_⟩|intro _)
   all_goals first|(with_reducible first|apply qa|apply qb|apply qc|apply qd)|(conv=>whnf)
   all_goals first|grind [Ig.clean,Ig.zero,Sp.inR,Cg.inR]
 . cases h
theorem up_key {n m r:Int} {b:Bool} (hm: ¬m=0) (hr:Cg.red ⟨b,m,r⟩) (hi:Cg.inR ⟨b,m,r⟩):IntKind.wrap .i64 (r-md n m)=r-md n m/\ md (IntKind.wrap .i64 (r-md n m)) m=(r-n)%m/\ 0<=(r-n)%m/\ (r-n)%m<9223372036854775808:=by
 unfold Cg.red at hr;unfold Cg.inR at hi
 dsimp only at hr hi
 have h0:0<m:=by omega
 have h1:=md_bound n m h0
 have h2:=hr.2 h0
 rw [wI_id _ (by omega) (by omega),sub_md _ _ _ h0]
 have h3:=Int.emod_nonneg (r-n) (show m≠0 by omega)
 have h4:=Int.emod_lt_of_pos (r-n) h0
 omega
theorem dn_key {n m r:Int} {b:Bool} (hm: ¬m=0) (hr:Cg.red ⟨b,m,r⟩) (hi:Cg.inR ⟨b,m,r⟩):IntKind.wrap .i64 (md n m-r)=md n m-r/\ md (IntKind.wrap .i64 (md n m-r)) m=(n-r)%m/\ 0<=(n-r)%m/\ (n-r)%m<9223372036854775808:=by
 unfold Cg.red at hr;unfold Cg.inR at hi
 dsimp only at hr hi
 have h0:0<m:=by omega
 have h1:=md_bound n m h0
 have h2:=hr.2 h0
 rw [wI_id _ (by omega) (by omega),md_sub _ _ _ h0]
 have h3:=Int.emod_nonneg (n-r) (show m≠0 by omega)
 have h4:=Int.emod_lt_of_pos (n-r) h0
 omega
theorem up_val {n k:Int} (hn: -9223372036854775808<=n/\ n<9223372036854775808) (h0:0<=k) (h1:k<9223372036854775808):Wd.val (wd (Wd.val (wd n)+Wd.val (wd k)))=n+k:=by
 rw [wd_val (by rw [wd_val (v:=n) (by omega) (by omega),wd_val (v:=k) (by omega) (by omega)];omega) (by rw [wd_val (v:=n) (by omega) (by omega),wd_val (v:=k) (by omega) (by omega)];omega),wd_val (v:=n) (by omega) (by omega),wd_val (v:=k) (by omega) (by omega)]
theorem dn_val {n k:Int} (hn: -9223372036854775808<=n/\ n<9223372036854775808) (h0:0<=k) (h1:k<9223372036854775808):Wd.val (wd (Wd.val (wd n)-Wd.val (wd k)))=n-k:=by
 rw [wd_val (by rw [wd_val (v:=n) (by omega) (by omega),wd_val (v:=k) (by omega) (by omega)];omega) (by rw [wd_val (v:=n) (by omega) (by omega),wd_val (v:=k) (by omega) (by omega)];omega),wd_val (v:=n) (by omega) (by omega),wd_val (v:=k) (by omega) (by omega)]
theorem up_V {n m r:Int} {b:Bool} (hm: ¬m=0) (hr:Cg.red ⟨b,m,r⟩) (hi:Cg.inR ⟨b,m,r⟩) (hn: -9223372036854775808<=n/\ n<9223372036854775808):Wd.val (wd (Wd.val (wd n)+Wd.val (wd (md (IntKind.wrap .i64 (r-md n m)) m))))=upW n ⟨b,m,r⟩:=by
 have hk:=up_key (n:=n) hm hr hi
 rw [hk.2.1,up_val hn hk.2.2.1 hk.2.2.2];rfl
theorem dn_V {n m r:Int} {b:Bool} (hm: ¬m=0) (hr:Cg.red ⟨b,m,r⟩) (hi:Cg.inR ⟨b,m,r⟩) (hn: -9223372036854775808<=n/\ n<9223372036854775808):Wd.val (wd (Wd.val (wd n)-Wd.val (wd (md (IntKind.wrap .i64 (md n m-r)) m))))=dnW n ⟨b,m,r⟩:=by
 have hk:=dn_key (n:=n) hm hr hi
 rw [hk.2.1,dn_val hn hk.2.2.1 hk.2.2.2];rfl
theorem upV_0 {n m r:Int} {b:Bool} (hm:m=0):upV n ⟨b,m,r⟩=r/\ upB n ⟨b,m,r⟩=decide (r≥n)/\ dnV n ⟨b,m,r⟩=r/\ dnB n ⟨b,m,r⟩=decide (r<=n):=by unfold upV upB dnV dnB;simp [hm]
theorem upV_1 {n m r:Int} {b:Bool} (hm: ¬m=0):upV n ⟨b,m,r⟩=wIntV (upW n ⟨b,m,r⟩)/\ upB n ⟨b,m,r⟩=wIntB (upW n ⟨b,m,r⟩)/\ dnV n ⟨b,m,r⟩=wIntV (dnW n ⟨b,m,r⟩)/\ dnB n ⟨b,m,r⟩=wIntB (dnW n ⟨b,m,r⟩):=by unfold upV upB dnV dnB;simp [hm]
def FVUp:List Ar->Option Rs
 | [.c (.d (.v (.int .i64 i0))),.agg [.d (.v (.bool b1)),.d (.v (.int .i64 m1)),.d (.v (.int .i64 r1))]]=>some ⟨(-9223372036854775808<=i0/\ i0<9223372036854775808)/\ (Cg.inR ⟨b1,m1,r1⟩)/\ (Cg.red (⟨b1,m1,r1⟩:Cg)),.tup [.c (.d (it (upV i0 (⟨b1,m1,r1⟩:Cg)))),.c (.d (bo (upB i0 (⟨b1,m1,r1⟩:Cg))))],[]⟩
 |_=>none
theorem fcVUp:FC Tryz.prog 130 FVUp:=by
 intro xs pre r us h hp
 unfold FVUp at h
 split at h
 . rename_i i0 b1 m1 r1
   cases h
   obtain ⟨hp0,hp1,hp2⟩:=hp
   refine fcat tys_ok (l:= [(100,⟨[],FCMod⟩),(122,⟨[],FWOf⟩),(137,⟨[],FWAdd⟩),(94,⟨[],FWInt⟩)]) ⟨fcCMod,fcWOf,fcWAdd,fcWInt,trivial⟩ Tryz.func130 rfl (by kernel_rfl) false ?_
   repeat' (first|exact trivial|refine ⟨?_, ?_⟩|intro _)
   all_goals first|(with_reducible first|apply qa|apply qb|apply qc|apply qd)|(conv=>whnf)
   all_goals (try simp only [beq_iff_eq,beq_eq_false_iff_ne,ne_eq] at*)
   all_goals first|omega|exact (wd_ok _).1.1|exact (wd_ok _).1.2|exact (wd_ok _).2.1|exact (wd_ok _).2.2|(unfold Cg.inR at hp1;dsimp only at hp1;omega)|skip
   all_goals first|((with_reducible show Value.int _ _=Value.int _ _);rw [(upV_0 (by assumption)).1])|((with_reducible show Value.bool _=Value.bool _);rw [(upV_0 (by assumption)).2.1])|(have hk:=up_key (n:=i0) ‹¬m1=0› hp2 hp1;have hv:=up_V ‹¬m1=0› hp2 hp1 hp0;have hw:=upV_1 (n:=i0) (r:=r1) (b:=b1) ‹¬m1=0›;first|(rw [hw.1];exact congrArg (fun x=>Value.int .i64 (wIntV x)) hv)|(rw [hw.2.1];exact congrArg (fun x=>Value.bool (wIntB x)) hv)|(unfold md at*;unfold Cg.inR at hp1;dsimp only at hp1;rw [hk.2.1];omega)|(rw [hk.2.1];omega)|(have hb:=md_bound i0 m1;unfold Cg.inR Cg.red at*;dsimp only at*;rw [hk.1];omega))
 . cases h
def FVDown:List Ar->Option Rs
 | [.c (.d (.v (.int .i64 i0))),.agg [.d (.v (.bool b1)),.d (.v (.int .i64 m1)),.d (.v (.int .i64 r1))]]=>some ⟨(-9223372036854775808<=i0/\ i0<9223372036854775808)/\ (Cg.inR ⟨b1,m1,r1⟩)/\ (Cg.red (⟨b1,m1,r1⟩:Cg)),.tup [.c (.d (it (dnV i0 (⟨b1,m1,r1⟩:Cg)))),.c (.d (bo (dnB i0 (⟨b1,m1,r1⟩:Cg))))],[]⟩
 |_=>none
theorem fcVDown:FC Tryz.prog 131 FVDown:=by
 intro xs pre r us h hp
 unfold FVDown at h
 split at h
 . rename_i i0 b1 m1 r1
   cases h
   obtain ⟨hp0,hp1,hp2⟩:=hp
   refine fcat tys_ok (l:= [(100,⟨[],FCMod⟩),(122,⟨[],FWOf⟩),(121,⟨[],FWSub⟩),(94,⟨[],FWInt⟩)]) ⟨fcCMod,fcWOf,fcWSub,fcWInt,trivial⟩ Tryz.func131 rfl (by kernel_rfl) false ?_
   repeat' (first|exact trivial|refine ⟨?_, ?_⟩|intro _)
   all_goals first|(with_reducible first|apply qa|apply qb|apply qc|apply qd)|(conv=>whnf)
   all_goals (try simp only [beq_iff_eq,beq_eq_false_iff_ne,ne_eq] at*)
   all_goals first|omega|exact (wd_ok _).1.1|exact (wd_ok _).1.2|exact (wd_ok _).2.1|exact (wd_ok _).2.2|(unfold Cg.inR at hp1;dsimp only at hp1;omega)|skip
   all_goals first|((with_reducible show Value.int _ _=Value.int _ _);rw [(upV_0 (by assumption)).2.2.1])|((with_reducible show Value.bool _=Value.bool _);rw [(upV_0 (by assumption)).2.2.2])|(have hk:=dn_key (n:=i0) ‹¬m1=0› hp2 hp1;have hv:=dn_V ‹¬m1=0› hp2 hp1 hp0;have hw:=upV_1 (n:=i0) (r:=r1) (b:=b1) ‹¬m1=0›;first|(rw [hw.2.2.1];exact congrArg (fun x=>Value.int .i64 (wIntV x)) hv)|(rw [hw.2.2.2];exact congrArg (fun x=>Value.bool (wIntB x)) hv)|(unfold md at*;unfold Cg.inR at hp1;dsimp only at hp1;rw [hk.2.1];omega)|(rw [hk.2.1];omega)|(have hb:=md_bound i0 m1;unfold Cg.inR Cg.red at*;dsimp only at*;rw [hk.1];omega))
 . cases h
theorem upV_r {n:Int} {c:Cg} (h:c.inR): -9223372036854775808<=upV n c/\ upV n c<9223372036854775808:=by
 unfold upV;split
 . exact h.2
 . exact wInt_r _
theorem dnV_r {n:Int} {c:Cg} (h:c.inR): -9223372036854775808<=dnV n c/\ dnV n c<9223372036854775808:=by
 unfold dnV;split
 . exact h.2
 . exact wInt_r _
def FVRed:List Ar->Option Rs
 | [.agg [.d (.v (.bool s0)),.d (.v (.int .i64 l0)),.d (.v (.int .i64 h0)),.d (.v (.bool b0)),.d (.v (.int .i64 m0)),.d (.v (.int .i64 r0))]]=>some ⟨(Sp.inR ⟨s0,l0,h0⟩/\ Cg.inR ⟨b0,m0,r0⟩)/\ (Cg.red ⟨b0,m0,r0⟩),.va (Ig.ar (Ig.red (⟨⟨s0,l0,h0⟩,⟨b0,m0,r0⟩⟩:Ig))),[]⟩
 |_=>none
theorem fcVRed:FC Tryz.prog 93 FVRed:=by
 intro xs pre r us h hp
 unfold FVRed at h
 split at h
 . rename_i s0 l0 h0 b0 m0 r0
   cases h
   obtain ⟨hp0,hp1⟩:=hp
   refine fcat tys_ok (l:= [(76,⟨[],FVNone⟩),(130,⟨[],FVUp⟩),(131,⟨[],FVDown⟩),(63,⟨[],FSOne⟩),(64,⟨[],FCOne⟩),(85,⟨[],FSOf⟩)]) ⟨fcVNone,fcVUp,fcVDown,fcSOne,fcCOne,fcSOf,trivial⟩ Tryz.func93 rfl (by kernel_rfl) false ?_
   repeat' (first|exact trivial|refine ⟨?_, ?_⟩|intro _)
   all_goals first|(with_reducible first|apply qa|apply qb|apply qc|apply qd)|(conv=>whnf)
   all_goals first|exact hp0.1.1.1|exact hp0.1.1.2|exact hp0.1.2.1|exact hp0.1.2.2|exact hp0.2.1.1|exact hp0.2.1.2|exact hp0.2.2.1|exact hp0.2.2.2|exact hp1.1|exact (hp1.2 (by assumption)).1|exact (hp1.2 (by assumption)).2|exact hp1|exact hp0.2|exact hp0.1|exact (upV_r hp0.2).1|exact (upV_r hp0.2).2|exact (dnV_r hp0.2).1|exact (dnV_r hp0.2).2|grind [Ig.red,Ig.zero]
 . cases h
namespace Vl
def of (v:Vl):Vl:=⟨v.i.clean,⟨v.t.null,ofS v.t.names⟩⟩
def reduce (v:Vl):Vl:=⟨v.of.i.red,v.of.t⟩
def hasInt (v:Vl) (n:Int):Bool:=v.i.s.has n&&v.i.c.has n
def leq (a b:Vl):Bool:=a.of.i.leq b.of.i&&((!a.t.null||b.t.null)&&subS (ofS a.t.names) (ofS b.t.names))
def rclean (v:Vl):Vl:=⟨v.i.clean,⟨v.t.null,cleanS v.t.names⟩⟩
def rreduce (v:Vl):Vl:=⟨v.rclean.i.red,v.rclean.t⟩
def exact (a b:Vl):Bool:=(Sp.eq a.i.s b.i.s&&Cg.eq a.i.c b.i.c)&&(a.t.null==b.t.null&&decide (a.t.names=b.t.names))
end Vl
theorem atS_gN {n i:Nat} {f:Nat->List DV} (h:i<n):atS (gN n f) i=gT (f i):=by
 simp [atS,gN,List.getD_eq_getElem?_getD,h]
theorem ofS_room {n:Nat} {f:Nat->List DV} (h:n*16<=140737488351232):(ofS (gN n f)).length*16<=140737488351232:=by
 have:=ofS_len (gN n f)
 rw [gN_length] at this
 omega
theorem red_inR {i:Ig} (h1:i.s.inR) (h2:i.c.inR):i.red.s.inR/\ i.red.c.inR:=by
 have e1:=upV_r (n:=i.s.lo) h2
 have e2:=dnV_r (n:=i.s.hi) h2
 unfold Ig.red
 split
 . unfold Ig.zero Sp.inR Cg.inR;decide
 . split
   . unfold Ig.zero Sp.inR Cg.inR;decide
   . split
     . refine ⟨?_,Cg.of_inR _ _ (by omega) (by omega) e1.1 e1.2⟩
       unfold Sp.of Sp.inR;split
       . dsimp only;omega
       . exact ⟨e1,e1⟩
     . refine ⟨?_,h2⟩
       unfold Sp.of Sp.inR;split
       . dsimp only;omega
       . exact ⟨e1,e2⟩
theorem clean_red {i:Ig}:i.clean.c.red:=by
 unfold Ig.clean;split
 . unfold Ig.zero Cg.red;decide
 . exact Cg.clean_red _
def FVOf:List Ar->Option Rs
 | [.agg [.d (.v (.bool s0)),.d (.v (.int .i64 l0)),.d (.v (.int .i64 h0)),.d (.v (.bool b0)),.d (.v (.int .i64 m0)),.d (.v (.int .i64 r0)),.d (.v (.bool z0)),.d (.lst 1 n0 f0)]]=>some ⟨((n0*16<=140737488351232/\ ∀i,i<n0->f0 i= [st (gT (f0 i))])/\ Sp.inR ⟨s0,l0,h0⟩/\ Cg.inR ⟨b0,m0,r0⟩),.va (Vl.ar (Vl.of (⟨⟨⟨s0,l0,h0⟩,⟨b0,m0,r0⟩⟩,⟨z0,gN n0 f0⟩⟩:Vl))),[]⟩
 |_=>none
theorem fcVOf:FC Tryz.prog 33 FVOf:=by
 intro xs pre r us h hp
 unfold FVOf at h
 split at h
 . rename_i s0 l0 h0 b0 m0 r0 z0 n0 f0
   cases h
   have hp0:=hp
   refine FCat.of_eq (as':= [.agg [.d (.v (.bool s0)),.d (.v (.int .i64 l0)),.d (.v (.int .i64 h0)),.d (.v (.bool b0)),.d (.v (.int .i64 m0)),.d (.v (.int .i64 r0)),.d (.v (.bool z0)),.d (.lst 1 n0 fun i=> [st (gT (f0 i))])]]) ?_ rfl rfl ?_
   . repeat' (first|exact trivial|exact rfl|refine ⟨?_, ?_⟩|fail)
     all_goals first|exact hp0.2|exact hp1.2|exact hp2.2|(intro i hi;exact (hp0.2 i hi).1)|(intro i hi;exact (hp1.2 i hi).1)|(intro i hi;exact (hp2.2 i hi).1)|grind
   refine fcat tys_ok (l:= [(58,⟨[],FVClean⟩),(82,⟨[],FNClean⟩)]) ⟨fcVClean,fcNClean,trivial⟩ Tryz.func33 rfl (by kernel_rfl) true ?_
   repeat' (first|exact trivial|refine ⟨?_, ?_⟩|intro _)
   all_goals first|(with_reducible first|apply qa|apply qb|apply qc|apply qd)|(conv=>whnf)
   all_goals first|exact hp0.2|exact hp0.1.1|exact (hp0.1.2 _ ‹_›)|exact hp0.2.1|exact hp0.2.2|exact hp0.2.1.1.1|exact hp0.2.1.1.2|exact hp0.2.1.2.1|exact hp0.2.1.2.2|exact hp0.2.2.1.1|exact hp0.2.2.1.2|exact hp0.2.2.2.1|exact hp0.2.2.2.2|rfl
 . cases h
def FVValue:List Ar->Option Rs
 | [.agg [.d (.v (.bool s0)),.d (.v (.int .i64 l0)),.d (.v (.int .i64 h0)),.d (.v (.bool b0)),.d (.v (.int .i64 m0)),.d (.v (.int .i64 r0)),.d (.v (.bool z0)),.d (.lst 1 n0 f0)]]=>some ⟨((n0*16<=140737488351232/\ ∀i,i<n0->f0 i= [st (gT (f0 i))])/\ Sp.inR ⟨s0,l0,h0⟩/\ Cg.inR ⟨b0,m0,r0⟩),.va (.agg [.d (.v (.bool s0)),.d (.v (.int .i64 l0)),.d (.v (.int .i64 h0)),.d (.v (.bool b0)),.d (.v (.int .i64 m0)),.d (.v (.int .i64 r0)),.d (.v (.bool z0)),.d (.lst 1 n0 fun i=> [st (gT (f0 i))])]),[]⟩
 |_=>none
theorem fcVValue:FC Tryz.prog 37 FVValue:=by
 intro xs pre r us h hp
 unfold FVValue at h
 split at h
 . rename_i s0 l0 h0 b0 m0 r0 z0 n0 f0
   cases h
   have hp0:=hp
   refine FCat.of_eq (as':= [.agg [.d (.v (.bool s0)),.d (.v (.int .i64 l0)),.d (.v (.int .i64 h0)),.d (.v (.bool b0)),.d (.v (.int .i64 m0)),.d (.v (.int .i64 r0)),.d (.v (.bool z0)),.d (.lst 1 n0 fun i=> [st (gT (f0 i))])]]) ?_ rfl rfl ?_
   . repeat' (first|exact trivial|exact rfl|refine ⟨?_, ?_⟩|fail)
     all_goals first|exact hp0.2|exact hp1.2|exact hp2.2|(intro i hi;exact (hp0.2 i hi).1)|(intro i hi;exact (hp1.2 i hi).1)|(intro i hi;exact (hp2.2 i hi).1)|grind
   refine fcat tys_ok (l:= []) trivial Tryz.func37 rfl (by kernel_rfl) false ?_
   repeat' (first|exact trivial|refine ⟨?_, ?_⟩|intro _)
   all_goals first|(with_reducible first|apply qa|apply qb|apply qc|apply qd)|(conv=>whnf)
   all_goals first|exact hp0.2|exact hp0.1.1|exact (hp0.1.2 _ ‹_›)|exact hp0.2.1|exact hp0.2.2|exact hp0.2.1.1.1|exact hp0.2.1.1.2|exact hp0.2.1.2.1|exact hp0.2.1.2.2|exact hp0.2.2.1.1|exact hp0.2.2.1.2|exact hp0.2.2.2.1|exact hp0.2.2.2.2|rfl
 . cases h
def FVReduce:List Ar->Option Rs
 | [.agg [.d (.v (.bool s0)),.d (.v (.int .i64 l0)),.d (.v (.int .i64 h0)),.d (.v (.bool b0)),.d (.v (.int .i64 m0)),.d (.v (.int .i64 r0)),.d (.v (.bool z0)),.d (.lst 1 n0 f0)]]=>some ⟨((n0*16<=140737488351232/\ ∀i,i<n0->f0 i= [st (gT (f0 i))])/\ Sp.inR ⟨s0,l0,h0⟩/\ Cg.inR ⟨b0,m0,r0⟩),.va (Vl.ar (Vl.reduce (⟨⟨⟨s0,l0,h0⟩,⟨b0,m0,r0⟩⟩,⟨z0,gN n0 f0⟩⟩:Vl))),[]⟩
 |_=>none
theorem fcVReduce:FC Tryz.prog 38 FVReduce:=by
 intro xs pre r us h hp
 unfold FVReduce at h
 split at h
 . rename_i s0 l0 h0 b0 m0 r0 z0 n0 f0
   cases h
   have hp0:=hp
   refine FCat.of_eq (as':= [.agg [.d (.v (.bool s0)),.d (.v (.int .i64 l0)),.d (.v (.int .i64 h0)),.d (.v (.bool b0)),.d (.v (.int .i64 m0)),.d (.v (.int .i64 r0)),.d (.v (.bool z0)),.d (.lst 1 n0 fun i=> [st (gT (f0 i))])]]) ?_ rfl rfl ?_
   . repeat' (first|exact trivial|exact rfl|refine ⟨?_, ?_⟩|fail)
     all_goals first|exact hp0.2|exact hp1.2|exact hp2.2|(intro i hi;exact (hp0.2 i hi).1)|(intro i hi;exact (hp1.2 i hi).1)|(intro i hi;exact (hp2.2 i hi).1)|grind
   refine fcat tys_ok (l:= [(33,⟨[],FVOf⟩),(93,⟨[],FVRed⟩),(37,⟨[],FVValue⟩)]) ⟨fcVOf,fcVRed,fcVValue,trivial⟩ Tryz.func38 rfl (by kernel_rfl) true ?_
   have hc:=Ig.clean_inR (i:=⟨⟨s0,l0,h0⟩,⟨b0,m0,r0⟩⟩) hp0.2.1 hp0.2.2
   have hr:=red_inR hc.1 hc.2
   have hd:=clean_red (i:=⟨⟨s0,l0,h0⟩,⟨b0,m0,r0⟩⟩)
   have hm:=ofS_room (f:=f0) hp0.1.1
   repeat' (first|exact trivial|refine ⟨?_, ?_⟩|intro _)
   all_goals first|(with_reducible first|apply qa|apply qb|apply qc|apply qd)|(conv=>whnf)
   all_goals first|exact hp0.2|exact hp0.1.1|exact (hp0.1.2 _ ‹_›)|exact hp0.2.1|exact hp0.2.2|exact hp0.2.1.1.1|exact hp0.2.1.1.2|exact hp0.2.1.2.1|exact hp0.2.1.2.2|exact hp0.2.2.1.1|exact hp0.2.2.1.2|exact hp0.2.2.2.1|exact hp0.2.2.2.2|rfl|exact hc.1.1.1|exact hc.1.1.2|exact hc.1.2.1|exact hc.1.2.2|exact hc.2.1.1|exact hc.2.1.2|exact hc.2.2.1|exact hc.2.2.2|exact hc.1|exact hc.2|exact hr.1.1.1|exact hr.1.1.2|exact hr.1.2.1|exact hr.1.2.2|exact hr.2.1.1|exact hr.2.1.2|exact hr.2.2.1|exact hr.2.2.2|exact hr.1|exact hr.2|exact hd.1|exact (hd.2 (by assumption)).1|exact (hd.2 (by assumption)).2|exact hd|exact hm|rfl
 . cases h
def FVNum:List Ar->Option Rs
 | [.c (.d (.v (.int .i64 i0)))]=>some ⟨(-9223372036854775808<=i0/\ i0<9223372036854775808),.va (Vl.ar (⟨⟨Sp.of i0 i0,Cg.of 0 i0⟩,⟨false,[]⟩⟩)),[]⟩
 |_=>none
theorem fcVNum:FC Tryz.prog 22 FVNum:=by
 intro xs pre r us h hp
 unfold FVNum at h
 split at h
 . rename_i i0
   cases h
   have hp0:=hp
   refine fcat tys_ok (l:= [(63,⟨[],FSOne⟩),(64,⟨[],FCOne⟩)]) ⟨fcSOne,fcCOne,trivial⟩ Tryz.func22 rfl (by kernel_rfl) false ?_
   repeat' (first|exact trivial|refine ⟨?_, ?_⟩|intro _)
   all_goals first|(with_reducible first|apply qa|apply qb|apply qc|apply qd)|(conv=>whnf)
   all_goals first|omega|rfl
 . cases h
def FVHasInt:List Ar->Option Rs
 | [.agg [.d (.v (.bool s0)),.d (.v (.int .i64 l0)),.d (.v (.int .i64 h0)),.d (.v (.bool b0)),.d (.v (.int .i64 m0)),.d (.v (.int .i64 r0)),.d (.v (.bool z0)),.d (.lst 1 n0 f0)],.c (.d (.v (.int .i64 i1)))]=>some ⟨((n0*16<=140737488351232/\ ∀i,i<n0->f0 i= [st (gT (f0 i))])/\ Sp.inR ⟨s0,l0,h0⟩/\ Cg.inR ⟨b0,m0,r0⟩)/\ (-9223372036854775808<=i1/\ i1<9223372036854775808),.va (.c (.d (bo (Vl.hasInt (⟨⟨⟨s0,l0,h0⟩,⟨b0,m0,r0⟩⟩,⟨z0,gN n0 f0⟩⟩:Vl) i1)))),[]⟩
 |_=>none
theorem fcVHasInt:FC Tryz.prog 12 FVHasInt:=by
 intro xs pre r us h hp
 unfold FVHasInt at h
 split at h
 . rename_i s0 l0 h0 b0 m0 r0 z0 n0 f0 i1
   cases h
   obtain ⟨hp0,hp1⟩:=hp
   refine FCat.of_eq (as':= [.agg [.d (.v (.bool s0)),.d (.v (.int .i64 l0)),.d (.v (.int .i64 h0)),.d (.v (.bool b0)),.d (.v (.int .i64 m0)),.d (.v (.int .i64 r0)),.d (.v (.bool z0)),.d (.lst 1 n0 fun i=> [st (gT (f0 i))])],.c (.d (.v (.int .i64 i1)))]) ?_ rfl rfl ?_
   . repeat' (first|exact trivial|exact rfl|refine ⟨?_, ?_⟩|fail)
     all_goals first|exact hp0.2|exact hp1.2|exact hp2.2|(intro i hi;exact (hp0.2 i hi).1)|(intro i hi;exact (hp1.2 i hi).1)|(intro i hi;exact (hp2.2 i hi).1)|grind
   refine fcat tys_ok (l:= [(47,⟨[],FSHas⟩),(48,⟨[],FCHas⟩)]) ⟨fcSHas,fcCHas,trivial⟩ Tryz.func12 rfl (by kernel_rfl) false ?_
   repeat' (first|exact trivial|refine ⟨?_, ?_⟩|intro _)
   all_goals first|(with_reducible first|apply qa|apply qb|apply qc|apply qd)|(conv=>whnf)
   all_goals first|exact hp0.2|exact hp0.1.1|exact (hp0.1.2 _ ‹_›)|exact hp0.2.1|exact hp0.2.2|exact hp0.2.1.1.1|exact hp0.2.1.1.2|exact hp0.2.1.2.1|exact hp0.2.1.2.2|exact hp0.2.2.1.1|exact hp0.2.2.1.2|exact hp0.2.2.2.1|exact hp0.2.2.2.2|rfl|exact hp1|exact hp1.1|exact hp1.2|(unfold Vl.hasInt;simp_all;done)
 . cases h
def FRVHasInt:List Ar->Option Rs
 | [.agg [.d (.v (.bool s0)),.d (.v (.int .i64 l0)),.d (.v (.int .i64 h0)),.d (.v (.bool b0)),.d (.v (.int .i64 m0)),.d (.v (.int .i64 r0)),.d (.v (.bool z0)),.d (.lst 1 n0 f0)],.c (.d (.v (.int .i64 i1)))]=>some ⟨((n0*16<=140737488351232/\ ∀i,i<n0->f0 i= [st (gT (f0 i))])/\ Sp.inR ⟨s0,l0,h0⟩/\ Cg.inR ⟨b0,m0,r0⟩)/\ (-9223372036854775808<=i1/\ i1<9223372036854775808),.va (.c (.d (bo (Vl.hasInt (⟨⟨⟨s0,l0,h0⟩,⟨b0,m0,r0⟩⟩,⟨z0,gN n0 f0⟩⟩:Vl) i1)))),[]⟩
 |_=>none
theorem fcRVHasInt:FC Tryz.prog 9 FRVHasInt:=by
 intro xs pre r us h hp
 unfold FRVHasInt at h
 split at h
 . rename_i s0 l0 h0 b0 m0 r0 z0 n0 f0 i1
   cases h
   obtain ⟨hp0,hp1⟩:=hp
   refine FCat.of_eq (as':= [.agg [.d (.v (.bool s0)),.d (.v (.int .i64 l0)),.d (.v (.int .i64 h0)),.d (.v (.bool b0)),.d (.v (.int .i64 m0)),.d (.v (.int .i64 r0)),.d (.v (.bool z0)),.d (.lst 1 n0 fun i=> [st (gT (f0 i))])],.c (.d (.v (.int .i64 i1)))]) ?_ rfl rfl ?_
   . repeat' (first|exact trivial|exact rfl|refine ⟨?_, ?_⟩|fail)
     all_goals first|exact hp0.2|exact hp1.2|exact hp2.2|(intro i hi;exact (hp0.2 i hi).1)|(intro i hi;exact (hp1.2 i hi).1)|(intro i hi;exact (hp2.2 i hi).1)|grind
   refine fcat tys_ok (l:= [(42,⟨[],FRSHas⟩),(43,⟨[],FRCHas⟩)]) ⟨fcRSHas,fcRCHas,trivial⟩ Tryz.func9 rfl (by kernel_rfl) false ?_
   repeat' (first|exact trivial|refine ⟨?_, ?_⟩|intro _)
   all_goals first|(with_reducible first|apply qa|apply qb|apply qc|apply qd)|(conv=>whnf)
   all_goals first|exact hp0.2|exact hp0.1.1|exact (hp0.1.2 _ ‹_›)|exact hp0.2.1|exact hp0.2.2|exact hp0.2.1.1.1|exact hp0.2.1.1.2|exact hp0.2.1.2.1|exact hp0.2.1.2.2|exact hp0.2.2.1.1|exact hp0.2.2.1.2|exact hp0.2.2.2.1|exact hp0.2.2.2.2|rfl|exact hp1|exact hp1.1|exact hp1.2|(unfold Vl.hasInt;simp_all;done)
 . cases h
theorem rc_join {s:Sp}:s.join ⟨false,0,0⟩=s.clean:=by
 unfold Sp.join Sp.clean Sp.none
 cases s.some<;>by_cases h:s.lo>s.hi<;>simp [h]
theorem sp_clean_some {s:Sp}:s.clean.some= !s.none:=by
 unfold Sp.clean Sp.none
 cases h1:s.some<;>by_cases h:s.lo>s.hi<;>simp [h,h1]
theorem cg_clean_some {c:Cg}:c.clean.some=c.some:=by
 unfold Cg.clean Cg.of Cg.none
 cases h:c.some<;>simp
 split<;>rfl
def nilD (sz:Nat):DV->DV
 | .v (.slice none 0 0)=> .lst sz 0 (fun _=> [])
 |x=>x
def nilI (sz:Nat):Ic->Ic
 | .d x=> .d (nilD sz x)
 |x=>x
def nilA (sz:Nat):Ar->Ar
 | .c x=> .c (nilI sz x)
 | .agg xs=> .agg (xs.map (nilI sz))
 |x=>x
def FN (sz:Nat) (F:List Ar->Option Rs) (qs:List Ar):Option Rs:=
 match arsRows qs with
 | []=>match F (qs.map (nilA sz)) with
   |some ⟨p,r,[]⟩=>some ⟨p,r,[]⟩
   |_=>none
 |_=>none
theorem dvEq_refl (x:DV):dvEq x x:=by cases x<;>simp [dvEq]
theorem nilD_eq (sz:Nat) (x:DV):dvEq x (nilD sz x):=by
 unfold nilD;split
 . exact ⟨rfl,rfl⟩
 . exact dvEq_refl x
theorem nilI_eq (sz:Nat) (x:Ic):icEq x (nilI sz x):=by
 cases x with
 |d x=>exact nilD_eq sz x
 |ow a b c=>exact ⟨rfl,rfl,fun _ _=>rfl⟩
theorem nilIs_eq (sz:Nat): ∀xs:List Ic,icsEq xs (xs.map (nilI sz))
 | []=>trivial
 |x::xs=>⟨nilI_eq sz x,nilIs_eq sz xs⟩
theorem nilA_eq (sz:Nat) (x:Ar):arEq x (nilA sz x):=by
 cases x with
 |c x=>exact nilI_eq sz x
 |agg xs=>exact nilIs_eq sz xs
 |rp _=>rfl
 |fv _=>rfl
theorem nilAs_eq (sz:Nat): ∀xs:List Ar,arsEq xs (xs.map (nilA sz))
 | []=>trivial
 |x::xs=>⟨nilA_eq sz x,nilAs_eq sz xs⟩
theorem nil_icRows (sz:Nat): ∀xs:List Ic,icRows (xs.map (nilI sz))=icRows xs
 | []=>rfl
 | .d x::xs=>by simp only [List.map_cons,nilI,icRows];exact nil_icRows sz xs
 | .ow a b c::xs=>by simp only [List.map_cons,nilI,icRows];rw [nil_icRows sz xs]
theorem nil_arRows (sz:Nat) (x:Ar):arRows (nilA sz x)=arRows x:=by
 cases x with
 |c x=>cases x<;>rfl
 |agg xs=>exact nil_icRows sz xs
 |rp _=>rfl
 |fv _=>rfl
theorem nil_arsRows (sz:Nat): ∀xs:List Ar,arsRows (xs.map (nilA sz))=arsRows xs
 | []=>rfl
 |x::xs=>by simp only [List.map_cons,arsRows];rw [nil_arRows,nil_arsRows sz xs]
theorem fc_nil {P:Program} {f:Nat} {F:List Ar->Option Rs} (sz:Nat) (h:FC P f F):FC P f (FN sz F):=by
 intro qs pre r us he hp
 unfold FN at he
 split at he
 . rename_i h0
   split at he
   . rename_i p r' hF
     cases he
     exact FCat.of_eq (nilAs_eq sz qs) h0 (by rw [nil_arsRows];exact h0) (h _ _ _ _ hF hp)
   . cases he
 . cases he
theorem far_val {a b:Int} (ha: -9223372036854775808<=a/\ a<9223372036854775808) (hb: -9223372036854775808<=b/\ b<9223372036854775808):Wd.val (wd (Wd.val (wd a)-Wd.val (wd b)))=a-b:=by
 rw [wd_val (by rw [wd_val (v:=a) (by omega) (by omega),wd_val (v:=b) (by omega) (by omega)];omega) (by rw [wd_val (v:=a) (by omega) (by omega),wd_val (v:=b) (by omega) (by omega)];omega),wd_val (v:=a) (by omega) (by omega),wd_val (v:=b) (by omega) (by omega)]
def FVInt:List Ar->Option Rs
 | [.agg [.d (.v (.bool s0)),.d (.v (.int .i64 l0)),.d (.v (.int .i64 h0))],.agg [.d (.v (.bool b1)),.d (.v (.int .i64 m1)),.d (.v (.int .i64 r1))]]=>some ⟨(Sp.inR ⟨s0,l0,h0⟩)/\ (Cg.inR ⟨b1,m1,r1⟩),.va (Vl.ar (Vl.reduce ⟨⟨(⟨s0,l0,h0⟩:Sp),(⟨b1,m1,r1⟩:Cg)⟩,⟨false,[]⟩⟩)),[]⟩
 |_=>none
theorem fcVInt:FC Tryz.prog 59 FVInt:=by
 intro xs pre r us h hp
 unfold FVInt at h
 split at h
 . rename_i s0 l0 h0 b1 m1 r1
   cases h
   obtain ⟨hp0,hp1⟩:=hp
   refine fcat tys_ok (l:= [(38,⟨[],FN 1 FVReduce⟩)]) ⟨fc_nil 1 fcVReduce,trivial⟩ Tryz.func59 rfl (by kernel_rfl) true ?_
   repeat' (first|exact trivial|refine ⟨?_, ?_⟩|intro _)
   all_goals first|(with_reducible first|apply qa|apply qb|apply qc|apply qd)|(conv=>whnf)
   all_goals first|exact hp0.1.1|exact hp0.1.2|exact hp0.2.1|exact hp0.2.2|exact hp1.1.1|exact hp1.1.2|exact hp1.2.1|exact hp1.2.2|exact hp0|exact hp1|exact Nat.zero_le _|rfl|(intro _ h;exact absurd h (Nat.not_lt_zero _))|(exact absurd ‹_<0› (Nat.not_lt_zero _))
 . cases h
theorem clean_live {i:Ig} (h:i.clean.s.some=true):i.clean.c.some=true/\ i.clean.s.lo<=i.clean.s.hi:=by
 unfold Ig.clean at*
 split at h
 . simp [Ig.zero] at h
 . rename_i hn
   rw [if_neg hn]
   rw [sp_clean_some] at h
   rw [cg_clean_some]
   unfold Ig.none at hn
   have hs:i.s.none=false:=by simpa using h
   have hcs:i.c.some=true:=by simpa [hs] using hn
   have e:i.s.clean=i.s:=by unfold Sp.clean;rw [hs];rfl
   refine ⟨hcs, ?_⟩
   dsimp only
   rw [e]
   unfold Sp.none at hs
   simp at hs
   omega
theorem clean_dead {i:Ig} (h:i.clean.s.some=false):i.clean=Ig.zero:=by
 unfold Ig.clean at*
 split at h
 . rename_i hn;rw [if_pos hn]
 . rename_i hn
   rw [sp_clean_some] at h
   unfold Ig.none at hn
   simp_all
theorem rd_has {S:Bool} {L H R:Int} (hS:S=true):Sp.has ⟨S,L,H⟩ R=(decide (R≥L)&&decide (R<=H)):=by unfold Sp.has;simp [hS]
theorem rd_nn {S B:Bool} {L H M R:Int} (hS:S=true) (hl:S=true->B=true/\ L<=H):Ig.none ⟨⟨S,L,H⟩,⟨B,M,R⟩⟩=false:=by
 have:=hl hS
 unfold Ig.none Sp.none;simp_all
theorem rd_2 {S B:Bool} {L H M R:Int} (hS:S=true) (hM:M=0) (h:Sp.has ⟨S,L,H⟩ R=false):Ig.red ⟨⟨S,L,H⟩,⟨B,M,R⟩⟩=Ig.zero:=by
 rw [rd_has hS] at h
 unfold Ig.red
 split
 . rfl
 . rw [if_pos]
   have h1:=upV_0 (n:=L) (r:=R) (b:=B) hM
   have h2:=upV_0 (n:=H) (r:=R) (b:=B) hM
   rw [h1.2.1,h2.2.2.2,h1.1,h2.2.2.1]
   simp only [Bool.and_eq_false_iff,decide_eq_false_iff_not] at h
   simp;omega
theorem rd_3 {S B:Bool} {L H M R:Int} (hS:S=true) (hl:S=true->B=true/\ L<=H) (hM:M=0) (h:Sp.has ⟨S,L,H⟩ R=true):Ig.red ⟨⟨S,L,H⟩,⟨B,M,R⟩⟩=⟨Sp.of R R,⟨true,0,R⟩⟩:=by
 rw [rd_has hS] at h
 unfold Ig.red
 have h1:=upV_0 (n:=L) (r:=R) (b:=B) hM
 have h2:=upV_0 (n:=H) (r:=R) (b:=B) hM
 rw [rd_nn hS hl,h1.2.1,h2.2.2.2,h1.1,h2.2.2.1]
 simp only [Bool.and_eq_true,decide_eq_true_eq] at h
 simp [h.1,h.2,Cg.of,md]
theorem rd_4 {S B:Bool} {L H M R:Int} (hM: ¬M=0) (h:((!wIntB (upW L ⟨B,M,R⟩)|| !wIntB (dnW H ⟨B,M,R⟩))||decide (wIntV (upW L ⟨B,M,R⟩)>wIntV (dnW H ⟨B,M,R⟩)))=true):Ig.red ⟨⟨S,L,H⟩,⟨B,M,R⟩⟩=Ig.zero:=by
 unfold Ig.red
 have h1:=upV_1 (n:=L) (r:=R) (b:=B) hM
 have h2:=upV_1 (n:=H) (r:=R) (b:=B) hM
 rw [h1.2.1,h2.2.2.2,h1.1,h2.2.2.1]
 rw [if_pos (c:=_=true) h]
 split<;>rfl
theorem rd_5 {S B:Bool} {L H M R:Int} (hS:S=true) (hl:S=true->B=true/\ L<=H) (hM: ¬M=0) (h:((!wIntB (upW L ⟨B,M,R⟩)|| !wIntB (dnW H ⟨B,M,R⟩))||decide (wIntV (upW L ⟨B,M,R⟩)>wIntV (dnW H ⟨B,M,R⟩)))=false):
 Ig.red ⟨⟨S,L,H⟩,⟨B,M,R⟩⟩=if wIntV (upW L ⟨B,M,R⟩)=wIntV (dnW H ⟨B,M,R⟩) then ⟨Sp.of (wIntV (upW L ⟨B,M,R⟩)) (wIntV (upW L ⟨B,M,R⟩)),⟨true,0,wIntV (upW L ⟨B,M,R⟩)⟩⟩ else ⟨Sp.of (wIntV (upW L ⟨B,M,R⟩)) (wIntV (dnW H ⟨B,M,R⟩)),⟨B,M,R⟩⟩:=by
 unfold Ig.red
 have h1:=upV_1 (n:=L) (r:=R) (b:=B) hM
 have h2:=upV_1 (n:=H) (r:=R) (b:=B) hM
 rw [rd_nn hS hl,h1.2.1,h2.2.2.2,h1.1,h2.2.2.1,h]
 rw [if_neg (by decide),if_neg (by decide)]
 split
 . simp [Cg.of,md]
 . rfl
theorem rd_4a {S B:Bool} {L H M R:Int} (hM: ¬M=0) (h:(!wIntB (upW L ⟨B,M,R⟩))=true):Ig.red ⟨⟨S,L,H⟩,⟨B,M,R⟩⟩=Ig.zero:=rd_4 hM (by rw [h];rfl)
theorem rd_4b {S B:Bool} {L H M R:Int} (hM: ¬M=0) (h:(!wIntB (dnW H ⟨B,M,R⟩))=true):Ig.red ⟨⟨S,L,H⟩,⟨B,M,R⟩⟩=Ig.zero:=rd_4 hM (by rw [h];simp)
theorem rd_4c {S B:Bool} {L H M R:Int} (hM: ¬M=0) (h:decide (wIntV (upW L ⟨B,M,R⟩)>wIntV (dnW H ⟨B,M,R⟩))=true):Ig.red ⟨⟨S,L,H⟩,⟨B,M,R⟩⟩=Ig.zero:=rd_4 hM (by rw [h];simp)
end Go.Proofs.YtehpbhpmkhlldaaGreat
