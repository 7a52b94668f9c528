/- What spans come to: the rest. No condition. -/
import Derived.Test.YtehpbhpmkhlldaaGreatW13
set_option linter.all false
set_option maxHeartbeats 8000000
set_option maxRecDepth 100000
namespace Go.Proofs.YtehpbhpmkhlldaaGreat
open Go.Sx
abbrev atSp (L:List Sp) (i:Nat):Sp:=L.getD i noS
abbrev rwS (L:List Sp) (i:Nat):List DV:= [bo (atSp L i).some,it (atSp L i).lo,it (atSp L i).hi]
theorem lt1 {i:Nat} (h:i<1):i=0:=by omega
theorem lt2 {i:Nat} (h:i<1+1):i=0 \/i=1:=by omega
theorem of_negS:Sp.of (-9223372036854775808) (-1)=⟨true, -9223372036854775808, -1⟩:=rfl
theorem of_posS:Sp.of 1 9223372036854775807=⟨true,1,9223372036854775807⟩:=rfl
theorem parts_k (b:Sp) (m n:Bool) (h:(negS b).none=m) (h2:(posS b).none=n):parts b=(if m=true then [] else [negS b])++(if n=true then [] else [posS b]):=by unfold parts;rw [h,h2]
def FReParts (L:List Sp) (n:Nat):List Ar->Option Rs
 | [.agg [.d (.v (.bool s0)),.d (.v (.int .i64 l0)),.d (.v (.int .i64 h0))]]=>some ⟨(Sp.inR ⟨s0,l0,h0⟩)/\ (parts (⟨s0,l0,h0⟩:Sp)=L/\ L.length=n),.va (.c (.d (.lst 3 n (rwS L)))),[]⟩
 |_=>none
theorem fcReParts (L:List Sp) (n:Nat):FC Tryz.prog 165 (FReParts L n):=by
 intro xs pre r us h hp
 unfold FReParts at h
 split at h
 . rename_i s0 l0 h0
   cases h
   obtain ⟨hp0,hp1⟩:=hp
   refine fcat tys_ok (l:= [(85,⟨[],FSOf⟩),(39,⟨[],FSMeet⟩),(83,⟨[],FSNone⟩)]) ⟨fcSOf,fcSMeet,fcSNone,trivial⟩ Tryz.func165 rfl (by kernel_rfl) true ?_
   obtain ⟨rfl,rfl⟩:=hp1
   have hi0:decide ((0:Int)<2)=true:=rfl
   have hi1:decide (IntKind.i64.wrap (0+1)<(2:Int))=true:=rfl
   have hi2:decide (IntKind.i64.wrap (IntKind.i64.wrap (0+1)+1)<(2:Int))=false:=rfl
   have rn:Sp.inR (Sp.of (-9223372036854775808) (-1)):=by unfold Sp.inR;decide
   have rq:Sp.inR (Sp.of 1 9223372036854775807):=by unfold Sp.inR;decide
   have hmn:=Sp.meet_inR hp0 rn
   have hmq:=Sp.meet_inR hp0 rq
   cases hn:(Sp.meet (⟨s0,l0,h0⟩:Sp) (Sp.of (-9223372036854775808) (-1))).none<;>cases hq:(Sp.meet (⟨s0,l0,h0⟩:Sp) (Sp.of 1 9223372036854775807)).none
   all_goals (have hk:=parts_k (⟨s0,l0,h0⟩:Sp) _ _ hn hq)
   all_goals (simp only [Bool.false_eq_true,if_false,if_true,List.nil_append,List.append_nil,List.cons_append] at hk;have hln:=congrArg List.length hk;simp only [List.length_cons,List.length_nil,Nat.zero_add,Nat.reduceAdd] at hln)
   all_goals (have hn2:=congrArg Bool.not hn;have hq2:=congrArg Bool.not hq;simp only [Bool.not_true,Bool.not_false] at hn2 hq2)
   all_goals rw [hk]
   all_goals repeat' (first|exact trivial|(with_reducible first|exact hp0|exact hp0.1|exact hp0.2|exact hp0.1.1|exact hp0.1.2|exact hp0.2.1|exact hp0.2.2|exact rn|exact rq|exact hmn|exact hmq|exact (fun h=>absurd (hn.symm.trans h) (by decide))|exact (fun h=>absurd (hq.symm.trans h) (by decide))|exact (fun h=>absurd (hn2.symm.trans h) (by decide))|exact (fun h=>absurd (hq2.symm.trans h) (by decide))|exact (fun h=>absurd (hi0.symm.trans h) (by decide))|exact (fun h=>absurd (hi1.symm.trans h) (by decide))|exact (fun h=>absurd (hi2.symm.trans h) (by decide))|exact (fun h:(0:Int)=((1:Nat):Int)=>absurd h (by decide))|exact (fun h:IntKind.i64.wrap (0+1)=((0:Nat):Int)=>absurd h (by decide)))|refine ⟨?_, ?_⟩|intro _)
   all_goals first|(with_reducible first|apply qa|apply qb|apply qc|apply qd)|(conv=>whnf)
   all_goals first|((with_reducible show ASat _ _ _ _ _);refine loop_n tys_ok (l:= [(85,⟨[],FSOf⟩),(39,⟨[],FSMeet⟩),(83,⟨[],FSNone⟩)]) ⟨fcSOf,fcSMeet,fcSNone,trivial⟩ (by kernel_rfl) 3 ?_)|skip
   all_goals repeat' (first|exact trivial|(with_reducible first|exact hp0|exact hp0.1|exact hp0.2|exact hp0.1.1|exact hp0.1.2|exact hp0.2.1|exact hp0.2.2|exact rn|exact rq|exact hmn|exact hmq|exact (fun h=>absurd (hn.symm.trans h) (by decide))|exact (fun h=>absurd (hq.symm.trans h) (by decide))|exact (fun h=>absurd (hn2.symm.trans h) (by decide))|exact (fun h=>absurd (hq2.symm.trans h) (by decide))|exact (fun h=>absurd (hi0.symm.trans h) (by decide))|exact (fun h=>absurd (hi1.symm.trans h) (by decide))|exact (fun h=>absurd (hi2.symm.trans h) (by decide))|exact (fun h:(0:Int)=((1:Nat):Int)=>absurd h (by decide))|exact (fun h:IntKind.i64.wrap (0+1)=((0:Nat):Int)=>absurd h (by decide)))|refine ⟨?_, ?_⟩|intro _)
   all_goals first|(with_reducible first|apply qa|apply qb|apply qc|apply qd)|(conv=>whnf)
   all_goals first|rfl|decide|omega|(rename _<1+1=>hlt;rcases lt2 hlt with e|e<;>(subst e;rfl))|(rename _<1=>hlt;have e:=lt1 hlt;subst e;rfl)
 . cases h
theorem meet_ends {b:Sp} {l h:Int} (k:(Sp.meet b (Sp.of l h)).none=false) (hlh:l<=h):l<=(Sp.meet b (Sp.of l h)).lo/\ (Sp.meet b (Sp.of l h)).lo<=(Sp.meet b (Sp.of l h)).hi/\ (Sp.meet b (Sp.of l h)).hi<=h:=by
 have e:Sp.of l h=⟨true,l,h⟩:=by unfold Sp.of;rw [if_neg (by omega)]
 rw [e] at k⊢
 cases hb:(b.none||Sp.none ⟨true,l,h⟩)
 . have e2:Sp.meet b ⟨true,l,h⟩=Sp.of (max b.lo l) (min b.hi h):=by unfold Sp.meet;rw [if_neg (by rw [hb];decide)]
   rw [e2] at k⊢
   unfold Sp.of at k⊢
   by_cases h2:max b.lo l>min b.hi h
   . rw [if_pos h2] at k;exact absurd k (by decide)
   . rw [if_neg h2];exact ⟨Int.le_max_right _ _,Int.not_lt.1 h2,Int.min_le_right _ _⟩
 . have e2:Sp.meet b ⟨true,l,h⟩=⟨false,0,0⟩:=by unfold Sp.meet;rw [if_pos hb]
   rw [e2] at k;exact absurd k (by decide)
theorem neg_ends {b:Sp} (k:(Sp.meet b (Sp.of (-9223372036854775808) (-1))).none=false):(negS b).lo≠0/\ (negS b).hi≠0:=by have:=meet_ends k (by decide);rw [of_negS] at this;unfold negS;omega
theorem pos_ends {b:Sp} (k:(Sp.meet b (Sp.of 1 9223372036854775807)).none=false):(posS b).lo≠0/\ (posS b).hi≠0:=by have:=meet_ends k (by decide);rw [of_posS] at this;unfold posS;omega
theorem gW_rwW (W:List Int) (i:Nat):gW (rwW W i)=wd (W.getD i 0):=rfl
def Wok (n:Nat) (f:Nat->List DV):Prop:= ∀i,i<n->f i= [it (gW (f i)).hi,ut (gW (f i)).lo]/\ Wd.ok (gW (f i))
def Wrg (n:Nat) (f:Nat->List DV):Prop:= ∀i,i<n-> -85070591730234615865843651857942052864<(gW (f i)).val/\ (gW (f i)).val<=85070591730234615865843651857942052864
theorem wok_rw (n:Nat) (W:List Int):Wok n (rwW W):=fun i _=>⟨rfl,wd_ok _⟩
theorem wok_app {n m:Nat} {f g:Nat->List DV} (hf:Wok n f) (hg:Wok m g):Wok (n+m) (appRow n f g):=fun i hi=>by
 unfold appRow;split
 . exact hf i ‹_›
 . exact hg (i-n) (by omega)
theorem wrg_app {n m:Nat} {f g:Nat->List DV} (hf:Wrg n f) (hg:Wrg m g):Wrg (n+m) (appRow n f g):=fun i hi=>by
 unfold appRow;split
 . exact hf i ‹_›
 . exact hg (i-n) (by omega)
theorem wd_valS {v:Int} (h0: -85070591730234615865843651857942052864<v) (h1:v<=85070591730234615865843651857942052864):(wd v).val=v:=wd_val (by omega) (by omega)
theorem lt4 {i:Nat} (h:i<4):i=0 \/i=1 \/i=2 \/i=3:=by omega
theorem rw_vals {a b c d:Int} (ha: -85070591730234615865843651857942052864<a/\ a<=85070591730234615865843651857942052864) (hb: -85070591730234615865843651857942052864<b/\ b<=85070591730234615865843651857942052864) (hc: -85070591730234615865843651857942052864<c/\ c<=85070591730234615865843651857942052864) (hd: -85070591730234615865843651857942052864<d/\ d<=85070591730234615865843651857942052864):valsW 4 (rwW [a,b,c,d])= [a,b,c,d]/\ Wrg 4 (rwW [a,b,c,d]):=by
 constructor
 . show [(wd a).val,(wd b).val,(wd c).val,(wd d).val]=_
   rw [wd_valS ha.1 ha.2,wd_valS hb.1 hb.2,wd_valS hc.1 hc.2,wd_valS hd.1 hd.2]
 . intro i hi
   rw [gW_rwW]
   rcases lt4 hi with e|e|e|e<;>subst e
   . show _<(wd a).val/\ (wd a).val<=_;rw [wd_valS ha.1 ha.2];exact ha
   . show _<(wd b).val/\ (wd b).val<=_;rw [wd_valS hb.1 hb.2];exact hb
   . show _<(wd c).val/\ (wd c).val<=_;rw [wd_valS hc.1 hc.2];exact hc
   . show _<(wd d).val/\ (wd d).val<=_;rw [wd_valS hd.1 hd.2];exact hd
theorem valsW_app (n m:Nat) (f g:Nat->List DV):valsW (n+m) (appRow n f g)=valsW n f++valsW m g:=by
 unfold valsW
 rw [List.range_add,List.map_append,List.map_map]
 congr 1
 . apply List.map_congr_left
   intro i hi
   have:=List.mem_range.1 hi
   show (gW (appRow n f g i)).val=_
   unfold appRow;rw [if_pos this]
 . apply List.map_congr_left
   intro i _
   show (gW (appRow n f g (n+i))).val=_
   unfold appRow;rw [if_neg (by omega),Nat.add_sub_cancel_left]
theorem quo_rng' {x y:Int} (rx: -9223372036854775808<=x/\ x<9223372036854775808) (ry: -9223372036854775808<=y/\ y<9223372036854775808) (h0:y≠0): -85070591730234615865843651857942052864<x.tdiv y/\ x.tdiv y<=85070591730234615865843651857942052864:=by
 by_cases h:x= -9223372036854775808/\ y= -1
 . obtain ⟨rfl,rfl⟩:=h;decide
 . have:=quo_rng rx ry h0 h;omega
theorem crn_q {a p:Sp} (ha:a.inR) (hp:p.inR) (h:p.lo≠0/\ p.hi≠0):valsW 4 (rwW (crn Int.tdiv a p))=corners Int.tdiv a p/\ Wrg 4 (rwW (crn Int.tdiv a p)):=
 rw_vals (quo_rng' ha.1 hp.1 h.1) (quo_rng' ha.1 hp.2 h.2) (quo_rng' ha.2 hp.1 h.1) (quo_rng' ha.2 hp.2 h.2)
theorem ex_rng {op x y:Int} (rx: -9223372036854775808<=x/\ x<9223372036854775808) (ry: -9223372036854775808<=y/\ y<9223372036854775808): -85070591730234615865843651857942052864<exI op x y/\ exI op x y<=85070591730234615865843651857942052864:=by
 have m1:=mul_hi (a:= -9223372036854775808) (b:=9223372036854775808-1) (c:= -9223372036854775808) (d:=9223372036854775808-1) (x:=x) (y:=y) (hi:=85070591730234615865843651857942052864) (by omega) (by omega) (by omega) (by omega) (by decide) (by decide) (by decide) (by decide)
 have m2:=mul_lo (a:= -9223372036854775808) (b:=9223372036854775808-1) (c:= -9223372036854775808) (d:=9223372036854775808-1) (x:=x) (y:=y) (lo:= -85070591730234615865843651857942052864+9223372036854775808) (by omega) (by omega) (by omega) (by omega) (by decide) (by decide) (by decide) (by decide)
 unfold exI;(repeat' split)<;>omega
theorem at00 (x y:Sp):atSp [x,y] (Int.toNat 0)=x:=rfl
theorem at01 (x y:Sp):atSp [x,y] (IntKind.i64.wrap (0+1)).toNat=y:=rfl
theorem at0 (x:Sp):atSp [x] (Int.toNat 0)=x:=rfl
theorem spEta (x:Sp):(⟨x.some,x.lo,x.hi⟩:Sp)=x:=rfl
theorem dv_2 {a p q:Sp} (kp:valsW 4 (rwW (crn Int.tdiv a p))=corners Int.tdiv a p) (kq:valsW 4 (rwW (crn Int.tdiv a q))=corners Int.tdiv a q):around (valsW (4+4) (appRow 4 (rwW (crn Int.tdiv a p)) (rwW (crn Int.tdiv a q))))=around ([p,q].flatMap fun p=>corners Int.tdiv a p):=by
 rw [valsW_app,kp,kq];rfl
theorem dv_1 {a p:Sp} (kp:valsW 4 (rwW (crn Int.tdiv a p))=corners Int.tdiv a p):around (valsW 4 (rwW (crn Int.tdiv a p)))=around ([p].flatMap fun p=>corners Int.tdiv a p):=by
 rw [kp];rfl
def FReDiv:List Ar->Option Rs
 | [.agg [.d (.v (.bool s0)),.d (.v (.int .i64 l0)),.d (.v (.int .i64 h0))],.agg [.d (.v (.bool s1)),.d (.v (.int .i64 l1)),.d (.v (.int .i64 h1))]]=>some ⟨(Sp.inR ⟨s0,l0,h0⟩)/\ (Sp.inR ⟨s1,l1,h1⟩),.va (Sp.ar (divS (⟨s0,l0,h0⟩:Sp) (⟨s1,l1,h1⟩:Sp))),[]⟩
 |_=>none
theorem fcReDiv:FC Tryz.prog 143 FReDiv:=by
 intro xs pre r us h hp
 unfold FReDiv at h
 split at h
 . rename_i s0 l0 h0 s1 l1 h1
   cases h
   obtain ⟨hp0,hp1⟩:=hp
   refine fcat tys_ok (l:= [(165,⟨[],(FReParts (parts (⟨s1,l1,h1⟩:Sp)) (parts (⟨s1,l1,h1⟩:Sp)).length)⟩),(142,⟨[],FReCornQ⟩),(141,⟨[],FN 2 FReAround⟩),(166,⟨[],FReQuo⟩)]) ⟨(fcReParts (parts (⟨s1,l1,h1⟩:Sp)) (parts (⟨s1,l1,h1⟩:Sp)).length),fcReCornQ,fc_nil 2 fcReAround,fcReQuo,trivial⟩ Tryz.func143 rfl (by kernel_rfl) true ?_
   unfold divS
   have hj00:decide ((0:Int)<((0:Nat):Int))=false:=rfl
   have hs00:((0:Int)<((0:Nat):Int)) \/True:= .inr trivial
   have hj01:decide ((0:Int)<((1:Nat):Int))=true:=rfl
   have hs01:((0:Int)<((1:Nat):Int)):=by decide
   have hj02:decide ((0:Int)<((2:Nat):Int))=true:=rfl
   have hs02:((0:Int)<((2:Nat):Int)):=by decide
   have hj10:decide (IntKind.i64.wrap (0+1)<((0:Nat):Int))=false:=rfl
   have hs10:(IntKind.i64.wrap (0+1)<((0:Nat):Int)) \/True:= .inr trivial
   have hj11:decide (IntKind.i64.wrap (0+1)<((1:Nat):Int))=false:=rfl
   have hs11:(IntKind.i64.wrap (0+1)<((1:Nat):Int)) \/True:= .inr trivial
   have hj12:decide (IntKind.i64.wrap (0+1)<((2:Nat):Int))=true:=rfl
   have hs12:(IntKind.i64.wrap (0+1)<((2:Nat):Int)):=by decide
   have hj20:decide (IntKind.i64.wrap (IntKind.i64.wrap (0+1)+1)<((0:Nat):Int))=false:=rfl
   have hs20:(IntKind.i64.wrap (IntKind.i64.wrap (0+1)+1)<((0:Nat):Int)) \/True:= .inr trivial
   have hj21:decide (IntKind.i64.wrap (IntKind.i64.wrap (0+1)+1)<((1:Nat):Int))=false:=rfl
   have hs21:(IntKind.i64.wrap (IntKind.i64.wrap (0+1)+1)<((1:Nat):Int)) \/True:= .inr trivial
   have hj22:decide (IntKind.i64.wrap (IntKind.i64.wrap (0+1)+1)<((2:Nat):Int))=false:=rfl
   have hs22:(IntKind.i64.wrap (IntKind.i64.wrap (0+1)+1)<((2:Nat):Int)) \/True:= .inr trivial
   have hi0:decide ((0:Int)<2)=true:=rfl
   have hi1:decide (IntKind.i64.wrap (0+1)<(2:Int))=true:=rfl
   have hi2:decide (IntKind.i64.wrap (IntKind.i64.wrap (0+1)+1)<(2:Int))=false:=rfl
   have rn:Sp.inR (Sp.of (-9223372036854775808) (-1)):=by unfold Sp.inR;decide
   have rq:Sp.inR (Sp.of 1 9223372036854775807):=by unfold Sp.inR;decide
   have hmn:=Sp.meet_inR hp1 rn
   have hmq:=Sp.meet_inR hp1 rq
   cases hn:(Sp.meet (⟨s1,l1,h1⟩:Sp) (Sp.of (-9223372036854775808) (-1))).none<;>cases hq:(Sp.meet (⟨s1,l1,h1⟩:Sp) (Sp.of 1 9223372036854775807)).none
   all_goals (have hk:=parts_k (⟨s1,l1,h1⟩:Sp) _ _ hn hq)
   all_goals (simp only [Bool.false_eq_true,if_false,if_true,List.nil_append,List.append_nil,List.cons_append] at hk;have hln:=congrArg List.length hk;simp only [List.length_cons,List.length_nil,Nat.zero_add,Nat.reduceAdd] at hln)
   all_goals (have hn2:=congrArg Bool.not hn;have hq2:=congrArg Bool.not hq;simp only [Bool.not_true,Bool.not_false] at hn2 hq2)
   . have hN:=neg_ends hn
     have kN:=crn_q hp0 hmn hN
     have gN:Sp.inR (negS ⟨s1,l1,h1⟩):=hmn
     unfold Sp.inR at gN
     have hP:=pos_ends hq
     have kP:=crn_q hp0 hmq hP
     have gP:Sp.inR (posS ⟨s1,l1,h1⟩):=hmq
     unfold Sp.inR at gP
     rw [hln,hk]
     all_goals repeat' (first|exact trivial|(with_reducible first|exact hp0|exact hp1|exact And.intro hk hln|exact hk|exact hln|exact (fun h=>absurd (hn.symm.trans h) (by decide))|exact (fun h=>absurd (hq.symm.trans h) (by decide))|exact (fun h=>absurd (hn2.symm.trans h) (by decide))|exact (fun h=>absurd (hq2.symm.trans h) (by decide))|exact (fun h=>absurd (hj00.symm.trans h) (by decide))|exact (fun h=>absurd (hj01.symm.trans h) (by decide))|exact (fun h=>absurd (hj02.symm.trans h) (by decide))|exact (fun h=>absurd (hj10.symm.trans h) (by decide))|exact (fun h=>absurd (hj11.symm.trans h) (by decide))|exact (fun h=>absurd (hj12.symm.trans h) (by decide))|exact (fun h=>absurd (hj20.symm.trans h) (by decide))|exact (fun h=>absurd (hj21.symm.trans h) (by decide))|exact (fun h=>absurd (hj22.symm.trans h) (by decide))|exact hs01|exact hs02|exact hs12)|refine ⟨?_, ?_⟩|intro _)
     all_goals first|(with_reducible first|apply qa|apply qb|apply qc|apply qd)|(conv=>whnf)
     all_goals first|((with_reducible show ASat _ _ _ _ _);refine loop_n tys_ok (l:= [(165,⟨[],(FReParts (parts (⟨s1,l1,h1⟩:Sp)) (parts (⟨s1,l1,h1⟩:Sp)).length)⟩),(142,⟨[],FReCornQ⟩),(141,⟨[],FN 2 FReAround⟩),(166,⟨[],FReQuo⟩)]) ⟨fcReParts _ _,fcReCornQ,fc_nil 2 fcReAround,fcReQuo,trivial⟩ (by kernel_rfl) 3 ?_)|skip
     all_goals repeat' (first|exact trivial|(with_reducible first|exact hp0|exact hp1|exact And.intro hk hln|exact hk|exact hln|exact (fun h=>absurd (hn.symm.trans h) (by decide))|exact (fun h=>absurd (hq.symm.trans h) (by decide))|exact (fun h=>absurd (hn2.symm.trans h) (by decide))|exact (fun h=>absurd (hq2.symm.trans h) (by decide))|exact (fun h=>absurd (hj00.symm.trans h) (by decide))|exact (fun h=>absurd (hj01.symm.trans h) (by decide))|exact (fun h=>absurd (hj02.symm.trans h) (by decide))|exact (fun h=>absurd (hj10.symm.trans h) (by decide))|exact (fun h=>absurd (hj11.symm.trans h) (by decide))|exact (fun h=>absurd (hj12.symm.trans h) (by decide))|exact (fun h=>absurd (hj20.symm.trans h) (by decide))|exact (fun h=>absurd (hj21.symm.trans h) (by decide))|exact (fun h=>absurd (hj22.symm.trans h) (by decide))|exact hs01|exact hs02|exact hs12)|refine ⟨?_, ?_⟩|intro _)
     all_goals first|(with_reducible first|apply qa|apply qb|apply qc|apply qd)|(conv=>whnf)
     all_goals (try simp only [Nat.zero_add,at00,at01,at0,spEta])
     all_goals first|(with_reducible rfl)|((with_reducible show Value.bool _=_);exact congrArg (fun i:Sp=>Value.bool i.some) ((dv_2 kN.1 kP.1)))|((with_reducible show Value.int _ _=_);first|exact congrArg (fun i:Sp=>Value.int .i64 i.lo) ((dv_2 kN.1 kP.1))|exact congrArg (fun i:Sp=>Value.int .i64 i.hi) ((dv_2 kN.1 kP.1)))|(with_reducible first|exact gN.1.1|exact gN.1.2|exact gN.2.1|exact gN.2.2)|((with_reducible show False);exact hN.1 ‹_›)|((with_reducible show False);exact hN.2 ‹_›)|((with_reducible show _<Wd.val _);exact (kN.2 _ ‹_›).1)|((with_reducible show Wd.val _<=_);exact (kN.2 _ ‹_›).2)|(with_reducible first|exact gP.1.1|exact gP.1.2|exact gP.2.1|exact gP.2.2)|((with_reducible show False);exact hP.1 ‹_›)|((with_reducible show False);exact hP.2 ‹_›)|((with_reducible show _<Wd.val _);exact (kP.2 _ ‹_›).1)|((with_reducible show Wd.val _<=_);exact (kP.2 _ ‹_›).2)|((with_reducible show _<Wd.val _);exact (wrg_app kN.2 kP.2 _ ‹_›).1)|((with_reducible show Wd.val _<=_);exact (wrg_app kN.2 kP.2 _ ‹_›).2)|exact (wok_app (wok_rw 4 _) (wok_rw 4 _) _ ‹_›).1|exact (wok_app (wok_rw 4 _) (wok_rw 4 _) _ ‹_›).2.1.1|exact (wok_app (wok_rw 4 _) (wok_rw 4 _) _ ‹_›).2.1.2|exact (wok_app (wok_rw 4 _) (wok_rw 4 _) _ ‹_›).2.2.1|exact (wok_app (wok_rw 4 _) (wok_rw 4 _) _ ‹_›).2.2.2|decide|rfl
   . have hN:=neg_ends hn
     have kN:=crn_q hp0 hmn hN
     have gN:Sp.inR (negS ⟨s1,l1,h1⟩):=hmn
     unfold Sp.inR at gN
     rw [hln,hk]
     all_goals repeat' (first|exact trivial|(with_reducible first|exact hp0|exact hp1|exact And.intro hk hln|exact hk|exact hln|exact (fun h=>absurd (hn.symm.trans h) (by decide))|exact (fun h=>absurd (hq.symm.trans h) (by decide))|exact (fun h=>absurd (hn2.symm.trans h) (by decide))|exact (fun h=>absurd (hq2.symm.trans h) (by decide))|exact (fun h=>absurd (hj00.symm.trans h) (by decide))|exact (fun h=>absurd (hj01.symm.trans h) (by decide))|exact (fun h=>absurd (hj02.symm.trans h) (by decide))|exact (fun h=>absurd (hj10.symm.trans h) (by decide))|exact (fun h=>absurd (hj11.symm.trans h) (by decide))|exact (fun h=>absurd (hj12.symm.trans h) (by decide))|exact (fun h=>absurd (hj20.symm.trans h) (by decide))|exact (fun h=>absurd (hj21.symm.trans h) (by decide))|exact (fun h=>absurd (hj22.symm.trans h) (by decide))|exact hs01|exact hs02|exact hs12)|refine ⟨?_, ?_⟩|intro _)
     all_goals first|(with_reducible first|apply qa|apply qb|apply qc|apply qd)|(conv=>whnf)
     all_goals first|((with_reducible show ASat _ _ _ _ _);refine loop_n tys_ok (l:= [(165,⟨[],(FReParts (parts (⟨s1,l1,h1⟩:Sp)) (parts (⟨s1,l1,h1⟩:Sp)).length)⟩),(142,⟨[],FReCornQ⟩),(141,⟨[],FN 2 FReAround⟩),(166,⟨[],FReQuo⟩)]) ⟨fcReParts _ _,fcReCornQ,fc_nil 2 fcReAround,fcReQuo,trivial⟩ (by kernel_rfl) 3 ?_)|skip
     all_goals repeat' (first|exact trivial|(with_reducible first|exact hp0|exact hp1|exact And.intro hk hln|exact hk|exact hln|exact (fun h=>absurd (hn.symm.trans h) (by decide))|exact (fun h=>absurd (hq.symm.trans h) (by decide))|exact (fun h=>absurd (hn2.symm.trans h) (by decide))|exact (fun h=>absurd (hq2.symm.trans h) (by decide))|exact (fun h=>absurd (hj00.symm.trans h) (by decide))|exact (fun h=>absurd (hj01.symm.trans h) (by decide))|exact (fun h=>absurd (hj02.symm.trans h) (by decide))|exact (fun h=>absurd (hj10.symm.trans h) (by decide))|exact (fun h=>absurd (hj11.symm.trans h) (by decide))|exact (fun h=>absurd (hj12.symm.trans h) (by decide))|exact (fun h=>absurd (hj20.symm.trans h) (by decide))|exact (fun h=>absurd (hj21.symm.trans h) (by decide))|exact (fun h=>absurd (hj22.symm.trans h) (by decide))|exact hs01|exact hs02|exact hs12)|refine ⟨?_, ?_⟩|intro _)
     all_goals first|(with_reducible first|apply qa|apply qb|apply qc|apply qd)|(conv=>whnf)
     all_goals (try simp only [Nat.zero_add,at00,at01,at0,spEta])
     all_goals first|(with_reducible rfl)|((with_reducible show Value.bool _=_);exact congrArg (fun i:Sp=>Value.bool i.some) ((dv_1 kN.1)))|((with_reducible show Value.int _ _=_);first|exact congrArg (fun i:Sp=>Value.int .i64 i.lo) ((dv_1 kN.1))|exact congrArg (fun i:Sp=>Value.int .i64 i.hi) ((dv_1 kN.1)))|(with_reducible first|exact gN.1.1|exact gN.1.2|exact gN.2.1|exact gN.2.2)|((with_reducible show False);exact hN.1 ‹_›)|((with_reducible show False);exact hN.2 ‹_›)|((with_reducible show _<Wd.val _);exact (kN.2 _ ‹_›).1)|((with_reducible show Wd.val _<=_);exact (kN.2 _ ‹_›).2)|exact (wok_rw 4 _ _ ‹_›).1|exact (wok_rw 4 _ _ ‹_›).2.1.1|exact (wok_rw 4 _ _ ‹_›).2.1.2|exact (wok_rw 4 _ _ ‹_›).2.2.1|exact (wok_rw 4 _ _ ‹_›).2.2.2|decide|rfl
   . have hP:=pos_ends hq
     have kP:=crn_q hp0 hmq hP
     have gP:Sp.inR (posS ⟨s1,l1,h1⟩):=hmq
     unfold Sp.inR at gP
     rw [hln,hk]
     all_goals repeat' (first|exact trivial|(with_reducible first|exact hp0|exact hp1|exact And.intro hk hln|exact hk|exact hln|exact (fun h=>absurd (hn.symm.trans h) (by decide))|exact (fun h=>absurd (hq.symm.trans h) (by decide))|exact (fun h=>absurd (hn2.symm.trans h) (by decide))|exact (fun h=>absurd (hq2.symm.trans h) (by decide))|exact (fun h=>absurd (hj00.symm.trans h) (by decide))|exact (fun h=>absurd (hj01.symm.trans h) (by decide))|exact (fun h=>absurd (hj02.symm.trans h) (by decide))|exact (fun h=>absurd (hj10.symm.trans h) (by decide))|exact (fun h=>absurd (hj11.symm.trans h) (by decide))|exact (fun h=>absurd (hj12.symm.trans h) (by decide))|exact (fun h=>absurd (hj20.symm.trans h) (by decide))|exact (fun h=>absurd (hj21.symm.trans h) (by decide))|exact (fun h=>absurd (hj22.symm.trans h) (by decide))|exact hs01|exact hs02|exact hs12)|refine ⟨?_, ?_⟩|intro _)
     all_goals first|(with_reducible first|apply qa|apply qb|apply qc|apply qd)|(conv=>whnf)
     all_goals first|((with_reducible show ASat _ _ _ _ _);refine loop_n tys_ok (l:= [(165,⟨[],(FReParts (parts (⟨s1,l1,h1⟩:Sp)) (parts (⟨s1,l1,h1⟩:Sp)).length)⟩),(142,⟨[],FReCornQ⟩),(141,⟨[],FN 2 FReAround⟩),(166,⟨[],FReQuo⟩)]) ⟨fcReParts _ _,fcReCornQ,fc_nil 2 fcReAround,fcReQuo,trivial⟩ (by kernel_rfl) 3 ?_)|skip
     all_goals repeat' (first|exact trivial|(with_reducible first|exact hp0|exact hp1|exact And.intro hk hln|exact hk|exact hln|exact (fun h=>absurd (hn.symm.trans h) (by decide))|exact (fun h=>absurd (hq.symm.trans h) (by decide))|exact (fun h=>absurd (hn2.symm.trans h) (by decide))|exact (fun h=>absurd (hq2.symm.trans h) (by decide))|exact (fun h=>absurd (hj00.symm.trans h) (by decide))|exact (fun h=>absurd (hj01.symm.trans h) (by decide))|exact (fun h=>absurd (hj02.symm.trans h) (by decide))|exact (fun h=>absurd (hj10.symm.trans h) (by decide))|exact (fun h=>absurd (hj11.symm.trans h) (by decide))|exact (fun h=>absurd (hj12.symm.trans h) (by decide))|exact (fun h=>absurd (hj20.symm.trans h) (by decide))|exact (fun h=>absurd (hj21.symm.trans h) (by decide))|exact (fun h=>absurd (hj22.symm.trans h) (by decide))|exact hs01|exact hs02|exact hs12)|refine ⟨?_, ?_⟩|intro _)
     all_goals first|(with_reducible first|apply qa|apply qb|apply qc|apply qd)|(conv=>whnf)
     all_goals (try simp only [Nat.zero_add,at00,at01,at0,spEta])
     all_goals first|(with_reducible rfl)|((with_reducible show Value.bool _=_);exact congrArg (fun i:Sp=>Value.bool i.some) ((dv_1 kP.1)))|((with_reducible show Value.int _ _=_);first|exact congrArg (fun i:Sp=>Value.int .i64 i.lo) ((dv_1 kP.1))|exact congrArg (fun i:Sp=>Value.int .i64 i.hi) ((dv_1 kP.1)))|(with_reducible first|exact gP.1.1|exact gP.1.2|exact gP.2.1|exact gP.2.2)|((with_reducible show False);exact hP.1 ‹_›)|((with_reducible show False);exact hP.2 ‹_›)|((with_reducible show _<Wd.val _);exact (kP.2 _ ‹_›).1)|((with_reducible show Wd.val _<=_);exact (kP.2 _ ‹_›).2)|exact (wok_rw 4 _ _ ‹_›).1|exact (wok_rw 4 _ _ ‹_›).2.1.1|exact (wok_rw 4 _ _ ‹_›).2.1.2|exact (wok_rw 4 _ _ ‹_›).2.2.1|exact (wok_rw 4 _ _ ‹_›).2.2.2|decide|rfl
   . rw [hln,hk]
     all_goals repeat' (first|exact trivial|(with_reducible first|exact hp0|exact hp1|exact And.intro hk hln|exact hk|exact hln|exact (fun h=>absurd (hn.symm.trans h) (by decide))|exact (fun h=>absurd (hq.symm.trans h) (by decide))|exact (fun h=>absurd (hn2.symm.trans h) (by decide))|exact (fun h=>absurd (hq2.symm.trans h) (by decide))|exact (fun h=>absurd (hj00.symm.trans h) (by decide))|exact (fun h=>absurd (hj01.symm.trans h) (by decide))|exact (fun h=>absurd (hj02.symm.trans h) (by decide))|exact (fun h=>absurd (hj10.symm.trans h) (by decide))|exact (fun h=>absurd (hj11.symm.trans h) (by decide))|exact (fun h=>absurd (hj12.symm.trans h) (by decide))|exact (fun h=>absurd (hj20.symm.trans h) (by decide))|exact (fun h=>absurd (hj21.symm.trans h) (by decide))|exact (fun h=>absurd (hj22.symm.trans h) (by decide))|exact hs01|exact hs02|exact hs12)|refine ⟨?_, ?_⟩|intro _)
     all_goals first|(with_reducible first|apply qa|apply qb|apply qc|apply qd)|(conv=>whnf)
     all_goals first|((with_reducible show ASat _ _ _ _ _);refine loop_n tys_ok (l:= [(165,⟨[],(FReParts (parts (⟨s1,l1,h1⟩:Sp)) (parts (⟨s1,l1,h1⟩:Sp)).length)⟩),(142,⟨[],FReCornQ⟩),(141,⟨[],FN 2 FReAround⟩),(166,⟨[],FReQuo⟩)]) ⟨fcReParts _ _,fcReCornQ,fc_nil 2 fcReAround,fcReQuo,trivial⟩ (by kernel_rfl) 3 ?_)|skip
     all_goals repeat' (first|exact trivial|(with_reducible first|exact hp0|exact hp1|exact And.intro hk hln|exact hk|exact hln|exact (fun h=>absurd (hn.symm.trans h) (by decide))|exact (fun h=>absurd (hq.symm.trans h) (by decide))|exact (fun h=>absurd (hn2.symm.trans h) (by decide))|exact (fun h=>absurd (hq2.symm.trans h) (by decide))|exact (fun h=>absurd (hj00.symm.trans h) (by decide))|exact (fun h=>absurd (hj01.symm.trans h) (by decide))|exact (fun h=>absurd (hj02.symm.trans h) (by decide))|exact (fun h=>absurd (hj10.symm.trans h) (by decide))|exact (fun h=>absurd (hj11.symm.trans h) (by decide))|exact (fun h=>absurd (hj12.symm.trans h) (by decide))|exact (fun h=>absurd (hj20.symm.trans h) (by decide))|exact (fun h=>absurd (hj21.symm.trans h) (by decide))|exact (fun h=>absurd (hj22.symm.trans h) (by decide))|exact hs01|exact hs02|exact hs12)|refine ⟨?_, ?_⟩|intro _)
     all_goals first|(with_reducible first|apply qa|apply qb|apply qc|apply qd)|(conv=>whnf)
     all_goals (try simp only [Nat.zero_add,at00,at01,at0,spEta])
     all_goals first|exact Nat.zero_le _|rfl|decide|omega|(intro _ h;exact absurd h (Nat.not_lt_zero _))|exact absurd ‹_<0› (Nat.not_lt_zero _)
 . cases h
end Go.Proofs.YtehpbhpmkhlldaaGreat
