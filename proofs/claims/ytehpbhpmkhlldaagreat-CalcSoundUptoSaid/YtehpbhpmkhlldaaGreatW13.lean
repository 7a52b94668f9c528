/- What operators on ints come to. No condition. -/
import Derived.Test.YtehpbhpmkhlldaaGreatW11
set_option linter.all false
set_option maxHeartbeats 8000000
set_option maxRecDepth 100000
namespace Go.Proofs.YtehpbhpmkhlldaaGreat
open Go.Sx
section
variable {op a b:Int}
theorem ex_10 (h:(op==10)=true):exI op a b=a+b/\ exB op=true:=by obtain rfl:=eq_of_beq h;exact ⟨rfl,rfl⟩
theorem ex_11 (h:(op==11)=true):exI op a b=a-b/\ exB op=true:=by obtain rfl:=eq_of_beq h;exact ⟨rfl,rfl⟩
theorem ex_7 (h:(op==7)=true):exI op a b=a*b/\ exB op=true:=by obtain rfl:=eq_of_beq h;exact ⟨rfl,rfl⟩
theorem ex_no (h:(op==10)=false) (h1:(op==11)=false) (h2:(op==7)=false):exI op a b=0/\ exB op=false:=by
 unfold exI exB
 rw [h,h1,h2,if_neg (ne_of_beq_false h),if_neg (ne_of_beq_false h1),if_neg (ne_of_beq_false h2)];exact ⟨rfl,rfl⟩
end
theorem wd_addI (A B:Int):wd ((wd A).val+(wd B).val)=wd (A+B):=by unfold wd Wd.val;dsimp only;congr 1<;>omega
theorem wd_sub (A B:Int):wd ((wd A).val-(wd B).val)=wd (A-B):=by unfold wd Wd.val;dsimp only;congr 1<;>omega
theorem wr_wd (e:Int):(Wd.val (wd e)+9223372036854775808)%18446744073709551616-9223372036854775808=wr e:=by unfold wr wd Wd.val;dsimp only;omega
theorem wr_lo (e:Int):IntKind.wrap .i64 (wd e).lo=wr e:=by rw [wI];unfold wr wd;dsimp only;omega
def FXTruth:List Ar->Option Rs
 | [.c (.d (.v (.bool b0)))]=>some ⟨True,.va (.c (.d (it (if b0=true then 1 else 0)))),[]⟩
 |_=>none
theorem fcXTruth:FC Tryz.prog 171 FXTruth:=by
 intro xs pre r us h hp
 unfold FXTruth at h
 split at h
 . rename_i b0
   cases h
   refine fcat tys_ok (l:= []) trivial Tryz.func171 rfl (by kernel_rfl) false ?_
   repeat' (first|exact trivial|refine ⟨?_, ?_⟩|intro _)
   all_goals first|(with_reducible first|apply qa|apply qb|apply qc|apply qd)|(conv=>whnf)
   all_goals first|rfl|(simp_all;done)
 . cases h
def FXExact:List Ar->Option Rs
 | [.c (.d (.v (.int .i64 i0))),.c (.d (.v (.int .i64 i1))),.c (.d (.v (.int .i64 i2)))]=>some ⟨(-9223372036854775808<=i0/\ i0<9223372036854775808)/\ (-9223372036854775808<=i1/\ i1<9223372036854775808)/\ (-9223372036854775808<=i2/\ i2<9223372036854775808),.tup [Wd.ar (wd (exI i0 i1 i2)),.c (.d (bo (exB i0)))],[]⟩
 |_=>none
theorem fcXExact:FC Tryz.prog 117 FXExact:=by
 intro xs pre r us h hp
 unfold FXExact at h
 split at h
 . rename_i i0 i1 i2
   cases h
   obtain ⟨hp0,hp1,hp2⟩:=hp
   refine fcat tys_ok (l:= [(122,⟨[],FWOf⟩),(137,⟨[],FWAdd⟩),(121,⟨[],FWSub⟩),(95,⟨[],FWMul⟩)]) ⟨fcWOf,fcWAdd,fcWSub,fcWMul,trivial⟩ Tryz.func117 rfl (by kernel_rfl) false ?_
   repeat' (first|exact trivial|(with_reducible first|exact hp0|exact hp1|exact hp2|exact hp0.1|exact hp0.2|exact hp1.1|exact hp1.2|exact hp2.1|exact hp2.2|exact wd_ok _|exact (wd_ok _).1.1|exact (wd_ok _).1.2|exact (wd_ok _).2.1|exact (wd_ok _).2.2)|refine ⟨?_, ?_⟩|intro _)
   all_goals first|(with_reducible first|apply qa|apply qb|apply qc|apply qd)|(conv=>whnf)
   all_goals first|exact (wd_ok _).1.1|exact (wd_ok _).1.2|exact (wd_ok _).2.1|exact (wd_ok _).2.2|(rw [(ex_10 ‹_›).1];first|exact (congrArg (fun w:Wd=>Value.int .i64 w.hi) (wd_addI i1 i2))|exact (congrArg (fun w:Wd=>Value.int .u64 w.lo) (wd_addI i1 i2))|done)|(rw [(ex_10 (a:=0) (b:=0) ‹_›).2];done)|(rw [(ex_11 ‹_›).1];first|exact (congrArg (fun w:Wd=>Value.int .i64 w.hi) (wd_sub i1 i2))|exact (congrArg (fun w:Wd=>Value.int .u64 w.lo) (wd_sub i1 i2))|done)|(rw [(ex_11 (a:=0) (b:=0) ‹_›).2];done)|(rw [(ex_7 ‹_›).1];done)|(rw [(ex_7 (a:=0) (b:=0) ‹_›).2];done)|(rw [(ex_no ‹_› ‹_› ‹_›).1];first|rfl|done)|(rw [(ex_no (a:=0) (b:=0) ‹_› ‹_› ‹_›).2];done)
 . cases h
section
variable {op a b:Int}
theorem pa_0 (ho:op=8 \/op=9) (h:(b==0)=true):doI op a b=0/\ doE op b=10:=by
 obtain rfl:=eq_of_beq h;rcases ho with rfl|rfl<;>exact ⟨rfl,rfl⟩
theorem pa_e (ho:op=8 \/op=9) (h:(b==0)=false):doE op b=0:=by
 have h:=ne_of_beq_false h
 rcases ho with rfl|rfl<;>(unfold doE;rw [if_neg (by decide),if_pos (by decide),if_neg h])
theorem pa_1 (h:(b== -1)=true) (h8:(op==8)=true):doI op a b=wr (-a):=by
 obtain rfl:=eq_of_beq h;obtain rfl:=eq_of_beq h8;rw [doI_div (by decide),show (-1:Int)= -(1) from rfl,Int.tdiv_neg,Int.tdiv_one]
theorem pa_2 (ho:op=8 \/op=9) (h:(b== -1)=true) (h8:(op==8)=false):doI op a b=0:=by
 obtain rfl:=eq_of_beq h
 rcases ho with rfl|rfl
 . cases h8
 . rw [doI_rem (by decide),show (-1:Int)= -(1) from rfl,Int.tmod_neg,Int.tmod_one]
theorem pa_3 (h0:(b==0)=false) (h8:(op==8)=true):doI op a b=wr (a.tdiv b):=by
 obtain rfl:=eq_of_beq h8
 exact doI_div (ne_of_beq_false h0)
theorem pa_4 (ho:op=8 \/op=9) (h0:(b==0)=false) (h8:(op==8)=false):doI op a b=a.tmod b:=by
 rcases ho with rfl|rfl
 . cases h8
 . rw [doI_rem (ne_of_beq_false h0)]
theorem wr_neg (a:Int):IntKind.wrap .i64 (0-a)=wr (-a):=by rw [wI];unfold wr;congr 2;omega
theorem wr_w (a:Int):IntKind.wrap .i64 a=wr a:=wI a
end
def FXParts:List Ar->Option Rs
 | [.c (.d (.v (.int .i64 i0))),.c (.d (.v (.int .i64 i1))),.c (.d (.v (.int .i64 i2)))]=>some ⟨(-9223372036854775808<=i0/\ i0<9223372036854775808)/\ (-9223372036854775808<=i1/\ i1<9223372036854775808)/\ (-9223372036854775808<=i2/\ i2<9223372036854775808)/\ (i0=8 \/i0=9),.tup [.c (.d (it (doI i0 i1 i2))),.c (.d (it (doE i0 i2)))],[]⟩
 |_=>none
theorem fcXParts:FC Tryz.prog 169 FXParts:=by
 intro xs pre r us h hp
 unfold FXParts at h
 split at h
 . rename_i i0 i1 i2
   cases h
   obtain ⟨hp0,hp1,hp2,hp3⟩:=hp
   refine fcat tys_ok (l:= []) trivial Tryz.func169 rfl (by kernel_rfl) false ?_
   repeat' (first|exact trivial|(with_reducible first|exact hp0|exact hp1|exact hp2|exact hp0.1|exact hp0.2|exact hp1.1|exact hp1.2|exact hp2.1|exact hp2.2|exact wd_ok _|exact (wd_ok _).1.1|exact (wd_ok _).1.2|exact (wd_ok _).2.1|exact (wd_ok _).2.2)|refine ⟨?_, ?_⟩|intro _)
   all_goals first|(with_reducible first|apply qa|apply qb|apply qc|apply qd)|(conv=>whnf)
   all_goals first|(rw [(pa_0 hp3 ‹_›).1];done)|(rw [(pa_0 (a:=0) hp3 ‹_›).2];done)|(rw [pa_e hp3 ‹_›];done)|(rw [pa_1 ‹_› ‹_›];first|exact congrArg _ (wr_neg _)|done)|(rw [pa_2 hp3 ‹_› ‹_›];done)|(rw [pa_3 ‹_› ‹_›];exact congrArg (Value.int .i64) (wr_w _))|(exact absurd ‹i2=0› (ne_of_beq_false ‹(i2==0)=false›))|(rw [pa_4 hp3 ‹_› ‹_›];first|rfl|done)
 . cases h
def hoB (op a b:Int):Bool:=decide (12<=op/\ op<=17)&&cmpB op a b
theorem ho_k (a b:Int):hoB 12 a b=decide (a<b)/\ hoB 13 a b=decide (a<=b)/\ hoB 14 a b=(a==b)/\ hoB 15 a b=(a !=b)/\ hoB 16 a b=(a !=0&&b !=0)/\ hoB 17 a b=(a !=0||b !=0):=by
 unfold hoB cmpB
 refine ⟨?_, ?_, ?_, ?_, ?_, ?_⟩<;>(rw [Bool.eq_iff_iff];simp)
theorem ho_no {op a b:Int} (h: ¬(12<=op/\ op<=17)):hoB op a b=false:=by unfold hoB;rw [decide_eq_false h];rfl
def FXHolds:List Ar->Option Rs
 | [.c (.d (.v (.int .i64 i0))),.c (.d (.v (.int .i64 i1))),.c (.d (.v (.int .i64 i2)))]=>some ⟨(-9223372036854775808<=i0/\ i0<9223372036854775808)/\ (-9223372036854775808<=i1/\ i1<9223372036854775808)/\ (-9223372036854775808<=i2/\ i2<9223372036854775808),.tup [.c (.d (bo (hoB i0 i1 i2))),.c (.d (bo (decide (12<=i0/\ i0<=17))))],[]⟩
 |_=>none
theorem fcXHolds:FC Tryz.prog 170 FXHolds:=by
 intro xs pre r us h hp
 unfold FXHolds at h
 split at h
 . rename_i i0 i1 i2
   cases h
   obtain ⟨hp0,hp1,hp2⟩:=hp
   refine fcat tys_ok (l:= []) trivial Tryz.func170 rfl (by kernel_rfl) false ?_
   repeat' (first|exact trivial|(with_reducible first|exact hp0|exact hp1|exact hp2|exact hp0.1|exact hp0.2|exact hp1.1|exact hp1.2|exact hp2.1|exact hp2.2|exact wd_ok _|exact (wd_ok _).1.1|exact (wd_ok _).1.2|exact (wd_ok _).2.1|exact (wd_ok _).2.2)|refine ⟨?_, ?_⟩|intro _)
   all_goals first|(with_reducible first|apply qa|apply qb|apply qc|apply qd)|(conv=>whnf)
   refine scope_ok tys_ok (ls:= []) trivial (by kernel_rfl) 0 rfl (X:=Bool) (fun x=>⟨[(8,vx (.bool x))],[],0,47⟩) (fun _=>0)
    (fun x=>x=hoB i0 i1 i2/\ (12<=i0/\ i0<=17)) [8] [] (fun xs _=>match xs with| [a]=>bT a|_=>false) (fun _ xs _=>match xs with| [a]=>bT a|_=>false) [] [] 0 0 ?_ ?_
   . repeat' (first|exact trivial|refine ⟨?_, ?_⟩|intro _)
     all_goals first|(with_reducible first|apply qa|apply qb|apply qc|apply qd)|(conv=>whnf)
     all_goals first|((with_reducible show idsOk _ _=true);rfl)|skip
     all_goals (try simp only [bT])
     all_goals (try simp only [beq_iff_eq,beq_eq_false_iff_ne,ne_eq] at*)
     all_goals (have hk:=ho_k i1 i2)
     all_goals first|omega|rfl|(exfalso;exact absurd ‹_› ‹¬_›)|(have e:=‹i0=12›;rw [e];first|exact hk.1.symm|done)|(have e:=‹i0=13›;rw [e];exact hk.2.1.symm)|(have e:=‹i0=14›;rw [e];exact hk.2.2.1.symm)|(have e:=‹i0=15›;rw [e];exact hk.2.2.2.1.symm)|(have e:=‹i0=16›;rw [e,hk.2.2.2.2.1];(try (simp_all;done)))|(have e:=‹i0=17›;rw [e,hk.2.2.2.2.2];(try (simp_all;done)))|(exact congrArg Value.bool (ho_no (by omega)).symm)|(exact congrArg Value.bool (decide_eq_false (by omega)).symm)
   . rintro x ⟨rfl,hx⟩
     repeat' (first|exact trivial|refine ⟨?_, ?_⟩|intro _)
     all_goals first|(with_reducible first|apply qa|apply qb|apply qc|apply qd)|(conv=>whnf)
     all_goals first|rfl|exact congrArg Value.bool (decide_eq_true hx).symm
 . cases h
section
variable {op a b:Int}
theorem do_x (h:exB op=true):doI op a b=wr (exI op a b)/\ doE op b=0:=by unfold doI doE;rw [if_pos h,if_pos h];exact ⟨rfl,rfl⟩
theorem do_h (h:exB op=false) (h8:(op==8)=false) (h9:(op==9)=false) (hh:decide (12<=op/\ op<=17)=true):doI op a b=(if hoB op a b=true then 1 else 0)/\ doE op b=0:=by
 have hh':=of_decide_eq_true hh
 have h': ¬exB op=true:=by rw [h];decide
 unfold doI doE hoB
 rw [if_neg h',if_neg h',if_neg (ne_of_beq_false h8),if_neg (ne_of_beq_false h9),if_pos hh',if_neg (c:=_ \/_) (by have:=ne_of_beq_false h8;have:=ne_of_beq_false h9;omega),if_pos hh',hh]
 exact ⟨rfl,rfl⟩
theorem do_n (h:exB op=false) (h8:(op==8)=false) (h9:(op==9)=false) (hh:decide (12<=op/\ op<=17)=false):doI op a b=0/\ doE op b=2:=by
 have hh':=of_decide_eq_false hh
 have h': ¬exB op=true:=by rw [h];decide
 unfold doI doE
 rw [if_neg h',if_neg h',if_neg (ne_of_beq_false h8),if_neg (ne_of_beq_false h9),if_neg hh',if_neg (by have:=ne_of_beq_false h8;have:=ne_of_beq_false h9;omega),if_neg hh']
 exact ⟨rfl,rfl⟩
end
def FXDo:List Ar->Option Rs
 | [.c (.d (.v (.int .i64 i0))),.c (.d (.v (.int .i64 i1))),.c (.d (.v (.int .i64 i2)))]=>some ⟨(-9223372036854775808<=i0/\ i0<9223372036854775808)/\ (-9223372036854775808<=i1/\ i1<9223372036854775808)/\ (-9223372036854775808<=i2/\ i2<9223372036854775808),.tup [.c (.d (it (doI i0 i1 i2))),.c (.d (it (doE i0 i2)))],[]⟩
 |_=>none
theorem fcXDo:FC Tryz.prog 146 FXDo:=by
 intro xs pre r us h hp
 unfold FXDo at h
 split at h
 . rename_i i0 i1 i2
   cases h
   obtain ⟨hp0,hp1,hp2⟩:=hp
   refine fcat tys_ok (l:= [(117,⟨[],FXExact⟩),(132,⟨[],FWLow⟩),(169,⟨[],FXParts⟩),(170,⟨[],FXHolds⟩),(171,⟨[],FXTruth⟩)]) ⟨fcXExact,fcWLow,fcXParts,fcXHolds,fcXTruth,trivial⟩ Tryz.func146 rfl (by kernel_rfl) false ?_
   repeat' (first|exact trivial|(with_reducible first|exact hp0|exact hp1|exact hp2|exact hp0.1|exact hp0.2|exact hp1.1|exact hp1.2|exact hp2.1|exact hp2.2|exact wd_ok _|exact (wd_ok _).1.1|exact (wd_ok _).1.2|exact (wd_ok _).2.1|exact (wd_ok _).2.2)|refine ⟨?_, ?_⟩|intro _)
   all_goals first|(with_reducible first|apply qa|apply qb|apply qc|apply qd)|(conv=>whnf)
   all_goals (try simp only [Bool.not_eq_true',Bool.not_eq_false'] at*)
   all_goals first|exact (wd_ok _).1.1|exact (wd_ok _).1.2|exact (wd_ok _).2.1|exact (wd_ok _).2.2|(exact .inl (eq_of_beq ‹(i0==8)=true›))|(exact .inr (eq_of_beq ‹(i0==9)=true›))|(rw [(do_x ‹_›).1];first|exact congrArg (Value.int .i64) (wr_wd _)|exact congrArg (Value.int .i64) (wr_lo _)|done)|(rw [(do_x (a:=0) ‹_›).2];done)|(rw [(do_h ‹_› ‹_› ‹_› ‹_›).1];first|rfl|done)|(rw [(do_h (a:=0) ‹_› ‹_› ‹_› ‹_›).2];done)|(rw [(do_n ‹_› ‹_› ‹_› ‹_›).1];done)|(rw [(do_n (a:=0) ‹_› ‹_› ‹_› ‹_›).2];done)
 . cases h
def stW (s:Int) (a x:Wd):Wd:=if wCmp x.val a.val=s then x else a
def bsN (s:Int) (a:Wd) (f:Nat->List DV):Nat->Wd
 |0=>a
 |k+1=>stW s (bsN s a f k) (gW (f k))
theorem stW_t {s:Int} {a x:Wd} (h:(wCmp x.val a.val==s)=true):stW s a x=x:=by unfold stW;rw [if_pos (by simpa using h)]
theorem stW_f {s:Int} {a x:Wd} (h:(wCmp x.val a.val==s)=false):stW s a x=a:=by unfold stW;rw [if_neg (by simpa using h)]
theorem bsN_ok {s:Int} {a:Wd} {f:Nat->List DV} (ha:a.ok): ∀n,(∀i,i<n->Wd.ok (gW (f i)))->(bsN s a f n).ok
 |0,_=>ha
 |n+1,h=>by
  unfold bsN stW;split
  . exact h n (Nat.lt_succ_self n)
  . exact bsN_ok ha n fun i hi=>h i (Nat.lt_succ_of_lt hi)
theorem bsN_canon (s:Int) (a:Wd) (f:Nat->List DV): ∀n,bsN s a (fun i=> [it (gW (f i)).hi,ut (gW (f i)).lo]) n=bsN s a f n
 |0=>rfl
 |n+1=>by unfold bsN;rw [bsN_canon s a f n];rfl
def valsW (n:Nat) (f:Nat->List DV):List Int:=(List.range n).map fun i=>(gW (f i)).val
theorem valsW_succ (n:Nat) (f:Nat->List DV):valsW (n+1) f=valsW n f++ [(gW (f n)).val]:=by unfold valsW;rw [List.range_succ,List.map_append];rfl
theorem bs_max (a:Wd) (f:Nat->List DV): ∀n,(bsN 1 a f n).val=maxL a.val (valsW n f)
 |0=>rfl
 |n+1=>by
  have ih:=bs_max a f n
  rw [valsW_succ];unfold maxL;rw [List.foldl_append]
  show (stW 1 (bsN 1 a f n) (gW (f n))).val=if maxL a.val (valsW n f)<(gW (f n)).val then (gW (f n)).val else maxL a.val (valsW n f)
  rw [<-ih];unfold stW wCmp
  (repeat' split)<;>first|rfl|omega
theorem bs_min (a:Wd) (f:Nat->List DV): ∀n,(bsN (-1) a f n).val=minL a.val (valsW n f)
 |0=>rfl
 |n+1=>by
  have ih:=bs_min a f n
  rw [valsW_succ];unfold minL;rw [List.foldl_append]
  show (stW (-1) (bsN (-1) a f n) (gW (f n))).val=if (gW (f n)).val<minL a.val (valsW n f) then (gW (f n)).val else minL a.val (valsW n f)
  rw [<-ih];unfold stW wCmp
  (repeat' split)<;>first|rfl|omega
def FWBestN:List Ar->Option Rs
 | [.agg [.d (.v (.int .i64 h0)),.d (.v (.int .u64 l0))],.c (.d (.v (.int .i64 i1))),.c (.d (.lst 2 n2 f2))]=>some ⟨(Wd.ok ⟨h0,l0⟩)/\ (-9223372036854775808<=i1/\ i1<9223372036854775808)/\ ((n2<=1000000/\ ∀i,i<n2->f2 i= [it (gW (f2 i)).hi,ut (gW (f2 i)).lo]/\ Wd.ok (gW (f2 i)))),.va (Wd.ar (bsN i1 (⟨h0,l0⟩:Wd) f2 n2)),[]⟩
 |_=>none
theorem fcWBestN:FC Tryz.prog 157 FWBestN:=by
 intro xs pre r us h hp
 unfold FWBestN at h
 split at h
 . rename_i h0 l0 i1 n2 f2
   cases h
   obtain ⟨hp0,hp1,hp2⟩:=hp
   refine FCat.of_eq (as':= [.agg [.d (.v (.int .i64 h0)),.d (.v (.int .u64 l0))],.c (.d (.v (.int .i64 i1))),.c (.d (.lst 2 n2 fun i=> [it (gW (f2 i)).hi,ut (gW (f2 i)).lo]))]) ?_ rfl rfl ?_
   . repeat' (first|exact trivial|exact rfl|refine ⟨?_, ?_⟩|fail)
     all_goals first|(intro i hi;exact (hp2.2 i hi).1)|exact hp0.2|exact hp1.2|exact hp2.2|(intro i hi;exact (hp0.2 i hi).1)|(intro i hi;exact (hp1.2 i hi).1)|(intro i hi;exact (hp2.2 i hi).1)|grind
   refine fcat tys_ok (l:= [(177,⟨[],FWCmp⟩)]) ⟨fcWCmp,trivial⟩ Tryz.func157 rfl (by kernel_rfl) true ?_
   repeat' (first|exact trivial|refine ⟨?_, ?_⟩|intro _)
   all_goals first|(with_reducible first|apply qa|apply qb|apply qc|apply qd)|(conv=>whnf)
   refine loop_ok tys_ok (l:= [(177,⟨[],FWCmp⟩)]) ⟨fcWCmp,trivial⟩ (by kernel_rfl) (X:=Nat)
    (fun x=>⟨[(11,vx (.int .i64 x)),(10,vx (.int .i64 n2)),(9,.va (.c (.d (.lst 2 n2 fun i=> [it (gW (f2 i)).hi,ut (gW (f2 i)).lo])))),(1,vx (.int .i64 i1)),(3,.va (.c (.own 0 0))),(6,.va (.c (.own 1 0)))],[(0,.cells [.d (it (bsN i1 ⟨h0,l0⟩ f2 x).hi),.d (ut (bsN i1 ⟨h0,l0⟩ f2 x).lo)]),(1,.cells [.d (it 0),.d (ut 0)])],2,23⟩)
    (fun x=>n2-x) (fun x=>x<=n2) [] [] (fun x _ _=>x+1) [0,1] [0,1] 0 0 0 (Nat.zero_le _) ?_ ?_
   . repeat' (first|exact trivial|exact rfl|(intro _ h;exact absurd h (Nat.not_lt_zero _))|(intro _ _;exact rfl)|refine ⟨?_, ?_⟩|fail)
     all_goals first|rfl
   . intro i k1
     have f0:Wd.ok (bsN i1 ⟨h0,l0⟩ f2 i):=bsN_ok hp0 i fun j hj=>(hp2.2 j (by omega)).2
     rcases Nat.lt_or_ge i n2 with hi|hi
     . have hne:decide ((i:Int)<(n2:Int))=true:=decide_eq_true (by omega)
       repeat' (first|exact trivial|(with_reducible first|exact hp2.1|exact f0|exact (hp2.2 i hi).2|exact (fun h=>absurd (hne.symm.trans h) (by decide)))|refine ⟨?_, ?_⟩|intro _)
       all_goals first|(with_reducible first|apply qa|apply qb|apply qc|apply qd)|(conv=>whnf)
       all_goals (try simp only [Int.toNat_natCast] at*)
       all_goals first|omega|rfl|decide|(exact hp0.1.1)|(exact hp0.1.2)|(exact hp0.2.1)|(exact hp0.2.2)|exact f0.1.1|exact f0.1.2|exact f0.2.1|exact f0.2.2|(exact ((hp2.2 i hi).2).1.1)|(exact ((hp2.2 i hi).2).1.2)|(exact ((hp2.2 i hi).2).2.1)|(exact ((hp2.2 i hi).2).2.2)|(exact congrArg (fun w:Wd=>Value.int .i64 w.hi) (stW_t ‹(_==i1)=true›).symm)|(exact congrArg (fun w:Wd=>Value.int .u64 w.lo) (stW_t ‹(_==i1)=true›).symm)|(exact congrArg (fun w:Wd=>Value.int .i64 w.hi) (stW_f ‹(_==i1)=false›).symm)|(exact congrArg (fun w:Wd=>Value.int .u64 w.lo) (stW_f ‹(_==i1)=false›).symm)|(exact congrArg (Value.int .i64) (by first|(rw [wI_id _ (by omega) (by omega)];omega)|omega|(dsimp only;omega)))
     . have hne:decide ((i:Int)<(n2:Int))=false:=decide_eq_false (by omega)
       obtain rfl:i=n2:=by omega
       repeat' (first|exact trivial|(with_reducible exact (fun h=>absurd (hne.symm.trans h) (by decide)))|refine ⟨?_, ?_⟩|intro _)
       all_goals first|(with_reducible first|apply qa|apply qb|apply qc|apply qd)|(conv=>whnf)
       all_goals (try simp only [Int.toNat_natCast] at*)
       all_goals first|omega|rfl|decide|(exact hp0.1.1)|(exact hp0.1.2)|(exact hp0.2.1)|(exact hp0.2.2)|exact f0.1.1|exact f0.1.2|exact f0.2.1|exact f0.2.2|(exact congrArg (fun w:Wd=>Value.int .i64 w.hi) (stW_t ‹(_==i1)=true›).symm)|(exact congrArg (fun w:Wd=>Value.int .u64 w.lo) (stW_t ‹(_==i1)=true›).symm)|(exact congrArg (fun w:Wd=>Value.int .i64 w.hi) (stW_f ‹(_==i1)=false›).symm)|(exact congrArg (fun w:Wd=>Value.int .u64 w.lo) (stW_f ‹(_==i1)=false›).symm)|(exact congrArg (Value.int .i64) (by first|(rw [wI_id _ (by omega) (by omega)];omega)|omega|(dsimp only;omega)))
 . cases h
def FWMaxN:List Ar->Option Rs
 | [.agg [.d (.v (.int .i64 h0)),.d (.v (.int .u64 l0))],.c (.d (.lst 2 n1 f1))]=>some ⟨(Wd.ok ⟨h0,l0⟩)/\ ((n1<=1000000/\ ∀i,i<n1->f1 i= [it (gW (f1 i)).hi,ut (gW (f1 i)).lo]/\ Wd.ok (gW (f1 i)))),.va (Wd.ar (bsN 1 (⟨h0,l0⟩:Wd) f1 n1)),[]⟩
 |_=>none
theorem fcWMaxN:FC Tryz.prog 123 FWMaxN:=by
 intro xs pre r us h hp
 unfold FWMaxN at h
 split at h
 . rename_i h0 l0 n1 f1
   cases h
   obtain ⟨hp0,hp1⟩:=hp
   refine FCat.of_eq (as':= [.agg [.d (.v (.int .i64 h0)),.d (.v (.int .u64 l0))],.c (.d (.lst 2 n1 fun i=> [it (gW (f1 i)).hi,ut (gW (f1 i)).lo]))]) ?_ rfl rfl ?_
   . repeat' (first|exact trivial|exact rfl|refine ⟨?_, ?_⟩|fail)
     all_goals first|(intro i hi;exact (hp1.2 i hi).1)|exact hp0.2|exact hp1.2|exact hp2.2|(intro i hi;exact (hp0.2 i hi).1)|(intro i hi;exact (hp1.2 i hi).1)|(intro i hi;exact (hp2.2 i hi).1)|grind
   refine fcat tys_ok (l:= [(157,⟨[],FWBestN⟩)]) ⟨fcWBestN,trivial⟩ Tryz.func123 rfl (by kernel_rfl) true ?_
   repeat' (first|exact trivial|refine ⟨?_, ?_⟩|intro _)
   all_goals first|(with_reducible first|apply qa|apply qb|apply qc|apply qd)|(conv=>whnf)
   all_goals (try simp only [bsN_canon])
   all_goals first|rfl|decide|exact hp0|exact hp0.1.1|exact hp0.1.2|exact hp0.2.1|exact hp0.2.2|exact hp1.1|exact (hp1.2 _ ‹_›).2.1.1|exact (hp1.2 _ ‹_›).2.1.2|exact (hp1.2 _ ‹_›).2.2.1|exact (hp1.2 _ ‹_›).2.2.2
 . cases h
def FWMinN:List Ar->Option Rs
 | [.agg [.d (.v (.int .i64 h0)),.d (.v (.int .u64 l0))],.c (.d (.lst 2 n1 f1))]=>some ⟨(Wd.ok ⟨h0,l0⟩)/\ ((n1<=1000000/\ ∀i,i<n1->f1 i= [it (gW (f1 i)).hi,ut (gW (f1 i)).lo]/\ Wd.ok (gW (f1 i)))),.va (Wd.ar (bsN (-1) (⟨h0,l0⟩:Wd) f1 n1)),[]⟩
 |_=>none
theorem fcWMinN:FC Tryz.prog 164 FWMinN:=by
 intro xs pre r us h hp
 unfold FWMinN at h
 split at h
 . rename_i h0 l0 n1 f1
   cases h
   obtain ⟨hp0,hp1⟩:=hp
   refine FCat.of_eq (as':= [.agg [.d (.v (.int .i64 h0)),.d (.v (.int .u64 l0))],.c (.d (.lst 2 n1 fun i=> [it (gW (f1 i)).hi,ut (gW (f1 i)).lo]))]) ?_ rfl rfl ?_
   . repeat' (first|exact trivial|exact rfl|refine ⟨?_, ?_⟩|fail)
     all_goals first|(intro i hi;exact (hp1.2 i hi).1)|exact hp0.2|exact hp1.2|exact hp2.2|(intro i hi;exact (hp0.2 i hi).1)|(intro i hi;exact (hp1.2 i hi).1)|(intro i hi;exact (hp2.2 i hi).1)|grind
   refine fcat tys_ok (l:= [(157,⟨[],FWBestN⟩)]) ⟨fcWBestN,trivial⟩ Tryz.func164 rfl (by kernel_rfl) true ?_
   repeat' (first|exact trivial|refine ⟨?_, ?_⟩|intro _)
   all_goals first|(with_reducible first|apply qa|apply qb|apply qc|apply qd)|(conv=>whnf)
   all_goals (try simp only [bsN_canon])
   all_goals first|rfl|decide|exact hp0|exact hp0.1.1|exact hp0.1.2|exact hp0.2.1|exact hp0.2.2|exact hp1.1|exact (hp1.2 _ ‹_›).2.1.1|exact (hp1.2 _ ‹_›).2.1.2|exact (hp1.2 _ ‹_›).2.2.1|exact (hp1.2 _ ‹_›).2.2.2
 . cases h
theorem rw_top {d:Int} (h0:0<=d) (h1:d<170141183460469231731687303715884105728):((wd d).hi !=0)=decide (d≥18446744073709551616):=by
 unfold wd;rw [Bool.eq_iff_iff];simp;omega
theorem cmp_no {a b:Int} (h:a<=b) (h2:decide (wCmp a b>0)=true):False:=by
 have:=of_decide_eq_true h2
 unfold wCmp at this;(repeat' split at this)<;>omega
section
variable {l h:Int} (hb:l≤h) (ht:h-l<170141183460469231731687303715884105728)
include hb ht
theorem wr_1 (k:((wd (h-l)).hi !=0)=true):wrapI l h=allS:=by
 rw [rw_top (by omega) ht] at k;have:=of_decide_eq_true k;unfold wrapI;rw [if_pos (by omega)]
theorem wr_2 (k:((wd (h-l)).hi !=0)=false) (k2:decide (wr l>wr h)=true):wrapI l h=allS:=by
 rw [rw_top (by omega) ht] at k;have:=of_decide_eq_false k;unfold wrapI;rw [if_neg (by omega),if_pos (of_decide_eq_true k2)]
theorem wr_3 (k:((wd (h-l)).hi !=0)=false) (k2:decide (wr l>wr h)=false):wrapI l h=Sp.of (wr l) (wr h):=by
 rw [rw_top (by omega) ht] at k;have:=of_decide_eq_false k;unfold wrapI;rw [if_neg (by omega),if_neg (of_decide_eq_false k2)]
end
theorem wr_low (w:Wd):(w.val+9223372036854775808)%18446744073709551616-9223372036854775808=wr w.val:=rfl
def FReWrap:List Ar->Option Rs
 | [.agg [.d (.v (.int .i64 h0)),.d (.v (.int .u64 l0))],.agg [.d (.v (.int .i64 h1)),.d (.v (.int .u64 l1))]]=>some ⟨(Wd.ok ⟨h0,l0⟩)/\ (Wd.ok ⟨h1,l1⟩)/\ (Wd.val (⟨h0,l0⟩:Wd)<=Wd.val (⟨h1,l1⟩:Wd)/\ Wd.val (⟨h1,l1⟩:Wd)-Wd.val (⟨h0,l0⟩:Wd)<170141183460469231731687303715884105728),.va (Sp.ar (wrapI (Wd.val (⟨h0,l0⟩:Wd)) (Wd.val (⟨h1,l1⟩:Wd)))),[]⟩
 |_=>none
theorem fcReWrap:FC Tryz.prog 163 FReWrap:=by
 intro xs pre r us h hp
 unfold FReWrap at h
 split at h
 . rename_i h0 l0 h1 l1
   cases h
   obtain ⟨hp0,hp1,hp2⟩:=hp
   refine fcat tys_ok (l:= [(121,⟨[],FWSub⟩),(177,⟨[],FWCmp⟩),(132,⟨[],FWLow⟩),(190,⟨[],FSAll⟩),(85,⟨[],FSOf⟩)]) ⟨fcWSub,fcWCmp,fcWLow,fcSAll,fcSOf,trivial⟩ Tryz.func163 rfl (by kernel_rfl) false ?_
   repeat' (first|exact trivial|(with_reducible first|exact hp0|exact hp1|exact hp2|exact hp0.1|exact hp0.2|exact hp1.1|exact hp1.2|exact hp2.1|exact hp2.2|exact wd_ok _|exact (wd_ok _).1.1|exact (wd_ok _).1.2|exact (wd_ok _).2.1|exact (wd_ok _).2.2|exact wr_r _|exact (wr_r _).1|exact (wr_r _).2)|refine ⟨?_, ?_⟩|intro _)
   all_goals first|(with_reducible first|apply qa|apply qb|apply qc|apply qd)|(conv=>whnf)
   all_goals (try simp only [wr_low] at*)
   all_goals first|exact (cmp_no hp2.1 ‹_›).elim|exact (wr_r _).1|exact (wr_r _).2|(have e:=wr_1 hp2.1 hp2.2 ‹_›;first|exact congrArg (fun i:Sp=>Value.bool i.some) e.symm|exact congrArg (fun i:Sp=>Value.int .i64 i.lo) e.symm|exact congrArg (fun i:Sp=>Value.int .i64 i.hi) e.symm|fail)|(have e:=wr_2 hp2.1 hp2.2 ‹_› ‹_›;first|exact congrArg (fun i:Sp=>Value.bool i.some) e.symm|exact congrArg (fun i:Sp=>Value.int .i64 i.lo) e.symm|exact congrArg (fun i:Sp=>Value.int .i64 i.hi) e.symm|fail)|(have e:=wr_3 hp2.1 hp2.2 ‹_› ‹_›;first|exact congrArg (fun i:Sp=>Value.bool i.some) e.symm|exact congrArg (fun i:Sp=>Value.int .i64 i.lo) e.symm|exact congrArg (fun i:Sp=>Value.int .i64 i.hi) e.symm|fail)
 . cases h
theorem foldl_mem {f:Int->Int->Int} (hf: ∀a b,f a b=a \/f a b=b): ∀(l:List Int) (a:Int),l.foldl f a=a \/l.foldl f a∈l
 | [],a=> .inl rfl
 |b::l,a=>by
  have ih:=foldl_mem hf l (f a b)
  rw [List.foldl_cons]
  rcases ih with h|h
  . rcases hf a b with h2|h2
    . left;rw [h,h2]
    . right;rw [h,h2];exact List.mem_cons_self
  . right;exact List.mem_cons_of_mem _ h
theorem minL_mem (a:Int) (l:List Int):minL a l=a \/minL a l∈l:=foldl_mem (fun a b=>by split<;>simp) l a
theorem maxL_mem (a:Int) (l:List Int):maxL a l=a \/maxL a l∈l:=foldl_mem (fun a b=>by split<;>simp) l a
theorem valsW_mem {n:Nat} {f:Nat->List DV} {x:Int} (h:x∈valsW n f): ∃i,i<n/\ x=(gW (f i)).val:=by
 unfold valsW at h
 obtain ⟨i,hi,rfl⟩:=List.mem_map.1 h
 exact ⟨i,List.mem_range.1 hi,rfl⟩
theorem valsW_0 {n:Nat} {f:Nat->List DV} (h:0<n): ∃l,valsW n f=(gW (f 0)).val::l:=by
 cases n with
 |zero=>omega
 |succ n=>unfold valsW;rw [List.range_succ_eq_map];exact ⟨_,rfl⟩
theorem ar_key {n:Nat} {f:Nat->List DV} (h:0<n) (hr: ∀i,i<n-> -85070591730234615865843651857942052864<(gW (f i)).val/\ (gW (f i)).val<=85070591730234615865843651857942052864):around (valsW n f)=wrapI (bsN (-1) (gW (f 0)) f n).val (bsN 1 (gW (f 0)) f n).val/\ (bsN (-1) (gW (f 0)) f n).val<=(bsN 1 (gW (f 0)) f n).val/\ (bsN 1 (gW (f 0)) f n).val-(bsN (-1) (gW (f 0)) f n).val<170141183460469231731687303715884105728:=by
 rw [bs_min,bs_max]
 obtain ⟨l,hl⟩:=valsW_0 (f:=f) h
 refine ⟨by rw [hl];rfl,Int.le_trans (minL_le _ _).1 (le_maxL _ _).1, ?_⟩
 have b1: -85070591730234615865843651857942052864<minL (gW (f 0)).val (valsW n f):=by
  rcases minL_mem (gW (f 0)).val (valsW n f) with e|e
  . rw [e];exact (hr 0 h).1
  . obtain ⟨i,hi,e⟩:=valsW_mem e;rw [e];exact (hr i hi).1
 have b2:maxL (gW (f 0)).val (valsW n f)<=85070591730234615865843651857942052864:=by
  rcases maxL_mem (gW (f 0)).val (valsW n f) with e|e
  . rw [e];exact (hr 0 h).2
  . obtain ⟨i,hi,e⟩:=valsW_mem e;rw [e];exact (hr i hi).2
 generalize minL (gW (f 0)).val (valsW n f)=a at*
 generalize maxL (gW (f 0)).val (valsW n f)=b at*
 omega
def FReAround:List Ar->Option Rs
 | [.c (.d (.lst 2 n0 f0))]=>some ⟨((n0<=1000000/\ ∀i,i<n0->f0 i= [it (gW (f0 i)).hi,ut (gW (f0 i)).lo]/\ Wd.ok (gW (f0 i))))/\ (∀i,i<n0-> -85070591730234615865843651857942052864<(gW (f0 i)).val/\ (gW (f0 i)).val<=85070591730234615865843651857942052864),.va (Sp.ar (around (valsW n0 f0))),[]⟩
 |_=>none
theorem fcReAround:FC Tryz.prog 141 FReAround:=by
 intro xs pre r us h hp
 unfold FReAround at h
 split at h
 . rename_i n0 f0
   cases h
   obtain ⟨hp0,hp1⟩:=hp
   refine FCat.of_eq (as':= [.c (.d (.lst 2 n0 fun i=> [it (gW (f0 i)).hi,ut (gW (f0 i)).lo]))]) ?_ rfl rfl ?_
   . repeat' (first|exact trivial|exact rfl|refine ⟨?_, ?_⟩|fail)
     all_goals first|(intro i hi;exact (hp0.2 i hi).1)|exact hp0.2|exact hp1.2|exact hp2.2|(intro i hi;exact (hp0.2 i hi).1)|(intro i hi;exact (hp1.2 i hi).1)|(intro i hi;exact (hp2.2 i hi).1)|grind
   refine fcat tys_ok (l:= [(164,⟨[],FWMinN⟩),(123,⟨[],FWMaxN⟩),(163,⟨[],FReWrap⟩)]) ⟨fcWMinN,fcWMaxN,fcReWrap,trivial⟩ Tryz.func141 rfl (by kernel_rfl) true ?_
   rcases Nat.eq_zero_or_pos n0 with rfl|hn
   . have hne:(((0:Nat):Int)==0)=true:=rfl
     repeat' (first|exact trivial|(with_reducible exact (fun h=>absurd (hne.symm.trans h) (by decide)))|refine ⟨?_, ?_⟩|intro _)
     all_goals first|(with_reducible first|apply qa|apply qb|apply qc|apply qd)|(conv=>whnf)
     all_goals first|rfl
   . have hne:((n0:Int)==0)=false:=beq_eq_false_iff_ne.2 (by omega)
     have hk:=ar_key hn hp1
     have h1:=bsN_ok (s:=1) (hp0.2 0 hn).2 n0 fun i hi=>(hp0.2 i hi).2
     have h2:=bsN_ok (s:= -1) (hp0.2 0 hn).2 n0 fun i hi=>(hp0.2 i hi).2
     have h3:=(hp0.2 0 hn).2
     repeat' (first|exact trivial|(with_reducible first|exact (fun h=>absurd (hne.symm.trans h) (by decide))|exact hp0.1)|refine ⟨?_, ?_⟩|intro _)
     all_goals first|(with_reducible first|apply qa|apply qb|apply qc|apply qd)|(conv=>whnf)
     all_goals (try simp only [bsN_canon,Int.toNat_zero] at*)
     all_goals first|exact Nat.le_refl _|rfl|omega|exact h1.1.1|exact h1.1.2|exact h1.2.1|exact h1.2.2|exact h2.1.1|exact h2.1.2|exact h2.2.1|exact h2.2.2|exact h3.1.1|exact h3.1.2|exact h3.2.1|exact h3.2.2|exact hp0.1|exact (hp0.2 _ ‹_›).2.1.1|exact (hp0.2 _ ‹_›).2.1.2|exact (hp0.2 _ ‹_›).2.2.1|exact (hp0.2 _ ‹_›).2.2.2|exact hk.2.1|exact hk.2.2|(have e:=hk.1;first|exact congrArg (fun i:Sp=>Value.bool i.some) e.symm|exact congrArg (fun i:Sp=>Value.int .i64 i.lo) e.symm|exact congrArg (fun i:Sp=>Value.int .i64 i.hi) e.symm|fail)
 . cases h
def FReDo1:List Ar->Option Rs
 | [.c (.d (.v (.int .i64 i0))),.c (.d (.v (.int .i64 i1))),.rp [.v (.int .i64 i2)]]=>some ⟨(-9223372036854775808<=i0/\ i0<9223372036854775808)/\ (-9223372036854775808<=i1/\ i1<9223372036854775808)/\ (-9223372036854775808<=i2/\ i2<9223372036854775808),.va (Wd.ar (wd (exI i2 i0 i1))),[]⟩
 |_=>none
theorem fcReDo1:FC Tryz.prog 140 FReDo1:=by
 intro xs pre r us h hp
 unfold FReDo1 at h
 split at h
 . rename_i i0 i1 i2
   cases h
   obtain ⟨hp0,hp1,hp2⟩:=hp
   refine fcat tys_ok (l:= [(117,⟨[],FXExact⟩)]) ⟨fcXExact,trivial⟩ Tryz.func140 rfl (by kernel_rfl) false ?_
   repeat' (first|exact trivial|(with_reducible first|exact hp0|exact hp1|exact hp2|exact hp0.1|exact hp0.2|exact hp1.1|exact hp1.2|exact hp2.1|exact hp2.2|exact wd_ok _|exact (wd_ok _).1.1|exact (wd_ok _).1.2|exact (wd_ok _).2.1|exact (wd_ok _).2.2)|refine ⟨?_, ?_⟩|intro _)
   all_goals first|(with_reducible first|apply qa|apply qb|apply qc|apply qd)|(conv=>whnf)
   all_goals first|exact (wd_ok _).1.1|exact (wd_ok _).1.2|exact (wd_ok _).2.1|exact (wd_ok _).2.2|rfl
 . cases h
theorem quo_m {x y:Int} (h:(y== -1)=true):wd (0-(wd x).val)=wd (x.tdiv y):=by
 obtain rfl:=eq_of_beq h
 rw [show (-1:Int)= -(1) from rfl,Int.tdiv_neg,Int.tdiv_one];unfold wd Wd.val;dsimp only;congr 1<;>omega
theorem quo_d {x y:Int} (hx: -9223372036854775808<=x/\ x<9223372036854775808) (hy: -9223372036854775808<=y/\ y<9223372036854775808) (h0:y≠0) (h:(y== -1)=false):IntKind.wrap .i64 (x.tdiv y)=x.tdiv y:=by
 have:=quo_rng hx hy h0 (fun q=>ne_of_beq_false h q.2)
 exact wI_id _ this.1 this.2
def FReQuo:List Ar->Option Rs
 | [.c (.d (.v (.int .i64 i0))),.c (.d (.v (.int .i64 i1)))]=>some ⟨(-9223372036854775808<=i0/\ i0<9223372036854775808)/\ (-9223372036854775808<=i1/\ i1<9223372036854775808)/\ (i1≠0),.va (Wd.ar (wd (i0.tdiv i1))),[]⟩
 |_=>none
theorem fcReQuo:FC Tryz.prog 166 FReQuo:=by
 intro xs pre r us h hp
 unfold FReQuo at h
 split at h
 . rename_i i0 i1
   cases h
   obtain ⟨hp0,hp1,hp2⟩:=hp
   refine fcat tys_ok (l:= [(122,⟨[],FWOf⟩),(124,⟨[],FWNeg⟩)]) ⟨fcWOf,fcWNeg,trivial⟩ Tryz.func166 rfl (by kernel_rfl) false ?_
   repeat' (first|exact trivial|(with_reducible first|exact hp0|exact hp1|exact hp2|exact hp0.1|exact hp0.2|exact hp1.1|exact hp1.2|exact hp2.1|exact hp2.2|exact wd_ok _|exact (wd_ok _).1.1|exact (wd_ok _).1.2|exact (wd_ok _).2.1|exact (wd_ok _).2.2)|refine ⟨?_, ?_⟩|intro _)
   all_goals first|(with_reducible first|apply qa|apply qb|apply qc|apply qd)|(conv=>whnf)
   all_goals first|exact (wd_ok _).1.1|exact (wd_ok _).1.2|exact (wd_ok _).2.1|exact (wd_ok _).2.2|(exact (hp2 ‹_›).elim)|exact (congrArg (fun w:Wd=>Value.int .i64 w.hi) (quo_m ‹_›))|exact (congrArg (fun w:Wd=>Value.int .u64 w.lo) (quo_m ‹_›))|(rw [quo_d hp0 hp1 hp2 ‹_›];first|rfl|done)|(have:=quo_rng hp0 hp1 hp2 (fun q=>ne_of_beq_false ‹(i1== -1)=false› q.2);first|(rw [quo_d hp0 hp1 hp2 ‹_›];omega)|done)
 . cases h
def rwW (W:List Int) (i:Nat):List DV:= [it (wd (W.getD i 0)).hi,ut (wd (W.getD i 0)).lo]
abbrev gEx (op:Int):List Cv->Option Gs:=mkFv (sums [(140,⟨[],FReDo1⟩)]) 140 [.rp [.v (.int .i64 op)]]
abbrev gQu:List Cv->Option Gs:=mkFv (sums [(166,⟨[],FReQuo⟩)]) 166 []
def crn (f:Int->Int->Int) (a b:Sp):List Int:= [f a.lo b.lo,f a.lo b.hi,f a.hi b.lo,f a.hi b.hi]
theorem crn_row {f:Int->Int->Int} {a b:Sp} {i:Nat} (h:i<4):Sx.rowAt 2 [it (wd (f a.lo b.lo)).hi,ut (wd (f a.lo b.lo)).lo,it (wd (f a.lo b.hi)).hi,ut (wd (f a.lo b.hi)).lo,it (wd (f a.hi b.lo)).hi,ut (wd (f a.hi b.lo)).lo,it (wd (f a.hi b.hi)).hi,ut (wd (f a.hi b.hi)).lo] (0+i)=rwW (crn f a b) i:=by
 have:i=0 \/i=1 \/i=2 \/i=3:=by omega
 rcases this with rfl|rfl|rfl|rfl<;>rfl
def FReCornE (op:Int):List Ar->Option Rs
 | [.agg [.d (.v (.bool s0)),.d (.v (.int .i64 l0)),.d (.v (.int .i64 h0))],.agg [.d (.v (.bool s1)),.d (.v (.int .i64 l1)),.d (.v (.int .i64 h1))],.fv g2]=>some ⟨(Sp.inR ⟨s0,l0,h0⟩)/\ (Sp.inR ⟨s1,l1,h1⟩)/\ (g2=gEx op/\ (-9223372036854775808<=op/\ op<9223372036854775808)),.va (.c (.d (.lst 2 4 (rwW (crn (exI op) (⟨s0,l0,h0⟩:Sp) (⟨s1,l1,h1⟩:Sp)))))),[]⟩
 |_=>none
theorem fcReCornE (op:Int):FC Tryz.prog 142 (FReCornE op):=by
 intro xs pre r us h hp
 unfold FReCornE at h
 split at h
 . rename_i s0 l0 h0 s1 l1 h1 g2
   cases h
   obtain ⟨hp0,hp1,hp2⟩:=hp
   refine fcat tys_ok (l:= [(140,⟨[],FReDo1⟩)]) ⟨fcReDo1,trivial⟩ Tryz.func142 rfl (by kernel_rfl) true ?_
   obtain ⟨rfl,hop⟩:=hp2
   unfold Sp.inR at hp0 hp1
   have r1:=And.intro hp0.1 (And.intro hp1.1 hop)
   have r2:=And.intro hp0.1 (And.intro hp1.2 hop)
   have r3:=And.intro hp0.2 (And.intro hp1.1 hop)
   have r4:=And.intro hp0.2 (And.intro hp1.2 hop)
   repeat' (first|exact trivial|(with_reducible first|exact r1|exact r2|exact r3|exact r4)|refine ⟨?_, ?_⟩|intro _)
   all_goals first|(with_reducible first|apply qa|apply qb|apply qc|apply qd)|(conv=>whnf)
   all_goals first|exact crn_row (a:=⟨s0,l0,h0⟩) (b:=⟨s1,l1,h1⟩) ‹_›|exact Nat.le_refl _
 . cases h
def FReCornQ:List Ar->Option Rs
 | [.agg [.d (.v (.bool s0)),.d (.v (.int .i64 l0)),.d (.v (.int .i64 h0))],.agg [.d (.v (.bool s1)),.d (.v (.int .i64 l1)),.d (.v (.int .i64 h1))],.fv g2]=>some ⟨(Sp.inR ⟨s0,l0,h0⟩)/\ (Sp.inR ⟨s1,l1,h1⟩)/\ (g2=gQu/\ l1≠0/\ h1≠0),.va (.c (.d (.lst 2 4 (rwW (crn Int.tdiv (⟨s0,l0,h0⟩:Sp) (⟨s1,l1,h1⟩:Sp)))))),[]⟩
 |_=>none
theorem fcReCornQ:FC Tryz.prog 142 FReCornQ:=by
 intro xs pre r us h hp
 unfold FReCornQ at h
 split at h
 . rename_i s0 l0 h0 s1 l1 h1 g2
   cases h
   obtain ⟨hp0,hp1,hp2⟩:=hp
   refine fcat tys_ok (l:= [(166,⟨[],FReQuo⟩)]) ⟨fcReQuo,trivial⟩ Tryz.func142 rfl (by kernel_rfl) true ?_
   obtain ⟨rfl,hz1,hz2⟩:=hp2
   unfold Sp.inR at hp0 hp1
   have r1:=And.intro hp0.1 (And.intro hp1.1 hz1)
   have r2:=And.intro hp0.1 (And.intro hp1.2 hz2)
   have r3:=And.intro hp0.2 (And.intro hp1.1 hz1)
   have r4:=And.intro hp0.2 (And.intro hp1.2 hz2)
   repeat' (first|exact trivial|(with_reducible first|exact r1|exact r2|exact r3|exact r4)|refine ⟨?_, ?_⟩|intro _)
   all_goals first|(with_reducible first|apply qa|apply qb|apply qc|apply qd)|(conv=>whnf)
   all_goals first|exact crn_row (f:=Int.tdiv) (a:=⟨s0,l0,h0⟩) (b:=⟨s1,l1,h1⟩) ‹_›|exact Nat.le_refl _
 . cases h
end Go.Proofs.YtehpbhpmkhlldaaGreat
namespace Go.Sx
section
variable {P:Program} {τ:Tys}
def thenJ (K:St->Prop) (Q:Exit->St->Prop):Exit->St->Prop
 | .normal,st=>K st
 | .exit id,st=>Q (.exit id) st
 | .goto l,st=>Q (.goto l) st
 | .ret,st=>Q .ret st
 |_,_=>False
variable {base:Nat} {x y z:Code} {st:St} {Q:Exit→St→Prop}
variable {t:TT} {l:List (Nat×Sm)}
end
def unrN (P:Program) (τ:Tys) (Γ:Sums) (calls:Nat->List Va->St->(Tm->St->Prop)->Prop) (base:Nat) (c:Code) (Q:Exit->St->Prop):Nat->St->Prop
 |0,_=>False
 |n+1,st=>vc P τ Γ calls base c st fun e st'=>match e with
  | .normal=>unrN P τ Γ calls base c Q n st'
  | .exit i=>Q (.exit i) st'
  | .goto i=>Q (.goto i) st'
  | .ret=>Q .ret st'
  |_=>False
theorem loop_n {P:Program} {t:TT} (ht:t.ok P) {l:List (Nat×Sm)} (hl:sumsOk P l) (hmix:P.follows .mixedOrders=true) {base:Nat} {c:Code} {Q:Exit->St->Prop} {st:St} (n:Nat)
 (h:unrN P t.get (sums l) (vcCall P (sums l) base) base c Q n st):ASat P base (.loop c) st Q:=by
 refine ⟨fun ψ S w a hr=> ?_⟩
 refine wp_loop_by (P:=P) (fun k a' w'=> ∃st ψ' S',unrN P t.get (sums l) (vcCall P (sums l) base) base c Q k st/\ Rel P base ψ' S' w' st a'/\ Ext base ψ S w ψ' S' w') ?_ ⟨st,ψ,S,h,hr,Ext.refl _ _ _ _⟩
 rintro k a1 w1 ⟨st1,ψ1,S1,hk,hr1,he1⟩
 cases k with
 |zero=>exact hk.elim
 |succ k=>
  refine wp_mono ((vc_ok (TT.tysOk ht) (TT.zeros ht) (sums_ok hl) hmix (vcCall_ok (sums_ok hl) base) c _ _ hk).run ψ1 S1 w1 a1 hr1) ?_
  rintro e a2 w2 ⟨st2,ψ2,S2,hq,hr2,he2⟩
  cases e with
  |normal=>exact ⟨k,Nat.lt_succ_self k,st2,ψ2,S2,hq,hr2,he1.trans he2⟩
  |exit id=>exact ⟨st2,ψ2,S2,hq,hr2,he1.trans he2⟩
  |goto l=>exact ⟨st2,ψ2,S2,hq,hr2,he1.trans he2⟩
  |ret=>exact ⟨st2,ψ2,S2,hq,hr2,he1.trans he2⟩
  |panic ch=>exact hq.elim
  |outgrown=>exact hq.elim
end Go.Sx
