/- What the functions of the reference of the wide layer compute. No condition. -/
import Derived.Test.YtehpbhpmkhlldaaGreatW5
set_option linter.all false
set_option maxHeartbeats 8000000
set_option maxRecDepth 100000
namespace Go.Proofs.YtehpbhpmkhlldaaGreat
open Go.Sx
def cI:Cell->Int
 | .d (.v (.int _ n))=>n
 |_=>0
def aB (b:Blk) (j:Nat):Int:=cI ((csB b)[j]?.getD .top)
def pw8:Nat->Int
 |0=>1
 |1=>65536
 |2=>4294967296
 |3=>281474976710656
 |4=>18446744073709551616
 |5=>1208925819614629174706176
 |6=>79228162514264337593543950336
 |7=>5192296858534827628530496329220096
 |_=>340282366920938463463374607431768211456
def Wd.un (w:Wd):Int:=(w.hi%18446744073709551616)*18446744073709551616+w.lo
def dgt (w:Wd):Nat->Int
 |0=>w.lo/1%65536
 |1=>w.lo/65536%65536
 |2=>w.lo/4294967296%65536
 |3=>w.lo/281474976710656%65536
 |4=>w.hi%18446744073709551616/1%65536
 |5=>w.hi%18446744073709551616/65536%65536
 |6=>w.hi%18446744073709551616/4294967296%65536
 |7=>w.hi%18446744073709551616/281474976710656%65536
 |_=>0
def preS:Nat->(Nat->Int)->Int
 |0,_=>0
 |i+1,f=>preS i f+pw8 i*f i
theorem dgt_bound (w:Wd) (j:Nat):0<=dgt w j/\ dgt w j<65536:=by unfold dgt;split<;>omega
theorem hor_eq (v:Int) (h0:0<=v) (h1:v<18446744073709551616):v/1%65536+65536*(v/65536%65536)+4294967296*(v/4294967296%65536)+281474976710656*(v/281474976710656%65536)=v:=by omega
theorem dgt_sum (w:Wd) (h:w.ok):preS 8 (dgt w)=w.un:=by
 have h1:=hor_eq w.lo h.2.1 h.2.2
 have h2:=hor_eq (w.hi%18446744073709551616) (by omega) (by omega)
 simp only [preS,pw8,dgt,Wd.un] at*
 omega
def w8 (a b c d e f g h:Int):Int:=a+65536*b+4294967296*c+281474976710656*d+18446744073709551616*(e+65536*f+4294967296*g+281474976710656*h)
theorem tdivM (x b:Int):(x%18446744073709551616).tdiv b=x%18446744073709551616/b:=Int.tdiv_eq_ediv_of_nonneg (Int.emod_nonneg _ (by decide))
theorem tmodM (x b:Int):(x%18446744073709551616).tmod b=x%18446744073709551616%b:=Int.tmod_eq_emod_of_nonneg (Int.emod_nonneg _ (by decide))
theorem wd_shift (v k:Int):wd (v+k*340282366920938463463374607431768211456)=wd v:=by
 unfold wd
 have h1:(v+k*340282366920938463463374607431768211456)%18446744073709551616=v%18446744073709551616:=by omega
 have h2:(v+k*340282366920938463463374607431768211456)/18446744073709551616=v/18446744073709551616+k*18446744073709551616:=by omega
 rw [h1,h2]
 congr 1
 omega
theorem wd_un {w:Wd} (h:w.ok) (v:Int):wd (w.un+v)=wd (w.val+v):=by
 unfold Wd.ok at h
 have:w.un+v=w.val+v+(if w.hi<0 then 1 else 0)*340282366920938463463374607431768211456:=by
  unfold Wd.un Wd.val
  split<;>omega
 rw [this,wd_shift]
theorem wd_val_add (v k:Int):wd ((wd v).val+k)=wd (v+k):=by
 obtain ⟨q,hq⟩: ∃q,(wd v).val=v+q*340282366920938463463374607431768211456:=⟨-((v/18446744073709551616+9223372036854775808)/18446744073709551616),by unfold wd Wd.val;dsimp only;omega⟩
 rw [hq,show v+q*340282366920938463463374607431768211456+k=v+k+q*340282366920938463463374607431768211456 by omega,wd_shift]
def wCmp (a b:Int):Int:=if a<b then-1 else if b<a then 1 else 0
def pw:Nat->Int
 |0=>1
 |1=>65536
 |2=>4294967296
 |3=>281474976710656
 |_=>18446744073709551616
theorem preS8 (d:Nat->Int):preS 8 d=w8 (d 0) (d 1) (d 2) (d 3) (d 4) (d 5) (d 6) (d 7):=by simp only [preS,pw8,w8];omega
theorem add_key {a b:Wd} (ha:a.ok) (hb:b.ok) {d:Nat->Int} {c:Int} (h:preS 8 d+c*340282366920938463463374607431768211456=preS 8 (dgt a)+preS 8 (dgt b)):wd (w8 (d 0) (d 1) (d 2) (d 3) (d 4) (d 5) (d 6) (d 7))=wd (a.val+b.val):=by
 rw [dgt_sum a ha,dgt_sum b hb,preS8] at h
 rw [show w8 (d 0) (d 1) (d 2) (d 3) (d 4) (d 5) (d 6) (d 7)=a.un+(b.un+ -c*340282366920938463463374607431768211456) by omega,wd_un ha,show a.val+(b.un+ -c*340282366920938463463374607431768211456)=b.un+a.val+ -c*340282366920938463463374607431768211456 by omega,wd_shift,wd_un hb,Int.add_comm]
def FDigits:List Ar->Option Rs
 | [.agg [.d (.v (.int .i64 h0)),.d (.v (.int .u64 l0))]]=>some ⟨(Wd.ok ⟨h0,l0⟩),.va (.agg [.d (ut (dgt (⟨h0,l0⟩:Wd) 0)),.d (ut (dgt (⟨h0,l0⟩:Wd) 1)),.d (ut (dgt (⟨h0,l0⟩:Wd) 2)),.d (ut (dgt (⟨h0,l0⟩:Wd) 3)),.d (ut (dgt (⟨h0,l0⟩:Wd) 4)),.d (ut (dgt (⟨h0,l0⟩:Wd) 5)),.d (ut (dgt (⟨h0,l0⟩:Wd) 6)),.d (ut (dgt (⟨h0,l0⟩:Wd) 7))]),[]⟩
 |_=>none
theorem fcDigits:FC Tryz.prog 101 FDigits:=by
 intro xs pre r us h hp
 unfold FDigits at h
 split at h
 . rename_i h0 l0
   cases h
   have hp0:=hp
   refine fcat tys_ok (l:= []) trivial Tryz.func101 rfl (by kernel_rfl) false ?_
   repeat' (first|exact trivial|refine ⟨?_, ?_⟩|intro _)
   all_goals first|(with_reducible first|apply qa|apply qb|apply qc|apply qd)|(conv=>whnf)
   refine loop_ok tys_ok (l:= []) trivial (by kernel_rfl) (X:=Nat×Int×Int×(Nat->Int))
    (fun|(i,lo,hi,d)=>⟨[(6,vx (.int .i64 i)),(4,vx (.int .u64 lo)),(5,vx (.int .u64 hi)),(3,.va (.c (.own 2 0))),(2,.va (.c (.own 1 0)))],[(1,.cells [.d (ut (0)),.d (ut (0)),.d (ut (0)),.d (ut (0)),.d (ut (0)),.d (ut (0)),.d (ut (0)),.d (ut (0))]),(2,.cells [.d (ut (d 0)),.d (ut (d 1)),.d (ut (d 2)),.d (ut (d 3)),.d (ut (d 4)),.d (ut (d 5)),.d (ut (d 6)),.d (ut (d 7))])],3,30⟩)
    (fun|(i,_)=>4-i) (fun|(i,lo,hi,d)=>((0<=lo/\ lo<18446744073709551616)/\ 0<=hi/\ hi<18446744073709551616)/\ i<=4/\ lo=l0/pw i/\ hi=h0%18446744073709551616/pw i/\ (0<i->d 0=dgt ⟨h0,l0⟩ 0/\ d 4=dgt ⟨h0,l0⟩ 4)/\ (1<i->d 1=dgt ⟨h0,l0⟩ 1/\ d 5=dgt ⟨h0,l0⟩ 5)/\ (2<i->d 2=dgt ⟨h0,l0⟩ 2/\ d 6=dgt ⟨h0,l0⟩ 6)/\ (3<i->d 3=dgt ⟨h0,l0⟩ 3/\ d 7=dgt ⟨h0,l0⟩ 7)) [4,5] [2]
    (fun|(i,_),[t,u],[b]=>(i+1,iT t,iT u,aB b)|x,_,_=>x) [0,1,2] [0,1,2] 0 0 (0,l0,IntKind.wrap .u64 h0,fun _=>0) ?_ ?_ ?_
   . rw [wU];simp only [Wd.ok,pw] at*;omega
   . repeat' (first|exact trivial|exact rfl|(intro _ _;exact rfl)|refine ⟨?_, ?_⟩)
   . rintro ⟨i,lo,hi,d⟩ ⟨⟨⟨k1,k2⟩,k3,k4⟩,h1,h2,h3,h4⟩
     repeat' (first|exact trivial|refine ⟨?_, ?_⟩|intro _)
     all_goals first|(with_reducible first|apply qa|apply qb|apply qc|apply qd)|(conv=>whnf)
     all_goals first|with_reducible rfl|((with_reducible show idsOk _ _=true);rfl)|(exact absurd ‹(65536:Int)=0› (by decide))|(clear hp;rcases (show i=0 \/i=1 \/i=2 \/i=3 \/i=4 by omega) with rfl|rfl|rfl|rfl|rfl<;>first|omega|(simp [aB,csB,cI,pw,iT,wU,wI,dgt,Wd.ok,Int.tdiv_eq_ediv_of_nonneg,Int.tmod_eq_emod_of_nonneg,k1,k3] at* <;>omega))
 . cases h
def hor (a b c d:Int):Nat->Int
 |0=>a+65536*(b+65536*(c+65536*d))
 |1=>b+65536*(c+65536*d)
 |2=>c+65536*d
 |3=>d
 |_=>0
def FWide:List Ar->Option Rs
 | [.agg [.d (.v (.int .u64 q0_0)),.d (.v (.int .u64 q0_1)),.d (.v (.int .u64 q0_2)),.d (.v (.int .u64 q0_3)),.d (.v (.int .u64 q0_4)),.d (.v (.int .u64 q0_5)),.d (.v (.int .u64 q0_6)),.d (.v (.int .u64 q0_7))]]=>some ⟨(((0<=q0_0/\ q0_0<65536)/\ (0<=q0_1/\ q0_1<65536)/\ (0<=q0_2/\ q0_2<65536)/\ (0<=q0_3/\ q0_3<65536)/\ (0<=q0_4/\ q0_4<65536)/\ (0<=q0_5/\ q0_5<65536)/\ (0<=q0_6/\ q0_6<65536)/\ (0<=q0_7/\ q0_7<65536))),.va (Wd.ar (wd (w8 q0_0 q0_1 q0_2 q0_3 q0_4 q0_5 q0_6 q0_7))),[]⟩
 |_=>none
theorem fcWide:FC Tryz.prog 102 FWide:=by
 intro xs pre r us h hp
 unfold FWide at h
 split at h
 . rename_i q0_0 q0_1 q0_2 q0_3 q0_4 q0_5 q0_6 q0_7
   cases h
   have hp0:=hp
   refine fcat tys_ok (l:= []) trivial Tryz.func102 rfl (by kernel_rfl) false ?_
   repeat' (first|exact trivial|refine ⟨?_, ?_⟩|intro _)
   all_goals first|(with_reducible first|apply qa|apply qb|apply qc|apply qd)|(conv=>whnf)
   refine loop_ok tys_ok (l:= []) trivial (by kernel_rfl) (X:=Nat×Int×Int)
    (fun|(n,lo,hi)=>⟨[(5,vx (.int .i64 ((n:Int)-1))),(3,vx (.int .u64 lo)),(4,vx (.int .u64 hi)),(1,.va (.c (.own 0 0))),(2,.va (.c (.own 1 0)))],[(0,.cells [.d (ut (q0_0)),.d (ut (q0_1)),.d (ut (q0_2)),.d (ut (q0_3)),.d (ut (q0_4)),.d (ut (q0_5)),.d (ut (q0_6)),.d (ut (q0_7))]),(1,.cells [.d (it 0),.d (ut 0)])],2,27⟩)
    (fun|(n,_)=>n) (fun|(n,lo,hi)=>n<=4/\ lo=hor q0_0 q0_1 q0_2 q0_3 n/\ hi=hor q0_4 q0_5 q0_6 q0_7 n) [3,4] []
    (fun|(n,_),[t,u],_=>(n-1,iT t,iT u)|x,_,_=>x) [0,1] [0,1] 0 0 (4,0,0) ?_ ?_ ?_
   . exact ⟨Nat.le_refl _,rfl,rfl⟩
   . repeat' (first|exact trivial|exact rfl|(intro _ _;exact rfl)|refine ⟨?_, ?_⟩)
   . rintro ⟨n,lo,hi⟩ ⟨h1,h2,h3⟩
     repeat' (first|exact trivial|refine ⟨?_, ?_⟩|intro _)
     all_goals first|(with_reducible first|apply qa|apply qb|apply qc|apply qd)|(conv=>whnf)
     all_goals first|with_reducible rfl|((with_reducible show idsOk _ _=true);rfl)|(exact absurd ‹(65536:Int)=0› (by decide))|(clear hp;rcases (show n=0 \/n=1 \/n=2 \/n=3 \/n=4 by omega) with rfl|rfl|rfl|rfl|rfl<;>first|omega|(simp [hor,w8,iT,wU,wI,wd,selI] at* <;>omega))
 . cases h
def FRAdd:List Ar->Option Rs
 | [.agg [.d (.v (.int .i64 h0)),.d (.v (.int .u64 l0))],.agg [.d (.v (.int .i64 h1)),.d (.v (.int .u64 l1))]]=>some ⟨(Wd.ok ⟨h0,l0⟩)/\ (Wd.ok ⟨h1,l1⟩),.va (Wd.ar (wd (Wd.val (⟨h0,l0⟩:Wd)+Wd.val (⟨h1,l1⟩:Wd)))),[]⟩
 |_=>none
theorem fcRAdd:FC Tryz.prog 54 FRAdd:=by
 intro xs pre r us h hp
 unfold FRAdd at h
 split at h
 . rename_i h0 l0 h1 l1
   cases h
   obtain ⟨hp0,hp1⟩:=hp
   refine fcat tys_ok (l:= [(101,⟨[],FDigits⟩),(102,⟨[],FWide⟩)]) ⟨fcDigits,fcWide,trivial⟩ Tryz.func54 rfl (by kernel_rfl) false ?_
   repeat' (first|exact trivial|refine ⟨?_, ?_⟩|intro _)
   all_goals first|(with_reducible first|apply qa|apply qb|apply qc|apply qd)|(conv=>whnf)
   all_goals first|((with_reducible show ASat _ _ _ _ _);skip)|(simp only [Wd.ok] at*;omega)
   refine loop_ok tys_ok (l:= [(101,⟨[],FDigits⟩),(102,⟨[],FWide⟩)]) ⟨fcDigits,fcWide,trivial⟩ (by kernel_rfl) (X:=Nat×Int×(Nat->Int))
    (fun|(i,c,d)=>⟨[(8,vx (.int .i64 i)),(7,vx (.int .u64 c)),(5,.va (.c (.own 3 0))),(6,.va (.c (.own 4 0))),(4,.va (.c (.own 2 0)))],[(2,.cells [.d (it 0),.d (ut 0)]),(3,.cells [.d (ut (d 0)),.d (ut (d 1)),.d (ut (d 2)),.d (ut (d 3)),.d (ut (d 4)),.d (ut (d 5)),.d (ut (d 6)),.d (ut (d 7))]),(4,.cells [.d (ut (dgt ⟨h1,l1⟩ 0)),.d (ut (dgt ⟨h1,l1⟩ 1)),.d (ut (dgt ⟨h1,l1⟩ 2)),.d (ut (dgt ⟨h1,l1⟩ 3)),.d (ut (dgt ⟨h1,l1⟩ 4)),.d (ut (dgt ⟨h1,l1⟩ 5)),.d (ut (dgt ⟨h1,l1⟩ 6)),.d (ut (dgt ⟨h1,l1⟩ 7))])],5,35⟩)
    (fun|(i,_)=>8-i) (fun|(i,c,d)=>i<=8/\ (0<=c/\ c<=1)/\ preS i d+c*pw8 i=preS i (dgt ⟨h0,l0⟩)+preS i (dgt ⟨h1,l1⟩)/\ ((0<=d 0/\ d 0<65536)/\ (0<=d 1/\ d 1<65536)/\ (0<=d 2/\ d 2<65536)/\ (0<=d 3/\ d 3<65536)/\ (0<=d 4/\ d 4<65536)/\ (0<=d 5/\ d 5<65536)/\ (0<=d 6/\ d 6<65536)/\ (0<=d 7/\ d 7<65536))/\ (i<=0->d 0=dgt ⟨h0,l0⟩ 0)/\ (i<=1->d 1=dgt ⟨h0,l0⟩ 1)/\ (i<=2->d 2=dgt ⟨h0,l0⟩ 2)/\ (i<=3->d 3=dgt ⟨h0,l0⟩ 3)/\ (i<=4->d 4=dgt ⟨h0,l0⟩ 4)/\ (i<=5->d 5=dgt ⟨h0,l0⟩ 5)/\ (i<=6->d 6=dgt ⟨h0,l0⟩ 6)/\ (i<=7->d 7=dgt ⟨h0,l0⟩ 7)) [7] [3]
    (fun|(i,_),[t],[b]=>(i+1,iT t,aB b)|x,_,_=>x) [0,1,2,3,4] [0,1,2,7,8] 0 0 (0,0,dgt ⟨h0,l0⟩) ?_ ?_ ?_
   . refine ⟨by omega,by omega,rfl, ?_, ?_⟩
     . exact ⟨dgt_bound _ _,dgt_bound _ _,dgt_bound _ _,dgt_bound _ _,dgt_bound _ _,dgt_bound _ _,dgt_bound _ _,dgt_bound _ _⟩
     . simp
   . repeat' (first|exact trivial|exact rfl|(intro _ _;exact rfl)|refine ⟨?_, ?_⟩)
   . rintro ⟨i,c,d⟩ ⟨k1,k2,k3,k4,k5⟩
     have kk:i=8->wd (w8 (d 0) (d 1) (d 2) (d 3) (d 4) (d 5) (d 6) (d 7))=wd (Wd.val ⟨h0,l0⟩+Wd.val ⟨h1,l1⟩):=fun e=>by subst e;exact add_key hp0 hp1 (c:=c) k3
     repeat' (first|exact trivial|refine ⟨?_, ?_⟩|intro _)
     all_goals first|(with_reducible first|apply qa|apply qb|apply qc|apply qd)|(conv=>whnf)
     all_goals first|with_reducible rfl|((with_reducible show idsOk _ _=true);rfl)|(exact absurd ‹(65536:Int)=0› (by decide))|omega|(simp only [decide_eq_false_iff_not] at*;rw [kk (by omega)])|(clear kk;have a0:=dgt_bound ⟨h0,l0⟩ 0;have b0:=dgt_bound ⟨h1,l1⟩ 0;have a1:=dgt_bound ⟨h0,l0⟩ 1;have b1:=dgt_bound ⟨h1,l1⟩ 1;have a2:=dgt_bound ⟨h0,l0⟩ 2;have b2:=dgt_bound ⟨h1,l1⟩ 2;have a3:=dgt_bound ⟨h0,l0⟩ 3;have b3:=dgt_bound ⟨h1,l1⟩ 3;have a4:=dgt_bound ⟨h0,l0⟩ 4;have b4:=dgt_bound ⟨h1,l1⟩ 4;have a5:=dgt_bound ⟨h0,l0⟩ 5;have b5:=dgt_bound ⟨h1,l1⟩ 5;have a6:=dgt_bound ⟨h0,l0⟩ 6;have b6:=dgt_bound ⟨h1,l1⟩ 6;have a7:=dgt_bound ⟨h0,l0⟩ 7;have b7:=dgt_bound ⟨h1,l1⟩ 7;rcases (show i=0 \/i=1 \/i=2 \/i=3 \/i=4 \/i=5 \/i=6 \/i=7 \/i=8 by omega) with rfl|rfl|rfl|rfl|rfl|rfl|rfl|rfl|rfl<;>first|omega|(simp [aB,csB,cI,iT,wU,wI,preS,pw8,selI,tdivM,tmodM] at* <;>omega))
 . cases h
theorem un_val (w:Wd) (h:w.ok): ∃k,w.un=w.val+k*340282366920938463463374607431768211456:=⟨if w.hi<0 then 1 else 0,by
 unfold Wd.ok at h;unfold Wd.un Wd.val;split<;>omega⟩
theorem val_wd (v:Int): ∃k,(wd v).val=v+k*340282366920938463463374607431768211456:=⟨-((v/18446744073709551616+9223372036854775808)/18446744073709551616),by unfold wd Wd.val;dsimp only;omega⟩
theorem wd_neg_val (v:Int):wd (-(wd v).val)=wd (-v):=by
 obtain ⟨k,hk⟩:=val_wd v
 rw [hk,show-(v+k*340282366920938463463374607431768211456)= -v+ -k*340282366920938463463374607431768211456 by omega,wd_shift]
theorem neg_key {a:Wd} (ha:a.ok) {d:Nat->Int} (h:(d 0=65535-dgt a 0/\ d 1=65535-dgt a 1)/\ (d 2=65535-dgt a 2/\ d 3=65535-dgt a 3)/\ (d 4=65535-dgt a 4/\ d 5=65535-dgt a 5)/\ d 6=65535-dgt a 6/\ d 7=65535-dgt a 7):
 wd (Wd.val ⟨(wd (w8 (d 0) (d 1) (d 2) (d 3) (d 4) (d 5) (d 6) (d 7))).hi,(wd (w8 (d 0) (d 1) (d 2) (d 3) (d 4) (d 5) (d 6) (d 7))).lo⟩+Wd.val ⟨0,1⟩)=wd (-a.val):=by
 have h2:=dgt_sum a ha
 rw [preS8] at h2
 have h3:w8 (d 0) (d 1) (d 2) (d 3) (d 4) (d 5) (d 6) (d 7)=340282366920938463463374607431768211456-1-a.un:=by unfold w8 at*;omega
 have h4:Wd.val ⟨0,1⟩=1:=by decide
 obtain ⟨k,hk⟩:=un_val a ha
 show wd ((wd (w8 (d 0) (d 1) (d 2) (d 3) (d 4) (d 5) (d 6) (d 7))).val+Wd.val ⟨0,1⟩)=_
 rw [h4,wd_val_add,h3,hk,show 340282366920938463463374607431768211456-1-(a.val+k*340282366920938463463374607431768211456)+1= -a.val+(1-k)*340282366920938463463374607431768211456 by omega,wd_shift]
theorem of_key (n:Int):wd (-(Wd.val ⟨(wd (Wd.val ⟨0, -(n+1)⟩+Wd.val ⟨0,1⟩)).hi,(wd (Wd.val ⟨0, -(n+1)⟩+Wd.val ⟨0,1⟩)).lo⟩))=wd n:=by
 show wd (-(wd (Wd.val ⟨0, -(n+1)⟩+Wd.val ⟨0,1⟩)).val)=_
 rw [wd_neg_val]
 congr 1
 unfold Wd.val
 dsimp only
 omega
theorem cmp_sign {h0 l0 h1 l1:Int} (hp0:Wd.ok ⟨h0,l0⟩) (hp1:Wd.ok ⟨h1,l1⟩) (h:(!decide (h0<0)==decide (h1<0))=true):
 (decide (h0<0)=true-> -1=wCmp (Wd.val ⟨h0,l0⟩) (Wd.val ⟨h1,l1⟩))/\ (decide (h0<0)=false->1=wCmp (Wd.val ⟨h0,l0⟩) (Wd.val ⟨h1,l1⟩)):=by
 have q:(h0<0/\ ¬h1<0) \/(¬h0<0/\ h1<0):=by
  by_cases a:h0<0<;>by_cases b:h1<0<;>simp_all
 clear h
 unfold Wd.ok at hp0 hp1
 dsimp only at hp0 hp1
 unfold wCmp Wd.val
 dsimp only
 constructor
 . intro h
   have h:=of_decide_eq_true h
   rw [if_pos (by omega)]
 . intro h
   have h:=of_decide_eq_false h
   rw [if_neg (by omega),if_pos (by omega)]
theorem cmp_un {h0 l0 h1 l1:Int} (hp0:Wd.ok ⟨h0,l0⟩) (hp1:Wd.ok ⟨h1,l1⟩) (h:(!decide (h0<0)==decide (h1<0))=false):
 wCmp (Wd.val ⟨h0,l0⟩) (Wd.val ⟨h1,l1⟩)=wCmp (preS 8 (dgt ⟨h0,l0⟩)) (preS 8 (dgt ⟨h1,l1⟩)):=by
 rw [dgt_sum _ hp0,dgt_sum _ hp1]
 have q:(h0<0/\ h1<0) \/(¬h0<0/\ ¬h1<0):=by
  by_cases a:h0<0<;>by_cases b:h1<0<;>simp_all
 clear h
 unfold Wd.ok at hp0 hp1
 dsimp only at hp0 hp1
 unfold wCmp Wd.val Wd.un
 dsimp only
 split<;>split<;>first|omega|(split<;>split<;>omega)|(split<;>omega)
theorem sub_key (a b:Wd):wd (a.val+Wd.val ⟨(wd (-b.val)).hi,(wd (-b.val)).lo⟩)=wd (a.val-b.val):=by
 show wd (a.val+(wd (-b.val)).val)=_
 rw [Int.add_comm,wd_val_add]
 congr 1;omega
def FRNeg:List Ar->Option Rs
 | [.agg [.d (.v (.int .i64 h0)),.d (.v (.int .u64 l0))]]=>some ⟨(Wd.ok ⟨h0,l0⟩),.va (Wd.ar (wd (-Wd.val (⟨h0,l0⟩:Wd)))),[]⟩
 |_=>none
theorem fcRNeg:FC Tryz.prog 53 FRNeg:=by
 intro xs pre r us h hp
 unfold FRNeg at h
 split at h
 . rename_i h0 l0
   cases h
   have hp0:=hp
   refine fcat tys_ok (l:= [(101,⟨[],FDigits⟩),(102,⟨[],FWide⟩),(54,⟨[],FRAdd⟩)]) ⟨fcDigits,fcWide,fcRAdd,trivial⟩ Tryz.func53 rfl (by kernel_rfl) false ?_
   repeat' (first|exact trivial|refine ⟨?_, ?_⟩|intro _)
   all_goals first|(with_reducible first|apply qa|apply qb|apply qc|apply qd)|(conv=>whnf)
   all_goals first|((with_reducible show ASat _ _ _ _ _);skip)|(simp only [Wd.ok] at*;omega)
   refine loop_ok tys_ok (l:= [(101,⟨[],FDigits⟩),(102,⟨[],FWide⟩),(54,⟨[],FRAdd⟩)]) ⟨fcDigits,fcWide,fcRAdd,trivial⟩ (by kernel_rfl) (X:=Nat×(Nat->Int))
    (fun|(i,d)=>⟨[(4,vx (.int .i64 i)),(3,.va (.c (.own 2 0))),(2,.va (.c (.own 1 0)))],[(1,.cells [.d (it 0),.d (ut 0)]),(2,.cells [.d (ut (d 0)),.d (ut (d 1)),.d (ut (d 2)),.d (ut (d 3)),.d (ut (d 4)),.d (ut (d 5)),.d (ut (d 6)),.d (ut (d 7))])],3,21⟩)
    (fun|(i,_)=>8-i) (fun|(i,d)=>i<=8/\ ((0<i->d 0=65535-dgt ⟨h0,l0⟩ 0)/\ (i<=0->d 0=dgt ⟨h0,l0⟩ 0))/\ ((1<i->d 1=65535-dgt ⟨h0,l0⟩ 1)/\ (i<=1->d 1=dgt ⟨h0,l0⟩ 1))/\ ((2<i->d 2=65535-dgt ⟨h0,l0⟩ 2)/\ (i<=2->d 2=dgt ⟨h0,l0⟩ 2))/\ ((3<i->d 3=65535-dgt ⟨h0,l0⟩ 3)/\ (i<=3->d 3=dgt ⟨h0,l0⟩ 3))/\ ((4<i->d 4=65535-dgt ⟨h0,l0⟩ 4)/\ (i<=4->d 4=dgt ⟨h0,l0⟩ 4))/\ ((5<i->d 5=65535-dgt ⟨h0,l0⟩ 5)/\ (i<=5->d 5=dgt ⟨h0,l0⟩ 5))/\ ((6<i->d 6=65535-dgt ⟨h0,l0⟩ 6)/\ (i<=6->d 6=dgt ⟨h0,l0⟩ 6))/\ ((7<i->d 7=65535-dgt ⟨h0,l0⟩ 7)/\ (i<=7->d 7=dgt ⟨h0,l0⟩ 7))) [] [2]
    (fun|(i,_),_,[b]=>(i+1,aB b)|x,_,_=>x) [0,1,2] [0,1,2] 0 0 (0,dgt ⟨h0,l0⟩) ?_ ?_ ?_
   . simp
   . repeat' (first|exact trivial|exact rfl|(intro _ _;exact rfl)|refine ⟨?_, ?_⟩)
   . rintro ⟨i,d⟩ ⟨k1,k5⟩
     have kk:i=8->_:=fun e=>neg_key hp0 (d:=d) (by subst e;omega)
     repeat' (first|exact trivial|refine ⟨?_, ?_⟩|intro _)
     all_goals first|(with_reducible first|apply qa|apply qb|apply qc|apply qd)|(conv=>whnf)
     all_goals first|with_reducible rfl|((with_reducible show idsOk _ _=true);rfl)|(exact absurd ‹(65536:Int)=0› (by decide))|omega|(simp only [decide_eq_false_iff_not] at*;rw [kk (by omega)])|(exact (wd_ok _).1.1)|(exact (wd_ok _).1.2)|(exact (wd_ok _).2.1)|(exact (wd_ok _).2.2)|(clear kk;have a0:=dgt_bound ⟨h0,l0⟩ 0;have a1:=dgt_bound ⟨h0,l0⟩ 1;have a2:=dgt_bound ⟨h0,l0⟩ 2;have a3:=dgt_bound ⟨h0,l0⟩ 3;have a4:=dgt_bound ⟨h0,l0⟩ 4;have a5:=dgt_bound ⟨h0,l0⟩ 5;have a6:=dgt_bound ⟨h0,l0⟩ 6;have a7:=dgt_bound ⟨h0,l0⟩ 7;rcases (show i=0 \/i=1 \/i=2 \/i=3 \/i=4 \/i=5 \/i=6 \/i=7 \/i=8 by omega) with rfl|rfl|rfl|rfl|rfl|rfl|rfl|rfl|rfl<;>first|omega|(simp [aB,csB,cI,iT,wU,wI,preS,pw8,selI,tdivM,tmodM] at* <;>omega))
 . cases h
def FRSub:List Ar->Option Rs
 | [.agg [.d (.v (.int .i64 h0)),.d (.v (.int .u64 l0))],.agg [.d (.v (.int .i64 h1)),.d (.v (.int .u64 l1))]]=>some ⟨(Wd.ok ⟨h0,l0⟩)/\ (Wd.ok ⟨h1,l1⟩),.va (Wd.ar (wd (Wd.val (⟨h0,l0⟩:Wd)-Wd.val (⟨h1,l1⟩:Wd)))),[]⟩
 |_=>none
theorem fcRSub:FC Tryz.prog 67 FRSub:=by
 intro xs pre r us h hp
 unfold FRSub at h
 split at h
 . rename_i h0 l0 h1 l1
   cases h
   obtain ⟨hp0,hp1⟩:=hp
   refine fcat tys_ok (l:= [(53,⟨[],FRNeg⟩),(54,⟨[],FRAdd⟩)]) ⟨fcRNeg,fcRAdd,trivial⟩ Tryz.func67 rfl (by kernel_rfl) false ?_
   repeat' (first|exact trivial|refine ⟨?_, ?_⟩|intro _)
   all_goals first|(with_reducible first|apply qa|apply qb|apply qc|apply qd)|(conv=>whnf)
   all_goals first|rfl|(exact (wd_ok _).1.1)|(exact (wd_ok _).1.2)|(exact (wd_ok _).2.1)|(exact (wd_ok _).2.2)|(simp only [Wd.ok] at*;omega)|(rw [sub_key])
 . cases h
def FROf:List Ar->Option Rs
 | [.c (.d (.v (.int .i64 i0)))]=>some ⟨(-9223372036854775808<=i0/\ i0<9223372036854775808),.va (Wd.ar (wd i0)),[]⟩
 |_=>none
theorem fcROf:FC Tryz.prog 52 FROf:=by
 intro xs pre r us h hp
 unfold FROf at h
 split at h
 . rename_i i0
   cases h
   have hp0:=hp
   refine fcat tys_ok (l:= [(53,⟨[],FRNeg⟩),(54,⟨[],FRAdd⟩)]) ⟨fcRNeg,fcRAdd,trivial⟩ Tryz.func52 rfl (by kernel_rfl) false ?_
   repeat' (first|exact trivial|refine ⟨?_, ?_⟩|intro _)
   all_goals first|(with_reducible first|apply qa|apply qb|apply qc|apply qd)|(conv=>whnf)
   all_goals (try simp only [wI,wU,decide_eq_true_eq,decide_eq_false_iff_not] at*)
   all_goals (try (rw [show ((0-((i0+1+9223372036854775808)%18446744073709551616-9223372036854775808)+9223372036854775808)%18446744073709551616-9223372036854775808)%18446744073709551616= -(i0+1) by omega]))
   all_goals first|(exact (wd_ok _).1.1)|(exact (wd_ok _).1.2)|(exact (wd_ok _).2.1)|(exact (wd_ok _).2.2)|omega|(rw [of_key])|(simp only [Wd.ok,wd,Value.int.injEq,true_and] at* <;>omega)
 . cases h
def FRCmp:List Ar->Option Rs
 | [.agg [.d (.v (.int .i64 h0)),.d (.v (.int .u64 l0))],.agg [.d (.v (.int .i64 h1)),.d (.v (.int .u64 l1))]]=>some ⟨(Wd.ok ⟨h0,l0⟩)/\ (Wd.ok ⟨h1,l1⟩),.va (.c (.d (it (wCmp (Wd.val (⟨h0,l0⟩:Wd)) (Wd.val (⟨h1,l1⟩:Wd)))))),[]⟩
 |_=>none
theorem fcRCmp:FC Tryz.prog 51 FRCmp:=by
 intro xs pre r us h hp
 unfold FRCmp at h
 split at h
 . rename_i h0 l0 h1 l1
   cases h
   obtain ⟨hp0,hp1⟩:=hp
   refine fcat tys_ok (l:= [(101,⟨[],FDigits⟩)]) ⟨fcDigits,trivial⟩ Tryz.func51 rfl (by kernel_rfl) false ?_
   repeat' (first|exact trivial|refine ⟨?_, ?_⟩|intro _)
   all_goals first|(with_reducible first|apply qa|apply qb|apply qc|apply qd)|(conv=>whnf)
   all_goals first|((with_reducible show ASat _ _ _ _ _);skip)|(simp only [Wd.ok] at*;omega)|(rw [<-(cmp_sign hp0 hp1 ‹_›).1 ‹_›])|(rw [<-(cmp_sign hp0 hp1 ‹_›).2 ‹_›])|(trace_state;skip)
   refine loop_ok tys_ok (l:= [(101,⟨[],FDigits⟩)]) ⟨fcDigits,trivial⟩ (by kernel_rfl) (X:=Nat)
    (fun n=>⟨[(7,vx (.int .i64 ((n:Int)-1))),(5,.va (.c (.own 6 0))),(6,.va (.c (.own 7 0)))],[(6,.cells [.d (ut (dgt ⟨h0,l0⟩ 0)),.d (ut (dgt ⟨h0,l0⟩ 1)),.d (ut (dgt ⟨h0,l0⟩ 2)),.d (ut (dgt ⟨h0,l0⟩ 3)),.d (ut (dgt ⟨h0,l0⟩ 4)),.d (ut (dgt ⟨h0,l0⟩ 5)),.d (ut (dgt ⟨h0,l0⟩ 6)),.d (ut (dgt ⟨h0,l0⟩ 7))]),(7,.cells [.d (ut (dgt ⟨h1,l1⟩ 0)),.d (ut (dgt ⟨h1,l1⟩ 1)),.d (ut (dgt ⟨h1,l1⟩ 2)),.d (ut (dgt ⟨h1,l1⟩ 3)),.d (ut (dgt ⟨h1,l1⟩ 4)),.d (ut (dgt ⟨h1,l1⟩ 5)),.d (ut (dgt ⟨h1,l1⟩ 6)),.d (ut (dgt ⟨h1,l1⟩ 7))])],8,40⟩)
    (fun n=>n) (fun n=>n<=8/\ (n<=0->dgt ⟨h0,l0⟩ 0=dgt ⟨h1,l1⟩ 0)/\ (n<=1->dgt ⟨h0,l0⟩ 1=dgt ⟨h1,l1⟩ 1)/\ (n<=2->dgt ⟨h0,l0⟩ 2=dgt ⟨h1,l1⟩ 2)/\ (n<=3->dgt ⟨h0,l0⟩ 3=dgt ⟨h1,l1⟩ 3)/\ (n<=4->dgt ⟨h0,l0⟩ 4=dgt ⟨h1,l1⟩ 4)/\ (n<=5->dgt ⟨h0,l0⟩ 5=dgt ⟨h1,l1⟩ 5)/\ (n<=6->dgt ⟨h0,l0⟩ 6=dgt ⟨h1,l1⟩ 6)/\ (n<=7->dgt ⟨h0,l0⟩ 7=dgt ⟨h1,l1⟩ 7)) [] []
    (fun n _ _=>n-1) [0,1,2,3,4,5,6,7] [0,1,2,3,4,5,6,7] 0 0 8 ?_ ?_ ?_
   . omega
   . repeat' (first|exact trivial|exact rfl|(intro _ _;exact rfl)|refine ⟨?_, ?_⟩)
   . rintro n ⟨k1,k5⟩
     repeat' (first|exact trivial|refine ⟨?_, ?_⟩|intro _)
     all_goals first|(with_reducible first|apply qa|apply qb|apply qc|apply qd)|(conv=>whnf)
     all_goals first|with_reducible rfl|((with_reducible show idsOk _ _=true);rfl)|(exact absurd ‹(65536:Int)=0› (by decide))|omega|(refine congrArg (Value.int IntKind.i64) ?_;rw [cmp_un hp0 hp1 ‹_›];have a0:=dgt_bound ⟨h0,l0⟩ 0;have a1:=dgt_bound ⟨h0,l0⟩ 1;have a2:=dgt_bound ⟨h0,l0⟩ 2;have a3:=dgt_bound ⟨h0,l0⟩ 3;have a4:=dgt_bound ⟨h0,l0⟩ 4;have a5:=dgt_bound ⟨h0,l0⟩ 5;have a6:=dgt_bound ⟨h0,l0⟩ 6;have a7:=dgt_bound ⟨h0,l0⟩ 7;have b0:=dgt_bound ⟨h1,l1⟩ 0;have b1:=dgt_bound ⟨h1,l1⟩ 1;have b2:=dgt_bound ⟨h1,l1⟩ 2;have b3:=dgt_bound ⟨h1,l1⟩ 3;have b4:=dgt_bound ⟨h1,l1⟩ 4;have b5:=dgt_bound ⟨h1,l1⟩ 5;have b6:=dgt_bound ⟨h1,l1⟩ 6;have b7:=dgt_bound ⟨h1,l1⟩ 7;rcases (show n=0 \/n=1 \/n=2 \/n=3 \/n=4 \/n=5 \/n=6 \/n=7 \/n=8 by omega) with rfl|rfl|rfl|rfl|rfl|rfl|rfl|rfl|rfl<;>simp [selI] at* <;>simp only [wCmp,preS,pw8] at* <;>first|omega|(rw [if_pos (by omega)])|(rw [if_neg (by omega),if_pos (by omega)])|(rw [if_neg (by omega),if_neg (by omega)]))|(rcases (show n=0 \/n=1 \/n=2 \/n=3 \/n=4 \/n=5 \/n=6 \/n=7 \/n=8 by omega) with rfl|rfl|rfl|rfl|rfl|rfl|rfl|rfl|rfl<;>simp [selI,wI] at* <;>omega)
 . cases h
def gW:List DV->Wd
 | [.v (.int .i64 h),.v (.int .u64 l)]=>⟨h,l⟩
 |_=>⟨0,0⟩
theorem Wd.eta' (w:Wd):(⟨w.hi,w.lo⟩:Wd)=w:=rfl
def FWNeg:List Ar->Option Rs
 | [.agg [.d (.v (.int .i64 h0)),.d (.v (.int .u64 l0))]]=>some ⟨(Wd.ok ⟨h0,l0⟩),.va (Wd.ar (wd (0-Wd.val (⟨h0,l0⟩:Wd)))),[]⟩
 |_=>none
theorem fcWNeg:FC Tryz.prog 124 FWNeg:=by
 intro xs pre r us h hp
 unfold FWNeg at h
 split at h
 . rename_i h0 l0
   cases h
   have hp0:=hp
   refine fcat tys_ok (l:= [(121,⟨[],FWSub⟩)]) ⟨fcWSub,trivial⟩ Tryz.func124 rfl (by kernel_rfl) false ?_
   repeat' (first|exact trivial|refine ⟨?_, ?_⟩|intro _)
   all_goals first|(with_reducible first|apply qa|apply qb|apply qc|apply qd)|(conv=>whnf)
   all_goals first|rfl|decide|omega|exact hp0.1.1|exact hp0.1.2|exact hp0.2.1|exact hp0.2.2
 . cases h
def FWCmp:List Ar->Option Rs
 | [.agg [.d (.v (.int .i64 h0)),.d (.v (.int .u64 l0))],.agg [.d (.v (.int .i64 h1)),.d (.v (.int .u64 l1))]]=>some ⟨(Wd.ok ⟨h0,l0⟩)/\ (Wd.ok ⟨h1,l1⟩),.va (.c (.d (it (wCmp (Wd.val (⟨h0,l0⟩:Wd)) (Wd.val (⟨h1,l1⟩:Wd)))))),[]⟩
 |_=>none
theorem fcWCmp:FC Tryz.prog 177 FWCmp:=by
 intro xs pre r us h hp
 unfold FWCmp at h
 split at h
 . rename_i h0 l0 h1 l1
   cases h
   obtain ⟨hp0,hp1⟩:=hp
   refine fcat tys_ok (l:= []) trivial Tryz.func177 rfl (by kernel_rfl) false ?_
   repeat' (first|exact trivial|refine ⟨?_, ?_⟩|intro _)
   all_goals first|(with_reducible first|apply qa|apply qb|apply qc|apply qd)|(conv=>whnf)
   all_goals (simp only [decide_eq_true_eq,decide_eq_false_iff_not,beq_iff_eq,beq_eq_false_iff_ne,ne_eq,Bool.and_true,Bool.and_eq_true,Bool.and_eq_false_imp,Wd.val,Wd.ok] at*;refine congrArg (Value.int .i64) ?_;unfold wCmp;(repeat' split)<;>omega)
 . cases h
def maxW (a x:Wd):Wd:=if wCmp x.val a.val=1 then x else a
theorem maxW_t {a x:Wd} {i:Int} (hi:i=1) (h:(wCmp x.val a.val==i)=true):maxW a x=x:=by subst hi;unfold maxW;rw [if_pos (by simpa using h)]
theorem maxW_f {a x:Wd} {i:Int} (hi:i=1) (h:(wCmp x.val a.val==i)=false):maxW a x=a:=by subst hi;unfold maxW;rw [if_neg (by simpa using h)]
theorem maxW_ok {a x:Wd} (h:a.ok) (h':x.ok):(maxW a x).ok:=by unfold maxW;split<;>assumption
def atW (i:Nat) (a x:Wd):Wd:=if i=0 then a else maxW a x
def FWBest:List Ar->Option Rs
 | [.agg [.d (.v (.int .i64 h0)),.d (.v (.int .u64 l0))],.c (.d (.v (.int .i64 i1))),.c (.d (.lst 2 1 f2))]=>some ⟨(Wd.ok ⟨h0,l0⟩)/\ (-9223372036854775808<=i1/\ i1<9223372036854775808)/\ (f2 0= [it (gW (f2 0)).hi,ut (gW (f2 0)).lo]/\ Wd.ok (gW (f2 0)))/\ (i1=1),.va (Wd.ar (maxW (⟨h0,l0⟩:Wd) (gW (f2 0)))),[]⟩
 |_=>none
theorem fcWBest:FC Tryz.prog 157 FWBest:=by
 intro xs pre r us h hp
 unfold FWBest at h
 split at h
 . rename_i h0 l0 i1 f2
   cases h
   obtain ⟨hp0,hp1,hp2,hp3⟩:=hp
   refine FCat.of_eq (as':= [.agg [.d (.v (.int .i64 h0)),.d (.v (.int .u64 l0))],.c (.d (.v (.int .i64 i1))),.c (.d (.lst 2 1 fun _=> [it (gW (f2 0)).hi,ut (gW (f2 0)).lo]))]) ?_ rfl rfl ?_
   . repeat' (first|exact trivial|exact rfl|refine ⟨?_, ?_⟩|fail)
     all_goals first|exact hp0.2|exact hp1.2|exact hp2.2|(intro i hi;exact (hp0.2 i hi).1)|(intro i hi;exact (hp1.2 i hi).1)|(intro i hi;exact (hp2.2 i hi).1)|grind
   refine fcat tys_ok (l:= [(177,⟨[],FWCmp⟩)]) ⟨fcWCmp,trivial⟩ Tryz.func157 rfl (by kernel_rfl) false ?_
   repeat' (first|exact trivial|refine ⟨?_, ?_⟩|intro _)
   all_goals first|(with_reducible first|apply qa|apply qb|apply qc|apply qd)|(conv=>whnf)
   refine loop_ok tys_ok (l:= [(177,⟨[],FWCmp⟩)]) ⟨fcWCmp,trivial⟩ (by kernel_rfl) (X:=Nat)
    (fun x=>⟨[(11,vx (.int .i64 x)),(10,vx (.int .i64 1)),(9,.va (.c (.d (.lst 2 1 fun _=> [it (gW (f2 0)).hi,ut (gW (f2 0)).lo])))),(1,vx (.int .i64 i1)),(3,.va (.c (.own 0 0))),(6,.va (.c (.own 1 0)))],[(0,.cells [.d (it (atW x ⟨h0,l0⟩ (gW (f2 0))).hi),.d (ut (atW x ⟨h0,l0⟩ (gW (f2 0))).lo)]),(1,.cells [.d (it 0),.d (ut 0)])],2,23⟩)
    (fun x=>1-x) (fun x=>x<=1) [] [] (fun x _ _=>x+1) [0,1] [0,1] 0 0 0 (Nat.zero_le _) ?_ ?_
   . repeat' (first|exact trivial|exact rfl|(intro _ h;exact absurd h (Nat.not_lt_zero _))|(intro _ _;exact rfl)|refine ⟨?_, ?_⟩|fail)
   . intro i k1
     have hc:i=0 \/i=1:=by omega
     rcases hc with rfl|rfl
     . have f0:Wd.ok (atW 0 ⟨h0,l0⟩ (gW (f2 0))):=hp0
       repeat' (first|exact trivial|(with_reducible first|exact hp2.2|exact f0)|refine ⟨?_, ?_⟩|intro _)
       all_goals first|(with_reducible first|apply qa|apply qb|apply qc|apply qd)|(conv=>whnf)
       all_goals first|omega|rfl|decide|(exact hp0.1.1)|(exact hp0.1.2)|(exact hp0.2.1)|(exact hp0.2.2)|(exact hp2.2.1.1)|(exact hp2.2.1.2)|(exact hp2.2.2.1)|(exact hp2.2.2.2)|(exfalso;exact absurd ‹decide _=false› (by decide))|(exfalso;exact absurd ‹decide _=true› (by decide))|(exact congrArg (fun w:Wd=>Value.int .i64 w.hi) (maxW_t hp3 ‹(_==i1)=true›).symm)|(exact congrArg (fun w:Wd=>Value.int .u64 w.lo) (maxW_t hp3 ‹(_==i1)=true›).symm)|(exact congrArg (fun w:Wd=>Value.int .i64 w.hi) (maxW_f hp3 ‹(_==i1)=false›).symm)|(exact congrArg (fun w:Wd=>Value.int .u64 w.lo) (maxW_f hp3 ‹(_==i1)=false›).symm)
     . repeat' (first|exact trivial|refine ⟨?_, ?_⟩|intro _)
       all_goals first|(with_reducible first|apply qa|apply qb|apply qc|apply qd)|(conv=>whnf)
       all_goals first|omega|rfl|decide|(exact hp0.1.1)|(exact hp0.1.2)|(exact hp0.2.1)|(exact hp0.2.2)|(exact hp2.2.1.1)|(exact hp2.2.1.2)|(exact hp2.2.2.1)|(exact hp2.2.2.2)|(exfalso;exact absurd ‹decide _=false› (by decide))|(exfalso;exact absurd ‹decide _=true› (by decide))|(exact congrArg (fun w:Wd=>Value.int .i64 w.hi) (maxW_t hp3 ‹(_==i1)=true›).symm)|(exact congrArg (fun w:Wd=>Value.int .u64 w.lo) (maxW_t hp3 ‹(_==i1)=true›).symm)|(exact congrArg (fun w:Wd=>Value.int .i64 w.hi) (maxW_f hp3 ‹(_==i1)=false›).symm)|(exact congrArg (fun w:Wd=>Value.int .u64 w.lo) (maxW_f hp3 ‹(_==i1)=false›).symm)
 . cases h
def FWMax:List Ar->Option Rs
 | [.agg [.d (.v (.int .i64 h0)),.d (.v (.int .u64 l0))],.c (.d (.lst 2 1 f1))]=>some ⟨(Wd.ok ⟨h0,l0⟩)/\ (f1 0= [it (gW (f1 0)).hi,ut (gW (f1 0)).lo]/\ Wd.ok (gW (f1 0))),.va (Wd.ar (maxW (⟨h0,l0⟩:Wd) (gW (f1 0)))),[]⟩
 |_=>none
theorem fcWMax:FC Tryz.prog 123 FWMax:=by
 intro xs pre r us h hp
 unfold FWMax at h
 split at h
 . rename_i h0 l0 f1
   cases h
   obtain ⟨hp0,hp1⟩:=hp
   refine FCat.of_eq (as':= [.agg [.d (.v (.int .i64 h0)),.d (.v (.int .u64 l0))],.c (.d (.lst 2 1 fun _=> [it (gW (f1 0)).hi,ut (gW (f1 0)).lo]))]) ?_ rfl rfl ?_
   . repeat' (first|exact trivial|exact rfl|refine ⟨?_, ?_⟩|fail)
     all_goals first|exact hp0.2|exact hp1.2|exact hp2.2|(intro i hi;exact (hp0.2 i hi).1)|(intro i hi;exact (hp1.2 i hi).1)|(intro i hi;exact (hp2.2 i hi).1)|grind
   refine fcat tys_ok (l:= [(157,⟨[],FWBest⟩)]) ⟨fcWBest,trivial⟩ Tryz.func123 rfl (by kernel_rfl) false ?_
   have hq:(-9223372036854775808:Int)<=1/\ (1:Int)<9223372036854775808:=by decide
   repeat' (first|exact trivial|refine ⟨?_, ?_⟩|intro _)
   all_goals first|(with_reducible first|apply qa|apply qb|apply qc|apply qd)|(conv=>whnf)
   all_goals first|rfl|decide|exact hp0|exact hp0.1.1|exact hp0.1.2|exact hp0.2.1|exact hp0.2.2|exact hp1.2.1.1|exact hp1.2.1.2|exact hp1.2.2.1|exact hp1.2.2.2
 . cases h
def apartI (a b:Int):Int:=if a≥b then a-b else b-a
theorem apart_key {a b:Int} (ha: -9223372036854775808<=a/\ a<9223372036854775808) (hb: -9223372036854775808<=b/\ b<9223372036854775808):(maxW (wd ((wd a).val-(wd b).val)) (wd (0-(wd ((wd a).val-(wd b).val)).val))).lo=if a≥b then a-b else b-a:=by
 rw [wd_val (v:=a) (by omega) (by omega),wd_val (v:=b) (by omega) (by omega),wd_val (v:=a-b) (by omega) (by omega)]
 unfold maxW wCmp
 rw [wd_val (v:=a-b) (by omega) (by omega),wd_val (v:=0-(a-b)) (by omega) (by omega)]
 unfold wd
 (repeat' split)<;>dsimp only<;>omega
def FCApart:List Ar->Option Rs
 | [.c (.d (.v (.int .i64 i0))),.c (.d (.v (.int .i64 i1)))]=>some ⟨(-9223372036854775808<=i0/\ i0<9223372036854775808)/\ (-9223372036854775808<=i1/\ i1<9223372036854775808),.va (.c (.d (ut (apartI i0 i1)))),[]⟩
 |_=>none
theorem fcCApart:FC Tryz.prog 89 FCApart:=by
 intro xs pre r us h hp
 unfold FCApart at h
 split at h
 . rename_i i0 i1
   cases h
   obtain ⟨hp0,hp1⟩:=hp
   refine fcat tys_ok (l:= [(122,⟨[],FWOf⟩),(121,⟨[],FWSub⟩),(124,⟨[],FWNeg⟩),(123,⟨[],FWMax⟩)]) ⟨fcWOf,fcWSub,fcWNeg,fcWMax,trivial⟩ Tryz.func89 rfl (by kernel_rfl) false ?_
   repeat' (first|exact trivial|(with_reducible first|exact wd_ok _|exact (wd_ok _).1.1|exact (wd_ok _).1.2|exact (wd_ok _).2.1|exact (wd_ok _).2.2)|refine ⟨?_, ?_⟩|intro _)
   all_goals first|(with_reducible first|apply qa|apply qb|apply qc|apply qd)|(conv=>whnf)
   all_goals first|omega|rfl|exact (wd_ok _).1.1|exact (wd_ok _).1.2|exact (wd_ok _).2.1|exact (wd_ok _).2.2|(exact congrArg (Value.int .u64) (apart_key hp0 hp1))
 . cases h
theorem gcd_step {a b:Int} (hb:b≠0) (h0:0<=a) (h1:0<=b):0<=a.tmod b/\ a.tmod b<b/\ Int.gcd b (a.tmod b)=Int.gcd a b:=by
 rw [Int.tmod_eq_emod_of_nonneg h0]
 refine ⟨Int.emod_nonneg _ hb,Int.emod_lt_of_pos _ (by omega), ?_⟩
 obtain ⟨x,rfl⟩:=Int.eq_ofNat_of_zero_le h0
 obtain ⟨y,rfl⟩:=Int.eq_ofNat_of_zero_le h1
 rw [<-Int.natCast_emod,Int.gcd_natCast_natCast,Int.gcd_natCast_natCast,Nat.gcd_comm x y,Nat.gcd_rec y x,Nat.gcd_comm]
def FCGcd:List Ar->Option Rs
 | [.c (.d (.v (.int .u64 u0))),.c (.d (.v (.int .u64 u1)))]=>some ⟨(0<=u0/\ u0<18446744073709551616)/\ (0<=u1/\ u1<18446744073709551616),.va (.c (.d (ut ((Int.gcd u0 u1:Int))))),[]⟩
 |_=>none
theorem fcCGcd:FC Tryz.prog 88 FCGcd:=by
 intro xs pre r us h hp
 unfold FCGcd at h
 split at h
 . rename_i u0 u1
   cases h
   obtain ⟨hp0,hp1⟩:=hp
   refine fcat tys_ok (l:= []) trivial Tryz.func88 rfl (by kernel_rfl) false ?_
   repeat' (first|exact trivial|refine ⟨?_, ?_⟩|intro _)
   all_goals first|(with_reducible first|apply qa|apply qb|apply qc|apply qd)|(conv=>whnf)
   refine scope_ok tys_ok (ls:= []) trivial (by kernel_rfl) 0 rfl (X:=Int×Int) (fun x=>⟨[(0,vx (.int .u64 x.1)),(1,vx (.int .u64 x.2))],[],0,12⟩) (fun x=>x.2.toNat)
    (fun x=>(0<=x.1/\ x.1<18446744073709551616)/\ (0<=x.2/\ x.2<18446744073709551616)/\ Int.gcd x.1 x.2=Int.gcd u0 u1) [0,1] [] (fun xs _=>match xs with| [a,b]=>(iT a,iT b)|_=>(0,0)) (fun _ xs _=>match xs with| [a,b]=>(iT a,iT b)|_=>(0,0)) [] [] 0 0 ?_ ?_
   . repeat' (first|exact trivial|refine ⟨?_, ?_⟩|intro _)
     all_goals first|(with_reducible first|apply qa|apply qb|apply qc|apply qd)|(conv=>whnf)
     all_goals (try simp only [beq_iff_eq,beq_eq_false_iff_ne,ne_eq,iT] at*)
     all_goals first|omega|((with_reducible show idsOk _ _=true);rfl)|(exact absurd ‹_› ‹¬_›)|(have e:u1=0:=‹u1=0›;rw [e,Int.gcd_zero,Int.natAbs_of_nonneg (by omega)];done)|(have q:=gcd_step (a:=u0) (b:=u1) ‹_› (by omega) (by omega);first|omega|(rw [q.2.2])|rfl)|rfl
   . rintro ⟨a,b⟩ ⟨k1,k2,k3⟩
     dsimp only at k1 k2 k3
     repeat' (first|exact trivial|refine ⟨?_, ?_⟩|intro _)
     all_goals first|(with_reducible first|apply qa|apply qb|apply qc|apply qd)|(conv=>whnf)
     all_goals (try simp only [beq_iff_eq,beq_eq_false_iff_ne,ne_eq,iT] at*)
     all_goals first|omega|((with_reducible show idsOk _ _=true);rfl)|(exact absurd ‹_› ‹¬_›)|(rw [<-k3];have e:b=0:=‹b=0›;rw [e,Int.gcd_zero,Int.natAbs_of_nonneg (by omega)];done)|(have q:=gcd_step (a:=a) (b:=b) ‹_› (by omega) (by omega);first|omega|(rw [q.2.2];exact k3)|rfl)|rfl
 . cases h
namespace Cg
def gcdJ (x y:Cg):Int:=(Int.gcd (Int.gcd x.m y.m:Int) (apartI x.r y.r):Int)
def join (a b:Cg):Cg:=if !a.clean.some then b.clean else if !b.clean.some then a.clean else if gcdJ a.clean b.clean>9223372036854775807 then Cg.of 1 0 else Cg.of (gcdJ a.clean b.clean) a.clean.r
end Cg
theorem gcd_u {a b:Int} (ha:0<=a/\ a<18446744073709551616) (hb:0<=b/\ b<18446744073709551616):0<=(Int.gcd a b:Int)/\ (Int.gcd a b:Int)<18446744073709551616:=by
 refine ⟨by omega, ?_⟩
 rcases Int.lt_or_eq_of_le ha.1 with h|h
 . have:=Int.gcd_le_left (b:=b) h;omega
 . subst h
   rw [Int.zero_gcd];omega
theorem apart_u {a b:Int} (ha: -9223372036854775808<=a/\ a<9223372036854775808) (hb: -9223372036854775808<=b/\ b<9223372036854775808):0<=apartI a b/\ apartI a b<18446744073709551616:=by unfold apartI;split<;>omega
theorem gcdJ_u {x y:Cg} (hx:x.inR) (hy:y.inR) (h0:0<=x.m) (h1:0<=y.m):0<=Cg.gcdJ x y/\ Cg.gcdJ x y<18446744073709551616:=by
 unfold Cg.inR at hx hy
 exact gcd_u (gcd_u (by omega) (by omega)) (apart_u hx.2 hy.2)
theorem join_1 {a b:Cg} (h:(!a.clean.some)=true):Cg.join a b=b.clean:=by unfold Cg.join;rw [if_pos h]
theorem join_2 {a b:Cg} (h:(!a.clean.some)=false) (h2:(!b.clean.some)=true):Cg.join a b=a.clean:=by unfold Cg.join;rw [if_neg (by rw [h];decide),if_pos h2]
theorem join_3 {a b:Cg} (h:(!a.clean.some)=false) (h2:(!b.clean.some)=false) (h3:decide (Cg.gcdJ a.clean b.clean>9223372036854775807)=true):Cg.join a b=Cg.of 1 0:=by unfold Cg.join;rw [if_neg (by rw [h];decide),if_neg (by rw [h2];decide),if_pos (by simpa using h3)]
theorem join_4 {a b:Cg} (h:(!a.clean.some)=false) (h2:(!b.clean.some)=false) (h3:decide (Cg.gcdJ a.clean b.clean>9223372036854775807)=false) (h0:0<=Cg.gcdJ a.clean b.clean):Cg.join a b=Cg.of (IntKind.wrap .i64 (Cg.gcdJ a.clean b.clean)) a.clean.r:=by
 unfold Cg.join;rw [if_neg (by rw [h];decide),if_neg (by rw [h2];decide),if_neg (by simpa using h3),wI_id _ (by omega) (by have:=of_decide_eq_false h3;omega)]
theorem wrapJ {g:Int} (h0:0<=g) (h3:decide (g>9223372036854775807)=false): -9223372036854775808<=IntKind.wrap .i64 g/\ IntKind.wrap .i64 g<9223372036854775808:=by
 have:=of_decide_eq_false h3
 rw [wI_id _ (by omega) (by omega)];omega
def FCJoin:List Ar->Option Rs
 | [.agg [.d (.v (.bool b0)),.d (.v (.int .i64 m0)),.d (.v (.int .i64 r0))],.agg [.d (.v (.bool b1)),.d (.v (.int .i64 m1)),.d (.v (.int .i64 r1))]]=>some ⟨(Cg.inR ⟨b0,m0,r0⟩)/\ (Cg.inR ⟨b1,m1,r1⟩),.va (Cg.ar (Cg.join (⟨b0,m0,r0⟩:Cg) (⟨b1,m1,r1⟩:Cg))),[]⟩
 |_=>none
theorem fcCJoin:FC Tryz.prog 35 FCJoin:=by
 intro xs pre r us h hp
 unfold FCJoin at h
 split at h
 . rename_i b0 m0 r0 b1 m1 r1
   cases h
   obtain ⟨hp0,hp1⟩:=hp
   refine fcat tys_ok (l:= [(86,⟨[],FCClean⟩),(87,⟨[],FCNone⟩),(88,⟨[],FCGcd⟩),(89,⟨[],FCApart⟩),(57,⟨[],FCAll⟩),(90,⟨[],FCOf⟩)]) ⟨fcCClean,fcCNone,fcCGcd,fcCApart,fcCAll,fcCOf,trivial⟩ Tryz.func35 rfl (by kernel_rfl) false ?_
   have hx:=Cg.clean_inR hp0
   have hy:=Cg.clean_inR hp1
   have hxx:=hx
   have hyy:=hy
   unfold Cg.inR at hxx hyy
   have hx0:=Cg.clean_nn ⟨b0,m0,r0⟩
   have hy0:=Cg.clean_nn ⟨b1,m1,r1⟩
   have ux:=wU_id (Cg.clean ⟨b0,m0,r0⟩).m hx0 (by have:=hx.1.2;omega)
   have uy:=wU_id (Cg.clean ⟨b1,m1,r1⟩).m hy0 (by have:=hy.1.2;omega)
   have vx:0<=(Cg.clean ⟨b0,m0,r0⟩).m/\ (Cg.clean ⟨b0,m0,r0⟩).m<18446744073709551616:=⟨hx0,by have:=hx.1.2;omega⟩
   have vy:0<=(Cg.clean ⟨b1,m1,r1⟩).m/\ (Cg.clean ⟨b1,m1,r1⟩).m<18446744073709551616:=⟨hy0,by have:=hy.1.2;omega⟩
   have g1:=gcd_u vx vy
   have g2:=apart_u hx.2 hy.2
   have g3:=gcdJ_u hx hy hx0 hy0
   repeat' (first|exact trivial|(with_reducible first|exact hx|exact hy|exact hx.1|exact hx.2|exact hy.1|exact hy.2|exact hp0|exact hp1|exact vx|exact vy|exact g1|exact g2)|refine ⟨?_, ?_⟩|intro _)
   all_goals first|(with_reducible first|apply qa|apply qb|apply qc|apply qd)|(conv=>whnf)
   all_goals (try rw [ux] at*)
   all_goals (try rw [uy] at*)
   all_goals first|(with_reducible first|exact vx.1|exact vx.2|exact vy.1|exact vy.2|exact hxx.1.1|exact hxx.1.2|exact hxx.2.1|exact hxx.2.2|exact hyy.1.1|exact hyy.1.2|exact hyy.2.1|exact hyy.2.2|exact g1.1|exact g1.2|exact g2.1|exact g2.2)|exact (wrapJ g3.1 ‹decide (_>_)=false›).1|exact (wrapJ g3.1 ‹decide (_>_)=false›).2|(have e:=join_1 (a:=⟨b0,m0,r0⟩) (b:=⟨b1,m1,r1⟩) ‹_›;first|exact congrArg (fun i:Cg=>Value.bool i.some) e.symm|exact congrArg (fun i:Cg=>Value.int .i64 i.m) e.symm|exact congrArg (fun i:Cg=>Value.int .i64 i.r) e.symm|fail)|(have e:=join_2 (a:=⟨b0,m0,r0⟩) (b:=⟨b1,m1,r1⟩) ‹_› ‹_›;first|exact congrArg (fun i:Cg=>Value.bool i.some) e.symm|exact congrArg (fun i:Cg=>Value.int .i64 i.m) e.symm|exact congrArg (fun i:Cg=>Value.int .i64 i.r) e.symm|fail)|(have e:=join_3 (a:=⟨b0,m0,r0⟩) (b:=⟨b1,m1,r1⟩) ‹_› ‹_› ‹_›;first|exact congrArg (fun i:Cg=>Value.bool i.some) e.symm|exact congrArg (fun i:Cg=>Value.int .i64 i.m) e.symm|exact congrArg (fun i:Cg=>Value.int .i64 i.r) e.symm|fail)|(have e:=join_4 (a:=⟨b0,m0,r0⟩) (b:=⟨b1,m1,r1⟩) ‹_› ‹_› ‹_› g3.1;first|exact congrArg (fun i:Cg=>Value.bool i.some) e.symm|exact congrArg (fun i:Cg=>Value.int .i64 i.m) e.symm|exact congrArg (fun i:Cg=>Value.int .i64 i.r) e.symm|fail)
 . cases h
end Go.Proofs.YtehpbhpmkhlldaaGreat
