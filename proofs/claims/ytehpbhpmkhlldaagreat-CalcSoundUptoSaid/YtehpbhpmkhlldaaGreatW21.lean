/- Meets of values. No condition. -/
import Derived.Test.YtehpbhpmkhlldaaGreatW20
set_option linter.all false
set_option maxHeartbeats 8000000
set_option maxRecDepth 100000
namespace Go.Proofs.YtehpbhpmkhlldaaGreat
open Go.Sx
theorem gN_lst2 (l:List ByteArray):gN l.length (fun i=> [st (gT [st (atS l i)])])=l:=gN_lst l
theorem meetS_len (l m:List ByteArray):(meetS l m).length<=l.length:=List.length_filter_le _ _
theorem okV_meetF {a b:Vl} (ha:okV a) (hb:okV b):okV (Vl.meetF a b):=by
 refine ⟨⟨?_,fun _ _=>rfl⟩,meetF_inR ha.2 hb.2⟩
 show (ofS (meetS (ofS a.t.names) (ofS b.t.names))).length*16<=140737488351232
 have h1:=ofS_len (meetS (ofS a.t.names) (ofS b.t.names))
 have h2:=meetS_len (ofS a.t.names) (ofS b.t.names)
 have h3:=ofS_len a.t.names
 have:=ha.1.1
 omega
def FVMeet:List Ar->Option Rs
 | [.agg [.d (.v (.bool s0)),.d (.v (.int .i64 l0)),.d (.v (.int .i64 h0)),.d (.v (.bool b0)),.d (.v (.int .i64 m0)),.d (.v (.int .i64 r0)),.d (.v (.bool z0)),.d (.lst 1 n0 f0)],.agg [.d (.v (.bool s1)),.d (.v (.int .i64 l1)),.d (.v (.int .i64 h1)),.d (.v (.bool b1)),.d (.v (.int .i64 m1)),.d (.v (.int .i64 r1)),.d (.v (.bool z1)),.d (.lst 1 n1 f1)]]=>some ⟨((n0*16<=140737488351232/\ ∀i,i<n0->f0 i= [st (gT (f0 i))])/\ Sp.inR ⟨s0,l0,h0⟩/\ Cg.inR ⟨b0,m0,r0⟩)/\ ((n1*16<=140737488351232/\ ∀i,i<n1->f1 i= [st (gT (f1 i))])/\ Sp.inR ⟨s1,l1,h1⟩/\ Cg.inR ⟨b1,m1,r1⟩),.va (Vl.ar (Vl.meet (⟨⟨⟨s0,l0,h0⟩,⟨b0,m0,r0⟩⟩,⟨z0,gN n0 f0⟩⟩:Vl) (⟨⟨⟨s1,l1,h1⟩,⟨b1,m1,r1⟩⟩,⟨z1,gN n1 f1⟩⟩:Vl))),[]⟩
 |_=>none
theorem fcVMeet:FC Tryz.prog 8 FVMeet:=by
 intro xs pre r us h hp
 unfold FVMeet at h
 split at h
 . rename_i s0 l0 h0 b0 m0 r0 z0 n0 f0 s1 l1 h1 b1 m1 r1 z1 n1 f1
   cases h
   obtain ⟨hp0,hp1⟩:=hp
   refine FCat.of_eq (as':= [.agg [.d (.v (.bool s0)),.d (.v (.int .i64 l0)),.d (.v (.int .i64 h0)),.d (.v (.bool b0)),.d (.v (.int .i64 m0)),.d (.v (.int .i64 r0)),.d (.v (.bool z0)),.d (.lst 1 n0 fun i=> [st (gT (f0 i))])],.agg [.d (.v (.bool s1)),.d (.v (.int .i64 l1)),.d (.v (.int .i64 h1)),.d (.v (.bool b1)),.d (.v (.int .i64 m1)),.d (.v (.int .i64 r1)),.d (.v (.bool z1)),.d (.lst 1 n1 fun i=> [st (gT (f1 i))])]]) ?_ rfl rfl ?_
   . repeat' (first|exact trivial|exact rfl|refine ⟨?_, ?_⟩|fail)
     all_goals first|exact hp0.2|exact hp1.2|exact hp2.2|(intro i hi;exact (hp0.2 i hi).1)|(intro i hi;exact (hp1.2 i hi).1)|(intro i hi;exact (hp2.2 i hi).1)|grind
   refine fcat tys_ok (l:= [(33,⟨[],FVOf⟩),(39,⟨[],FSMeet⟩),(40,⟨[],FCMeet⟩),(41,⟨[],FNMeet⟩),(37,⟨[],FVValue⟩),(38,⟨[],FVReduce⟩)]) ⟨fcVOf,fcSMeet,fcCMeet,fcNMeet,fcVValue,fcVReduce,trivial⟩ Tryz.func8 rfl (by kernel_rfl) true ?_
   have hv0:okV (⟨⟨⟨s0,l0,h0⟩,⟨b0,m0,r0⟩⟩,⟨z0,gN n0 fun i=> [st (gT (f0 i))]⟩⟩:Vl):=⟨⟨(by rw [gN_length];exact hp0.1.1),fun _ _=>rfl⟩,hp0.2⟩
   have hv1:okV (⟨⟨⟨s1,l1,h1⟩,⟨b1,m1,r1⟩⟩,⟨z1,gN n1 fun i=> [st (gT (f1 i))]⟩⟩:Vl):=⟨⟨(by rw [gN_length];exact hp1.1.1),fun _ _=>rfl⟩,hp1.2⟩
   have ho0:=okV_of hv0
   have ho1:=okV_of hv1
   have hoo0:=okV_of ho0
   have hoo1:=okV_of ho1
   have hl0:(Vl.of (⟨⟨⟨s0,l0,h0⟩,⟨b0,m0,r0⟩⟩,⟨z0,gN n0 fun i=> [st (gT (f0 i))]⟩⟩:Vl)).t.names.length<=n0:=by have:=ofS_len (gN n0 f0);rw [gN_length] at this;exact this
   have hl1:(Vl.of (⟨⟨⟨s1,l1,h1⟩,⟨b1,m1,r1⟩⟩,⟨z1,gN n1 fun i=> [st (gT (f1 i))]⟩⟩:Vl)).t.names.length<=n1:=by have:=ofS_len (gN n1 f1);rw [gN_length] at this;exact this
   have hsj:=Sp.join_inR ho0.2.1 ho1.2.1
   have hcj:=Cg.join_inR ho0.2.2 ho1.2.2
   unfold okV at ho0 ho1 hoo0 hoo1
   have hmf:=okV_meetF hv0 hv1
   unfold okV at hmf
   repeat' (first|exact trivial|(with_reducible first|exact ho0|exact ho1|exact ho0.1|exact ho1.1|exact ho0.2.1|exact ho0.2.2|exact ho1.2.1|exact ho1.2.2|exact hp0.1|exact hp1.1|exact hp0.2.1|exact hp0.2.2|exact hp1.2.1|exact hp1.2.2|exact hp0|exact hp1|exact hmf|exact hmf.1|exact hmf.2.1|exact hmf.2.2)|refine ⟨?_, ?_⟩|intro _)
   all_goals first|(with_reducible first|apply qa|apply qb|apply qc|apply qd)|(conv=>whnf)
   all_goals (try simp only [gN_lst,gN_lst2,gN_canon] at*)
   all_goals first|rfl|(with_reducible first|exact hp0.1.1|exact hp1.1.1)|exact hmf.1.1|exact hmf.2.1.1.1|exact hmf.2.1.1.2|exact hmf.2.1.2.1|exact hmf.2.1.2.2|exact hmf.2.2.1.1|exact hmf.2.2.1.2|exact hmf.2.2.2.1|exact hmf.2.2.2.2
 . cases h
theorem ofS_nil:ofS []= []:=List.length_eq_zero_iff.1 (Nat.le_zero.1 (ofS_len []))
theorem red_t (s:Sp) (c:Cg):(Vl.reduce ⟨⟨s,c⟩,⟨false,[]⟩⟩).t=⟨false,[]⟩:=by show (⟨false,ofS []⟩:Ns)=_;rw [ofS_nil]
theorem reduce_inR {v:Vl} (h:v.i.s.inR) (h2:v.i.c.inR):(Vl.reduce v).i.s.inR/\ (Vl.reduce v).i.c.inR:=red_inR (Ig.clean_inR h h2).1 (Ig.clean_inR h h2).2
theorem zeroV_inR:zeroV.i.s.inR/\ zeroV.i.c.inR:=⟨noS_inR,cg_none_inR⟩
theorem bothV_inR {s:Sp} {c:Cg} (h:s.inR) (h2:c.inR):(bothV s c).i.s.inR/\ (bothV s c).i.c.inR:=by
 unfold bothV;(repeat' split)<;>first|exact zeroV_inR|exact reduce_inR h h2
theorem bothV_t (s:Sp) (c:Cg):(bothV s c).t=⟨false,[]⟩:=by unfold bothV;(repeat' split)<;>first|rfl|exact red_t _ _
theorem numV_t (op:Int) (a b:Vl):(numV op a b).t=⟨false,[]⟩:=by unfold numV;(repeat' split)<;>first|rfl|exact bothV_t _ _
theorem numV_inR {op:Int} {a b:Vl} (ha:a.i.s.inR/\ a.i.c.inR) (hb:b.i.s.inR/\ b.i.c.inR):(numV op a b).i.s.inR/\ (numV op a b).i.c.inR:=by
 unfold numV;(repeat' split)<;>first|exact zeroV_inR|exact bothV_inR (rkDo_inR ha.1 hb.1) (rsDo_inR ha.2 hb.2)
theorem ptrV_t (op:Int) (a b:Ns) (m:List ByteArray):(ptrV op a b m).t=⟨false,[]⟩:=by unfold ptrV;(repeat' split)<;>first|rfl|exact red_t _ _
theorem numO_inR {n:Int} (h: -9223372036854775808<=n/\ n<9223372036854775808):(numO n).i.s.inR/\ (numO n).i.c.inR:=⟨Sp.of_inR h h,cg_inR1 (by decide) h⟩
theorem ptrV_inR (op:Int) (a b:Ns) (m:List ByteArray):(ptrV op a b m).i.s.inR/\ (ptrV op a b m).i.c.inR:=by
 unfold ptrV;(repeat' split)<;>first|exact zeroV_inR|exact numO_inR (by decide)|exact reduce_inR b01_inR.1 b01_inR.2
def upS (s:Sp) (e f:Int):Sp:=if wIntB (e-f)=true then Sp.meet s (Sp.of (-9223372036854775808) (e-f)) else noS
def frS (s:Sp) (e f:Int):Sp:=if wIntB (e+f)=true then Sp.meet s (Sp.of (e+f) 9223372036854775807) else noS
def lessA (a b:Vl) (f:Int):Vl:=bothV (upS a.i.s b.i.s.hi f) a.i.c
def lessB (a b:Vl) (f:Int):Vl:=bothV (frS b.i.s a.i.s.lo f) b.i.c
def wtS (s:Sp) (n:Int):Sp:=if s.lo=n/\ s.hi=n then noS else if s.lo=n then Sp.of (IntKind.wrap .i64 (n+1)) s.hi else if s.hi=n then Sp.of s.lo (IntKind.wrap .i64 (n-1)) else s
def unV (a b:Vl):Vl:=if b.i.s.lo≠b.i.s.hi then bothV a.i.s a.i.c else bothV (wtS a.i.s b.i.s.lo) a.i.c
def meetI (a b:Vl):Vl:=Vl.meet ⟨a.i,⟨false,[]⟩⟩ ⟨b.i,⟨false,[]⟩⟩
def cmA (op:Int) (a b:Vl):Vl:=if intsB a=false then zeroV else if intsB b=false then zeroV else if op=12 then lessA a b 1 else if op=13 then lessA a b 0 else if op=15 then unV a b else meetI a b
def cmB (op:Int) (a b:Vl):Vl:=if intsB a=false then zeroV else if intsB b=false then zeroV else if op=12 then lessB a b 1 else if op=13 then lessB a b 0 else if op=15 then unV b a else meetI a b
section
variable {s:Sp} {e f:Int} (hs:s.inR)
theorem wsub_v (he: -9223372036854775808<=e/\ e<9223372036854775808) (hf:0<=f/\ f<=1):(wd ((wd e).val-(wd f).val)).val=e-f:=by
 rw [wd_val (v:=e) (by omega) (by omega),wd_val (v:=f) (by omega) (by omega),wd_val (by omega) (by omega)]
theorem wadd_v (he: -9223372036854775808<=e/\ e<9223372036854775808) (hf:0<=f/\ f<=1):(wd ((wd e).val+(wd f).val)).val=e+f:=by
 rw [wd_val (v:=e) (by omega) (by omega),wd_val (v:=f) (by omega) (by omega),wd_val (by omega) (by omega)]
theorem wv (h:wIntB e=true):wIntV e=e:=by unfold wIntB at h;unfold wIntV;rw [if_pos (of_decide_eq_true h)]
theorem up_1 (h:wIntB (e-f)=true):upS s e f=Sp.meet s (Sp.of (-9223372036854775808) (wIntV (e-f))):=by rw [wv h];unfold upS;rw [if_pos h]
theorem up_0 (h:wIntB (e-f)=false):upS s e f=noS:=by unfold upS;rw [if_neg (by rw [h];decide)]
theorem fr_1 (h:wIntB (e+f)=true):frS s e f=Sp.meet s (Sp.of (wIntV (e+f)) 9223372036854775807):=by rw [wv h];unfold frS;rw [if_pos h]
theorem fr_0 (h:wIntB (e+f)=false):frS s e f=noS:=by unfold frS;rw [if_neg (by rw [h];decide)]
include hs
theorem upS_inR:(upS s e f).inR:=by
 unfold upS;split
 . rename_i h;exact Sp.meet_inR hs (Sp.of_inR (by unfold rI;decide) (show rI _ from of_decide_eq_true (p:= -9223372036854775808<=e-f/\ e-f<9223372036854775808) h))
 . exact noS_inR
theorem frS_inR:(frS s e f).inR:=by
 unfold frS;split
 . rename_i h;exact Sp.meet_inR hs (Sp.of_inR (show rI _ from of_decide_eq_true (p:= -9223372036854775808<=e+f/\ e+f<9223372036854775808) h) (by unfold rI;decide))
 . exact noS_inR
end
theorem wtS_inR {s:Sp} {n:Int} (hs:s.inR):(wtS s n).inR:=by
 obtain ⟨⟨a1,a2⟩,a3,a4⟩:=id hs
 unfold wtS;(repeat' split)
 . exact noS_inR
 . exact Sp.of_inR (w64_r _) ⟨a3,a4⟩
 . exact Sp.of_inR ⟨a1,a2⟩ (w64_r _)
 . exact hs
def FCDo:List Ar->Option Rs
 | [.c (.d (.v (.int .i64 i0))),.agg [.d (.v (.bool s1)),.d (.v (.int .i64 l1)),.d (.v (.int .i64 h1)),.d (.v (.bool b1)),.d (.v (.int .i64 m1)),.d (.v (.int .i64 r1)),.d (.v (.bool z1)),.d (.lst 1 n1 f1)],.agg [.d (.v (.bool s2)),.d (.v (.int .i64 l2)),.d (.v (.int .i64 h2)),.d (.v (.bool b2)),.d (.v (.int .i64 m2)),.d (.v (.int .i64 r2)),.d (.v (.bool z2)),.d (.lst 1 n2 f2)],.c (.d (.lst 1 n3 f3))]=>some ⟨(-9223372036854775808<=i0/\ i0<9223372036854775808)/\ ((n1*16<=140737488351232/\ ∀i,i<n1->f1 i= [st (gT (f1 i))])/\ Sp.inR ⟨s1,l1,h1⟩/\ Cg.inR ⟨b1,m1,r1⟩)/\ ((n2*16<=140737488351232/\ ∀i,i<n2->f2 i= [st (gT (f2 i))])/\ Sp.inR ⟨s2,l2,h2⟩/\ Cg.inR ⟨b2,m2,r2⟩)/\ (n3*16<=140737488351232/\ ∀i,i<n3->f3 i= [st (gT (f3 i))]),.va (Vl.ar (calcDo i0 (⟨⟨⟨s1,l1,h1⟩,⟨b1,m1,r1⟩⟩,⟨z1,gN n1 f1⟩⟩:Vl) (⟨⟨⟨s2,l2,h2⟩,⟨b2,m2,r2⟩⟩,⟨z2,gN n2 f2⟩⟩:Vl) (gN n3 f3))),[]⟩
 |_=>none
theorem fcCDo:FC Tryz.prog 21 FCDo:=by
 intro xs pre r us h hp
 unfold FCDo at h
 split at h
 . rename_i i0 s1 l1 h1 b1 m1 r1 z1 n1 f1 s2 l2 h2 b2 m2 r2 z2 n2 f2 n3 f3
   cases h
   obtain ⟨hp0,hp1,hp2,hp3⟩:=hp
   refine FCat.of_eq (as':= [.c (.d (.v (.int .i64 i0))),.agg [.d (.v (.bool s1)),.d (.v (.int .i64 l1)),.d (.v (.int .i64 h1)),.d (.v (.bool b1)),.d (.v (.int .i64 m1)),.d (.v (.int .i64 r1)),.d (.v (.bool z1)),.d (.lst 1 n1 fun i=> [st (gT (f1 i))])],.agg [.d (.v (.bool s2)),.d (.v (.int .i64 l2)),.d (.v (.int .i64 h2)),.d (.v (.bool b2)),.d (.v (.int .i64 m2)),.d (.v (.int .i64 r2)),.d (.v (.bool z2)),.d (.lst 1 n2 fun i=> [st (gT (f2 i))])],.c (.d (.lst 1 n3 fun i=> [st (gT (f3 i))]))]) ?_ rfl rfl ?_
   . repeat' (first|exact trivial|exact rfl|refine ⟨?_, ?_⟩|fail)
     all_goals first|exact hp0.2|exact hp1.2|exact hp2.2|(intro i hi;exact (hp0.2 i hi).1)|(intro i hi;exact (hp1.2 i hi).1)|(intro i hi;exact (hp2.2 i hi).1)|grind
   refine fcat tys_ok (l:= [(60,⟨[],FVCleanV⟩),(61,⟨[],FCNumbers⟩),(62,⟨[],FCPointers⟩),(7,⟨[],FVJoin⟩)]) ⟨fcVCleanV,fcCNumbers,fcCPointers,fcVJoin,trivial⟩ Tryz.func21 rfl (by kernel_rfl) true ?_
   have o1:=okV_of (v:=(⟨⟨⟨s1,l1,h1⟩,⟨b1,m1,r1⟩⟩,⟨z1,(gN n1 fun i=> [st (gT (f1 i))])⟩⟩:Vl)) ⟨⟨(by rw [gN_length];exact hp1.1.1),fun _ _=>rfl⟩,hp1.2⟩
   have o2:=okV_of (v:=(⟨⟨⟨s2,l2,h2⟩,⟨b2,m2,r2⟩⟩,⟨z2,(gN n2 fun i=> [st (gT (f2 i))])⟩⟩:Vl)) ⟨⟨(by rw [gN_length];exact hp2.1.1),fun _ _=>rfl⟩,hp2.2⟩
   have c1:(gN n1 fun i=> [st (gT (f1 i))])=gN n1 f1:=rfl
   rw [<-c1]
   have c2:(gN n2 fun i=> [st (gT (f2 i))])=gN n2 f2:=rfl
   rw [<-c2]
   have c3:(gN n3 fun i=> [st (gT (f3 i))])=gN n3 f3:=rfl
   rw [<-c3]
   unfold calcDo
   have k1:=numV_inR (op:=i0) (a:=((⟨⟨⟨s1,l1,h1⟩,⟨b1,m1,r1⟩⟩,⟨z1,(gN n1 fun i=> [st (gT (f1 i))])⟩⟩:Vl)).of) (b:=((⟨⟨⟨s2,l2,h2⟩,⟨b2,m2,r2⟩⟩,⟨z2,(gN n2 fun i=> [st (gT (f2 i))])⟩⟩:Vl)).of) o1.2 o2.2
   have k2:=ptrV_inR i0 ((⟨⟨⟨s1,l1,h1⟩,⟨b1,m1,r1⟩⟩,⟨z1,(gN n1 fun i=> [st (gT (f1 i))])⟩⟩:Vl)).of.t ((⟨⟨⟨s2,l2,h2⟩,⟨b2,m2,r2⟩⟩,⟨z2,(gN n2 fun i=> [st (gT (f2 i))])⟩⟩:Vl)).of.t (gN n3 fun i=> [st (gT (f3 i))])
   have t1:=numV_t i0 ((⟨⟨⟨s1,l1,h1⟩,⟨b1,m1,r1⟩⟩,⟨z1,(gN n1 fun i=> [st (gT (f1 i))])⟩⟩:Vl)).of ((⟨⟨⟨s2,l2,h2⟩,⟨b2,m2,r2⟩⟩,⟨z2,(gN n2 fun i=> [st (gT (f2 i))])⟩⟩:Vl)).of
   have t2:=ptrV_t i0 ((⟨⟨⟨s1,l1,h1⟩,⟨b1,m1,r1⟩⟩,⟨z1,(gN n1 fun i=> [st (gT (f1 i))])⟩⟩:Vl)).of.t ((⟨⟨⟨s2,l2,h2⟩,⟨b2,m2,r2⟩⟩,⟨z2,(gN n2 fun i=> [st (gT (f2 i))])⟩⟩:Vl)).of.t (gN n3 fun i=> [st (gT (f3 i))])
   have u1:(numV i0 ((⟨⟨⟨s1,l1,h1⟩,⟨b1,m1,r1⟩⟩,⟨z1,(gN n1 fun i=> [st (gT (f1 i))])⟩⟩:Vl)).of ((⟨⟨⟨s2,l2,h2⟩,⟨b2,m2,r2⟩⟩,⟨z2,(gN n2 fun i=> [st (gT (f2 i))])⟩⟩:Vl)).of).t.names= []:=by rw [t1]
   have u2:(ptrV i0 ((⟨⟨⟨s1,l1,h1⟩,⟨b1,m1,r1⟩⟩,⟨z1,(gN n1 fun i=> [st (gT (f1 i))])⟩⟩:Vl)).of.t ((⟨⟨⟨s2,l2,h2⟩,⟨b2,m2,r2⟩⟩,⟨z2,(gN n2 fun i=> [st (gT (f2 i))])⟩⟩:Vl)).of.t (gN n3 fun i=> [st (gT (f3 i))])).t.names= []:=by rw [t2]
   have w1:((numV i0 ((⟨⟨⟨s1,l1,h1⟩,⟨b1,m1,r1⟩⟩,⟨z1,(gN n1 fun i=> [st (gT (f1 i))])⟩⟩:Vl)).of ((⟨⟨⟨s2,l2,h2⟩,⟨b2,m2,r2⟩⟩,⟨z2,(gN n2 fun i=> [st (gT (f2 i))])⟩⟩:Vl)).of).t.names.length+(ptrV i0 ((⟨⟨⟨s1,l1,h1⟩,⟨b1,m1,r1⟩⟩,⟨z1,(gN n1 fun i=> [st (gT (f1 i))])⟩⟩:Vl)).of.t ((⟨⟨⟨s2,l2,h2⟩,⟨b2,m2,r2⟩⟩,⟨z2,(gN n2 fun i=> [st (gT (f2 i))])⟩⟩:Vl)).of.t (gN n3 fun i=> [st (gT (f3 i))])).t.names.length)*16<=140737488351232:=by rw [u1,u2];decide
   have w2:(numV i0 ((⟨⟨⟨s1,l1,h1⟩,⟨b1,m1,r1⟩⟩,⟨z1,(gN n1 fun i=> [st (gT (f1 i))])⟩⟩:Vl)).of ((⟨⟨⟨s2,l2,h2⟩,⟨b2,m2,r2⟩⟩,⟨z2,(gN n2 fun i=> [st (gT (f2 i))])⟩⟩:Vl)).of).t.names.length*16<=140737488351232:=by rw [u1];decide
   have w3:(ptrV i0 ((⟨⟨⟨s1,l1,h1⟩,⟨b1,m1,r1⟩⟩,⟨z1,(gN n1 fun i=> [st (gT (f1 i))])⟩⟩:Vl)).of.t ((⟨⟨⟨s2,l2,h2⟩,⟨b2,m2,r2⟩⟩,⟨z2,(gN n2 fun i=> [st (gT (f2 i))])⟩⟩:Vl)).of.t (gN n3 fun i=> [st (gT (f3 i))])).t.names.length*16<=140737488351232:=by rw [u2];decide
   have K1:=k1
   have K2:=k2
   unfold Sp.inR Cg.inR at K1 K2
   unfold okV at o1 o2
   repeat' (first|exact trivial|(with_reducible first|exact hp0|exact hp3|exact hp3.1|exact o1|exact o2|exact k1|exact k2|exact o1.2|exact o2.2|exact o1.2.1|exact o1.2.2|exact o2.2.1|exact o2.2.2|exact k1.1|exact k1.2|exact k2.1|exact k2.2|exact w2|exact w3|exact o1.1.1|exact o2.1.1|exact hp1|exact hp1.1|exact hp1.2|exact hp1.2.1|exact hp1.2.2|exact hp1.1.1|exact hp2|exact hp2.1|exact hp2.2|exact hp2.2.1|exact hp2.2.2|exact hp2.1.1|exact (fun h:false=true=>absurd h (by decide))|exact (fun h:true=false=>absurd h (by decide)))|refine ⟨?_, ?_⟩|intro _)
   all_goals first|(with_reducible first|apply qa|apply qb|apply qc|apply qd)|(conv=>whnf)
   all_goals (try simp only [gN_lst] at*)
   all_goals first|(with_reducible rfl)|decide|(with_reducible first|exact K1.1.1.1|exact K1.1.1.2|exact K1.1.2.1|exact K1.1.2.2|exact K1.2.1.1|exact K1.2.1.2|exact K1.2.2.1|exact K1.2.2.2|exact K2.1.1.1|exact K2.1.1.2|exact K2.1.2.1|exact K2.1.2.2|exact K2.2.1.1|exact K2.2.1.2|exact K2.2.2.1|exact K2.2.2.2)|exact w1|exact w2|exact w3|exact o1.1.1|exact o2.1.1|(intro _ _;exact rfl)|exact rfl|rfl
 . cases h
end Go.Proofs.YtehpbhpmkhlldaaGreat
