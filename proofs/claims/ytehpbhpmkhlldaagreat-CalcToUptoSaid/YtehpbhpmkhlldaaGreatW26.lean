/- Pointers to one place each: plain laws. No program in sight. -/
import Derived.Test.YtehpbhpmkhlldaaGreatW25
set_option linter.all false
set_option maxHeartbeats 8000000
set_option maxRecDepth 100000
namespace Go.Proofs.YtehpbhpmkhlldaaGreat
open Go.Sx
theorem ofS_1 (a:ByteArray):ofS [a]= [a]:=by rw [ofS_eq];rfl
def pV (a:ByteArray):Vl:=⟨Ig.zero,⟨false,[a]⟩⟩
def nV:Vl:=⟨Ig.zero,⟨true,[]⟩⟩
theorem pV_of (a:ByteArray):(pV a).of=pV a:=by show (⟨Ig.clean Ig.zero,⟨false,ofS [a]⟩⟩:Vl)=_;rw [ofS_1];rfl
theorem nV_of:nV.of=nV:=by show (⟨Ig.clean Ig.zero,⟨true,ofS []⟩⟩:Vl)=_;rw [ofS_nil];rfl
theorem zV_of:zeroV.of=zeroV:=by show (⟨Ig.clean Ig.zero,⟨false,ofS []⟩⟩:Vl)=_;rw [ofS_nil];rfl
theorem ints_p (a:ByteArray):intsB (pV a)=false:=rfl
theorem ints_n:intsB nV=false:=rfl
theorem join_zn (n:Int):Vl.join zeroV (numO n)=numO n:=by
 unfold Vl.join;rw [numO_of,zV_of,numO_eq]
 show (⟨⟨Sp.join ⟨false,0,0⟩ ⟨true,n,n⟩,Cg.join ⟨false,0,0⟩ ⟨true,0,n⟩⟩,⟨false,ofS (ofS []++ofS [])⟩⟩:Vl)=_
 rw [ofS_nil,List.append_nil,ofS_nil]
 have e1:Sp.join ⟨false,0,0⟩ ⟨true,n,n⟩=⟨true,n,n⟩:=by unfold Sp.join;rw [cl_1];simp [Sp.none]
 have e2:Cg.join ⟨false,0,0⟩ ⟨true,0,n⟩=⟨true,0,n⟩:=by unfold Cg.join;rw [cl_0];rfl
 rw [e1,e2]
theorem meet_1 (a b:ByteArray):meetS [a] [b]=if a=b then [a] else []:=by
 unfold meetS memS;by_cases h:a=b<;>simp [h]
theorem len_p (a:ByteArray):lenN (pV a).t=1:=by unfold lenN pV;dsimp only;rw [ofS_1];rfl
theorem len_n:lenN nV.t=1:=by unfold lenN nV;dsimp only;rw [ofS_nil];rfl
theorem only_p (a:ByteArray):onlyB (pV a).t=true/\ onlyT (pV a).t=a:=by
 have h:onlyB (pV a).t=true:=by unfold onlyB pV;dsimp only;rw [ofS_1];rfl
 refine ⟨h, ?_⟩
 unfold onlyT;rw [if_pos h];unfold pV;dsimp only;rw [ofS_1];rfl
theorem only_n:onlyB nV.t=false:=rfl
theorem may_pp (a b:ByteArray):mayB (pV a).t (pV b).t=decide (a=b):=by
 unfold mayB pV;dsimp only;rw [meet_1]
 by_cases h:a=b
 . rw [if_pos h,ofS_1,decide_eq_true h];rfl
 . rw [if_neg h,ofS_nil,decide_eq_false h];rfl
theorem may_pn (a:ByteArray):mayB (pV a).t nV.t=false:=by
 unfold mayB pV nV;dsimp only
 rw [show meetS [a] []= [] from rfl,ofS_nil];rfl
theorem do_pn (a:ByteArray) (m:List ByteArray):calcDo 14 (pV a) nV m=numO 0:=by
 unfold calcDo;rw [pV_of,nV_of,nu_1 (ints_p a)]
 rw [(pt_5 (x:=(pV a).t) (y:=nV.t) (m:=m) rfl rfl (by unfold eqMust mustB;rw [may_pn];rfl) (may_pn a)).1,join_zn]
theorem do_ne {a b:ByteArray} (h:a≠b) (m:List ByteArray):calcDo 14 (pV a) (pV b) m=numO 0:=by
 have hm:mayB (pV a).t (pV b).t=false:=by rw [may_pp,decide_eq_false h]
 unfold calcDo;rw [pV_of,pV_of,nu_1 (ints_p a)]
 rw [(pt_5 (x:=(pV a).t) (y:=(pV b).t) (m:=m) rfl rfl (by unfold eqMust mustB;rw [hm];rfl) hm).1,join_zn]
theorem eqm_pp (a:ByteArray) (m:List ByteArray):eqMust (pV a).t (pV a).t m= !memS a m:=by
 unfold eqMust mustB;rw [may_pp,decide_eq_true rfl,len_p,(only_p a).1,(only_p a).2];rfl
theorem do_eq0 {a:ByteArray} {m:List ByteArray} (h:memS a m=false):calcDo 14 (pV a) (pV a) m=numO 1:=by
 unfold calcDo;rw [pV_of,nu_1 (ints_p a)]
 rw [(pt_4 (x:=(pV a).t) (y:=(pV a).t) (m:=m) rfl rfl (by rw [eqm_pp,h];rfl)).1,join_zn]
theorem do_eq1 {a:ByteArray} {m:List ByteArray} (h:memS a m=true):calcDo 14 (pV a) (pV a) m=Vl.join zeroV b01:=by
 unfold calcDo;rw [pV_of,nu_1 (ints_p a)]
 rw [(pt_6 (x:=(pV a).t) (y:=(pV a).t) (m:=m) rfl rfl (by rw [eqm_pp,h];rfl) (by rw [may_pp,decide_eq_true rfl])).1]
theorem j01:(Vl.join zeroV b01).hasInt 0=true/\ (Vl.join zeroV b01).hasInt 1=true:=⟨by kernel_rfl,by kernel_rfl⟩
theorem n1h:(numO 1).hasInt 1=true/\ (numO 1).hasInt 0=false:=⟨by kernel_rfl,by kernel_rfl⟩
theorem cm_p {op:Int} {a b:Vl} (h:intsB a=false):cmA op a b=zeroV/\ cmB op a b=zeroV:=cm_1 h
theorem none_z:Vl.none zeroV=true:=by unfold Vl.none;rw [zV_of,show zeroV.t.names= [] from rfl,ofS_nil];rfl
theorem none_p (a:ByteArray):Vl.none (pV a)=false:=by unfold Vl.none;rw [pV_of,show (pV a).t.names= [a] from rfl,ofS_1];rfl
theorem ra_pn (a:ByteArray) (m:List ByteArray):rfA 14 (pV a) nV m=zeroV:=by
 rw [(rf_14 (a:=pV a) (b:=nV) (m:=m) rfl rfl).1,(cm_p (ints_p a)).1]
 show (⟨Ig.zero,⟨false,ofS (meetS [a] [])⟩⟩:Vl)=_
 rw [show meetS [a] []= [] from rfl,ofS_nil];rfl
theorem ra_nn (m:List ByteArray):rfA 15 nV nV m=zeroV:=by
 rw [(rf_15 (a:=nV) (b:=nV) (m:=m) rfl rfl).1,(cm_p ints_n).1,ot_2 (by rw [len_n];rfl) only_n]
 show (⟨Ig.zero,⟨false,ofS []⟩⟩:Vl)=_
 rw [ofS_nil];rfl
theorem ra_pp (a b:ByteArray) (m:List ByteArray):Vl.none (rfA 15 (pV a) (pV b) m)=(decide (a=b)&& !memS a m):=by
 rw [(rf_15 (a:=pV a) (b:=pV b) (m:=m) rfl rfl).1,(cm_p (ints_p a)).1]
 have hl:(lenN (pV b).t !=1)=false:=by rw [len_p];rfl
 cases hm:memS b m
 . rw [ot_4 hl (only_p b).1 (by rw [(only_p b).2];exact hm),(only_p b).2]
   by_cases h:a=b
   . subst h
     rw [hm,decide_eq_true rfl]
     show Vl.none (⟨Ig.zero,⟨false,ofS ([a].filter fun x=> !pO a x)⟩⟩:Vl)=_
     rw [show ([a].filter fun x=> !pO a x)= [] by simp [pO],ofS_nil];exact none_z
   . rw [decide_eq_false h]
     show Vl.none (⟨Ig.zero,⟨false,ofS ([a].filter fun x=> !pO b x)⟩⟩:Vl)=_
     rw [show ([a].filter fun x=> !pO b x)= [a] by simp [pO,h],ofS_1];exact none_p a
 . rw [ot_3 hl (only_p b).1 (by rw [(only_p b).2];exact hm)]
   show Vl.none (pV a)=_
   rw [none_p]
   by_cases h:a=b
   . subst h;rw [hm];simp
   . rw [decide_eq_false h];rfl
theorem same_00:Vl.same (numO 0) (numO 0)=true:=by unfold Vl.same;rw [numO_of,show (numO 0).t.names= [] from rfl,ofS_nil];rfl
end Go.Proofs.YtehpbhpmkhlldaaGreat
