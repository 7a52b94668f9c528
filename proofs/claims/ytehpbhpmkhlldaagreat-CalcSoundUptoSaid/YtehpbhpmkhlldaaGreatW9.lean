/- The plain law of the layer of names: what the library makes is what the reference makes. No program in sight. -/
import Derived.Test.YtehpbhpmkhlldaaGreatW8
set_option linter.all false
set_option maxHeartbeats 8000000
set_option maxRecDepth 100000
namespace Go.Proofs.YtehpbhpmkhlldaaGreat
open Go.Sx
open Go.Lib Go.Sort
abbrev kS (s:ByteArray):List UInt8:=s.data.toList
theorem kS_inj {a b:ByteArray} (h:kS a=kS b):a=b:=by
 have:a.data=b.data:=Array.ext' h
 cases a;cases b;simp_all
theorem kS_tl (s:ByteArray):s.toList=kS s:=ByteArray.toList_eq s
theorem slt_eq (a b:ByteArray):slt a b=decide (kS a<kS b):=by unfold slt;rw [bytesLess_eq,kS_tl,kS_tl]
theorem sle_eq (a b:ByteArray):sle a b=(decide (kS a<kS b)||decide (a=b)):=by unfold sle;rw [bytesLess_eq,seq_iff,kS_tl,kS_tl]
def Srt (l:List ByteArray):Prop:=l.Pairwise fun a b=>kS a<kS b
def insS (x:ByteArray):List ByteArray->List ByteArray
 | []=> [x]
 |y::ys=>if kS x<kS y then x::y::ys else if x=y then y::ys else y::insS x ys
theorem foldl_in (x:ByteArray) (l:List ByteArray): ∀out,l.foldl (stepP x) (out,true)=(out++l,true):=by
 induction l with
 |nil=>intro out;simp
 |cons y ys ih=>intro out;rw [List.foldl_cons,stepP_in,ih];simp
theorem foldl_put (x:ByteArray) (l:List ByteArray): ∀out,(if (l.foldl (stepP x) (out,false)).2 then (l.foldl (stepP x) (out,false)).1 else (l.foldl (stepP x) (out,false)).1++ [x])=out++insS x l:=by
 induction l with
 |nil=>intro out;simp [insS]
 |cons y ys ih=>
  intro out
  rw [List.foldl_cons]
  unfold insS
  by_cases h1:kS x<kS y
  . rw [if_pos h1,stepP_lt (by rw [sle_eq];simp [h1]) (by rw [slt_eq];simp [h1]),foldl_in];simp
  . rw [if_neg h1]
    by_cases h2:x=y
    . rw [if_pos h2,stepP_eq (by rw [sle_eq];simp [h2]) (by rw [slt_eq];simp [h1]),foldl_in];simp
    . rw [if_neg h2,stepP_gt (by rw [sle_eq];simp [h1,h2]),ih];simp
theorem putS_ins (l:List ByteArray) (x:ByteArray):putS l x=insS x l:=by
 have:=foldl_put x l []
 rw [List.nil_append] at this
 rw [<-this];rfl
theorem mem_ins {x z:ByteArray} {l:List ByteArray}:z∈insS x l↔z=x \/z∈l:=by
 induction l with
 |nil=>simp [insS]
 |cons y ys ih=>
  unfold insS
  split
  . simp
  . split
    . rename_i h;subst h;simp
    . simp only [List.mem_cons,ih]
      constructor
      . rintro (h|h|h)<;>simp [h]
      . rintro (h|h|h)<;>simp [h]
theorem kS_tri {a b:ByteArray} (h1: ¬kS a<kS b) (h2: ¬a=b):kS b<kS a:=by
 rcases Decidable.em (kS b<kS a) with h|h
 . exact h
 . exact absurd (kS_inj (List.le_antisymm (List.not_lt.1 h) (List.not_lt.1 h1))) h2
theorem srt_ins {x:ByteArray} {l:List ByteArray} (h:Srt l):Srt (insS x l):=by
 induction l with
 |nil=>simp [insS,Srt]
 |cons y ys ih=>
  unfold Srt at h ih⊢
  rw [List.pairwise_cons] at h
  unfold insS
  split
  . rename_i hx
    rw [List.pairwise_cons,List.pairwise_cons]
    refine ⟨fun a ha=> ?_,h⟩
    rcases List.mem_cons.1 ha with rfl|ha
    . exact hx
    . exact List.lt_trans hx (h.1 a ha)
  . split
    . rw [List.pairwise_cons];exact h
    . rename_i h1 h2
      rw [List.pairwise_cons]
      refine ⟨fun a ha=> ?_,ih h.2⟩
      rcases mem_ins.1 ha with rfl|ha
      . exact kS_tri h1 h2
      . exact h.1 a ha
theorem cleanS_fold (l:List ByteArray): ∀s,Srt s->Srt (l.foldl putS s)/\ ∀z,z∈l.foldl putS s↔z∈s \/z∈l:=by
 induction l with
 |nil=>intro s h;exact ⟨h,fun z=>by simp⟩
 |cons x l ih=>
  intro s h
  rw [List.foldl_cons,putS_ins]
  obtain ⟨h1,h2⟩:=ih _ (srt_ins (x:=x) h)
  refine ⟨h1,fun z=> ?_⟩
  rw [h2,mem_ins]
  simp only [List.mem_cons]
  constructor
  . rintro ((h|h)|h)<;>simp [h]
  . rintro (h|h|h)<;>simp [h]
theorem srt_nil:Srt []:=by simp [Srt]
theorem cleanS_srt (l:List ByteArray):Srt (cleanS l):=(cleanS_fold l [] srt_nil).1
theorem cleanS_mem {l:List ByteArray} {z:ByteArray}:z∈cleanS l↔z∈l:=by
 have:=(cleanS_fold l [] srt_nil).2 z
 simpa [cleanS] using this
theorem srt_ext: ∀{l m:List ByteArray},Srt l->Srt m->(∀z,z∈l↔z∈m)->l=m
 | [],[],_,_,_=>rfl
 | [],y::m,_,_,h=>absurd ((h y).2 (by simp)) (by simp)
 |x::l,[],_,_,h=>absurd ((h x).1 (by simp)) (by simp)
 |x::l,y::m,h1,h2,h=>by
  unfold Srt at h1 h2
  rw [List.pairwise_cons] at h1 h2
  have hxy:x=y:=by
   rcases List.mem_cons.1 ((h x).1 (by simp)) with e|e
   . exact e
   . rcases List.mem_cons.1 ((h y).2 (by simp)) with e'|e'
     . exact e'.symm
     . exact absurd (List.lt_trans (h1.1 y e') (h2.1 x e)) (List.lt_irrefl _)
  subst hxy
  congr 1
  refine srt_ext h1.2 h2.2 fun z=> ?_
  have hz:=h z
  simp only [List.mem_cons] at hz
  constructor
  . intro hl
    rcases hz.1 (.inr hl) with e|e
    . subst e;exact absurd (h1.1 z hl) (List.lt_irrefl _)
    . exact e
  . intro hm
    rcases hz.2 (.inr hm) with e|e
    . subst e;exact absurd (h2.1 z hm) (List.lt_irrefl _)
    . exact e
theorem compact_law {xs:List (List UInt8)} (hs:xs.Pairwise fun a b=> ¬b<a): ∀n,n<=xs.length->
 ((compactUpTo xs.toArray n).Pairwise fun a b=>a<b)/\ (∀z,z∈compactUpTo xs.toArray n↔z∈xs.take n):=by
 intro n
 induction n with
 |zero=>intro _;simp [compactUpTo]
 |succ n ih=>
  intro hn
  obtain ⟨h1,h2⟩:=ih (by omega)
  have hlt:n<xs.length:=by omega
  have hget:(xs.toArray)[n]! =xs[n]:=by simp [hlt]
  rw [compactUpTo_succ,hget]
  have htake: ∀z,z∈xs.take (n+1)↔z∈xs.take n \/z=xs[n]:=by
   intro z
   rw [List.take_succ_eq_append_getElem hlt,List.mem_append,List.mem_singleton]
  have hle: ∀z,z∈xs.take n-> ¬xs[n]<z:=by
   intro z hz
   obtain ⟨i,hi,rfl⟩:=List.mem_take_iff_getElem.1 hz
   exact List.pairwise_iff_getElem.1 hs i n (by omega) hlt (by omega)
  by_cases hk:keeps xs.toArray n=true
  . rw [if_pos hk]
    refine ⟨?_,fun z=> ?_⟩
    . rw [List.pairwise_append]
      refine ⟨h1,by simp,fun a ha b hb=> ?_⟩
      simp only [List.mem_singleton] at hb
      subst hb
      have ha:=(h2 a).1 ha
      have h3:=hle a ha
      rcases Decidable.em (a<xs[n]) with h|h
      . exact h
      . exfalso
        have he:a=xs[n]:=List.le_antisymm (List.not_lt.1 h3) (List.not_lt.1 h)
        unfold keeps at hk
        rcases Nat.eq_zero_or_pos n with h0|h0
        . subst h0;simp at ha
        . have hp:(xs.toArray)[n-1]! =xs[n-1]'(by omega):=by
           rw [getElem!_pos _ _ (by simp;omega)];simp
          rw [hget,hp] at hk
          have hne: ¬xs[n]=xs[n-1]'(by omega):=by
           intro e
           simp [e] at hk
           omega
          obtain ⟨i,hi,rfl⟩:=List.mem_take_iff_getElem.1 ha
          rcases Nat.lt_or_ge i (n-1) with h4|h4
          . have q1:=List.pairwise_iff_getElem.1 hs i (n-1) (by omega) (by omega) (by omega)
            have q2:=List.pairwise_iff_getElem.1 hs (n-1) n (by omega) hlt (by omega)
            rw [he] at q1
            exact hne (List.le_antisymm (List.not_lt.1 q1) (List.not_lt.1 q2))
          . have:i=n-1:=by omega
            subst this
            exact hne he.symm
    . rw [List.mem_append,h2,htake];simp
  . rw [if_neg hk,List.append_nil]
    refine ⟨h1,fun z=> ?_⟩
    rw [h2,htake]
    constructor
    . exact .inl
    . rintro (h|h)
      . exact h
      . subst h
        unfold keeps at hk
        rcases Nat.eq_zero_or_pos n with h0|h0
        . subst h0;simp at hk
        . have hp:(xs.toArray)[n-1]! =xs[n-1]'(by omega):=by
           rw [getElem!_pos _ _ (by simp;omega)];simp
          rw [hget,hp] at hk
          have he:xs[n]=xs[n-1]'(by omega):=by
           simp at hk
           exact hk.2
          rw [he]
          exact List.mem_take_iff_getElem.2 ⟨n-1,by omega,rfl⟩
theorem bS_kS (s:ByteArray):bS (kS s)=s:=by unfold bS kS;cases s;rfl
theorem kS_bS (l:List UInt8):kS (bS l)=l:=by unfold bS kS;simp
theorem map_kb (l:List (List UInt8)):(l.map bS).map (fun s=>s.data.toList)=l:=by
 rw [List.map_map]
 have:(fun s:ByteArray=>s.data.toList)∘bS=id:=by funext x;exact kS_bS x
 rw [this,List.map_id]
theorem ofS_eq (l:List ByteArray):ofS l=cleanS l:=by
 have hs:(sortL l).Pairwise fun a b=> ¬b<a:=by
  have:=List.pairwise_mergeSort (le:=fun x y:List UInt8=> !(ltOf cfL) y x) (fun a b c h1 h2=>by
   rw [ltOf_cfL] at*
   simp only [Bool.not_eq_true',decide_eq_false_iff_not,List.not_lt] at*
   exact List.le_trans h1 h2) (fun a b=>by
   rw [ltOf_cfL,ltOf_cfL]
   simp only [Bool.or_eq_true,Bool.not_eq_true',decide_eq_false_iff_not,List.not_lt]
   exact List.le_total a b) (l.map fun s=>s.data.toList)
  refine this.imp fun {a b} h=> ?_
  rw [ltOf_cfL] at h
  simpa using h
 have hc:=compact_law hs (sortL l).length (Nat.le_refl _)
 rw [List.take_length] at hc
 have he:compL ((sortL l).map bS)=compactUpTo (sortL l).toArray (sortL l).length:=by
  unfold compL;rw [map_kb];rfl
 refine srt_ext ?_ (cleanS_srt l) fun z=> ?_
 . unfold ofS Srt
   rw [List.pairwise_map,he]
   exact hc.1.imp fun h=>by rw [kS_bS,kS_bS];exact h
 . rw [cleanS_mem]
   unfold ofS
   rw [List.mem_map,he]
   constructor
   . rintro ⟨x,hx,rfl⟩
     rw [hc.2] at hx
     have hx:x∈l.map fun s=>s.data.toList:=List.mem_mergeSort.1 hx
     obtain ⟨s,hs,rfl⟩:=List.mem_map.1 hx
     rw [show bS s.data.toList=s from bS_kS s]
     exact hs
   . intro hz
     refine ⟨kS z, ?_,bS_kS z⟩
     rw [hc.2]
     exact List.mem_mergeSort.2 (List.mem_map.2 ⟨z,hz,rfl⟩)
theorem cleanS_fix {l:List ByteArray} (h:Srt l):cleanS l=l:=srt_ext (cleanS_srt l) h fun _=>cleanS_mem
theorem cleanS_idem (l:List ByteArray):cleanS (cleanS l)=cleanS l:=cleanS_fix (cleanS_srt l)
theorem subS_iff {l m:List ByteArray}:subS l m=true↔ ∀z,z∈l->z∈m:=by
 unfold subS
 rw [List.all_eq_true]
 exact ⟨fun h z hz=>memS_iff.1 (h z hz),fun h z hz=>memS_iff.2 (h z hz)⟩
end Go.Proofs.YtehpbhpmkhlldaaGreat
namespace Go.Proofs.YtehpbhpmkhlldaaGreat
open Go.Sx
theorem of_rclean (v:Vl):v.of=v.rclean:=by unfold Vl.of Vl.rclean;rw [ofS_eq]
theorem reduce_eq (v:Vl):v.reduce=v.rreduce:=by unfold Vl.reduce Vl.rreduce;rw [of_rclean]
theorem sp_eq_refl (a:Sp):Sp.eq a a=true:=by simp [Sp.eq]
theorem cg_eq_refl (a:Cg):Cg.eq a a=true:=by simp [Cg.eq]
theorem exact_refl (v:Vl):v.exact v=true:=by unfold Vl.exact;simp [sp_eq_refl,cg_eq_refl]
def Ig.tidy (i:Ig):Prop:=i=Ig.zero \/((i.s.some=true/\ i.c.some=true)/\ i.s.lo<=i.s.hi/\ i.c.red)
theorem clean_tidy (i:Ig):i.clean.tidy:=by
 cases h:i.clean.s.some with
 |false=>exact .inl (clean_dead h)
 |true=>exact .inr ⟨⟨h,(clean_live h).1⟩,(clean_live h).2,clean_red⟩
theorem cg_fix {c:Cg} (h:c.some=true) (hr:c.red):c.clean=c:=by
 obtain ⟨b,m,r⟩:=c
 unfold Cg.clean Cg.of md
 unfold Cg.red at hr
 dsimp only at*
 subst h
 rw [if_pos rfl,if_neg (by omega)]
 split
 . rfl
 . have:=hr.2 (by omega)
   rw [Int.emod_eq_of_lt this.1 this.2]
theorem tidy_fix {i:Ig} (h:i.tidy):i.clean=i:=by
 rcases h with rfl|⟨⟨h1,h2⟩,h3,h4⟩
 . rfl
 . obtain ⟨⟨s,l,h⟩,c⟩:=i
   dsimp only at*
   subst h1
   have hn:Sp.none ⟨true,l,h⟩=false:=by unfold Sp.none;simp;omega
   unfold Ig.clean Ig.none
   dsimp only
   rw [hn,h2]
   rw [cg_fix h2 h4]
   unfold Sp.clean
   rw [hn]
   rfl
theorem of_le {a b:Int} (h:a<=b):Sp.of a b=⟨true,a,b⟩:=by unfold Sp.of;rw [if_neg (by omega)]
theorem up_facts {n m r:Int} (h:0<m):0<=(r-n)%m/\ (r-n)%m<m/\ (n+(r-n)%m-r)%m=0:=by
 refine ⟨Int.emod_nonneg _ (by omega),Int.emod_lt_of_pos _ h, ?_⟩
 have h1:n+(r-n)%m-r=(r-n)%m-(r-n):=by omega
 rw [h1]
 have h2:=Int.emod_add_mul_ediv (r-n) m
 have h3:(r-n)%m-(r-n)=m*(-((r-n)/m)):=by rw [Int.mul_neg];omega
 rw [h3,Int.mul_emod_right]
theorem md_eq0 {n m r:Int} (hm:0<m) (h0:0<=r) (h1:r<m):md n m=r↔(n-r)%m=0:=by
 unfold md
 rw [if_neg (by omega)]
 have h2:=Int.emod_nonneg n (show m≠0 by omega)
 have h3:=Int.emod_lt_of_pos n hm
 have h4:=Int.emod_add_mul_ediv n m
 have h5:=Int.emod_add_mul_ediv (n-r) m
 have h6:=Int.emod_nonneg (n-r) (show m≠0 by omega)
 have h7:=Int.emod_lt_of_pos (n-r) hm
 constructor
 . intro h
   have:n-r=m*(n/m):=by omega
   rw [this,Int.mul_emod_right]
 . intro h
   have:n=r+m*((n-r)/m):=by omega
   rw [this,Int.add_mul_emod_self_left,Int.emod_eq_of_lt h0 h1]
def Cg.on (c:Cg) (n:Int):Prop:=md n c.m=c.r
instance (c:Cg) (n:Int):Decidable (c.on n):=inferInstanceAs (Decidable (md n c.m=c.r))
theorem has_on {c:Cg} (h:c.some=true) (hr:c.red) (n:Int):c.has n=decide (c.on n):=by
 unfold Cg.has Cg.on
 rw [cg_fix h hr,h];rfl
theorem wIn {n:Int} (h: -9223372036854775808<=n/\ n<9223372036854775808):wIntV n=n/\ wIntB n=true:=by unfold wIntV wIntB;simp [h]
theorem wOut {n:Int} (h: ¬(-9223372036854775808<=n/\ n<9223372036854775808)):wIntB n=false:=by unfold wIntB;simp [h]
theorem modge {a m:Int} (hm:0<m) (ha:0<=a):a%m<=a:=by
 have h4:=Int.emod_add_mul_ediv a m
 have h5:0<=m*(a/m):=Int.mul_nonneg (by omega) (Int.ediv_nonneg ha (by omega))
 omega
theorem emod_of_sub {a b m:Int} (h:(a-b)%m=0):a%m=b%m:=by
 have h4:=Int.emod_add_mul_ediv (a-b) m
 rw [h] at h4
 have:a=b+m*((a-b)/m):=by omega
 rw [this,Int.add_mul_emod_self_left]
theorem red_cases {L H M R:Int} (hl:L<=H) (hr:Cg.red ⟨true,M,R⟩) (hs:Sp.inR ⟨true,L,H⟩) (hc:Cg.inR ⟨true,M,R⟩):
 (Ig.red ⟨⟨true,L,H⟩,⟨true,M,R⟩⟩=Ig.zero/\ ∀n, -9223372036854775808<=n->n<9223372036854775808->L<=n->n<=H-> ¬Cg.on ⟨true,M,R⟩ n) \/
 ∃x y,(L<=x/\ x<=y/\ y<=H)/\ (Cg.on ⟨true,M,R⟩ x/\ Cg.on ⟨true,M,R⟩ y)/\ (∀n,L<=n->n<=H->Cg.on ⟨true,M,R⟩ n->x<=n/\ n<=y)/\ (x≠y->0<M)/\
  Ig.red ⟨⟨true,L,H⟩,⟨true,M,R⟩⟩=if x=y then ⟨⟨true,x,x⟩,⟨true,0,x⟩⟩ else ⟨⟨true,x,y⟩,⟨true,M,R⟩⟩:=by
 unfold Sp.inR at hs
 dsimp only at hs
 by_cases hM:M=0
 . subst hM
   have hon: ∀n,Cg.on ⟨true,0,R⟩ n↔n=R:=by intro n;unfold Cg.on md;simp
   by_cases h:L<=R/\ R<=H
   . refine .inr ⟨R,R,⟨h.1,Int.le_refl _,h.2⟩,⟨(hon R).2 rfl,(hon R).2 rfl⟩,fun n _ _ h=> ?_,fun h=>absurd rfl h, ?_⟩
     . rw [hon] at h;omega
     . rw [rd_3 rfl (fun _=>⟨rfl,hl⟩) rfl (by rw [rd_has rfl];simp;omega),if_pos rfl,of_le (Int.le_refl _)]
   . refine .inl ⟨rd_2 rfl rfl (by rw [rd_has rfl];simp;omega),fun n _ _ h1 h2 h3=> ?_⟩
     rw [hon] at h3;omega
 . have hm:0<M:=by unfold Cg.red at hr;dsimp only at hr;omega
   have hR:=hr.2 hm
   dsimp only at hR
   have hon: ∀n,Cg.on ⟨true,M,R⟩ n↔(n-R)%M=0:=fun n=>md_eq0 hm hR.1 hR.2
   have u:=up_facts (n:=L) (r:=R) hm
   have hx:(upW L ⟨true,M,R⟩-R)%M=0:=u.2.2
   have hxL:L<=upW L ⟨true,M,R⟩:=by unfold upW;dsimp only;omega
   have d1:=Int.emod_nonneg (H-R) (show M≠0 by omega)
   have hy:(dnW H ⟨true,M,R⟩-R)%M=0:=by
    unfold dnW;dsimp only
    have h2:=Int.emod_add_mul_ediv (H-R) M
    have h3:H-(H-R)%M-R=M*((H-R)/M):=by omega
    rw [h3,Int.mul_emod_right]
   have hyH:dnW H ⟨true,M,R⟩<=H:=by unfold dnW;dsimp only;omega
   have hlow: ∀n,L<=n->Cg.on ⟨true,M,R⟩ n->upW L ⟨true,M,R⟩<=n:=by
    intro n h1 h2
    rw [hon] at h2
    have e:=emod_of_sub (a:=R-L) (b:=n-L) (m:=M) (by
     have:R-L-(n-L)= -(n-R):=by omega
     rw [this];exact Int.emod_eq_zero_of_dvd (Int.dvd_neg.2 (Int.dvd_of_emod_eq_zero h2)))
    have:=modge (a:=n-L) hm (by omega)
    unfold upW;dsimp only;omega
   have hhigh: ∀n,n<=H->Cg.on ⟨true,M,R⟩ n->n<=dnW H ⟨true,M,R⟩:=by
    intro n h1 h2
    rw [hon] at h2
    have e:=emod_of_sub (a:=H-R) (b:=H-n) (m:=M) (by
     have:H-R-(H-n)=n-R:=by omega
     rw [this,h2])
    have:=modge (a:=H-n) hm (by omega)
    unfold dnW;dsimp only;omega
   generalize hX:upW L ⟨true,M,R⟩=x at*
   generalize hY:dnW H ⟨true,M,R⟩=y at*
   by_cases hxr:x<9223372036854775808
   . by_cases hyr: -9223372036854775808<=y
     . have wx:=wIn (n:=x) ⟨by omega,hxr⟩
       have wy:=wIn (n:=y) ⟨hyr,by omega⟩
       by_cases hxy:x<=y
       . refine .inr ⟨x,y,⟨hxL,hxy,hyH⟩,⟨(hon x).2 hx,(hon y).2 hy⟩,fun n h1 h2 h3=>⟨hlow n h1 h3,hhigh n h2 h3⟩,fun _=>hm, ?_⟩
         rw [rd_5 rfl (fun _=>⟨rfl,hl⟩) hM (by rw [hX,hY,wx.1,wx.2,wy.1,wy.2];simp;omega),hX,hY,wx.1,wy.1]
         split
         . rw [of_le (Int.le_refl _)]
         . rw [of_le hxy]
       . refine .inl ⟨rd_4c hM (by rw [hX,hY,wx.1,wy.1];simp;omega),fun n _ _ h1 h2 h3=> ?_⟩
         have:=hlow n h1 h3
         have:=hhigh n h2 h3
         omega
     . refine .inl ⟨rd_4b hM (by rw [hY,wOut (by omega)];rfl),fun n h0 _ h1 h2 h3=> ?_⟩
       have:=hhigh n h2 h3
       omega
   . refine .inl ⟨rd_4a hM (by rw [hX,wOut (by omega)];rfl),fun n _ h0 h1 h2 h3=> ?_⟩
     have:=hlow n h1 h3
     omega
theorem red_one (x:Int):Ig.red ⟨⟨true,x,x⟩,⟨true,0,x⟩⟩=⟨⟨true,x,x⟩,⟨true,0,x⟩⟩:=by
 rw [rd_3 rfl (fun _=>⟨rfl,Int.le_refl _⟩) rfl (by rw [rd_has rfl];simp),of_le (Int.le_refl _)]
theorem up_on {n m r:Int} {b:Bool} (hm:0<m) (hr:Cg.red ⟨b,m,r⟩) (h:Cg.on ⟨b,m,r⟩ n):upW n ⟨b,m,r⟩=n/\ dnW n ⟨b,m,r⟩=n:=by
 have hR:=hr.2 hm
 dsimp only at hR
 have h1:(n-r)%m=0:=(md_eq0 hm hR.1 hR.2).1 h
 have h2:(r-n)%m=0:=by
  have:r-n= -(n-r):=by omega
  rw [this];exact Int.emod_eq_zero_of_dvd (Int.dvd_neg.2 (Int.dvd_of_emod_eq_zero h1))
 unfold upW dnW
 dsimp only
 rw [h1,h2];omega
theorem red_two {x y M R:Int} (hx: -9223372036854775808<=x) (hy:y<9223372036854775808) (hxy:x<y) (hM:0<M) (hr:Cg.red ⟨true,M,R⟩) (h1:Cg.on ⟨true,M,R⟩ x) (h2:Cg.on ⟨true,M,R⟩ y):Ig.red ⟨⟨true,x,y⟩,⟨true,M,R⟩⟩=⟨⟨true,x,y⟩,⟨true,M,R⟩⟩:=by
 have e1:=(up_on hM hr h1).1
 have e2:=(up_on hM hr h2).2
 have wx:=wIn (n:=x) ⟨hx,by omega⟩
 have wy:=wIn (n:=y) ⟨by omega,hy⟩
 rw [rd_5 rfl (fun _=>⟨rfl,by omega⟩) (by omega) (by rw [e1,e2,wx.1,wx.2,wy.1,wy.2];simp;omega),e1,e2,wx.1,wy.1,if_neg (by omega),of_le (by omega)]
theorem zero_tidy:Ig.zero.tidy:= .inl rfl
theorem one_red (x:Int):Cg.red ⟨true,0,x⟩:=by unfold Cg.red;dsimp only;omega
theorem red_law {i:Ig} (ht:i.tidy) (hs:i.s.inR) (hc:i.c.inR):
 i.red.tidy/\ i.red.red=i.red/\ i.red.leq i=true/\ ∀n, -9223372036854775808<=n->n<9223372036854775808->(i.red.s.has n&&i.red.c.has n)=(i.s.has n&&i.c.has n):=by
 rcases ht with rfl|⟨⟨h1,h2⟩,h3,h4⟩
 . exact ⟨zero_tidy,rfl,by decide,fun _ _ _=>rfl⟩
 . obtain ⟨⟨s,L,H⟩,⟨b,M,R⟩⟩:=i
   dsimp only at*
   subst h1;subst h2
   have hfix:=cg_fix (c:=⟨true,M,R⟩) rfl h4
   have hh: ∀n,(Sp.has ⟨true,L,H⟩ n&&Cg.has ⟨true,M,R⟩ n)=decide ((L<=n/\ n<=H)/\ Cg.on ⟨true,M,R⟩ n):=by
    intro n
    rw [has_on rfl h4]
    unfold Sp.has
    simp [Bool.and_assoc]
   rcases red_cases h3 h4 hs hc with ⟨e,hn⟩|⟨x,y,⟨k1,k2,k3⟩,⟨o1,o2⟩,hb,hm,e⟩
   . rw [e]
     refine ⟨zero_tidy,rfl,by unfold Ig.leq;rfl,fun n n0 n1=> ?_⟩
     rw [hh]
     have: ¬((L<=n/\ n<=H)/\ Cg.on ⟨true,M,R⟩ n):=fun h=>hn n n0 n1 h.1.1 h.1.2 h.2
     rw [decide_eq_false this];rfl
   . unfold Sp.inR at hs
     dsimp only at hs
     have hleq: ∀a:Int,Sp.has ⟨true,L,H⟩ a=decide (L<=a/\ a<=H):=by intro a;unfold Sp.has;simp
     by_cases hxy:x=y
     . rw [if_pos hxy] at e
       rw [e]
       refine ⟨.inr ⟨⟨rfl,rfl⟩,Int.le_refl _,one_red x⟩,red_one x, ?_,fun n n0 n1=> ?_⟩
       . unfold Ig.leq Sp.leq Cg.leq
         dsimp only
         rw [hleq,cg_fix rfl (one_red x),hfix]
         have h0:Cg.has ⟨true,M,R⟩ x=true:=by rw [has_on rfl h4];exact decide_eq_true o1
         have hf:Cg.factor M 0=true:=by unfold Cg.factor;split<;>simp
         rw [h0,hf]
         simp;omega
       . rw [hh]
         have h5:(Sp.has ⟨true,x,x⟩ n&&Cg.has ⟨true,0,x⟩ n)=decide (n=x):=by
          rw [has_on rfl (one_red x)]
          unfold Sp.has Cg.on md
          rw [Bool.eq_iff_iff]
          simp
          omega
         rw [h5]
         rw [decide_eq_decide]
         constructor
         . rintro rfl;exact ⟨⟨k1,by omega⟩,o1⟩
         . rintro ⟨⟨q1,q2⟩,q3⟩
           have:=hb n q1 q2 q3
           omega
     . have hm:=hm hxy
       rw [if_neg hxy] at e
       rw [e]
       refine ⟨.inr ⟨⟨rfl,rfl⟩,k2,h4⟩,red_two (by omega) (by omega) (by omega) hm h4 o1 o2, ?_,fun n n0 n1=> ?_⟩
       . unfold Ig.leq Sp.leq Cg.leq
         dsimp only
         rw [hleq,hleq,hfix]
         have h0:Cg.has ⟨true,M,R⟩ R=true:=by
          rw [has_on rfl h4]
          refine decide_eq_true ?_
          unfold Cg.on md
          dsimp only
          have:=h4.2 hm
          dsimp only at this
          rw [if_neg (by omega),Int.emod_eq_of_lt this.1 this.2]
         have hf:Cg.factor M M=true:=by unfold Cg.factor;split<;>simp_all
         rw [h0,hf]
         simp;omega
       . rw [hh]
         have h5:(Sp.has ⟨true,x,y⟩ n&&Cg.has ⟨true,M,R⟩ n)=decide ((x<=n/\ n<=y)/\ Cg.on ⟨true,M,R⟩ n):=by
          rw [has_on rfl h4]
          unfold Sp.has
          simp [Bool.and_assoc]
         rw [h5,decide_eq_decide]
         constructor
         . rintro ⟨q,q3⟩;exact ⟨⟨by omega,by omega⟩,q3⟩
         . rintro ⟨⟨q1,q2⟩,q3⟩;exact ⟨hb n q1 q2 q3,q3⟩
theorem has_clean {i:Ig} (n:Int):(i.clean.s.has n&&i.clean.c.has n)=(i.s.has n&&i.c.has n):=by
 have hcc:i.c.clean.has n=i.c.has n:=by
  unfold Cg.has
  cases h:i.c.some with
  |false=>have:i.c.clean=Cg.none:=by unfold Cg.clean;simp [h]
          rw [this];rfl
  |true=>rw [cg_fix (c:=i.c.clean) (by rw [cg_clean_some];exact h) (Cg.clean_red _)]
 have hsc:i.s.clean.has n=i.s.has n:=by
  unfold Sp.clean
  split
  . rename_i h
    unfold Sp.none at h
    unfold Sp.has
    rw [Bool.eq_iff_iff]
    simp at h⊢
    intro h1 h2
    rcases h with h|h
    . simp [h] at h1
    . omega
  . rfl
 unfold Ig.clean
 split
 . rename_i h
   unfold Ig.none Sp.none at h
   have:(i.s.has n&&i.c.has n)=false:=by
    cases h1:i.c.some with
    |false=>have:i.c.has n=false:=by unfold Cg.has;rw [cg_clean_some,h1];rfl
            rw [this];simp
    |true=>
     rw [h1] at h
     have:i.s.has n=false:=by
      unfold Sp.has
      cases h2:i.s.some with
      |false=>rfl
      |true=>rw [h2] at h;simp at h;simp;omega
     rw [this];rfl
   rw [this];rfl
 . dsimp only
   rw [hcc,hsc]
theorem v1 (v:Vl):v.reduce.exact v.rreduce=true:=by rw [reduce_eq];exact exact_refl _
theorem v2 {v:Vl} (h1:v.i.s.inR) (h2:v.i.c.inR):v.reduce.reduce.exact v.reduce=true:=by
 have hc:=Ig.clean_inR h1 h2
 have h:=red_law (clean_tidy v.i) hc.1 hc.2
 have e:v.reduce.reduce=v.reduce:=by
  unfold Vl.reduce Vl.of
  dsimp only
  rw [tidy_fix h.1,h.2.1,ofS_eq,ofS_eq,cleanS_idem]
 rw [e];exact exact_refl _
theorem v3 {v:Vl} {n:Int} (h1:v.i.s.inR) (h2:v.i.c.inR) (hn: -9223372036854775808<=n/\ n<9223372036854775808):v.reduce.hasInt n=v.hasInt n:=by
 have hc:=Ig.clean_inR h1 h2
 have h:=red_law (clean_tidy v.i) hc.1 hc.2
 unfold Vl.hasInt Vl.reduce Vl.of
 dsimp only
 rw [h.2.2.2 n hn.1 hn.2,has_clean]
theorem v4 {v:Vl} (h1:v.i.s.inR) (h2:v.i.c.inR):v.reduce.leq v=true:=by
 have hc:=Ig.clean_inR h1 h2
 have h:=red_law (clean_tidy v.i) hc.1 hc.2
 unfold Vl.leq Vl.reduce Vl.of
 dsimp only
 rw [tidy_fix h.1,h.2.2.1,ofS_eq,ofS_eq,cleanS_idem]
 have:subS (cleanS v.t.names) (cleanS v.t.names)=true:=subS_iff.2 fun _ h=>h
 rw [this];cases v.t.null<;>rfl
theorem v9 {n:Int} (hn: -9223372036854775808<=n/\ n<9223372036854775808):Vl.hasInt ⟨⟨Sp.of (-9223372036854775808) 9223372036854775807,Cg.of 1 0⟩,⟨false,[]⟩⟩ n=true:=by
 unfold Vl.hasInt
 dsimp only
 rw [of_le (by decide)]
 have e:Cg.of 1 0=⟨true,1,0⟩:=rfl
 have hr:Cg.red ⟨true,1,0⟩:=by unfold Cg.red;decide
 rw [e,has_on rfl hr]
 unfold Sp.has Cg.on md
 simp;omega
def okV (v:Vl):Prop:=(v.t.names.length*16<=140737488351232/\ ∀i,i<v.t.names.length-> [st (atS v.t.names i)]= [st (gT [st (atS v.t.names i)])])/\ v.i.s.inR/\ v.i.c.inR
def rI (n:Int):Prop:= -9223372036854775808<=n/\ n<9223372036854775808
def gI:List DV->Int
 | [.v (.int .i64 n)]=>n
 |_=>0
def under (l:List Int) (n:Int):Int:=l.foldl (fun b r=>if r<=n/\ b<r then r else b) (-9223372036854775808)
def over (l:List Int) (n:Int):Int:=l.foldl (fun b r=>if n<=r/\ r<b then r else b) 9223372036854775807
namespace Sp
def widen (a b:Sp) (l:List Int):Sp:=if a.none then b.clean else if leq b a then a else ⟨a.some,if b.lo<a.lo then under l b.lo else a.lo,if b.hi>a.hi then over l b.hi else a.hi⟩
theorem of_inR {l h:Int} (h0:rI l) (h1:rI h):(of l h).inR:=by unfold of;split;unfold inR;decide;exact ⟨h0,h1⟩
theorem join_inR {a b:Sp} (ha:a.inR) (hb:b.inR):(join a b).inR:=by
 unfold join;split
 . exact clean_inR hb
 . split
   . exact ha
   . unfold inR at ha hb;exact of_inR (by unfold rI;omega) (by unfold rI;omega)
theorem meet_inR {a b:Sp} (ha:a.inR) (hb:b.inR):(meet a b).inR:=by
 unfold meet;split
 . unfold inR;decide
 . unfold inR at ha hb;exact of_inR (by unfold rI;omega) (by unfold rI;omega)
end Sp
def FSJoin:List Ar->Option Rs
 | [.agg [.d (.v (.bool s0)),.d (.v (.int .i64 l0)),.d (.v (.int .i64 h0))],.agg [.d (.v (.bool s1)),.d (.v (.int .i64 l1)),.d (.v (.int .i64 h1))]]=>some ⟨(Sp.inR ⟨s0,l0,h0⟩)/\ (Sp.inR ⟨s1,l1,h1⟩),.va (Sp.ar (Sp.join (⟨s0,l0,h0⟩:Sp) (⟨s1,l1,h1⟩:Sp))),[]⟩
 |_=>none
theorem fcSJoin:FC Tryz.prog 34 FSJoin:=by
 intro xs pre r us h hp
 unfold FSJoin at h
 split at h
 . rename_i s0 l0 h0 s1 l1 h1
   cases h
   obtain ⟨hp0,hp1⟩:=hp
   refine fcat tys_ok (l:= [(83,⟨[],FSNone⟩),(84,⟨[],FSClean⟩),(85,⟨[],FSOf⟩)]) ⟨fcSNone,fcSClean,fcSOf,trivial⟩ Tryz.func34 rfl (by kernel_rfl) false ?_
   repeat' (first|exact trivial|refine ⟨?_, ?_⟩|intro _)
   all_goals first|(with_reducible first|apply qa|apply qb|apply qc|apply qd)|(conv=>whnf)
   all_goals grind [Sp.join,Sp.clean,Sp.none,Sp.of,Sp.inR]
 . cases h
def FSMeet:List Ar->Option Rs
 | [.agg [.d (.v (.bool s0)),.d (.v (.int .i64 l0)),.d (.v (.int .i64 h0))],.agg [.d (.v (.bool s1)),.d (.v (.int .i64 l1)),.d (.v (.int .i64 h1))]]=>some ⟨(Sp.inR ⟨s0,l0,h0⟩)/\ (Sp.inR ⟨s1,l1,h1⟩),.va (Sp.ar (Sp.meet (⟨s0,l0,h0⟩:Sp) (⟨s1,l1,h1⟩:Sp))),[]⟩
 |_=>none
theorem fcSMeet:FC Tryz.prog 39 FSMeet:=by
 intro xs pre r us h hp
 unfold FSMeet at h
 split at h
 . rename_i s0 l0 h0 s1 l1 h1
   cases h
   obtain ⟨hp0,hp1⟩:=hp
   refine fcat tys_ok (l:= [(83,⟨[],FSNone⟩),(85,⟨[],FSOf⟩)]) ⟨fcSNone,fcSOf,trivial⟩ Tryz.func39 rfl (by kernel_rfl) false ?_
   repeat' (first|exact trivial|refine ⟨?_, ?_⟩|intro _)
   all_goals first|(with_reducible first|apply qa|apply qb|apply qc|apply qd)|(conv=>whnf)
   all_goals grind [Sp.meet,Sp.none,Sp.of,Sp.inR]
 . cases h
theorem Cg.of_of {m r:Int} (hm:0<=m):Cg.of m (md r m)=Cg.of m r:=by
 unfold Cg.of
 rw [if_neg (by omega),if_neg (by omega)]
 congr 1
 unfold md
 split
 . rfl
 . exact Int.emod_emod_of_dvd _ (Int.dvd_refl m)
theorem Cg.clean_clean (c:Cg):c.clean.clean=c.clean:=by
 unfold Cg.clean
 cases c.some
 . simp [Cg.none]
 . simp only [if_true]
   have hs:(Cg.of c.m c.r).some=true:=by unfold Cg.of;split<;>rfl
   rw [if_pos hs]
   by_cases hm:c.m<0
   . have e:Cg.of c.m c.r=Cg.of 1 c.r:=by unfold Cg.of;rw [if_pos hm,if_neg (by omega)]
     rw [e]
     have e2:Cg.of 1 c.r=⟨true,1,md c.r 1⟩:=by unfold Cg.of;rw [if_neg (by omega)]
     rw [e2]
     exact (Cg.of_of (m:=1) (r:=c.r) (by omega)).trans e2
   . have e2:Cg.of c.m c.r=⟨true,c.m,md c.r c.m⟩:=by unfold Cg.of;rw [if_neg hm]
     rw [e2]
     exact (Cg.of_of (m:=c.m) (r:=c.r) (by omega)).trans e2
section
variable {a b:Cg}
end
def gLn:List DV->Nat
 | [.lst _ n _]=>n
 |_=>0
def gLf:List DV->Nat->List DV
 | [.lst _ _ f]=>f
 |_=>fun _=> []
abbrev cLL (l:List DV):List DV:= [.lst 1 (gLn l) fun j=> [st (gT (gLf l j))]]
def rLL (l:List DV):Prop:=l=cLL l
def gLL (l:List DV):List ByteArray:=gN (gLn l) (gLf l)
def catL (f:Nat->List DV):Nat->List ByteArray
 |0=> []
 |1=>gLL (f 0)
 |_=>gLL (f 0)++gLL (f 1)
def rowN:Blk->Nat
 | .row _ n _=>n
 | .fzr _ n _=>n
 |_=>0
theorem canonY {f:Nat->List DV} {p:Prop} (h:(rLL (f 0)/\ rLL (f 1))/\ p) (i:Nat) (hi:i<2):f i=cLL (f i):=by
 have hc:i=0 \/i=1:=by omega
 rcases hc with rfl|rfl
 . exact h.1.1
 . exact h.1.2
theorem catL_len (f:Nat->List DV):(catL f 0).length=0/\ (catL f 1).length=gLn (f 0)/\ (catL f 2).length=gLn (f 0)+gLn (f 1):=by simp [catL,gLL,gN_length]
theorem appRow_cat {l:List ByteArray} {m len:Nat} (hl:l.length=len) {F g:Nat->List DV} (hF: ∀j,j<len->F j= [st (atS l j)]) (hg: ∀j,j<m->g j= [st (gT (g j))]) (i:Nat) (hi:i<len+m):appRow len F g i= [st (atS (l++gN m g) i)]:=by
 unfold appRow
 by_cases h:i<len
 . rw [if_pos h,hF i h];simp [atS,List.getD_eq_getElem?_getD,List.getElem?_append_left (show i<l.length by omega)]
 . rw [if_neg h,hg _ (by omega)]
   have h2:i-len<m:=by omega
   have h3:(gN m g)[i-len]? =some (gT (g (i-len))):=by simp [gN,h2]
   simp only [atS,List.getD_eq_getElem?_getD,List.getElem?_append_right (show l.length<=i by omega),hl,h3,Option.getD_some]
theorem cat_step {f0:Nat->List DV} {f:Nat->List DV} {i:Nat} (hi:i<2) (k3: ∀j,j<(catL f0 i).length->f j= [st (atS (catL f0 i) j)]) (j:Nat) (hj:j<(catL f0 (i+1)).length):
 appRow (catL f0 i).length f (fun j=> [st (gT (gLf (f0 i) j))]) j= [st (atS (catL f0 (i+1)) j)]:=by
 have hc:i=0 \/i=1:=by omega
 rcases hc with rfl|rfl
 . exact appRow_cat (l:=catL f0 0) rfl k3 (fun _ _=>rfl) j (by simpa [catL,gLL,gN_length] using hj)
 . exact appRow_cat (l:=catL f0 1) rfl k3 (fun _ _=>rfl) j (by simpa [catL,gLL,gN_length] using hj)
def FNConcat:List Ar->Option Rs
 | [.c (.d (.lst 1 2 f0))]=>some ⟨((rLL (f0 0)/\ rLL (f0 1))/\ ((gLn (f0 0))+(gLn (f0 1)))*16<=140737488351232),.va (.c (.d (lst (catL f0 2)))),[]⟩
 |_=>none
theorem fcNConcat:FC Tryz.prog 92 FNConcat:=by
 intro xs pre r us h hp
 unfold FNConcat at h
 split at h
 . rename_i f0
   cases h
   have hp0:=hp
   refine FCat.of_eq (as':= [.c (.d (.lst 1 2 fun i=>cLL (f0 i)))]) ?_ rfl rfl ?_
   . repeat' (first|exact trivial|exact rfl|refine ⟨?_, ?_⟩|fail)
     all_goals first|(intro i hi;exact canonY hp0 i hi)|exact hp0.2|exact hp1.2|exact hp2.2|(intro i hi;exact (hp0.2 i hi).1)|(intro i hi;exact (hp1.2 i hi).1)|(intro i hi;exact (hp2.2 i hi).1)|grind
   refine fcat tys_ok (l:= []) trivial Tryz.func92 rfl (by kernel_rfl) true ?_
   have hl:=catL_len f0
   have h16:=hp0.2
   repeat' (first|exact trivial|refine ⟨?_, ?_⟩|intro _)
   all_goals first|(with_reducible first|apply qa|apply qb|apply qc|apply qd)|(conv=>whnf)
   refine loop_ok tys_ok (l:= []) trivial (by kernel_rfl) (X:=Nat)
    (fun x=>⟨[(11,vx (.int .i64 x)),(10,vx (.int .i64 2)),(9,.va (.c (.d (.lst 1 2 fun i=>cLL (f0 i))))),(0,.va (.c (.d (.lst 1 2 fun i=>cLL (f0 i))))),(3,vx (.int .i64 ((catL f0 x).length:Int)))],[],0,36⟩)
    (fun x=>2-x) (fun x=>x<=2) [] [] (fun x _ _=>x+1) [] [] 0 0 0 (Nat.zero_le _) ?_ ?_
   . repeat' (first|exact trivial|exact rfl|(intro _ h;exact absurd h (Nat.not_lt_zero _))|(intro _ _;exact rfl)|refine ⟨?_, ?_⟩|fail)
   . intro i k1
     have hc:i=0 \/i=1 \/i=2:=by omega
     rcases hc with rfl|rfl|rfl
     . repeat' (first|exact trivial|refine ⟨?_, ?_⟩|intro _)
       all_goals first|(with_reducible first|apply qa|apply qb|apply qc|apply qd)|(conv=>whnf)
       all_goals (try simp only [Int.toNat_natCast,hl.1,hl.2.1,hl.2.2,decide_eq_true_eq,decide_eq_false_iff_not] at*)
       all_goals first|omega|((with_reducible show idsOk _ _=true);rfl)|(exact absurd ‹decide _=false› (by decide))|rfl|(rw [wI_id _ (by omega) (by omega)] at*;omega)|(rw [wI_id _ (by omega) (by omega)];first|rfl|(congr 1;omega))
     . repeat' (first|exact trivial|refine ⟨?_, ?_⟩|intro _)
       all_goals first|(with_reducible first|apply qa|apply qb|apply qc|apply qd)|(conv=>whnf)
       all_goals (try simp only [Int.toNat_natCast,hl.1,hl.2.1,hl.2.2,decide_eq_true_eq,decide_eq_false_iff_not] at*)
       all_goals first|omega|((with_reducible show idsOk _ _=true);rfl)|(exact absurd ‹decide _=false› (by decide))|rfl|(rw [wI_id _ (by omega) (by omega)] at*;omega)|(rw [wI_id _ (by omega) (by omega)];first|rfl|(congr 1;omega))
     . repeat' (first|exact trivial|refine ⟨?_, ?_⟩|intro _)
       all_goals first|(with_reducible first|apply qa|apply qb|apply qc|apply qd)|(conv=>whnf)
       all_goals first|(exact absurd ‹decide _=true› (by decide))|skip
       all_goals first|((with_reducible show ACall _ _ _ _ _ _);refine inl tys_ok (l:= []) trivial Tryz.func129 rfl (by kernel_rfl) (by kernel_rfl) rfl ?_;(conv=>whnf))|skip
       all_goals repeat' (first|exact trivial|refine ⟨?_, ?_⟩|intro _)
       all_goals first|(with_reducible first|apply qa|apply qb|apply qc|apply qd)|(conv=>whnf)
       all_goals first|(exact absurd ‹decide _=false› (by decide))|((with_reducible show ASat _ _ _ _ _);skip)|skip
       all_goals (have hw:IntKind.wrap .i64 (((catL f0 2).length:Int)-IntKind.wrap .i64 (((0:Nat):Int)-((0:Nat):Int)))=((gLn (f0 0)+gLn (f0 1):Nat):Int):=by rw [hl.2.2];simp only [Int.sub_self];rw [wI_id 0 (by omega) (by omega),wI_id _ (by omega) (by omega)];omega)
       all_goals first|omega|(rw [hw];omega)|(exfalso;rw [hl.2.2] at*;simp only [decide_eq_true_eq] at*;omega)|skip
       . refine loop_ok tys_ok (l:= []) trivial (by kernel_rfl) (X:=Nat×Nat×(Nat->List DV))
          (fun x=>⟨[(27,vx (.int .i64 x.1)),(26,vx (.int .i64 2)),(25,.va (.c (.d (.lst 1 2 fun i=>cLL (f0 i))))),(6,.va (.c (.osl 0 1 0 (catL f0 x.1).length)))],[(0,.row 1 x.2.1 x.2.2)],1,36⟩)
          (fun x=>2-x.1) (fun x=>x.1<=2/\ (catL f0 x.1).length<=x.2.1/\ ∀j,j<(catL f0 x.1).length->x.2.2 j= [st (atS (catL f0 x.1) j)]) [] [1] (fun x _ bs=>match bs with| [b]=>(x.1+1,rowN b,rowB b)|_=>x) [1] [0] 0 0 (0,gLn (f0 0)+gLn (f0 1),fun _=> [st ByteArray.empty]) ?_ ?_ ?_
         . exact ⟨Nat.zero_le _,by simp [catL],fun j hj=>absurd hj (by simp [catL])⟩
         . repeat' (first|exact trivial|exact rfl|(intro _ h;exact absurd h (Nat.not_lt_zero _))|(intro _ _;exact rfl)|refine ⟨?_, ?_⟩|fail)
           all_goals first|(rw [hw];rfl)|(simp;done)
         . rintro ⟨i,n,f⟩ ⟨k1,k2,k3⟩
           dsimp only at k1 k2 k3
           have hs:=fun h=>cat_step (f0:=f0) (f:=f) (i:=i) h k3
           have hc:i=0 \/i=1 \/i=2:=by omega
           rcases hc with rfl|rfl|rfl
           . repeat' (first|exact trivial|refine ⟨?_, ?_⟩|intro _)
             all_goals first|(with_reducible first|apply qa|apply qb|apply qc|apply qd)|(conv=>whnf)
             all_goals (try dsimp only [rowN,rowB] at*)
             all_goals (try simp only [Int.toNat_natCast,Nat.zero_add,Nat.reduceAdd,decide_eq_true_eq,decide_eq_false_iff_not] at*)
             all_goals first|omega|((with_reducible show idsOk _ _=true);rfl)|rfl|(exact hs (by decide) _ ‹_›)|(rw [wI_id _ (by omega) (by omega)];first|rfl|(congr 1;omega))|(exact k3 _ ‹_›)
           . repeat' (first|exact trivial|refine ⟨?_, ?_⟩|intro _)
             all_goals first|(with_reducible first|apply qa|apply qb|apply qc|apply qd)|(conv=>whnf)
             all_goals (try dsimp only [rowN,rowB] at*)
             all_goals (try simp only [Int.toNat_natCast,Nat.zero_add,Nat.reduceAdd,decide_eq_true_eq,decide_eq_false_iff_not] at*)
             all_goals first|omega|((with_reducible show idsOk _ _=true);rfl)|rfl|(exact hs (by decide) _ ‹_›)|(rw [wI_id _ (by omega) (by omega)];first|rfl|(congr 1;omega))|(exact k3 _ ‹_›)
           . repeat' (first|exact trivial|refine ⟨?_, ?_⟩|intro _)
             all_goals first|(with_reducible first|apply qa|apply qb|apply qc|apply qd)|(conv=>whnf)
             all_goals (try dsimp only [rowN,rowB] at*)
             all_goals (try simp only [Int.toNat_natCast,Nat.zero_add,Nat.reduceAdd,decide_eq_true_eq,decide_eq_false_iff_not] at*)
             all_goals first|omega|((with_reducible show idsOk _ _=true);rfl)|rfl|(exact hs (by decide) _ ‹_›)|(rw [wI_id _ (by omega) (by omega)];first|rfl|(congr 1;omega))|(exact k3 _ ‹_›)
       . refine loop_ok tys_ok (l:= []) trivial (by kernel_rfl) (X:=Nat×Nat×(Nat->List DV))
          (fun x=>⟨[(27,vx (.int .i64 x.1)),(26,vx (.int .i64 2)),(25,.va (.c (.d (.lst 1 2 fun i=>cLL (f0 i))))),(6,.va (.c (.osl 0 1 0 (catL f0 x.1).length)))],[(0,.row 1 x.2.1 x.2.2)],1,36⟩)
          (fun x=>2-x.1) (fun x=>x.1<=2/\ (catL f0 x.1).length<=x.2.1/\ ∀j,j<(catL f0 x.1).length->x.2.2 j= [st (atS (catL f0 x.1) j)]) [] [1] (fun x _ bs=>match bs with| [b]=>(x.1+1,rowN b,rowB b)|_=>x) [1] [] 0 1 (0,0,fun _=> []) ?_ ?_ ?_
         . exact ⟨Nat.zero_le _,by simp [catL],fun j hj=>absurd hj (by simp [catL])⟩
         . repeat' (first|exact trivial|exact rfl|(intro _ h;exact absurd h (Nat.not_lt_zero _))|(intro _ _;exact rfl)|refine ⟨?_, ?_⟩|fail)
           all_goals first|(rw [hw];rfl)|(simp;done)
         . rintro ⟨i,n,f⟩ ⟨k1,k2,k3⟩
           dsimp only at k1 k2 k3
           have hs:=fun h=>cat_step (f0:=f0) (f:=f) (i:=i) h k3
           have hc:i=0 \/i=1 \/i=2:=by omega
           rcases hc with rfl|rfl|rfl
           . repeat' (first|exact trivial|refine ⟨?_, ?_⟩|intro _)
             all_goals first|(with_reducible first|apply qa|apply qb|apply qc|apply qd)|(conv=>whnf)
             all_goals (try dsimp only [rowN,rowB] at*)
             all_goals (try simp only [Int.toNat_natCast,Nat.zero_add,Nat.reduceAdd,decide_eq_true_eq,decide_eq_false_iff_not] at*)
             all_goals first|omega|((with_reducible show idsOk _ _=true);rfl)|rfl|(exact hs (by decide) _ ‹_›)|(rw [wI_id _ (by omega) (by omega)];first|rfl|(congr 1;omega))|(exact k3 _ ‹_›)
           . repeat' (first|exact trivial|refine ⟨?_, ?_⟩|intro _)
             all_goals first|(with_reducible first|apply qa|apply qb|apply qc|apply qd)|(conv=>whnf)
             all_goals (try dsimp only [rowN,rowB] at*)
             all_goals (try simp only [Int.toNat_natCast,Nat.zero_add,Nat.reduceAdd,decide_eq_true_eq,decide_eq_false_iff_not] at*)
             all_goals first|omega|((with_reducible show idsOk _ _=true);rfl)|rfl|(exact hs (by decide) _ ‹_›)|(rw [wI_id _ (by omega) (by omega)];first|rfl|(congr 1;omega))|(exact k3 _ ‹_›)
           . repeat' (first|exact trivial|refine ⟨?_, ?_⟩|intro _)
             all_goals first|(with_reducible first|apply qa|apply qb|apply qc|apply qd)|(conv=>whnf)
             all_goals (try dsimp only [rowN,rowB] at*)
             all_goals (try simp only [Int.toNat_natCast,Nat.zero_add,Nat.reduceAdd,decide_eq_true_eq,decide_eq_false_iff_not] at*)
             all_goals first|omega|((with_reducible show idsOk _ _=true);rfl)|rfl|(exact hs (by decide) _ ‹_›)|(rw [wI_id _ (by omega) (by omega)];first|rfl|(congr 1;omega))|(exact k3 _ ‹_›)
 . cases h
end Go.Proofs.YtehpbhpmkhlldaaGreat
