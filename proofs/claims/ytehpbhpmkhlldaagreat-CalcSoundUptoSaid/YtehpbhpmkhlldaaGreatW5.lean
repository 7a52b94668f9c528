/- What math/bits computes. No condition. -/
import Derived.Test.YtehpbhpmkhlldaaGreatW4
set_option linter.all false
set_option maxHeartbeats 8000000
set_option maxRecDepth 100000
namespace Go.Proofs.YtehpbhpmkhlldaaGreat
open Go.Sx
theorem shr32 (n:Int):n.fdiv (2^min (Int.toNat 32) IntKind.u64.bits)=n/4294967296:=by
 have e:(2^min (Int.toNat 32) IntKind.u64.bits:Int)=4294967296:=by decide
 rw [e,Int.fdiv_eq_ediv_of_nonneg _ (by decide)]
theorem and32 (n:Int):((BitVec.ofInt IntKind.u64.bits n&&&BitVec.ofInt IntKind.u64.bits 4294967295).toNat:Int)=n%4294967296:=by
 have e:(BitVec.ofInt IntKind.u64.bits 4294967295).toNat=2^32-1:=by decide
 have e2:((BitVec.ofInt IntKind.u64.bits n).toNat:Int)=n%18446744073709551616:=by
  rw [BitVec.toNat_ofInt]
  have:(0:Int)<=n%((2^IntKind.u64.bits:Nat):Int):=Int.emod_nonneg _ (by decide)
  rw [Int.toNat_of_nonneg this];rfl
 rw [BitVec.toNat_and,e,Nat.and_two_pow_sub_one_eq_mod]
 omega
theorem mod32 (n:Int):n%4294967296%18446744073709551616=n%4294967296:=by omega
theorem mul_le32 {a b:Int} (ha:0<=a/\ a<4294967296) (hb:0<=b/\ b<4294967296):0<=a*b/\ a*b<=18446744065119617025:=
 ⟨Int.mul_nonneg ha.1 hb.1,by have:=Int.mul_le_mul (show a<=4294967295 by omega) (show b<=4294967295 by omega) hb.1 (by decide);omega⟩
theorem mul_split (x1 x0 y1 y0:Int):(x1*4294967296+x0)*(y1*4294967296+y0)=(x1*y1)*18446744073709551616+(x1*y0+x0*y1)*4294967296+x0*y0:=by grind
theorem mul64_law {u v:Int} (hu:0<=u/\ u<18446744073709551616) (hv:0<=v/\ v<18446744073709551616):
 ((u/4294967296*(v/4294967296)+(u/4294967296*(v%4294967296)+u%4294967296*(v%4294967296)/4294967296)/4294967296)+((u/4294967296*(v%4294967296)+u%4294967296*(v%4294967296)/4294967296)%4294967296+u%4294967296*(v/4294967296))/4294967296)=u*v/18446744073709551616
 /\ (0<=u/4294967296*(v/4294967296)/\ u/4294967296*(v/4294967296)<=18446744065119617025)/\ (0<=u/4294967296*(v%4294967296)/\ u/4294967296*(v%4294967296)<=18446744065119617025)/\ (0<=u%4294967296*(v/4294967296)/\ u%4294967296*(v/4294967296)<=18446744065119617025)/\ (0<=u%4294967296*(v%4294967296)/\ u%4294967296*(v%4294967296)<=18446744065119617025)/\ u*v/18446744073709551616<18446744073709551616:=by
 have e:=mul_split (u/4294967296) (u%4294967296) (v/4294967296) (v%4294967296)
 have eu:u/4294967296*4294967296+u%4294967296=u:=by omega
 have ev:v/4294967296*4294967296+v%4294967296=v:=by omega
 rw [eu,ev] at e
 have b1:=mul_le32 (a:=u/4294967296) (b:=v/4294967296) (by omega) (by omega)
 have b2:=mul_le32 (a:=u/4294967296) (b:=v%4294967296) (by omega) (by omega)
 have b3:=mul_le32 (a:=u%4294967296) (b:=v/4294967296) (by omega) (by omega)
 have b4:=mul_le32 (a:=u%4294967296) (b:=v%4294967296) (by omega) (by omega)
 refine ⟨?_,b1,b2,b3,b4, ?_⟩
 . rw [e]
   generalize u/4294967296*(v/4294967296)=d at*
   generalize u/4294967296*(v%4294967296)=b at*
   generalize u%4294967296*(v/4294967296)=c at*
   generalize u%4294967296*(v%4294967296)=a at*
   clear e eu ev hu hv
   omega
 . rw [e]
   generalize u/4294967296*(v/4294967296)=d at*
   generalize u/4294967296*(v%4294967296)=b at*
   generalize u%4294967296*(v/4294967296)=c at*
   generalize u%4294967296*(v%4294967296)=a at*
   clear e eu ev hu hv
   omega
def FMul64:List Ar->Option Rs
 | [.c (.d (.v (.int .u64 u0))),.c (.d (.v (.int .u64 u1)))]=>some ⟨(0<=u0/\ u0<18446744073709551616)/\ (0<=u1/\ u1<18446744073709551616),.tup [.c (.d (ut (u0*u1/18446744073709551616))),.c (.d (ut (u0*u1%18446744073709551616)))],[]⟩
 |_=>none
theorem fcMul64:FC Tryz.prog 133 FMul64:=by
 intro xs pre r us h hp
 unfold FMul64 at h
 split at h
 . rename_i u0 u1
   cases h
   obtain ⟨hp0,hp1⟩:=hp
   refine fcat tys_ok (l:= []) trivial Tryz.func133 rfl (by kernel_rfl) false ?_
   repeat' (first|exact trivial|refine ⟨?_, ?_⟩|intro _)
   all_goals first|(with_reducible first|apply qa|apply qb|apply qc|apply qd)|(conv=>whnf)
   all_goals refine congrArg (Value.int .u64) ?_
   all_goals simp only [shr32,and32,wU,mod32]
   all_goals first|rfl|skip
   obtain ⟨e,b1,b2,b3,b4,b5⟩:=mul64_law hp0 hp1
   rw [<-e] at b5⊢
   generalize u0/4294967296*(u1/4294967296)=d at*
   generalize u0/4294967296*(u1%4294967296)=b at*
   generalize u0%4294967296*(u1/4294967296)=c at*
   generalize u0%4294967296*(u1%4294967296)=a at*
   omega
 . cases h
def lenI (x:Int):Int:=if x=0 then 0 else ((x.toNat.log2+1:Nat):Int)
theorem len_key {a l x:Nat} (h0:2^l<=x/2^a) (h1:x/2^a<2^(l+1)):x≠0/\ x.log2=a+l:=by
 have p:=Nat.two_pow_pos a
 have q:=Nat.two_pow_pos l
 have k0:2^l*2^a<=x:=(Nat.le_div_iff_mul_le p).1 h0
 have k1:x<2^(l+1)*2^a:=(Nat.div_lt_iff_lt_mul p).1 h1
 have hx:x≠0:=by
  intro e;subst e;have:=Nat.mul_pos q p;omega
 refine ⟨hx,(Nat.log2_eq_iff hx).2 ⟨?_, ?_⟩⟩
 . rw [Nat.add_comm,Nat.pow_add];exact k0
 . rw [show a+l+1=(l+1)+a by omega,Nat.pow_add];exact k1
theorem lenI_r {x:Int} (h:0<=x/\ x<18446744073709551616):0<=lenI x/\ lenI x<=64:=by
 unfold lenI
 split
 . omega
 . have:=(Nat.log2_lt (n:=x.toNat) (k:=64) (by omega)).2 (by omega)
   omega
theorem u8r (e:Int):0<=IntKind.u8.wrap e/\ IntKind.u8.wrap e<256:=by simp only [IntKind.wrap,IntKind.signed,IntKind.bits];simp;omega
theorem u8i {e:Int} (h0:0<=e) (h1:e<256):IntKind.u8.wrap e=e:=by simp only [IntKind.wrap,IntKind.signed,IntKind.bits];simp;omega
theorem lt_tab {t:ByteArray} (h:t.size=256) (e:Int):IntKind.u8.wrap e<(t.size:Int):=by rw [h];exact (u8r e).2
theorem shr8 (n:Int):n.fdiv (2^min (Int.toNat 8) IntKind.u64.bits)=n/256:=by
 have e:(2^min (Int.toNat 8) IntKind.u64.bits:Int)=256:=by decide
 rw [e,Int.fdiv_eq_ediv_of_nonneg _ (by decide)]
theorem shr16 (n:Int):n.fdiv (2^min (Int.toNat 16) IntKind.u64.bits)=n/65536:=by
 have e:(2^min (Int.toNat 16) IntKind.u64.bits:Int)=65536:=by decide
 rw [e,Int.fdiv_eq_ediv_of_nonneg _ (by decide)]
theorem len_fin {t:ByteArray} (ht:((List.range 256).all fun x=>byteAt t x==lenI x)=true) (a P:Nat) (hP:2^a=P) {u E N:Int} (hN:N=a) (ha:a<=56) (h0:0<=u) (hE:E=u/P) (h1:E<256) (h2:a=0 \/0<E):IntKind.i64.wrap (N+IntKind.i64.wrap (byteAt t (IntKind.u8.wrap E).toNat))=lenI u:=by
 obtain ⟨n,rfl⟩:=Int.eq_ofNat_of_zero_le h0
 subst hP hN
 rw [<-Int.natCast_ediv] at hE
 subst hE
 have hb:n/2^a<256:=Int.ofNat_lt.1 h1
 rw [u8i (Int.natCast_nonneg _) h1,Int.toNat_natCast]
 have h3:=List.all_eq_true.1 ht (n/2^a) (List.mem_range.2 hb)
 rw [eq_of_beq h3]
 unfold lenI
 by_cases hz:n/2^a=0
 . have ea:a=0:=by omega
   subst ea
   have:n=0:=by omega
   subst this;rfl
 . have q1:=Nat.log2_self_le hz
   have q2:n/2^a<2^((n/2^a).log2+1):=Nat.lt_log2_self
   have q3:=len_key q1 q2
   have q4:(n/2^a).log2<8:=(Nat.log2_lt hz).2 hb
   rw [if_neg (by omega),if_neg (by omega),Int.toNat_natCast,Int.toNat_natCast,q3.2]
   generalize (n/2^a).log2=l at*
   rw [wI_id ((l+1:Nat):Int) (by omega) (by omega),wI_id _ (by omega) (by omega)]
   omega
def FLen64:List Ar->Option Rs
 | [.c (.d (.v (.int .u64 u0)))]=>some ⟨(0<=u0/\ u0<18446744073709551616),.va (.c (.d (it (lenI u0)))),[]⟩
 |_=>none
theorem fcLen64:FC Tryz.prog 187 FLen64:=by
 intro xs pre r us h hp
 unfold FLen64 at h
 split at h
 . rename_i u0
   cases h
   have hp0:=hp
   refine fcat tys_ok (l:= []) trivial Tryz.func187 rfl (by kernel_rfl) false ?_
   repeat' (first|exact trivial|refine ⟨?_, ?_⟩|intro _)
   all_goals first|(with_reducible first|apply qa|apply qb|apply qc|apply qd)|(conv=>whnf)
   all_goals (try simp only [decide_eq_true_eq,decide_eq_false_iff_not,shr8,shr16,shr32] at*)
   all_goals first|exact (u8r _).1|exact lt_tab (by kernel_rfl) _|skip
   all_goals first|exact congrArg (Value.int .i64) (len_fin (by kernel_rfl) 0 1 (by decide) (by decide) (by decide) hp0.1 (by omega) (by omega) (by omega))|exact congrArg (Value.int .i64) (len_fin (by kernel_rfl) 8 256 (by decide) (by decide) (by decide) hp0.1 (by omega) (by omega) (by omega))|exact congrArg (Value.int .i64) (len_fin (by kernel_rfl) 16 65536 (by decide) (by decide) (by decide) hp0.1 (by omega) (by omega) (by omega))|exact congrArg (Value.int .i64) (len_fin (by kernel_rfl) 24 16777216 (by decide) (by decide) (by decide) hp0.1 (by omega) (by omega) (by omega))|exact congrArg (Value.int .i64) (len_fin (by kernel_rfl) 32 4294967296 (by decide) (by decide) (by decide) hp0.1 (by omega) (by omega) (by omega))|exact congrArg (Value.int .i64) (len_fin (by kernel_rfl) 40 1099511627776 (by decide) (by decide) (by decide) hp0.1 (by omega) (by omega) (by omega))|exact congrArg (Value.int .i64) (len_fin (by kernel_rfl) 48 281474976710656 (by decide) (by decide) (by decide) hp0.1 (by omega) (by omega) (by omega))|exact congrArg (Value.int .i64) (len_fin (by kernel_rfl) 56 72057594037927936 (by decide) (by decide) (by decide) hp0.1 (by omega) (by omega) (by omega))
 . cases h
def FLead:List Ar->Option Rs
 | [.c (.d (.v (.int .u64 u0)))]=>some ⟨(0<=u0/\ u0<18446744073709551616),.va (.c (.d (it (64-lenI u0)))),[]⟩
 |_=>none
theorem fcLead:FC Tryz.prog 189 FLead:=by
 intro xs pre r us h hp
 unfold FLead at h
 split at h
 . rename_i u0
   cases h
   have hp0:=hp
   refine fcat tys_ok (l:= [(187,⟨[],FLen64⟩)]) ⟨fcLen64,trivial⟩ Tryz.func189 rfl (by kernel_rfl) false ?_
   repeat' (first|exact trivial|refine ⟨?_, ?_⟩|intro _)
   all_goals first|(with_reducible first|apply qa|apply qb|apply qc|apply qd)|(conv=>whnf)
   all_goals first|exact hp0.1|exact hp0.2|(refine congrArg (Value.int .i64) (wI_id _ ?_ ?_)<;>(have:=lenI_r hp0;omega))
 . cases h
theorem q_mul (q a c:Nat):q*(a*4294967296+c)=(q*a)*4294967296+q*c:=by
 rw [Nat.mul_add, <-Nat.mul_assoc]
structure Gq (a c u d q r:Nat):Prop where
 eq:q*a+r=u
 ge:u*4294967296+d<(q+1)*(a*4294967296+c)
 le:q<=4294967297
section
variable {a c u d q r:Nat} (ha:2147483648≤a) (ha2:a<4294967296) (hc:c<4294967296) (hu:u<a*4294967296+c) (hd:d<4294967296)
include ha ha2 hc hu hd
theorem gq_start:Gq a c u d (u/a) (u%a):=by
 have h1:=Nat.div_add_mod u a
 have h2:=Nat.mod_lt u (show 0<a by omega)
 have h3:u/a*a+u%a=u:=by rw [Nat.mul_comm];exact h1
 refine ⟨h3, ?_, ?_⟩
 . rw [q_mul,Nat.add_mul,Nat.one_mul]
   have h4:0<=(u/a+1)*c:=Nat.zero_le _
   generalize u/a*a=p at*
   omega
 . rcases Nat.lt_or_ge 4294967297 (u/a) with h|h
   . have h4:4294967298*a<=u/a*a:=Nat.mul_le_mul_right a h
     omega
   . exact h
theorem gq_big (g:Gq a c u d q r) (h:4294967296<=q \/4294967296*r+d<q*c):u*4294967296+d<q*(a*4294967296+c):=by
 have h1:=g.eq
 rcases h with h|h
 . have h2:4294967296*(a*4294967296+c)<=q*(a*4294967296+c):=Nat.mul_le_mul_right _ h
   omega
 . rw [q_mul];omega
theorem gq_next (g:Gq a c u d q r) (h:4294967296<=q \/4294967296*r+d<q*c):1<=q/\ Gq a c u d (q-1) (r+a):=by
 have h1:=gq_big ha ha2 hc hu hd g h
 have hq:1<=q:=by
  rcases Nat.eq_zero_or_pos q with h0|h0
  . subst h0;rw [Nat.zero_mul] at h1;omega
  . exact h0
 refine ⟨hq, ?_, ?_, ?_⟩
 . have h2:=g.eq
   have h3:(q-1)*a=q*a-a:=by rw [Nat.sub_mul,Nat.one_mul]
   have h4:a<=q*a:=Nat.le_mul_of_pos_left a hq
   rw [h3];omega
 . rw [Nat.sub_add_cancel hq];exact h1
 . have:=g.le;omega
theorem gq_done (g:Gq a c u d q r) (h1:q<4294967296) (h2:q*c<=4294967296*r+d):(u*4294967296+d)/(a*4294967296+c)=q:=by
 refine Nat.div_eq_of_lt_le ?_ g.ge
 rw [q_mul]
 have:=g.eq
 omega
theorem gq_out (g:Gq a c u d q r) (h1:q<=4294967296) (h2:4294967296<=r):(u*4294967296+d)/(a*4294967296+c)=q:=by
 refine Nat.div_eq_of_lt_le ?_ g.ge
 rw [q_mul]
 have h3:=g.eq
 have h4:q*c<=4294967296*c:=Nat.mul_le_mul_right c h1
 omega
theorem digit_lt:(u*4294967296+d)/(a*4294967296+c)<4294967296:=by
 rw [Nat.div_lt_iff_lt_mul (by omega)]
 have:4294967296*(a*4294967296+c)≥4294967296*(u+1):=Nat.mul_le_mul_left _ hu
 omega
end
theorem halves (u d e y:Nat):((u*4294967296+d)%y*4294967296+e)%y=((u*4294967296+d)*4294967296+e)%y:=by
 rw [Nat.add_mod,Nat.mul_mod,Nat.mod_mod, <-Nat.mul_mod, <-Nat.add_mod]
theorem halves_n (n e y:Nat) (hy:0<y):n/y*4294967296+(n%y*4294967296+e)/y=(n*4294967296+e)/y:=by
 have h:=Nat.div_add_mod n y
 have e1:n*4294967296+e=y*(n/y*4294967296)+(n%y*4294967296+e):=by
  have:n*4294967296=(y*(n/y)+n%y)*4294967296:=by rw [h]
  rw [this,Nat.add_mul,Nat.mul_assoc];omega
 rw [e1,Nat.mul_add_div hy]
theorem halves_div (u d e y:Nat) (hy:0<y):(u*4294967296+d)/y*4294967296+((u*4294967296+d)%y*4294967296+e)/y=((u*4294967296+d)*4294967296+e)/y:=halves_n _ e y hy
theorem shift_mod (v y s:Nat):(v*2^s)%(y*2^s)=(v%y)*2^s:=by
 rw [Nat.mul_comm v,Nat.mul_comm y,Nat.mul_mod_mul_left,Nat.mul_comm]
theorem shift_div (v y s:Nat):(v*2^s)/(y*2^s)=v/y:=Nat.mul_div_mul_right _ _ (Nat.two_pow_pos s)
theorem quoN {u a:Nat} (ha:0<a) (hu:u<18446744073709551616):IntKind.u64.wrap ((u:Int).tdiv (a:Int))=((u/a:Nat):Int):=by
 have h:=Nat.div_le_self u a
 rw [Int.tdiv_eq_ediv_of_nonneg (Int.natCast_nonneg _), <-Int.natCast_ediv]
 generalize u/a=m at*
 rw [wU];omega
theorem remN {u a:Nat} (ha:0<a) (hu:u<18446744073709551616):IntKind.u64.wrap ((u:Int)-IntKind.u64.wrap (((u/a:Nat):Int)*(a:Int)))=((u%a:Nat):Int):=by
 have h:=Nat.div_add_mod u a
 rw [<-Int.natCast_mul,Nat.mul_comm (u/a)]
 generalize a*(u/a)=p at*
 generalize u%a=m at*
 rw [wU,wU];omega
theorem condN {q c r d:Nat} (hq:q<=4294967297) (hc:c<4294967296) (hr:r<4294967296) (hd:d<4294967296):IntKind.u64.wrap ((q:Int)*(c:Int))=((q*c:Nat):Int)/\ IntKind.u64.wrap (IntKind.u64.wrap (4294967296*(r:Int))+(d:Int))=((4294967296*r+d:Nat):Int):=by
 have h:q*c<=4294967297*4294967295:=Nat.mul_le_mul hq (by omega)
 rw [<-Int.natCast_mul]
 generalize q*c=p at*
 rw [wU,wU,wU];omega
theorem subN {q u d y:Nat} (hq:q=(u*4294967296+d)/y) (hd:d<4294967296) (hy:0<y) (hY:y<18446744073709551616):IntKind.u64.wrap (IntKind.u64.wrap (IntKind.u64.wrap ((u:Int)*4294967296)+(d:Int))-IntKind.u64.wrap ((q:Int)*(y:Int)))=(((u*4294967296+d)%y:Nat):Int):=by
 have h:=Nat.div_add_mod (u*4294967296+d) y
 have h2:=Nat.mod_lt (u*4294967296+d) hy
 subst hq
 rw [<-Int.natCast_mul,Nat.mul_comm _ y]
 generalize (u*4294967296+d)%y=m at*
 generalize y*((u*4294967296+d)/y)=p at*
 rw [wU,wU,wU,wU];omega
theorem predN {q:Nat} (h:1<=q) (h2:q<18446744073709551616):IntKind.u64.wrap ((q:Int)-1)=((q-1:Nat):Int):=by rw [wU];omega
theorem addN {r a:Nat} (h:r+a<18446744073709551616):IntKind.u64.wrap ((r:Int)+(a:Int))=((r+a:Nat):Int):=by rw [wU];omega
theorem dig_a {A C U D q r:Nat} (rA:2147483648<=A) (rA2:A<4294967296) (rC:C<4294967296) (rU:U<A*4294967296+C) (rD:D<4294967296) (g:Gq A C U D q r) (_:r<4294967296) (h:decide ((q:Int)≥4294967296)=true):1<=q/\ Gq A C U D (q-1) (r+A):=gq_next rA rA2 rC rU rD g (.inl (by have:=of_decide_eq_true h;omega))
theorem dig_b {A C U D q r:Nat} (rA:2147483648<=A) (rA2:A<4294967296) (rC:C<4294967296) (rU:U<A*4294967296+C) (rD:D<4294967296) (g:Gq A C U D q r) (rr:r<4294967296) (h:decide (IntKind.u64.wrap ((q:Int)*(C:Int))>IntKind.u64.wrap (IntKind.u64.wrap (4294967296*(r:Int))+(D:Int)))=true):1<=q/\ Gq A C U D (q-1) (r+A):=by
 have h:=of_decide_eq_true h
 rw [(condN g.le rC rr rD).1,(condN g.le rC rr rD).2] at h
 exact gq_next rA rA2 rC rU rD g (.inr (by omega))
theorem dig_end {A C U D q r:Nat} (rA:2147483648<=A) (rA2:A<4294967296) (rC:C<4294967296) (rU:U<A*4294967296+C) (rD:D<4294967296) (g:Gq A C U D q r) (rr:r<4294967296) (h0:decide ((q:Int)≥4294967296)=false) (h:decide (IntKind.u64.wrap ((q:Int)*(C:Int))>IntKind.u64.wrap (IntKind.u64.wrap (4294967296*(r:Int))+(D:Int)))=false):q=(U*4294967296+D)/(A*4294967296+C):=by
 have h:=of_decide_eq_false h
 have h0:=of_decide_eq_false h0
 rw [(condN g.le rC rr rD).1,(condN g.le rC rr rD).2] at h
 exact (gq_done rA rA2 rC rU rD g (by omega) (by omega)).symm
theorem dig_out {A C U D q r:Nat} (rA:2147483648<=A) (rA2:A<4294967296) (rC:C<4294967296) (rU:U<A*4294967296+C) (rD:D<4294967296) (g:1<=q/\ Gq A C U D (q-1) (r+A)) (rr:r<4294967296) (hl:q<=4294967297) (h:decide (IntKind.u64.wrap ((r:Int)+(A:Int))≥4294967296)=true):q-1=(U*4294967296+D)/(A*4294967296+C):=by
 have h:=of_decide_eq_true h
 rw [addN (by omega)] at h
 exact (gq_out rA rA2 rC rU rD g.2 (by omega) (by omega)).symm
theorem dig_in {A r:Nat} (rA2:A<4294967296) (rr:r<4294967296) (h:decide (IntKind.u64.wrap ((r:Int)+(A:Int))≥4294967296)=false):r+A<4294967296:=by
 have h:=of_decide_eq_false h
 rw [addN (by omega)] at h
 omega
theorem shlN {a k:Nat} (hk:k<=63):IntKind.u64.wrap ((a:Int)*2^min (k:Int).toNat IntKind.u64.bits)=((a*2^k%18446744073709551616:Nat):Int):=by
 have e:min (k:Int).toNat IntKind.u64.bits=k:=by rw [Int.toNat_natCast];exact Nat.min_eq_left (by show k<=64;omega)
 have e2:(a:Int)*2^k=((a*2^k:Nat):Int):=by rw [Int.natCast_mul,Int.natCast_pow];rfl
 rw [e,e2,wU];omega
theorem shrN {a k:Nat} (hk:k<=64):(a:Int).fdiv (2^min (k:Int).toNat IntKind.u64.bits)=((a/2^k:Nat):Int):=by
 have e:min (k:Int).toNat IntKind.u64.bits=k:=by rw [Int.toNat_natCast];exact Nat.min_eq_left (by show k<=64;omega)
 have e2:(2:Int)^k=((2^k:Nat):Int):=by rw [Int.natCast_pow];rfl
 rw [e,e2,Int.fdiv_eq_ediv_of_nonneg _ (Int.natCast_nonneg _)];rfl
theorem shr32N (a:Nat):(a:Int).fdiv (2^min (Int.toNat 32) IntKind.u64.bits)=((a/4294967296:Nat):Int):=by rw [shr32];omega
theorem and32N (a:Nat):IntKind.u64.wrap ((BitVec.ofInt IntKind.u64.bits (a:Int)&&&BitVec.ofInt IntKind.u64.bits 4294967295).toNat:Int)=((a%4294967296:Nat):Int):=by rw [and32,wU];omega
theorem bv_nat {a:Nat} (h:a<18446744073709551616):(BitVec.ofInt IntKind.u64.bits (a:Int)).toNat=a:=by
 rw [BitVec.toNat_ofInt]
 have e:((2^IntKind.u64.bits:Nat):Int)=18446744073709551616:=by decide
 rw [e];omega
theorem orN {a b k:Nat} (hb:b<2^k) (h:2^k*a+b<18446744073709551616):IntKind.u64.wrap ((BitVec.ofInt IntKind.u64.bits ((2^k*a:Nat):Int)|||BitVec.ofInt IntKind.u64.bits (b:Int)).toNat:Int)=((2^k*a+b:Nat):Int):=by
 rw [BitVec.toNat_or,bv_nat (by omega),bv_nat (by omega), <-Nat.two_pow_add_eq_or_of_lt hb,wU];omega
theorem div_shift {h l y k:Nat} (hl:l<18446744073709551616) (hy:h<y) (hk:k<=63) (hY:y*2^k<18446744073709551616):(h*2^k<18446744073709551616/\ l/2^(64-k)<2^k)/\ 2^k*h+l/2^(64-k)<y*2^k/\ (2^k*h+l/2^(64-k))*18446744073709551616+l*2^k%18446744073709551616=(h*18446744073709551616+l)*2^k:=by
 have e:18446744073709551616=2^(64-k)*2^k:=by rw [<-Nat.pow_add,show 64-k+k=64 by omega]
 have p:=Nat.two_pow_pos k
 have p2:=Nat.two_pow_pos (64-k)
 have h1:l*2^k/18446744073709551616=l/2^(64-k):=by rw [e];exact Nat.mul_div_mul_right _ _ p
 have h2:=Nat.div_add_mod (l*2^k) 18446744073709551616
 have h3:l/2^(64-k)<2^k:=by rw [Nat.div_lt_iff_lt_mul p2,Nat.mul_comm, <-e];exact hl
 have h4:(h+1)*2^k<=y*2^k:=Nat.mul_le_mul_right _ hy
 rw [Nat.add_mul,Nat.one_mul] at h4
 have h5:(h*18446744073709551616+l)*2^k=h*2^k*18446744073709551616+l*2^k:=by rw [Nat.add_mul,Nat.mul_right_comm]
 rw [h5,Nat.mul_comm (2^k) h]
 rw [h1] at h2
 generalize h*2^k=a at*
 generalize l/2^(64-k)=b at*
 generalize l*2^k%18446744073709551616=c at*
 refine ⟨⟨by omega,h3⟩,by omega,by omega⟩
theorem lead_ok {y:Nat} (h0:0<y) (h:y<18446744073709551616): ∃k:Nat,IntKind.u64.wrap (64-lenI (y:Int))=(k:Int)/\ IntKind.u64.wrap (64-(k:Int))=((64-k:Nat):Int)/\ k<=63/\ 9223372036854775808<=y*2^k/\ y*2^k<18446744073709551616:=by
 have hz:y≠0:=by omega
 have q1:=Nat.log2_self_le hz
 have q2:y<2^(y.log2+1):=Nat.lt_log2_self
 have q3:y.log2<64:=(Nat.log2_lt hz).2 h
 refine ⟨63-y.log2, ?_, ?_,by omega, ?_, ?_⟩
 . unfold lenI;rw [if_neg (by omega),Int.toNat_natCast,wU];omega
 . rw [wU];omega
 . have:=Nat.mul_le_mul_right (2^(63-y.log2)) q1
   rw [<-Nat.pow_add,show y.log2+(63-y.log2)=63 by omega] at this
   exact this
 . have:=(Nat.mul_lt_mul_right (Nat.two_pow_pos (63-y.log2))).2 q2
   rw [<-Nat.pow_add,show y.log2+1+(63-y.log2)=64 by omega] at this
   exact this
theorem dm_eq {Y A C:Nat} (h1:A=Y/4294967296) (h2:C=Y%4294967296):A*4294967296+C=Y:=by omega
theorem hvv {U X D E V:Nat} (h1:D=X/4294967296) (h2:E=X%4294967296) (h:U*18446744073709551616+X=V):(U*4294967296+D)*4294967296+E=V:=by
 have e:X=D*4294967296+E:=by omega
 have e2:U*4294967296*4294967296=U*18446744073709551616:=Nat.mul_assoc U 4294967296 4294967296
 rw [Nat.add_mul,e2,Nat.add_assoc, <-e];exact h
theorem div_fin {h l y k U D E W Y q1 q0:Nat} (hy:0<y) (hY:Y=y*2^k) (hV:(U*4294967296+D)*4294967296+E=(h*18446744073709551616+l)*2^k) (hW:W=(U*4294967296+D)%Y) (h1:q1=(U*4294967296+D)/Y) (h0:q0=(W*4294967296+E)/Y):q1*4294967296+q0=(h*18446744073709551616+l)/y/\ (W*4294967296+E)%Y/2^k=(h*18446744073709551616+l)%y:=by
 have p:=Nat.two_pow_pos k
 have pY:0<Y:=by rw [hY];exact Nat.mul_pos hy p
 subst hW h1 h0
 rw [halves_div U D E Y pY,halves U D E Y,hV,hY,shift_div,shift_mod]
 exact ⟨rfl,Nat.mul_div_cancel _ p⟩
theorem hl_div {h l y:Nat}:((h:Int)*18446744073709551616+(l:Int))/(y:Int)=(((h*18446744073709551616+l)/y:Nat):Int):=by rw [Int.natCast_ediv,Int.natCast_add,Int.natCast_mul];rfl
theorem hl_mod {h l y:Nat}:((h:Int)*18446744073709551616+(l:Int))%(y:Int)=(((h*18446744073709551616+l)%y:Nat):Int):=by rw [Int.natCast_emod,Int.natCast_add,Int.natCast_mul];rfl
theorem fin_q {h l y k U D E W Y q1 q0:Nat} (hy:0<y) (hY:Y=y*2^k) (hV:(U*4294967296+D)*4294967296+E=(h*18446744073709551616+l)*2^k) (hW:W=(U*4294967296+D)%Y) (h1:q1=(U*4294967296+D)/Y) (h0:q0=(W*4294967296+E)/Y) (b1:q1<4294967296) (b0:q0<4294967296):IntKind.u64.wrap (IntKind.u64.wrap ((q1:Int)*4294967296)+(q0:Int))=((h:Int)*18446744073709551616+(l:Int))/(y:Int):=by
 have:=(div_fin hy hY hV hW h1 h0).1
 rw [hl_div, <-this,wU,wU];omega
theorem fin_r {h l y k U D E W Y q1 q0:Nat} (hy:0<y) (hY:Y=y*2^k) (hV:(U*4294967296+D)*4294967296+E=(h*18446744073709551616+l)*2^k) (hW:W=(U*4294967296+D)%Y) (h1:q1=(U*4294967296+D)/Y) (h0:q0=(W*4294967296+E)/Y) (rE:E<4294967296) (pY:0<Y) (rY:Y<18446744073709551616) (hk:k<=63):(IntKind.u64.wrap (IntKind.u64.wrap (IntKind.u64.wrap ((W:Int)*4294967296)+(E:Int))-IntKind.u64.wrap ((q0:Int)*(Y:Int)))).fdiv (2^min (k:Int).toNat IntKind.u64.bits)=((h:Int)*18446744073709551616+(l:Int))%(y:Int):=by
 have:=(div_fin hy hY hV hW h1 h0).2
 rw [subN h0 rE pY rY,shrN (by omega),hl_mod, <-this]
theorem zero_q {l y:Nat} (hl:l<18446744073709551616):IntKind.u64.wrap ((l:Int).tdiv (y:Int))=(((0:Nat):Int)*18446744073709551616+(l:Int))/(y:Int):=by
 have h:=Nat.div_le_self l y
 rw [hl_div,Int.tdiv_eq_ediv_of_nonneg (Int.natCast_nonneg _), <-Int.natCast_ediv,Nat.zero_mul,Nat.zero_add]
 generalize l/y=m at*
 rw [wU];omega
theorem zero_r {l y:Nat}:(l:Int).tmod (y:Int)=(((0:Nat):Int)*18446744073709551616+(l:Int))%(y:Int):=by
 rw [hl_mod,Int.tmod_eq_emod_of_nonneg (Int.natCast_nonneg _), <-Int.natCast_emod,Nat.zero_mul,Nat.zero_add]
theorem run_shl {P:Program} {t:TypeId} {xo yo:Operand} {k k':IntKind} {a b:Int} (h:0<=b):pureRun P (do eqGuard .shl t xo yo (.int k a) (.int k' b);binOp .shl t (.int k a) (.int k' b))=some (.int k (k.wrap (a*2^min b.toNat k.bits))):=by
 show pureRun P (Op.shift .shl k a k' b)=_
 unfold Op.shift
 rw [if_neg (by omega)];rfl
theorem run_shr {P:Program} {t:TypeId} {xo yo:Operand} {k k':IntKind} {a b:Int} (h:0<=b):pureRun P (do eqGuard .shr t xo yo (.int k a) (.int k' b);binOp .shr t (.int k a) (.int k' b))=some (.int k (a.fdiv (2^min b.toNat k.bits))):=by
 show pureRun P (Op.shift .shr k a k' b)=_
 unfold Op.shift
 rw [if_neg (by omega)];rfl
def FDiv64:List Ar->Option Rs
 | [.c (.d (.v (.int .u64 u0))),.c (.d (.v (.int .u64 u1))),.c (.d (.v (.int .u64 u2)))]=>some ⟨(0<=u0/\ u0<18446744073709551616)/\ (0<=u1/\ u1<18446744073709551616)/\ (0<=u2/\ u2<18446744073709551616)/\ (u0<u2),.tup [.c (.d (ut ((u0*18446744073709551616+u1)/u2))),.c (.d (ut ((u0*18446744073709551616+u1)%u2)))],[]⟩
 |_=>none
abbrev sl1W:List (Nat×Sm):= [(189,⟨[],FLead⟩)]
theorem sp1W:sumsOk Tryz.prog sl1W:=⟨fcLead,trivial⟩
theorem fcDiv64:FC Tryz.prog 161 FDiv64:=by
 intro xs pre r us h hp
 unfold FDiv64 at h
 split at h
 . rename_i u0 u1 u2
   cases h
   obtain ⟨hp0,hp1,hp2,hp3⟩:=hp
   refine fcat tys_ok (l:=sl1W) sp1W Tryz.func161 rfl (by kernel_rfl) false ?_
   obtain ⟨h,rfl⟩:=Int.eq_ofNat_of_zero_le hp0.1
   obtain ⟨l,rfl⟩:=Int.eq_ofNat_of_zero_le hp1.1
   obtain ⟨y,rfl⟩:=Int.eq_ofNat_of_zero_le hp2.1
   obtain ⟨k,e1,e2,hk,hY0,hY⟩:=lead_ok (y:=y) (by omega) (by omega)
   obtain ⟨⟨hh,hb⟩,hUY,hV⟩:=div_shift (h:=h) (l:=l) (by omega) (by omega) hk hY
   obtain ⟨Y,hYd⟩: ∃Y,Y=y*2^k:=⟨_,rfl⟩
   have eY:y*2^k%18446744073709551616=Y:=by rw [hYd];exact Nat.mod_eq_of_lt hY
   have eH:h*2^k%18446744073709551616=2^k*h:=by rw [Nat.mod_eq_of_lt hh,Nat.mul_comm]
   have hU:2^k*h+l/2^(64-k)<18446744073709551616:=by omega
   obtain ⟨U,hUd⟩: ∃U,U=2^k*h+l/2^(64-k):=⟨_,rfl⟩
   have qY0:9223372036854775808<=Y:=by rw [hYd];exact hY0
   have qY:Y<18446744073709551616:=by rw [hYd];exact hY
   have qU:U<Y:=by rw [hYd,hUd];exact hUY
   obtain ⟨A,hAd⟩: ∃A,A=Y/4294967296:=⟨_,rfl⟩
   obtain ⟨C,hCd⟩: ∃C,C=Y%4294967296:=⟨_,rfl⟩
   obtain ⟨X,hXd⟩: ∃X,X=l*2^k%18446744073709551616:=⟨_,rfl⟩
   obtain ⟨D,hDd⟩: ∃D,D=X/4294967296:=⟨_,rfl⟩
   obtain ⟨E,hEd⟩: ∃E,E=X%4294967296:=⟨_,rfl⟩
   have rX:X<18446744073709551616:=by rw [hXd];omega
   have eYA:A*4294967296+C=Y:=dm_eq hAd hCd
   have rA:2147483648<=A:=by omega
   have rA2:A<4294967296:=by omega
   have rC:C<4294967296:=by omega
   have rD:D<4294967296:=by omega
   have rE:E<4294967296:=by omega
   have hVV:(U*4294967296+D)*4294967296+E=(h*18446744073709551616+l)*2^k:=by rw [<-hUd, <-hXd] at hV;exact hvv hDd hEd hV
   have rU:U<A*4294967296+C:=by omega
   have eQ:=quoN (u:=U) (a:=A) (by omega) (by omega)
   have eR:=remN (u:=U) (a:=A) (by omega) (by omega)
   repeat' (first|exact trivial|refine ⟨?_, ?_⟩|intro _)
   all_goals first|(with_reducible first|apply qa|apply qb|apply qc|apply qd)|(conv=>whnf)
   all_goals first|(exfalso;have q0:=‹Int.fdiv _ _=0›;rw [shr32N] at q0;omega)|(with_reducible show Value.int _ _=Value.int _ _)|(simp only [decide_eq_true_eq,decide_eq_false_iff_not,beq_iff_eq,beq_eq_false_iff_ne] at*;omega)|skip
   all_goals first|(with_reducible show Value.int _ _=Value.int _ _)|(rw [e1,run_shl (Int.natCast_nonneg k),shlN hk,eY])|skip
   repeat' (first|exact trivial|refine ⟨?_, ?_⟩|intro _)
   all_goals first|(with_reducible first|apply qa|apply qb|apply qc|apply qd)|(conv=>whnf)
   all_goals first|(exfalso;have q0:=‹Int.fdiv _ _=0›;rw [shr32N] at q0;omega)|(with_reducible show Value.int _ _=Value.int _ _)|(simp only [decide_eq_true_eq,decide_eq_false_iff_not,beq_iff_eq,beq_eq_false_iff_ne] at*;omega)|skip
   all_goals first|(with_reducible show Value.int _ _=Value.int _ _)|(rw [shr32N,and32N, <-hAd, <-hCd,shlN hk,eH,e2,run_shr (Int.natCast_nonneg (64-k)),shrN (by omega)])|skip
   repeat' (first|exact trivial|refine ⟨?_, ?_⟩|intro _)
   all_goals first|(with_reducible first|apply qa|apply qb|apply qc|apply qd)|(conv=>whnf)
   all_goals first|(exfalso;have q0:=‹Int.fdiv _ _=0›;rw [shr32N] at q0;omega)|(with_reducible show Value.int _ _=Value.int _ _)|(simp only [decide_eq_true_eq,decide_eq_false_iff_not,beq_iff_eq,beq_eq_false_iff_ne] at*;omega)|skip
   all_goals first|(with_reducible show Value.int _ _=Value.int _ _)|(rw [orN hb hU, <-hUd,shlN hk, <-hXd,shr32N,and32N, <-hDd, <-hEd,eQ,eR])|skip
   all_goals first|(have hz:h=0:=(by have:=‹((h:Int)==0)=true›;rw [beq_iff_eq] at this;omega);subst hz;refine congrArg (Value.int .u64) ?_;first|exact zero_r|exact zero_q (by omega))|skip
   refine loop_ok tys_ok (l:=sl1W) sp1W (by kernel_rfl) (X:=Nat×Nat) (fun x=>⟨[(15,vx (.int .u64 x.1)),(16,vx (.int .u64 x.2)),(2,vx (.int .u64 Y)),(8,vx (.int .u64 k)),(9,vx (.int .u64 A)),(10,vx (.int .u64 C)),(11,vx (.int .u64 U)),(13,vx (.int .u64 D)),(14,vx (.int .u64 E))],[],0,135⟩) (fun x=>x.1)
    (fun x=>Gq A C U D x.1 x.2/\ x.2<4294967296) [15,16] [] (fun x _ _=>(x.1-1,x.2+A)) [] [] 0 0 (U/A,U%A) ?_ ?_ ?_
   . exact ⟨gq_start rA rA2 rC rU rD,by have:=Nat.mod_lt U (show 0<A by omega);omega⟩
   . repeat' (first|exact trivial|exact rfl|(intro _ _;exact rfl)|refine ⟨?_, ?_⟩)
   . rintro ⟨q,r⟩ ⟨g,rr⟩
     change Gq A C U D q r at g
     change r<4294967296 at rr
     have gl:=g.le
     repeat' (first|exact trivial|refine ⟨?_, ?_⟩|intro _)
     all_goals first|(with_reducible first|apply qa|apply qb|apply qc|apply qd)|(conv=>whnf)
     all_goals first|(with_reducible show ASat _ _ _ _ _)|rfl|((with_reducible show idsOk _ _=true);rfl)|(exfalso;have q0:=‹(_:Int)=0›;omega)|skip
     all_goals first|(have gn:=dig_a rA rA2 rC rU rD g rr ‹_›)|(have gn:=dig_b rA rA2 rC rU rD g rr ‹decide (_>_)=true›)|(have ge:=dig_end rA rA2 rC rU rD g rr ‹_› ‹decide (_>_)=false›)
     all_goals first|(have go:=dig_out rA rA2 rC rU rD gn rr gl ‹decide (IntKind.u64.wrap (_+_)≥_)=true›)|(have gi:=dig_in rA2 rr ‹decide (IntKind.u64.wrap (_+_)≥_)=false›)|skip
     all_goals first|exact gn.2|exact gi|(show q-1<q;omega)|exact congrArg (Value.int .u64) (predN gn.1 (by omega))|exact congrArg (Value.int .u64) (addN (by omega))|skip
     all_goals (with_reducible show ASat _ _ _ _ _)
     all_goals first|(obtain ⟨q1,hq1⟩: ∃q1,q1=q-1:=⟨_,rfl⟩;rw [predN gn.1 (by omega)];rw [<-hq1] at go⊢;have gq:=go)|(obtain ⟨q1,hq1⟩: ∃q1,q1=q:=⟨_,rfl⟩;rw [<-hq1] at ge⊢;have gq:=ge)
     all_goals (rw [eYA] at gq;obtain ⟨W,hWd⟩: ∃W,W=(U*4294967296+D)%Y:=⟨_,rfl⟩;have rW:W<A*4294967296+C:=by rw [eYA,hWd];exact Nat.mod_lt _ (by omega))
     all_goals (rw [subN gq rD (by omega) qY, <-hWd,quoN (u:=W) (a:=A) (by omega) (by omega),remN (u:=W) (a:=A) (by omega) (by omega)])
     all_goals
      refine loop_ok tys_ok (l:=sl1W) sp1W (by kernel_rfl) (X:=Nat×Nat) (fun x=>⟨[(18,vx (.int .u64 x.1)),(16,vx (.int .u64 x.2)),(2,vx (.int .u64 Y)),(8,vx (.int .u64 k)),(9,vx (.int .u64 A)),(10,vx (.int .u64 C)),(15,vx (.int .u64 q1)),(17,vx (.int .u64 W)),(14,vx (.int .u64 E))],[],0,135⟩) (fun x=>x.1)
       (fun x=>Gq A C W E x.1 x.2/\ x.2<4294967296) [18,16] [] (fun x _ _=>(x.1-1,x.2+A)) [] [] 0 0 (W/A,W%A) ?_ ?_ ?_
      . exact ⟨gq_start rA rA2 rC rW rE,by have:=Nat.mod_lt W (show 0<A by omega);omega⟩
      . repeat' (first|exact trivial|exact rfl|(intro _ _;exact rfl)|refine ⟨?_, ?_⟩)
      . rintro ⟨q,r⟩ ⟨g,rr⟩
        change Gq A C W E q r at g
        change r<4294967296 at rr
        have gl:=g.le
        repeat' (first|exact trivial|refine ⟨?_, ?_⟩|intro _)
        all_goals first|(with_reducible first|apply qa|apply qb|apply qc|apply qd)|(conv=>whnf)
        all_goals first|(with_reducible show ASat _ _ _ _ _)|rfl|((with_reducible show idsOk _ _=true);rfl)|(exfalso;have q0:=‹(_:Int)=0›;omega)|skip
        all_goals first|(have gn:=dig_a rA rA2 rC rW rE g rr ‹_›)|(have gn:=dig_b rA rA2 rC rW rE g rr ‹decide (_>_)=true›)|(have ge:=dig_end rA rA2 rC rW rE g rr ‹_› ‹decide (_>_)=false›)
        all_goals first|(have go:=dig_out rA rA2 rC rW rE gn rr gl ‹decide (IntKind.u64.wrap (_+_)≥_)=true›)|(have gi:=dig_in rA2 rr ‹decide (IntKind.u64.wrap (_+_)≥_)=false›)|skip
        all_goals first|exact gn.2|exact gi|(show q-1<q;omega)|exact congrArg (Value.int .u64) (predN gn.1 (by omega))|exact congrArg (Value.int .u64) (addN (by omega))|skip
        all_goals first|(rw [predN gn.1 (by omega)];obtain ⟨q0,hq0⟩: ∃q0,q0=q-1:=⟨_,rfl⟩;rw [<-hq0] at go⊢;have gq0:=go)|(obtain ⟨q0,hq0⟩: ∃q0,q0=q:=⟨_,rfl⟩;rw [<-hq0] at ge⊢;have gq0:=ge)
        all_goals rw [eYA] at gq0
        all_goals refine congrArg (Value.int .u64) ?_
        all_goals first|exact fin_r (by omega) hYd hVV hWd gq gq0 rE (by omega) qY hk|exact fin_q (by omega) hYd hVV hWd gq gq0 (by rw [gq, <-eYA];exact digit_lt rA rA2 rC rU rD) (by rw [gq0, <-eYA];exact digit_lt rA rA2 rC rW rE)
 . cases h
structure Cg where
 some:Bool
 m:Int
 r:Int
abbrev Cg.ar (c:Cg):Ar:= .agg [.d (bo c.some),.d (it c.m),.d (it c.r)]
def Cg.inR (c:Cg):Prop:=(-9223372036854775808<=c.m/\ c.m<9223372036854775808)/\ -9223372036854775808<=c.r/\ c.r<9223372036854775808
def md (n m:Int):Int:=if m<=0 then n else n%m
namespace Cg
def none:Cg:=⟨false,0,0⟩
def of (m r:Int):Cg:=if m<0 then ⟨true,1,md r 1⟩ else ⟨true,m,md r m⟩
def clean (c:Cg):Cg:=if c.some then of c.m c.r else none
def has (c:Cg) (n:Int):Bool:=c.clean.some&&decide (md n c.clean.m=c.clean.r)
def factor (a b:Int):Bool:=if a=0 then decide (b=0) else decide (b%a=0)
def leq (a b:Cg):Bool:=if a.clean.some&&b.clean.some then factor b.clean.m a.clean.m&&has b.clean a.clean.r else !a.clean.some
def eq (a b:Cg):Bool:=a.some==b.some&&(a.m==b.m&&a.r==b.r)
end Cg
theorem tmod_fix (n m:Int) (h:0<m):(n.tmod m<0->n.tmod m+m=n%m)/\ (¬n.tmod m<0->n.tmod m=n%m):=by
 have h1:=Int.emod_nonneg n (show m≠0 by omega)
 have h2:=Int.emod_lt_of_pos n h
 have h3:n.tmod m=n%m-if 0<=n \/m∣n then 0 else m:=by rw [Int.tmod_eq_emod];split<;>simp<;>omega
 rw [h3]
 split<;>omega
theorem md_bound (n m:Int) (h:0<m):0<=md n m/\ md n m<m:=by
 unfold md;rw [if_neg (by omega)];exact ⟨Int.emod_nonneg _ (by omega),Int.emod_lt_of_pos _ h⟩
theorem Cg.of_inR (m r:Int) (h0: -9223372036854775808<=m) (h1:m<9223372036854775808) (h2: -9223372036854775808<=r) (h3:r<9223372036854775808):(Cg.of m r).inR:=by
 unfold Cg.of
 by_cases hm:m<0
 . rw [if_pos hm]
   have:=md_bound r 1 (by omega)
   unfold Cg.inR;dsimp only;omega
 . rw [if_neg hm]
   by_cases h0:m=0
   . subst h0;unfold Cg.inR md;dsimp only;rw [if_pos (by omega)];omega
   . have:=md_bound r m (by omega)
     unfold Cg.inR;dsimp only;omega
theorem Cg.eta (c:Cg):(⟨c.some,c.m,c.r⟩:Cg)=c:=rfl
theorem Cg.clean_nn (c:Cg):0<=c.clean.m:=by
 unfold Cg.clean Cg.of Cg.none
 split
 . split
   . dsimp only;omega
   . dsimp only;omega
 . decide
theorem Cg.clean_inR {c:Cg} (h:c.inR):c.clean.inR:=by
 unfold Cg.clean
 split
 . exact Cg.of_inR _ _ h.1.1 h.1.2 h.2.1 h.2.2
 . unfold Cg.none Cg.inR;decide
def FCMod:List Ar->Option Rs
 | [.c (.d (.v (.int .i64 i0))),.c (.d (.v (.int .i64 i1)))]=>some ⟨(-9223372036854775808<=i0/\ i0<9223372036854775808)/\ (-9223372036854775808<=i1/\ i1<9223372036854775808),.va (.c (.d (it (md i0 i1)))),[]⟩
 |_=>none
theorem fcCMod:FC Tryz.prog 100 FCMod:=by
 intro xs pre r us h hp
 unfold FCMod at h
 split at h
 . rename_i i0 i1
   cases h
   obtain ⟨hp0,hp1⟩:=hp
   refine fcat tys_ok (l:= []) trivial Tryz.func100 rfl (by kernel_rfl) false ?_
   repeat' (first|exact trivial|refine ⟨?_, ?_⟩|intro _)
   all_goals first|(with_reducible first|apply qa|apply qb|apply qc|apply qd)|(conv=>whnf)
   all_goals (try simp only [decide_eq_true_eq,decide_eq_false_iff_not] at*)
   all_goals first|omega|(have q:=tmod_fix i0 i1 (by omega);have q2:=md_bound i0 i1 (by omega);unfold md at*;rw [if_neg (by omega)] at*;first|(rw [q.2 (by assumption)])|(rw [wI_id _ (by omega) (by omega),q.1 (by assumption)]))|(unfold md;rw [if_pos (by assumption)])
 . cases h
def FRRest:List Ar->Option Rs
 | [.c (.d (.v (.int .i64 i0))),.c (.d (.v (.int .i64 i1)))]=>some ⟨(-9223372036854775808<=i0/\ i0<9223372036854775808)/\ (-9223372036854775808<=i1/\ i1<9223372036854775808)/\ (0<i1),.va (.c (.d (it (md i0 i1)))),[]⟩
 |_=>none
theorem fcRRest:FC Tryz.prog 50 FRRest:=by
 intro xs pre r us h hp
 unfold FRRest at h
 split at h
 . rename_i i0 i1
   cases h
   obtain ⟨hp0,hp1,hp2⟩:=hp
   refine fcat tys_ok (l:= []) trivial Tryz.func50 rfl (by kernel_rfl) false ?_
   repeat' (first|exact trivial|refine ⟨?_, ?_⟩|intro _)
   all_goals first|(with_reducible first|apply qa|apply qb|apply qc|apply qd)|(conv=>whnf)
   all_goals (try simp only [decide_eq_true_eq,decide_eq_false_iff_not] at*)
   all_goals first|omega|(have q:=tmod_fix i0 i1 (by omega);have q2:=md_bound i0 i1 (by omega);unfold md at*;rw [if_neg (by omega)] at*;first|(rw [q.2 (by assumption)])|(rw [wI_id _ (by omega) (by omega),q.1 (by assumption)]))
 . cases h
def FCOf:List Ar->Option Rs
 | [.c (.d (.v (.int .i64 i0))),.c (.d (.v (.int .i64 i1)))]=>some ⟨(-9223372036854775808<=i0/\ i0<9223372036854775808)/\ (-9223372036854775808<=i1/\ i1<9223372036854775808),.va (Cg.ar (Cg.of i0 i1)),[]⟩
 |_=>none
theorem fcCOf:FC Tryz.prog 90 FCOf:=by
 intro xs pre r us h hp
 unfold FCOf at h
 split at h
 . rename_i i0 i1
   cases h
   obtain ⟨hp0,hp1⟩:=hp
   refine fcat tys_ok (l:= [(100,⟨[],FCMod⟩)]) ⟨fcCMod,trivial⟩ Tryz.func90 rfl (by kernel_rfl) false ?_
   repeat' (first|exact trivial|refine ⟨?_, ?_⟩|intro _)
   all_goals first|(with_reducible first|apply qa|apply qb|apply qc|apply qd)|(conv=>whnf)
   all_goals grind [Cg.of]
 . cases h
def FCOne:List Ar->Option Rs
 | [.c (.d (.v (.int .i64 i0)))]=>some ⟨(-9223372036854775808<=i0/\ i0<9223372036854775808),.va (Cg.ar (Cg.of 0 i0)),[]⟩
 |_=>none
theorem fcCOne:FC Tryz.prog 64 FCOne:=by
 intro xs pre r us h hp
 unfold FCOne at h
 split at h
 . rename_i i0
   cases h
   have hp0:=hp
   refine fcat tys_ok (l:= [(90,⟨[],FCOf⟩)]) ⟨fcCOf,trivial⟩ Tryz.func64 rfl (by kernel_rfl) false ?_
   repeat' (first|exact trivial|refine ⟨?_, ?_⟩|intro _)
   all_goals first|(with_reducible first|apply qa|apply qb|apply qc|apply qd)|(conv=>whnf)
   all_goals first|rfl|omega
 . cases h
def FCAll:List Ar->Option Rs
 | []=>some ⟨True,.va (Cg.ar (Cg.of 1 0)),[]⟩
 |_=>none
theorem fcCAll:FC Tryz.prog 57 FCAll:=by
 intro xs pre r us h hp
 unfold FCAll at h
 split at h
 . cases h
   refine fcat tys_ok (l:= [(90,⟨[],FCOf⟩)]) ⟨fcCOf,trivial⟩ Tryz.func57 rfl (by kernel_rfl) false ?_
   repeat' (first|exact trivial|refine ⟨?_, ?_⟩|intro _)
   all_goals first|(with_reducible first|apply qa|apply qb|apply qc|apply qd)|(conv=>whnf)
   all_goals first|rfl|omega
 . cases h
def FCNone:List Ar->Option Rs
 | [.agg [.d (.v (.bool b0)),.d (.v (.int .i64 m0)),.d (.v (.int .i64 r0))]]=>some ⟨(Cg.inR ⟨b0,m0,r0⟩),.va (.c (.d (bo (!b0)))),[]⟩
 |_=>none
theorem fcCNone:FC Tryz.prog 87 FCNone:=by
 intro xs pre r us h hp
 unfold FCNone at h
 split at h
 . rename_i b0 m0 r0
   cases h
   have hp0:=hp
   refine fcat tys_ok (l:= []) trivial Tryz.func87 rfl (by kernel_rfl) false ?_
   repeat' (first|exact trivial|refine ⟨?_, ?_⟩|intro _)
   all_goals first|(with_reducible first|apply qa|apply qb|apply qc|apply qd)|(conv=>whnf)
   all_goals rfl
 . cases h
def FCClean:List Ar->Option Rs
 | [.agg [.d (.v (.bool b0)),.d (.v (.int .i64 m0)),.d (.v (.int .i64 r0))]]=>some ⟨(Cg.inR ⟨b0,m0,r0⟩),.va (Cg.ar (Cg.clean (⟨b0,m0,r0⟩:Cg))),[]⟩
 |_=>none
theorem fcCClean:FC Tryz.prog 86 FCClean:=by
 intro xs pre r us h hp
 unfold FCClean at h
 split at h
 . rename_i b0 m0 r0
   cases h
   have hp0:=hp
   refine fcat tys_ok (l:= [(90,⟨[],FCOf⟩)]) ⟨fcCOf,trivial⟩ Tryz.func86 rfl (by kernel_rfl) false ?_
   repeat' (first|exact trivial|refine ⟨?_, ?_⟩|intro _)
   all_goals first|(with_reducible first|apply qa|apply qb|apply qc|apply qd)|(conv=>whnf)
   all_goals first|grind [Cg.clean,Cg.none,Cg.inR]
 . cases h
def FCHas:List Ar->Option Rs
 | [.agg [.d (.v (.bool b0)),.d (.v (.int .i64 m0)),.d (.v (.int .i64 r0))],.c (.d (.v (.int .i64 i1)))]=>some ⟨(Cg.inR ⟨b0,m0,r0⟩)/\ (-9223372036854775808<=i1/\ i1<9223372036854775808),.va (.c (.d (bo (Cg.has (⟨b0,m0,r0⟩:Cg) i1)))),[]⟩
 |_=>none
theorem fcCHas:FC Tryz.prog 48 FCHas:=by
 intro xs pre r us h hp
 unfold FCHas at h
 split at h
 . rename_i b0 m0 r0 i1
   cases h
   obtain ⟨hp0,hp1⟩:=hp
   refine fcat tys_ok (l:= [(86,⟨[],FCClean⟩),(100,⟨[],FCMod⟩)]) ⟨fcCClean,fcCMod,trivial⟩ Tryz.func48 rfl (by kernel_rfl) false ?_
   repeat' (first|exact trivial|refine ⟨?_, ?_⟩|intro _)
   all_goals first|(with_reducible first|apply qa|apply qb|apply qc|apply qd)|(conv=>whnf)
   all_goals first|grind [Cg.has,Cg.inR,Cg.clean_inR]
 . cases h
def FRCClean:List Ar->Option Rs
 | [.agg [.d (.v (.bool b0)),.d (.v (.int .i64 m0)),.d (.v (.int .i64 r0))]]=>some ⟨(Cg.inR ⟨b0,m0,r0⟩),.va (Cg.ar (Cg.clean (⟨b0,m0,r0⟩:Cg))),[]⟩
 |_=>none
theorem fcRCClean:FC Tryz.prog 14 FRCClean:=by
 intro xs pre r us h hp
 unfold FRCClean at h
 split at h
 . rename_i b0 m0 r0
   cases h
   have hp0:=hp
   refine fcat tys_ok (l:= [(50,⟨[],FRRest⟩)]) ⟨fcRRest,trivial⟩ Tryz.func14 rfl (by kernel_rfl) false ?_
   repeat' (first|exact trivial|refine ⟨?_, ?_⟩|intro _)
   all_goals first|(with_reducible first|apply qa|apply qb|apply qc|apply qd)|(conv=>whnf)
   all_goals first|grind [Cg.clean,Cg.none,Cg.inR,Cg.of,md]
 . cases h
def FRCHas:List Ar->Option Rs
 | [.agg [.d (.v (.bool b0)),.d (.v (.int .i64 m0)),.d (.v (.int .i64 r0))],.c (.d (.v (.int .i64 i1)))]=>some ⟨(Cg.inR ⟨b0,m0,r0⟩)/\ (-9223372036854775808<=i1/\ i1<9223372036854775808),.va (.c (.d (bo (Cg.has (⟨b0,m0,r0⟩:Cg) i1)))),[]⟩
 |_=>none
theorem fcRCHas:FC Tryz.prog 43 FRCHas:=by
 intro xs pre r us h hp
 unfold FRCHas at h
 split at h
 . rename_i b0 m0 r0 i1
   cases h
   obtain ⟨hp0,hp1⟩:=hp
   refine fcat tys_ok (l:= [(14,⟨[],FRCClean⟩),(50,⟨[],FRRest⟩)]) ⟨fcRCClean,fcRRest,trivial⟩ Tryz.func43 rfl (by kernel_rfl) false ?_
   repeat' (first|exact trivial|refine ⟨?_, ?_⟩|intro _)
   all_goals first|(with_reducible first|apply qa|apply qb|apply qc|apply qd)|(conv=>whnf)
   all_goals first|grind [Cg.has,Cg.inR,Cg.clean_inR,md]|(have q:=Cg.clean_nn ⟨b0,m0,r0⟩;simp only [beq_eq_false_iff_ne,ne_eq] at*;omega)
 . cases h
end Go.Proofs.YtehpbhpmkhlldaaGreat
