/- What math/bits computes, more of it. No condition. -/
import Derived.Test.YtokjghkehojenaaGreatP8
set_option linter.all false
set_option maxHeartbeats 8000000
set_option maxRecDepth 100000
namespace Go.Proofs.YtokjghkehojenaaGreat
open Go.Sx
def lenI (x : Int) : Int := if x = 0 then 0 else ((x.toNat.log2 + 1 : Nat) : Int)
theorem len_key {a l x : Nat} (h0 : 2 ^ l <= x / 2 ^ a) (h1 : x / 2 ^ a < 2 ^ (l + 1)) : x ≠ 0 /\ x.log2 = a + l := by
 have p := Nat.two_pow_pos a
 have q := Nat.two_pow_pos l
 have k0 : 2 ^ l * 2 ^ a <= x := (Nat.le_div_iff_mul_le p).1 h0
 have k1 : x < 2 ^ (l + 1) * 2 ^ a := (Nat.div_lt_iff_lt_mul p).1 h1
 have hx : x ≠ 0 := by
  intro e; subst e; have := Nat.mul_pos q p; omega
 refine ⟨hx, (Nat.log2_eq_iff hx).2 ⟨?_, ?_⟩⟩
 . rw [Nat.add_comm, Nat.pow_add]; exact k0
 . rw [show a + l + 1 = (l + 1) + a by omega, Nat.pow_add]; exact k1
theorem lenI_r {x : Int} (h : 0 <= x /\ x < 18446744073709551616) : 0 <= lenI x /\ lenI x <= 64 := by
 unfold lenI
 split
 . omega
 . have := (Nat.log2_lt (n := x.toNat) (k := 64) (by omega)).2 (by omega)
   omega
theorem u8r (e : Int) : 0 <= IntKind.u8.wrap e /\ IntKind.u8.wrap e < 256 := by simp only [IntKind.wrap, IntKind.signed, IntKind.bits]; simp; omega
theorem u8i {e : Int} (h0 : 0 <= e) (h1 : e < 256) : IntKind.u8.wrap e = e := by simp only [IntKind.wrap, IntKind.signed, IntKind.bits]; simp; omega
theorem lt_tab {t : ByteArray} (h : t.size = 256) (e : Int) : IntKind.u8.wrap e < (t.size : Int) := by rw [h]; exact (u8r e).2
theorem shr8 (n : Int) : n.fdiv (2 ^ min (Int.toNat 8) IntKind.u64.bits) = n / 256 := by
 have e : (2 ^ min (Int.toNat 8) IntKind.u64.bits : Int) = 256 := by decide
 rw [e, Int.fdiv_eq_ediv_of_nonneg _ (by decide)]
theorem shr16 (n : Int) : n.fdiv (2 ^ min (Int.toNat 16) IntKind.u64.bits) = n / 65536 := by
 have e : (2 ^ min (Int.toNat 16) IntKind.u64.bits : Int) = 65536 := by decide
 rw [e, Int.fdiv_eq_ediv_of_nonneg _ (by decide)]
theorem len_fin {t : ByteArray} (ht : ((List.range 256).all fun x => byteAt t x == lenI x) = true) (a P : Nat) (hP : 2 ^ a = P) {u E N : Int} (hN : N = a) (ha : a <= 56) (h0 : 0 <= u) (hE : E = u / P) (h1 : E < 256) (h2 : a = 0 \/ 0 < E) : IntKind.i64.wrap (N + IntKind.i64.wrap (byteAt t (IntKind.u8.wrap E).toNat)) = lenI u := by
 obtain ⟨n, rfl⟩ := Int.eq_ofNat_of_zero_le h0
 subst hP hN
 rw [<- Int.natCast_ediv] at hE
 subst hE
 have hb : n / 2 ^ a < 256 := Int.ofNat_lt.1 h1
 rw [u8i (Int.natCast_nonneg _) h1, Int.toNat_natCast]
 have h3 := List.all_eq_true.1 ht (n / 2 ^ a) (List.mem_range.2 hb)
 rw [eq_of_beq h3]
 unfold lenI
 by_cases hz : n / 2 ^ a = 0
 . have ea : a = 0 := by omega
   subst ea
   have : n = 0 := by omega
   subst this; rfl
 . have q1 := Nat.log2_self_le hz
   have q2 : n / 2 ^ a < 2 ^ ((n / 2 ^ a).log2 + 1) := Nat.lt_log2_self
   have q3 := len_key q1 q2
   have q4 : (n / 2 ^ a).log2 < 8 := (Nat.log2_lt hz).2 hb
   rw [if_neg (by omega), if_neg (by omega), Int.toNat_natCast, Int.toNat_natCast, q3.2]
   generalize (n / 2 ^ a).log2 = l at *
   rw [wI_id ((l + 1 : Nat) : Int) (by omega) (by omega), wI_id _ (by omega) (by omega)]
   omega
def FLen64 : List Ar -> Option Rs
 | [.c (.d (.v (.int .u64 u0)))] => some ⟨(0 <= u0 /\ u0 < 18446744073709551616), .va (.c (.d (it (lenI u0)))), []⟩
 | _ => none
theorem fcLen64 : FC Tryz.prog 184 FLen64 := by
 intro xs pre r us h hp
 unfold FLen64 at h
 split at h
 . rename_i u0
   cases h
   have hp0 := hp
   refine fcat tys_ok (l := []) trivial Tryz.func184 rfl (by kernel_rfl) false ?_
   repeat' (first | exact trivial | refine ⟨?_, ?_⟩ | intro _)
   all_goals first | (with_reducible apply qq) | (conv => whnf)
   all_goals (try simp only [decide_eq_true_eq, decide_eq_false_iff_not, shr8, shr16, shr32] at *)
   all_goals first | exact (u8r _).1 | exact lt_tab (by kernel_rfl) _ | skip
   all_goals first | exact congrArg (Value.int .i64) (len_fin (by kernel_rfl) 0 1 (by decide) (by decide) (by decide) hp0.1 (by omega) (by omega) (by omega)) | exact congrArg (Value.int .i64) (len_fin (by kernel_rfl) 8 256 (by decide) (by decide) (by decide) hp0.1 (by omega) (by omega) (by omega)) | exact congrArg (Value.int .i64) (len_fin (by kernel_rfl) 16 65536 (by decide) (by decide) (by decide) hp0.1 (by omega) (by omega) (by omega)) | exact congrArg (Value.int .i64) (len_fin (by kernel_rfl) 24 16777216 (by decide) (by decide) (by decide) hp0.1 (by omega) (by omega) (by omega)) | exact congrArg (Value.int .i64) (len_fin (by kernel_rfl) 32 4294967296 (by decide) (by decide) (by decide) hp0.1 (by omega) (by omega) (by omega)) | exact congrArg (Value.int .i64) (len_fin (by kernel_rfl) 40 1099511627776 (by decide) (by decide) (by decide) hp0.1 (by omega) (by omega) (by omega)) | exact congrArg (Value.int .i64) (len_fin (by kernel_rfl) 48 281474976710656 (by decide) (by decide) (by decide) hp0.1 (by omega) (by omega) (by omega)) | exact congrArg (Value.int .i64) (len_fin (by kernel_rfl) 56 72057594037927936 (by decide) (by decide) (by decide) hp0.1 (by omega) (by omega) (by omega))
 . cases h
def FLead : List Ar -> Option Rs
 | [.c (.d (.v (.int .u64 u0)))] => some ⟨(0 <= u0 /\ u0 < 18446744073709551616), .va (.c (.d (it (64 - lenI u0)))), []⟩
 | _ => none
theorem fcLead : FC Tryz.prog 205 FLead := by
 intro xs pre r us h hp
 unfold FLead at h
 split at h
 . rename_i u0
   cases h
   have hp0 := hp
   refine fcat tys_ok (l := [(184, ⟨[], FLen64⟩)]) ⟨fcLen64, trivial⟩ Tryz.func205 rfl (by kernel_rfl) false ?_
   repeat' (first | exact trivial | refine ⟨?_, ?_⟩ | intro _)
   all_goals first | (with_reducible apply qq) | (conv => whnf)
   all_goals first | exact hp0.1 | exact hp0.2 | (refine congrArg (Value.int .i64) (wI_id _ ?_ ?_) <;> (have := lenI_r hp0; omega))
 . cases h
theorem q_mul (q a c : Nat) : q * (a * 4294967296 + c) = (q * a) * 4294967296 + q * c := by
 rw [Nat.mul_add, <- Nat.mul_assoc]
structure Gq (a c u d q r : Nat) : Prop where
 eq : q * a + r = u
 ge : u * 4294967296 + d < (q + 1) * (a * 4294967296 + c)
 le : q <= 4294967297
section
variable {a c u d q r : Nat} (ha : 2147483648 ≤ a) (ha2 : a < 4294967296) (hc : c < 4294967296) (hu : u < a * 4294967296 + c) (hd : d < 4294967296)
include ha ha2 hc hu hd
theorem gq_start : Gq a c u d (u / a) (u % a) := by
 have h1 := Nat.div_add_mod u a
 have h2 := Nat.mod_lt u (show 0 < a by omega)
 have h3 : u / a * a + u % a = u := by rw [Nat.mul_comm]; exact h1
 refine ⟨h3, ?_, ?_⟩
 . rw [q_mul, Nat.add_mul, Nat.one_mul]
   have h4 : 0 <= (u / a + 1) * c := Nat.zero_le _
   generalize u / a * a = p at *
   omega
 . rcases Nat.lt_or_ge 4294967297 (u / a) with h | h
   . have h4 : 4294967298 * a <= u / a * a := Nat.mul_le_mul_right a h
     omega
   . exact h
theorem gq_big (g : Gq a c u d q r) (h : 4294967296 <= q \/ 4294967296 * r + d < q * c) : u * 4294967296 + d < q * (a * 4294967296 + c) := by
 have h1 := g.eq
 rcases h with h | h
 . have h2 : 4294967296 * (a * 4294967296 + c) <= q * (a * 4294967296 + c) := Nat.mul_le_mul_right _ h
   omega
 . rw [q_mul]; omega
theorem gq_next (g : Gq a c u d q r) (h : 4294967296 <= q \/ 4294967296 * r + d < q * c) : 1 <= q /\ Gq a c u d (q - 1) (r + a) := by
 have h1 := gq_big ha ha2 hc hu hd g h
 have hq : 1 <= q := by
  rcases Nat.eq_zero_or_pos q with h0 | h0
  . subst h0; rw [Nat.zero_mul] at h1; omega
  . exact h0
 refine ⟨hq, ?_, ?_, ?_⟩
 . have h2 := g.eq
   have h3 : (q - 1) * a = q * a - a := by rw [Nat.sub_mul, Nat.one_mul]
   have h4 : a <= q * a := Nat.le_mul_of_pos_left a hq
   rw [h3]; omega
 . rw [Nat.sub_add_cancel hq]; exact h1
 . have := g.le; omega
theorem gq_done (g : Gq a c u d q r) (h1 : q < 4294967296) (h2 : q * c <= 4294967296 * r + d) : (u * 4294967296 + d) / (a * 4294967296 + c) = q := by
 refine Nat.div_eq_of_lt_le ?_ g.ge
 rw [q_mul]
 have := g.eq
 omega
theorem gq_out (g : Gq a c u d q r) (h1 : q <= 4294967296) (h2 : 4294967296 <= r) : (u * 4294967296 + d) / (a * 4294967296 + c) = q := by
 refine Nat.div_eq_of_lt_le ?_ g.ge
 rw [q_mul]
 have h3 := g.eq
 have h4 : q * c <= 4294967296 * c := Nat.mul_le_mul_right c h1
 omega
theorem digit_lt : (u * 4294967296 + d) / (a * 4294967296 + c) < 4294967296 := by
 rw [Nat.div_lt_iff_lt_mul (by omega)]
 have : 4294967296 * (a * 4294967296 + c) ≥ 4294967296 * (u + 1) := Nat.mul_le_mul_left _ hu
 omega
end
theorem halves (u d e y : Nat) : ((u * 4294967296 + d) % y * 4294967296 + e) % y = ((u * 4294967296 + d) * 4294967296 + e) % y := by
 rw [Nat.add_mod, Nat.mul_mod, Nat.mod_mod, <- Nat.mul_mod, <- Nat.add_mod]
theorem halves_n (n e y : Nat) (hy : 0 < y) : n / y * 4294967296 + (n % y * 4294967296 + e) / y = (n * 4294967296 + e) / y := by
 have h := Nat.div_add_mod n y
 have e1 : n * 4294967296 + e = y * (n / y * 4294967296) + (n % y * 4294967296 + e) := by
  have : n * 4294967296 = (y * (n / y) + n % y) * 4294967296 := by rw [h]
  rw [this, Nat.add_mul, Nat.mul_assoc]; omega
 rw [e1, Nat.mul_add_div hy]
theorem halves_div (u d e y : Nat) (hy : 0 < y) : (u * 4294967296 + d) / y * 4294967296 + ((u * 4294967296 + d) % y * 4294967296 + e) / y = ((u * 4294967296 + d) * 4294967296 + e) / y := halves_n _ e y hy
theorem shift_mod (v y s : Nat) : (v * 2 ^ s) % (y * 2 ^ s) = (v % y) * 2 ^ s := by
 rw [Nat.mul_comm v, Nat.mul_comm y, Nat.mul_mod_mul_left, Nat.mul_comm]
theorem shift_div (v y s : Nat) : (v * 2 ^ s) / (y * 2 ^ s) = v / y := Nat.mul_div_mul_right _ _ (Nat.two_pow_pos s)
theorem quoN {u a : Nat} (ha : 0 < a) (hu : u < 18446744073709551616) : IntKind.u64.wrap ((u : Int).tdiv (a : Int)) = ((u / a : Nat) : Int) := by
 have h := Nat.div_le_self u a
 rw [Int.tdiv_eq_ediv_of_nonneg (Int.natCast_nonneg _), <- Int.natCast_ediv]
 generalize u / a = m at *
 rw [wU]; omega
theorem remN {u a : Nat} (ha : 0 < a) (hu : u < 18446744073709551616) : IntKind.u64.wrap ((u : Int) - IntKind.u64.wrap (((u / a : Nat) : Int) * (a : Int))) = ((u % a : Nat) : Int) := by
 have h := Nat.div_add_mod u a
 rw [<- Int.natCast_mul, Nat.mul_comm (u / a)]
 generalize a * (u / a) = p at *
 generalize u % a = m at *
 rw [wU, wU]; omega
theorem condN {q c r d : Nat} (hq : q <= 4294967297) (hc : c < 4294967296) (hr : r < 4294967296) (hd : d < 4294967296) : IntKind.u64.wrap ((q : Int) * (c : Int)) = ((q * c : Nat) : Int) /\ IntKind.u64.wrap (IntKind.u64.wrap (4294967296 * (r : Int)) + (d : Int)) = ((4294967296 * r + d : Nat) : Int) := by
 have h : q * c <= 4294967297 * 4294967295 := Nat.mul_le_mul hq (by omega)
 rw [<- Int.natCast_mul]
 generalize q * c = p at *
 rw [wU, wU, wU]; omega
theorem subN {q u d y : Nat} (hq : q = (u * 4294967296 + d) / y) (hd : d < 4294967296) (hy : 0 < y) (hY : y < 18446744073709551616) : IntKind.u64.wrap (IntKind.u64.wrap (IntKind.u64.wrap ((u : Int) * 4294967296) + (d : Int)) - IntKind.u64.wrap ((q : Int) * (y : Int))) = (((u * 4294967296 + d) % y : Nat) : Int) := by
 have h := Nat.div_add_mod (u * 4294967296 + d) y
 have h2 := Nat.mod_lt (u * 4294967296 + d) hy
 subst hq
 rw [<- Int.natCast_mul, Nat.mul_comm _ y]
 generalize (u * 4294967296 + d) % y = m at *
 generalize y * ((u * 4294967296 + d) / y) = p at *
 rw [wU, wU, wU, wU]; omega
theorem predN {q : Nat} (h : 1 <= q) (h2 : q < 18446744073709551616) : IntKind.u64.wrap ((q : Int) - 1) = ((q - 1 : Nat) : Int) := by rw [wU]; omega
theorem addN {r a : Nat} (h : r + a < 18446744073709551616) : IntKind.u64.wrap ((r : Int) + (a : Int)) = ((r + a : Nat) : Int) := by rw [wU]; omega
theorem dig_a {A C U D q r : Nat} (rA : 2147483648 <= A) (rA2 : A < 4294967296) (rC : C < 4294967296) (rU : U < A * 4294967296 + C) (rD : D < 4294967296) (g : Gq A C U D q r) (_ : r < 4294967296) (h : decide ((q : Int) ≥ 4294967296) = true) : 1 <= q /\ Gq A C U D (q - 1) (r + A) := gq_next rA rA2 rC rU rD g (.inl (by have := of_decide_eq_true h; omega))
theorem dig_b {A C U D q r : Nat} (rA : 2147483648 <= A) (rA2 : A < 4294967296) (rC : C < 4294967296) (rU : U < A * 4294967296 + C) (rD : D < 4294967296) (g : Gq A C U D q r) (rr : r < 4294967296) (h : decide (IntKind.u64.wrap ((q : Int) * (C : Int)) > IntKind.u64.wrap (IntKind.u64.wrap (4294967296 * (r : Int)) + (D : Int))) = true) : 1 <= q /\ Gq A C U D (q - 1) (r + A) := by
 have h := of_decide_eq_true h
 rw [(condN g.le rC rr rD).1, (condN g.le rC rr rD).2] at h
 exact gq_next rA rA2 rC rU rD g (.inr (by omega))
theorem dig_end {A C U D q r : Nat} (rA : 2147483648 <= A) (rA2 : A < 4294967296) (rC : C < 4294967296) (rU : U < A * 4294967296 + C) (rD : D < 4294967296) (g : Gq A C U D q r) (rr : r < 4294967296) (h0 : decide ((q : Int) ≥ 4294967296) = false) (h : decide (IntKind.u64.wrap ((q : Int) * (C : Int)) > IntKind.u64.wrap (IntKind.u64.wrap (4294967296 * (r : Int)) + (D : Int))) = false) : q = (U * 4294967296 + D) / (A * 4294967296 + C) := by
 have h := of_decide_eq_false h
 have h0 := of_decide_eq_false h0
 rw [(condN g.le rC rr rD).1, (condN g.le rC rr rD).2] at h
 exact (gq_done rA rA2 rC rU rD g (by omega) (by omega)).symm
theorem dig_out {A C U D q r : Nat} (rA : 2147483648 <= A) (rA2 : A < 4294967296) (rC : C < 4294967296) (rU : U < A * 4294967296 + C) (rD : D < 4294967296) (g : 1 <= q /\ Gq A C U D (q - 1) (r + A)) (rr : r < 4294967296) (hl : q <= 4294967297) (h : decide (IntKind.u64.wrap ((r : Int) + (A : Int)) ≥ 4294967296) = true) : q - 1 = (U * 4294967296 + D) / (A * 4294967296 + C) := by
 have h := of_decide_eq_true h
 rw [addN (by omega)] at h
 exact (gq_out rA rA2 rC rU rD g.2 (by omega) (by omega)).symm
theorem dig_in {A r : Nat} (rA2 : A < 4294967296) (rr : r < 4294967296) (h : decide (IntKind.u64.wrap ((r : Int) + (A : Int)) ≥ 4294967296) = false) : r + A < 4294967296 := by
 have h := of_decide_eq_false h
 rw [addN (by omega)] at h
 omega
theorem shlN {a k : Nat} (hk : k <= 63) : IntKind.u64.wrap ((a : Int) * 2 ^ min (k : Int).toNat IntKind.u64.bits) = ((a * 2 ^ k % 18446744073709551616 : Nat) : Int) := by
 have e : min (k : Int).toNat IntKind.u64.bits = k := by rw [Int.toNat_natCast]; exact Nat.min_eq_left (by show k <= 64; omega)
 have e2 : (a : Int) * 2 ^ k = ((a * 2 ^ k : Nat) : Int) := by rw [Int.natCast_mul, Int.natCast_pow]; rfl
 rw [e, e2, wU]; omega
theorem shrN {a k : Nat} (hk : k <= 64) : (a : Int).fdiv (2 ^ min (k : Int).toNat IntKind.u64.bits) = ((a / 2 ^ k : Nat) : Int) := by
 have e : min (k : Int).toNat IntKind.u64.bits = k := by rw [Int.toNat_natCast]; exact Nat.min_eq_left (by show k <= 64; omega)
 have e2 : (2 : Int) ^ k = ((2 ^ k : Nat) : Int) := by rw [Int.natCast_pow]; rfl
 rw [e, e2, Int.fdiv_eq_ediv_of_nonneg _ (Int.natCast_nonneg _)]; rfl
theorem shr32N (a : Nat) : (a : Int).fdiv (2 ^ min (Int.toNat 32) IntKind.u64.bits) = ((a / 4294967296 : Nat) : Int) := by rw [shr32]; omega
theorem and32N (a : Nat) : IntKind.u64.wrap ((BitVec.ofInt IntKind.u64.bits (a : Int) &&& BitVec.ofInt IntKind.u64.bits 4294967295).toNat : Int) = ((a % 4294967296 : Nat) : Int) := by rw [and32, wU]; omega
theorem bv_nat {a : Nat} (h : a < 18446744073709551616) : (BitVec.ofInt IntKind.u64.bits (a : Int)).toNat = a := by
 rw [BitVec.toNat_ofInt]
 have e : ((2 ^ IntKind.u64.bits : Nat) : Int) = 18446744073709551616 := by decide
 rw [e]; omega
theorem orN {a b k : Nat} (hb : b < 2 ^ k) (h : 2 ^ k * a + b < 18446744073709551616) : IntKind.u64.wrap ((BitVec.ofInt IntKind.u64.bits ((2 ^ k * a : Nat) : Int) ||| BitVec.ofInt IntKind.u64.bits (b : Int)).toNat : Int) = ((2 ^ k * a + b : Nat) : Int) := by
 rw [BitVec.toNat_or, bv_nat (by omega), bv_nat (by omega), <- Nat.two_pow_add_eq_or_of_lt hb, wU]; omega
theorem div_shift {h l y k : Nat} (hl : l < 18446744073709551616) (hy : h < y) (hk : k <= 63) (hY : y * 2 ^ k < 18446744073709551616) : (h * 2 ^ k < 18446744073709551616 /\ l / 2 ^ (64 - k) < 2 ^ k) /\ 2 ^ k * h + l / 2 ^ (64 - k) < y * 2 ^ k /\ (2 ^ k * h + l / 2 ^ (64 - k)) * 18446744073709551616 + l * 2 ^ k % 18446744073709551616 = (h * 18446744073709551616 + l) * 2 ^ k := by
 have e : 18446744073709551616 = 2 ^ (64 - k) * 2 ^ k := by rw [<- Nat.pow_add, show 64 - k + k = 64 by omega]
 have p := Nat.two_pow_pos k
 have p2 := Nat.two_pow_pos (64 - k)
 have h1 : l * 2 ^ k / 18446744073709551616 = l / 2 ^ (64 - k) := by rw [e]; exact Nat.mul_div_mul_right _ _ p
 have h2 := Nat.div_add_mod (l * 2 ^ k) 18446744073709551616
 have h3 : l / 2 ^ (64 - k) < 2 ^ k := by rw [Nat.div_lt_iff_lt_mul p2, Nat.mul_comm, <- e]; exact hl
 have h4 : (h + 1) * 2 ^ k <= y * 2 ^ k := Nat.mul_le_mul_right _ hy
 rw [Nat.add_mul, Nat.one_mul] at h4
 have h5 : (h * 18446744073709551616 + l) * 2 ^ k = h * 2 ^ k * 18446744073709551616 + l * 2 ^ k := by rw [Nat.add_mul, Nat.mul_right_comm]
 rw [h5, Nat.mul_comm (2 ^ k) h]
 rw [h1] at h2
 generalize h * 2 ^ k = a at *
 generalize l / 2 ^ (64 - k) = b at *
 generalize l * 2 ^ k % 18446744073709551616 = c at *
 refine ⟨⟨by omega, h3⟩, by omega, by omega⟩
theorem lead_ok {y : Nat} (h0 : 0 < y) (h : y < 18446744073709551616) : ∃ k : Nat, IntKind.u64.wrap (64 - lenI (y : Int)) = (k : Int) /\ IntKind.u64.wrap (64 - (k : Int)) = ((64 - k : Nat) : Int) /\ k <= 63 /\ 9223372036854775808 <= y * 2 ^ k /\ y * 2 ^ k < 18446744073709551616 := by
 have hz : y ≠ 0 := by omega
 have q1 := Nat.log2_self_le hz
 have q2 : y < 2 ^ (y.log2 + 1) := Nat.lt_log2_self
 have q3 : y.log2 < 64 := (Nat.log2_lt hz).2 h
 refine ⟨63 - y.log2, ?_, ?_, by omega, ?_, ?_⟩
 . unfold lenI; rw [if_neg (by omega), Int.toNat_natCast, wU]; omega
 . rw [wU]; omega
 . have := Nat.mul_le_mul_right (2 ^ (63 - y.log2)) q1
   rw [<- Nat.pow_add, show y.log2 + (63 - y.log2) = 63 by omega] at this
   exact this
 . have := (Nat.mul_lt_mul_right (Nat.two_pow_pos (63 - y.log2))).2 q2
   rw [<- Nat.pow_add, show y.log2 + 1 + (63 - y.log2) = 64 by omega] at this
   exact this
theorem dm_eq {Y A C : Nat} (h1 : A = Y / 4294967296) (h2 : C = Y % 4294967296) : A * 4294967296 + C = Y := by omega
theorem hvv {U X D E V : Nat} (h1 : D = X / 4294967296) (h2 : E = X % 4294967296) (h : U * 18446744073709551616 + X = V) : (U * 4294967296 + D) * 4294967296 + E = V := by
 have e : X = D * 4294967296 + E := by omega
 have e2 : U * 4294967296 * 4294967296 = U * 18446744073709551616 := Nat.mul_assoc U 4294967296 4294967296
 rw [Nat.add_mul, e2, Nat.add_assoc, <- e]; exact h
theorem div_fin {h l y k U D E W Y q1 q0 : Nat} (hy : 0 < y) (hY : Y = y * 2 ^ k) (hV : (U * 4294967296 + D) * 4294967296 + E = (h * 18446744073709551616 + l) * 2 ^ k) (hW : W = (U * 4294967296 + D) % Y) (h1 : q1 = (U * 4294967296 + D) / Y) (h0 : q0 = (W * 4294967296 + E) / Y) : q1 * 4294967296 + q0 = (h * 18446744073709551616 + l) / y /\ (W * 4294967296 + E) % Y / 2 ^ k = (h * 18446744073709551616 + l) % y := by
 have p := Nat.two_pow_pos k
 have pY : 0 < Y := by rw [hY]; exact Nat.mul_pos hy p
 subst hW h1 h0
 rw [halves_div U D E Y pY, halves U D E Y, hV, hY, shift_div, shift_mod]
 exact ⟨rfl, Nat.mul_div_cancel _ p⟩
theorem hl_div {h l y : Nat} : ((h : Int) * 18446744073709551616 + (l : Int)) / (y : Int) = (((h * 18446744073709551616 + l) / y : Nat) : Int) := by rw [Int.natCast_ediv, Int.natCast_add, Int.natCast_mul]; rfl
theorem hl_mod {h l y : Nat} : ((h : Int) * 18446744073709551616 + (l : Int)) % (y : Int) = (((h * 18446744073709551616 + l) % y : Nat) : Int) := by rw [Int.natCast_emod, Int.natCast_add, Int.natCast_mul]; rfl
theorem fin_q {h l y k U D E W Y q1 q0 : Nat} (hy : 0 < y) (hY : Y = y * 2 ^ k) (hV : (U * 4294967296 + D) * 4294967296 + E = (h * 18446744073709551616 + l) * 2 ^ k) (hW : W = (U * 4294967296 + D) % Y) (h1 : q1 = (U * 4294967296 + D) / Y) (h0 : q0 = (W * 4294967296 + E) / Y) (b1 : q1 < 4294967296) (b0 : q0 < 4294967296) : IntKind.u64.wrap (IntKind.u64.wrap ((q1 : Int) * 4294967296) + (q0 : Int)) = ((h : Int) * 18446744073709551616 + (l : Int)) / (y : Int) := by
 have := (div_fin hy hY hV hW h1 h0).1
 rw [hl_div, <- this, wU, wU]; omega
theorem fin_r {h l y k U D E W Y q1 q0 : Nat} (hy : 0 < y) (hY : Y = y * 2 ^ k) (hV : (U * 4294967296 + D) * 4294967296 + E = (h * 18446744073709551616 + l) * 2 ^ k) (hW : W = (U * 4294967296 + D) % Y) (h1 : q1 = (U * 4294967296 + D) / Y) (h0 : q0 = (W * 4294967296 + E) / Y) (rE : E < 4294967296) (pY : 0 < Y) (rY : Y < 18446744073709551616) (hk : k <= 63) : (IntKind.u64.wrap (IntKind.u64.wrap (IntKind.u64.wrap ((W : Int) * 4294967296) + (E : Int)) - IntKind.u64.wrap ((q0 : Int) * (Y : Int)))).fdiv (2 ^ min (k : Int).toNat IntKind.u64.bits) = ((h : Int) * 18446744073709551616 + (l : Int)) % (y : Int) := by
 have := (div_fin hy hY hV hW h1 h0).2
 rw [subN h0 rE pY rY, shrN (by omega), hl_mod, <- this]
theorem zero_q {l y : Nat} (hl : l < 18446744073709551616) : IntKind.u64.wrap ((l : Int).tdiv (y : Int)) = (((0 : Nat) : Int) * 18446744073709551616 + (l : Int)) / (y : Int) := by
 have h := Nat.div_le_self l y
 rw [hl_div, Int.tdiv_eq_ediv_of_nonneg (Int.natCast_nonneg _), <- Int.natCast_ediv, Nat.zero_mul, Nat.zero_add]
 generalize l / y = m at *
 rw [wU]; omega
theorem zero_r {l y : Nat} : (l : Int).tmod (y : Int) = (((0 : Nat) : Int) * 18446744073709551616 + (l : Int)) % (y : Int) := by
 rw [hl_mod, Int.tmod_eq_emod_of_nonneg (Int.natCast_nonneg _), <- Int.natCast_emod, Nat.zero_mul, Nat.zero_add]
theorem run_shl {P : Program} {t : TypeId} {xo yo : Operand} {k k' : IntKind} {a b : Int} (h : 0 <= b) : pureRun P (do eqGuard .shl t xo yo (.int k a) (.int k' b); binOp .shl t (.int k a) (.int k' b)) = some (.int k (k.wrap (a * 2 ^ min b.toNat k.bits))) := by
 show pureRun P (Op.shift .shl k a k' b) = _
 unfold Op.shift
 rw [if_neg (by omega)]; rfl
theorem run_shr {P : Program} {t : TypeId} {xo yo : Operand} {k k' : IntKind} {a b : Int} (h : 0 <= b) : pureRun P (do eqGuard .shr t xo yo (.int k a) (.int k' b); binOp .shr t (.int k a) (.int k' b)) = some (.int k (a.fdiv (2 ^ min b.toNat k.bits))) := by
 show pureRun P (Op.shift .shr k a k' b) = _
 unfold Op.shift
 rw [if_neg (by omega)]; rfl
def FDiv64 : List Ar -> Option Rs
 | [.c (.d (.v (.int .u64 u0))), .c (.d (.v (.int .u64 u1))), .c (.d (.v (.int .u64 u2)))] => some ⟨(0 <= u0 /\ u0 < 18446744073709551616) /\ (0 <= u1 /\ u1 < 18446744073709551616) /\ (0 <= u2 /\ u2 < 18446744073709551616) /\ (u0 < u2), .tup [.c (.d (ut ((u0 * 18446744073709551616 + u1) / u2))), .c (.d (ut ((u0 * 18446744073709551616 + u1) % u2)))], []⟩
 | _ => none
abbrev sl2P : List (Nat × Sm) := [(205, ⟨[], FLead⟩)]
theorem sp2P : sumsOk Tryz.prog sl2P := ⟨fcLead, trivial⟩
theorem fcDiv64 : FC Tryz.prog 173 FDiv64 := by
 intro xs pre r us h hp
 unfold FDiv64 at h
 split at h
 . rename_i u0 u1 u2
   cases h
   obtain ⟨hp0, hp1, hp2, hp3⟩ := hp
   refine fcat tys_ok (l := sl2P) sp2P Tryz.func173 rfl (by kernel_rfl) false ?_
   obtain ⟨h, rfl⟩ := Int.eq_ofNat_of_zero_le hp0.1
   obtain ⟨l, rfl⟩ := Int.eq_ofNat_of_zero_le hp1.1
   obtain ⟨y, rfl⟩ := Int.eq_ofNat_of_zero_le hp2.1
   obtain ⟨k, e1, e2, hk, hY0, hY⟩ := lead_ok (y := y) (by omega) (by omega)
   obtain ⟨⟨hh, hb⟩, hUY, hV⟩ := div_shift (h := h) (l := l) (by omega) (by omega) hk hY
   obtain ⟨Y, hYd⟩ : ∃ Y, Y = y * 2 ^ k := ⟨_, rfl⟩
   have eY : y * 2 ^ k % 18446744073709551616 = Y := by rw [hYd]; exact Nat.mod_eq_of_lt hY
   have eH : h * 2 ^ k % 18446744073709551616 = 2 ^ k * h := by rw [Nat.mod_eq_of_lt hh, Nat.mul_comm]
   have hU : 2 ^ k * h + l / 2 ^ (64 - k) < 18446744073709551616 := by omega
   obtain ⟨U, hUd⟩ : ∃ U, U = 2 ^ k * h + l / 2 ^ (64 - k) := ⟨_, rfl⟩
   have qY0 : 9223372036854775808 <= Y := by rw [hYd]; exact hY0
   have qY : Y < 18446744073709551616 := by rw [hYd]; exact hY
   have qU : U < Y := by rw [hYd, hUd]; exact hUY
   obtain ⟨A, hAd⟩ : ∃ A, A = Y / 4294967296 := ⟨_, rfl⟩
   obtain ⟨C, hCd⟩ : ∃ C, C = Y % 4294967296 := ⟨_, rfl⟩
   obtain ⟨X, hXd⟩ : ∃ X, X = l * 2 ^ k % 18446744073709551616 := ⟨_, rfl⟩
   obtain ⟨D, hDd⟩ : ∃ D, D = X / 4294967296 := ⟨_, rfl⟩
   obtain ⟨E, hEd⟩ : ∃ E, E = X % 4294967296 := ⟨_, rfl⟩
   have rX : X < 18446744073709551616 := by rw [hXd]; omega
   have eYA : A * 4294967296 + C = Y := dm_eq hAd hCd
   have rA : 2147483648 <= A := by omega
   have rA2 : A < 4294967296 := by omega
   have rC : C < 4294967296 := by omega
   have rD : D < 4294967296 := by omega
   have rE : E < 4294967296 := by omega
   have hVV : (U * 4294967296 + D) * 4294967296 + E = (h * 18446744073709551616 + l) * 2 ^ k := by rw [<- hUd, <- hXd] at hV; exact hvv hDd hEd hV
   have rU : U < A * 4294967296 + C := by omega
   have eQ := quoN (u := U) (a := A) (by omega) (by omega)
   have eR := remN (u := U) (a := A) (by omega) (by omega)
   repeat' (first | exact trivial | refine ⟨?_, ?_⟩ | intro _)
   all_goals first | (with_reducible apply qq) | (conv => whnf)
   all_goals first | (exfalso; have q0 := ‹Int.fdiv _ _ = 0›; rw [shr32N] at q0; omega) | (with_reducible show Value.int _ _ = Value.int _ _) | (simp only [decide_eq_true_eq, decide_eq_false_iff_not, beq_iff_eq, beq_eq_false_iff_ne] at *; omega) | skip
   all_goals first | (with_reducible show Value.int _ _ = Value.int _ _) | (rw [e1, run_shl (Int.natCast_nonneg k), shlN hk, eY]) | skip
   repeat' (first | exact trivial | refine ⟨?_, ?_⟩ | intro _)
   all_goals first | (with_reducible apply qq) | (conv => whnf)
   all_goals first | (exfalso; have q0 := ‹Int.fdiv _ _ = 0›; rw [shr32N] at q0; omega) | (with_reducible show Value.int _ _ = Value.int _ _) | (simp only [decide_eq_true_eq, decide_eq_false_iff_not, beq_iff_eq, beq_eq_false_iff_ne] at *; omega) | skip
   all_goals first | (with_reducible show Value.int _ _ = Value.int _ _) | (rw [shr32N, and32N, <- hAd, <- hCd, shlN hk, eH, e2, run_shr (Int.natCast_nonneg (64 - k)), shrN (by omega)]) | skip
   repeat' (first | exact trivial | refine ⟨?_, ?_⟩ | intro _)
   all_goals first | (with_reducible apply qq) | (conv => whnf)
   all_goals first | (exfalso; have q0 := ‹Int.fdiv _ _ = 0›; rw [shr32N] at q0; omega) | (with_reducible show Value.int _ _ = Value.int _ _) | (simp only [decide_eq_true_eq, decide_eq_false_iff_not, beq_iff_eq, beq_eq_false_iff_ne] at *; omega) | skip
   all_goals first | (with_reducible show Value.int _ _ = Value.int _ _) | (rw [orN hb hU, <- hUd, shlN hk, <- hXd, shr32N, and32N, <- hDd, <- hEd, eQ, eR]) | skip
   all_goals first | (have hz : h = 0 := (by have := ‹((h : Int) == 0) = true›; rw [beq_iff_eq] at this; omega); subst hz; refine congrArg (Value.int .u64) ?_; first | exact zero_r | exact zero_q (by omega)) | skip
   refine loop_ok tys_ok (l := sl2P) sp2P (by kernel_rfl) (X := Nat × Nat) (fun x => ⟨[(15, vx (.int .u64 x.1)), (16, vx (.int .u64 x.2)), (2, vx (.int .u64 Y)), (8, vx (.int .u64 k)), (9, vx (.int .u64 A)), (10, vx (.int .u64 C)), (11, vx (.int .u64 U)), (13, vx (.int .u64 D)), (14, vx (.int .u64 E))], [], 0, 135⟩) (fun x => x.1)
    (fun x => Gq A C U D x.1 x.2 /\ x.2 < 4294967296) [15, 16] [] (fun x _ _ => (x.1 - 1, x.2 + A)) [] [] 0 0 (U / A, U % A) ?_ ?_ ?_
   . exact ⟨gq_start rA rA2 rC rU rD, by have := Nat.mod_lt U (show 0 < A by omega); omega⟩
   . repeat' (first | exact trivial | exact rfl | (intro _ _; exact rfl) | refine ⟨?_, ?_⟩)
   . rintro ⟨q, r⟩ ⟨g, rr⟩
     change Gq A C U D q r at g
     change r < 4294967296 at rr
     have gl := g.le
     repeat' (first | exact trivial | refine ⟨?_, ?_⟩ | intro _)
     all_goals first | (with_reducible apply qq) | (conv => whnf)
     all_goals first | (with_reducible show ASat _ _ _ _ _) | rfl | ((with_reducible show idsOk _ _ = true); rfl) | (exfalso; have q0 := ‹(_ : Int) = 0›; omega) | skip
     all_goals first | (have gn := dig_a rA rA2 rC rU rD g rr ‹_›) | (have gn := dig_b rA rA2 rC rU rD g rr ‹decide (_ > _) = true›) | (have ge := dig_end rA rA2 rC rU rD g rr ‹_› ‹decide (_ > _) = false›)
     all_goals first | (have go := dig_out rA rA2 rC rU rD gn rr gl ‹decide (IntKind.u64.wrap (_ + _) ≥ _) = true›) | (have gi := dig_in rA2 rr ‹decide (IntKind.u64.wrap (_ + _) ≥ _) = false›) | skip
     all_goals first | exact gn.2 | exact gi | (show q - 1 < q; omega) | exact congrArg (Value.int .u64) (predN gn.1 (by omega)) | exact congrArg (Value.int .u64) (addN (by omega)) | skip
     all_goals (with_reducible show ASat _ _ _ _ _)
     all_goals first | (obtain ⟨q1, hq1⟩ : ∃ q1, q1 = q - 1 := ⟨_, rfl⟩; rw [predN gn.1 (by omega)]; rw [<- hq1] at go ⊢; have gq := go) | (obtain ⟨q1, hq1⟩ : ∃ q1, q1 = q := ⟨_, rfl⟩; rw [<- hq1] at ge ⊢; have gq := ge)
     all_goals (rw [eYA] at gq; obtain ⟨W, hWd⟩ : ∃ W, W = (U * 4294967296 + D) % Y := ⟨_, rfl⟩; have rW : W < A * 4294967296 + C := by rw [eYA, hWd]; exact Nat.mod_lt _ (by omega))
     all_goals (rw [subN gq rD (by omega) qY, <- hWd, quoN (u := W) (a := A) (by omega) (by omega), remN (u := W) (a := A) (by omega) (by omega)])
     all_goals
      refine loop_ok tys_ok (l := sl2P) sp2P (by kernel_rfl) (X := Nat × Nat) (fun x => ⟨[(18, vx (.int .u64 x.1)), (16, vx (.int .u64 x.2)), (2, vx (.int .u64 Y)), (8, vx (.int .u64 k)), (9, vx (.int .u64 A)), (10, vx (.int .u64 C)), (15, vx (.int .u64 q1)), (17, vx (.int .u64 W)), (14, vx (.int .u64 E))], [], 0, 135⟩) (fun x => x.1)
       (fun x => Gq A C W E x.1 x.2 /\ x.2 < 4294967296) [18, 16] [] (fun x _ _ => (x.1 - 1, x.2 + A)) [] [] 0 0 (W / A, W % A) ?_ ?_ ?_
      . exact ⟨gq_start rA rA2 rC rW rE, by have := Nat.mod_lt W (show 0 < A by omega); omega⟩
      . repeat' (first | exact trivial | exact rfl | (intro _ _; exact rfl) | refine ⟨?_, ?_⟩)
      . rintro ⟨q, r⟩ ⟨g, rr⟩
        change Gq A C W E q r at g
        change r < 4294967296 at rr
        have gl := g.le
        repeat' (first | exact trivial | refine ⟨?_, ?_⟩ | intro _)
        all_goals first | (with_reducible apply qq) | (conv => whnf)
        all_goals first | (with_reducible show ASat _ _ _ _ _) | rfl | ((with_reducible show idsOk _ _ = true); rfl) | (exfalso; have q0 := ‹(_ : Int) = 0›; omega) | skip
        all_goals first | (have gn := dig_a rA rA2 rC rW rE g rr ‹_›) | (have gn := dig_b rA rA2 rC rW rE g rr ‹decide (_ > _) = true›) | (have ge := dig_end rA rA2 rC rW rE g rr ‹_› ‹decide (_ > _) = false›)
        all_goals first | (have go := dig_out rA rA2 rC rW rE gn rr gl ‹decide (IntKind.u64.wrap (_ + _) ≥ _) = true›) | (have gi := dig_in rA2 rr ‹decide (IntKind.u64.wrap (_ + _) ≥ _) = false›) | skip
        all_goals first | exact gn.2 | exact gi | (show q - 1 < q; omega) | exact congrArg (Value.int .u64) (predN gn.1 (by omega)) | exact congrArg (Value.int .u64) (addN (by omega)) | skip
        all_goals first | (rw [predN gn.1 (by omega)]; obtain ⟨q0, hq0⟩ : ∃ q0, q0 = q - 1 := ⟨_, rfl⟩; rw [<- hq0] at go ⊢; have gq0 := go) | (obtain ⟨q0, hq0⟩ : ∃ q0, q0 = q := ⟨_, rfl⟩; rw [<- hq0] at ge ⊢; have gq0 := ge)
        all_goals rw [eYA] at gq0
        all_goals refine congrArg (Value.int .u64) ?_
        all_goals first | exact fin_r (by omega) hYd hVV hWd gq gq0 rE (by omega) qY hk | exact fin_q (by omega) hYd hVV hWd gq gq0 (by rw [gq, <- eYA]; exact digit_lt rA rA2 rC rU rD) (by rw [gq0, <- eYA]; exact digit_lt rA rA2 rC rW rE)
 . cases h
def sizeI (n : Int) : Int := if n < 0 then -n else n
theorem sizeI_r {n : Int} (h : -9223372036854775808 <= n /\ n < 9223372036854775808) : 0 <= sizeI n /\ sizeI n <= 9223372036854775808 := by unfold sizeI; split <;> omega
theorem size_t {n : Int} (h : -9223372036854775808 <= n /\ n < 9223372036854775808) (h2 : decide (n < 0) = true) : IntKind.u64.wrap (0 - IntKind.u64.wrap n) = sizeI n := by
 have := of_decide_eq_true h2
 unfold sizeI; rw [if_pos this, wU, wU]; omega
theorem size_f {n : Int} (h : -9223372036854775808 <= n /\ n < 9223372036854775808) (h2 : decide (n < 0) = false) : IntKind.u64.wrap n = sizeI n := by
 have := of_decide_eq_false h2
 unfold sizeI; rw [if_neg this, wU]; omega
theorem size_mul {a b : Int} (ha : -9223372036854775808 <= a /\ a < 9223372036854775808) (hb : -9223372036854775808 <= b /\ b < 9223372036854775808) : (0 <= sizeI a * sizeI b /\ sizeI a * sizeI b <= 85070591730234615865843651857942052864) /\ ((decide (a < 0) != decide (b < 0)) = true -> sizeI a * sizeI b = -(a * b)) /\ ((decide (a < 0) != decide (b < 0)) = false -> sizeI a * sizeI b = a * b) := by
 have h1 := sizeI_r ha
 have h2 := sizeI_r hb
 refine ⟨⟨Int.mul_nonneg h1.1 h2.1, by have := Int.mul_le_mul h1.2 h2.2 h2.1 (by decide); omega⟩, ?_, ?_⟩
 . intro h
   unfold sizeI
   by_cases h3 : a < 0 <;> by_cases h4 : b < 0 <;> simp [h3, h4, Int.neg_mul, Int.mul_neg] at h ⊢
 . intro h
   unfold sizeI
   by_cases h3 : a < 0 <;> by_cases h4 : b < 0 <;> simp [h3, h4, Int.neg_mul, Int.mul_neg] at h ⊢
theorem wd_parts {p : Int} (h : 0 <= p /\ p <= 85070591730234615865843651857942052864) : (⟨IntKind.wrap .i64 (p / 18446744073709551616), p % 18446744073709551616⟩ : Wd) = wd p := by
 rw [wI]; unfold wd; congr 1
theorem wd_nn {p q : Int} (h : 0 <= p /\ p <= 85070591730234615865843651857942052864) (e : p = -q) : wd (0 - (wd p).val) = wd q := by
 rw [wd_val (v := p) (by omega) (by omega)]; congr 1; omega
theorem mul64_r {p : Int} (h : 0 <= p /\ p <= 85070591730234615865843651857942052864) : (0 <= p / 18446744073709551616 /\ p / 18446744073709551616 < 18446744073709551616) /\ 0 <= p % 18446744073709551616 /\ p % 18446744073709551616 < 18446744073709551616 := by omega
def FWSize : List Ar -> Option Rs
 | [.c (.d (.v (.int .i64 i0)))] => some ⟨(-9223372036854775808 <= i0 /\ i0 < 9223372036854775808), .va (.c (.d (ut (sizeI i0)))), []⟩
 | _ => none
theorem fcWSize : FC Tryz.prog 143 FWSize := by
 intro xs pre r us h hp
 unfold FWSize at h
 split at h
 . rename_i i0
   cases h
   have hp0 := hp
   refine fcat tys_ok (l := []) trivial Tryz.func143 rfl (by kernel_rfl) false ?_
   repeat' (first | exact trivial | refine ⟨?_, ?_⟩ | intro _)
   all_goals first | (with_reducible apply qq) | (conv => whnf)
   all_goals first | exact congrArg (Value.int .u64) (size_t hp0 ‹_›) | exact congrArg (Value.int .u64) (size_f hp0 ‹_›)
 . cases h
def FWMul : List Ar -> Option Rs
 | [.c (.d (.v (.int .i64 i0))), .c (.d (.v (.int .i64 i1)))] => some ⟨(-9223372036854775808 <= i0 /\ i0 < 9223372036854775808) /\ (-9223372036854775808 <= i1 /\ i1 < 9223372036854775808), .va (Wd.ar (wd (i0 * i1))), []⟩
 | _ => none
theorem fcWMul : FC Tryz.prog 100 FWMul := by
 intro xs pre r us h hp
 unfold FWMul at h
 split at h
 . rename_i i0 i1
   cases h
   obtain ⟨hp0, hp1⟩ := hp
   refine fcat tys_ok (l := [(143, ⟨[], FWSize⟩), (142, ⟨[], FMul64⟩), (140, ⟨[], FWNeg⟩)]) ⟨fcWSize, fcMul64, fcWNeg, trivial⟩ Tryz.func100 rfl (by kernel_rfl) false ?_
   have s0 := sizeI_r hp0
   have s1 := sizeI_r hp1
   have z0 : 0 <= sizeI i0 /\ sizeI i0 < 18446744073709551616 := by omega
   have z1 : 0 <= sizeI i1 /\ sizeI i1 < 18446744073709551616 := by omega
   obtain ⟨mr, m1, m2⟩ := size_mul hp0 hp1
   have mr2 := mul64_r mr
   have ew := wd_parts mr
   have eh : IntKind.wrap .i64 (sizeI i0 * sizeI i1 / 18446744073709551616) = (wd (sizeI i0 * sizeI i1)).hi := congrArg Wd.hi ew
   have el : sizeI i0 * sizeI i1 % 18446744073709551616 = (wd (sizeI i0 * sizeI i1)).lo := congrArg Wd.lo ew
   have ok := wd_ok (sizeI i0 * sizeI i1)
   unfold Wd.ok at ok
   repeat' (first | exact trivial | (with_reducible first | assumption | exact hp0.1 | exact hp0.2 | exact hp1.1 | exact hp1.2 | exact z0 | exact z1 | exact z0.1 | exact z0.2 | exact z1.1 | exact z1.2 | exact ok | exact ok.1 | exact ok.2) | refine ⟨?_, ?_⟩ | intro _)
   all_goals first | (with_reducible apply qq) | (conv => whnf)
   all_goals first | (rw [eh, m2 ‹_›]; done) | (rw [el, m2 ‹_›]; done) | (rw [ew, wd_nn mr (m1 ‹_›)]; done) | (rw [eh]; first | exact ok.1.1 | exact ok.1.2 | exact ok.1 | exact ok) | exact mr2.2.1 | exact mr2.2.2 | exact mr2.2
 . cases h
theorem hi_lt {a b m : Int} (ha : 0 <= a /\ a < m) (hb : 0 <= b /\ b < 18446744073709551616) : a * b / 18446744073709551616 < m := by
 have h : a * b <= (m - 1) * b := Int.mul_le_mul_of_nonneg_right (by omega) hb.1
 have h2 : (m - 1) * b <= (m - 1) * (18446744073709551616 - 1) := Int.mul_le_mul_of_nonneg_left (by omega) (by omega)
 generalize a * b = p at *
 generalize (m - 1) * b = q at *
 omega
theorem mul_r {a b : Int} (ha : 0 <= a /\ a < 18446744073709551616) (hb : 0 <= b /\ b < 18446744073709551616) : (0 <= a * b / 18446744073709551616 /\ a * b / 18446744073709551616 < 18446744073709551616) /\ (0 <= a * b % 18446744073709551616 /\ a * b % 18446744073709551616 < 18446744073709551616) /\ a * b / 18446744073709551616 * 18446744073709551616 + a * b % 18446744073709551616 = a * b := by
 have h := Int.mul_nonneg ha.1 hb.1
 have h1 : a * b <= (18446744073709551616 - 1) * (18446744073709551616 - 1) := Int.mul_le_mul (by omega) (by omega) hb.1 (by decide)
 generalize a * b = p at *
 omega
def FCTimes : List Ar -> Option Rs
 | [.c (.d (.v (.int .u64 u0))), .c (.d (.v (.int .u64 u1))), .c (.d (.v (.int .u64 u2)))] => some ⟨(0 <= u0 /\ u0 < 18446744073709551616) /\ (0 <= u1 /\ u1 < 18446744073709551616) /\ (0 <= u2 /\ u2 < 18446744073709551616) /\ (u0 < u2), .va (.c (.d (ut (u0 * u1 % u2)))), []⟩
 | _ => none
theorem fcCTimes : FC Tryz.prog 144 FCTimes := by
 intro xs pre r us h hp
 unfold FCTimes at h
 split at h
 . rename_i u0 u1 u2
   cases h
   obtain ⟨hp0, hp1, hp2, hp3⟩ := hp
   refine fcat tys_ok (l := [(142, ⟨[], FMul64⟩), (173, ⟨[], FDiv64⟩)]) ⟨fcMul64, fcDiv64, trivial⟩ Tryz.func144 rfl (by kernel_rfl) false ?_
   have hh := hi_lt (a := u0) (b := u1) (m := u2) (by omega) hp1
   obtain ⟨mr, mr1, mr2⟩ := mul_r hp0 hp1
   repeat' (first | exact trivial | (with_reducible first | assumption | exact mr | exact mr1 | exact mr.1 | exact mr.2 | exact mr1.1 | exact mr1.2) | refine ⟨?_, ?_⟩ | intro _)
   all_goals first | (with_reducible apply qq) | (conv => whnf)
   all_goals first | (rw [mr2]; done) | exact hp2
 . cases h
namespace Sp
end Sp
def Cg.tidy (c : Cg) : Prop := c = Cg.none \/ (c.some = true /\ c.red)
theorem Cg.tidy_fix {c : Cg} (h : c.tidy) : c.clean = c := by
 rcases h with rfl | ⟨h1, h2⟩
 . rfl
 . exact cg_fix h1 h2
theorem has_t {c : Cg} (h : c.tidy) (hs : c.some = true) (n : Int) : c.has n = decide (md n c.m = c.r) := by
 unfold Cg.has; rw [Cg.tidy_fix h, hs]; rfl
theorem tidy_c {i : Ig} (h : i.tidy) : i.c.tidy := by
 rcases h with rfl | ⟨⟨_, h2⟩, _, h4⟩
 . exact .inl rfl
 . exact .inr ⟨h2, h4⟩
namespace Sp
end Sp
theorem l3_md {n m r : Int} (h0 : 0 <= m) (h : 0 < m -> 0 <= r /\ r < m) : md n m = r ↔ m ∣ n - r := by
 rcases Int.lt_or_eq_of_le h0 with hm | hm
 . obtain ⟨h1, h2⟩ := h hm
   rw [md_eq0 hm h1 h2]; exact (Int.dvd_iff_emod_eq_zero).symm
 . subst hm; unfold md; rw [if_pos (Int.le_refl _), Int.zero_dvd]; omega
namespace Cg
end Cg
structure Vl.tidy (v : Vl) : Prop where
 i : v.i.tidy
 t : Srt v.t.names
theorem Vl.of_tidy (v : Vl) : v.of.tidy := ⟨by rw [of_rclean]; exact clean_tidy v.i, by rw [of_rclean]; exact cleanS_srt _⟩
def Vl.inR (v : Vl) : Prop := v.i.s.inR /\ v.i.c.inR
theorem Vl.of_inR {v : Vl} (h : v.inR) : v.of.inR := Ig.clean_inR h.1 h.2
theorem cop_dvd {m a z : Int} (hg : Int.gcd a m = 1) (h : m ∣ a * z) : m ∣ z := by
 rw [<- Int.natAbs_dvd_natAbs] at h ⊢
 rw [Int.natAbs_mul] at h
 exact Nat.Coprime.dvd_of_dvd_mul_left (by unfold Nat.Coprime; rw [Nat.gcd_comm]; exact hg) h
def invOk (a m y : Int) : Prop := (0 <= y /\ y < m) /\ (a * y) % m = 1 % m
def invI (a m : Int) : Int := (((List.range m.toNat).find? fun y : Nat => decide ((a * (y : Int)) % m = 1 % m)).getD 0 : Nat)
theorem inv_unique {a m y z : Int} (hg : Int.gcd a m = 1) (hy : invOk a m y) (hz : invOk a m z) : y = z := by
 have h1 : (a * y) % m = (a * z) % m := hy.2.trans hz.2.symm
 rw [Int.emod_eq_emod_iff_emod_sub_eq_zero] at h1
 have h2 : m ∣ a * (y - z) := by rw [Int.mul_sub]; exact Int.dvd_of_emod_eq_zero h1
 obtain ⟨t, ht⟩ := cop_dvd hg h2
 have h3 := hy.1; have h4 := hz.1
 have : t = 0 := by
  rcases Int.lt_trichotomy t 0 with h | h | h
  . have : m * t <= m * (-1) := Int.mul_le_mul_of_nonneg_left (by omega) (by omega)
    omega
  . exact h
  . have : m * 1 <= m * t := Int.mul_le_mul_of_nonneg_left (by omega) (by omega)
    omega
 subst this; omega
theorem invI_eq {a m y : Int} (hg : Int.gcd a m = 1) (h : invOk a m y) : invI a m = y := by
 obtain ⟨⟨h0, h1⟩, h2⟩ := h
 obtain ⟨n, rfl⟩ := Int.eq_ofNat_of_zero_le h0
 unfold invI
 cases hf : (List.range m.toNat).find? fun y : Nat => decide ((a * (y : Int)) % m = 1 % m) with
 | none =>
   have := List.find?_eq_none.1 hf n (List.mem_range.2 (by omega))
   exact absurd h2 (by simpa using this)
 | some z =>
   have h3 := List.find?_some hf
   have h4 := List.mem_range.1 (List.mem_of_find?_eq_some hf)
   exact inv_unique hg ⟨by dsimp only [Option.getD]; omega, by simpa using h3⟩ ⟨⟨h0, h1⟩, h2⟩
theorem inv_step {a m r s x y : Int} (h1 : m ∣ x * a - r) (h2 : m ∣ y * a - s) :
 m ∣ ((y + m - s / r % m * x % m) % m) * a - s % r := by
 have e1 : s % r = s - s / r * r := by have := Int.mul_ediv_add_emod s r; rw [Int.mul_comm] at this; omega
 have e2 : ((y + m - s / r % m * x % m) % m - (y - s / r * x)) % m = 0 := by
  rw [Int.emod_sub_emod, <- Int.emod_eq_emod_iff_emod_sub_eq_zero]
  have e3 : s / r % m * x % m = s / r * x % m := by rw [Int.mul_emod, Int.emod_emod_of_dvd _ (Int.dvd_refl m), <- Int.mul_emod]
  rw [e3]
  have e4 : y + m - s / r * x % m = (y - s / r * x % m) + m := by omega
  rw [e4, Int.add_emod_right, Int.sub_emod_emod]
 have e5 := Int.dvd_of_emod_eq_zero e2
 obtain ⟨p, hp⟩ := h1
 obtain ⟨q, hq⟩ := h2
 obtain ⟨t, ht⟩ := e5
 refine ⟨t * a + q - s / r * p, ?_⟩
 generalize (y + m - s / r % m * x % m) % m = n at *
 generalize s / r = k at *
 rw [e1]
 have : n = y - k * x + m * t := by omega
 subst this
 have hp' : x * a = r + m * p := by omega
 have hq' : y * a = s + m * q := by omega
 grind
theorem inv_end {a m y s : Int} (hs : s = 1) (h0 : 0 <= y /\ y < m) (h : m ∣ y * a - s) : invOk a m y := by
 subst hs
 refine ⟨h0, ?_⟩
 rw [Int.emod_eq_emod_iff_emod_sub_eq_zero, Int.mul_comm]
 exact Int.emod_eq_zero_of_dvd h
theorem inv_ex {a m : Int} : ∀ (r : Nat) (s x y : Int), m ∣ x * a - r -> m ∣ y * a - s -> 0 < s -> Int.gcd r s = 1 -> ∃ y, m ∣ y * a - 1
 | r, s, x, y, h1, h2, hs, hg => by
   rcases Nat.eq_zero_or_pos r with h | h
   . subst h
     have e : Int.gcd ((0 : Nat) : Int) s = s.natAbs := Int.zero_gcd
     rw [e] at hg
     exact ⟨y, by have : s = 1 := by omega
                  rw [<- this]; exact h2⟩
   . have hr : (0 : Int) < r := by omega
     have hb := Int.emod_nonneg s (show (r : Int) ≠ 0 by omega)
     have hl := Int.emod_lt_of_pos s hr
     have e : ((s % r).toNat : Int) = s % r := Int.toNat_of_nonneg hb
     refine inv_ex (s % r).toNat r _ x (by rw [e]; exact inv_step h1 h2) h1 hr ?_
     rw [e]
     obtain ⟨n, rfl⟩ := Int.eq_ofNat_of_zero_le (Int.le_of_lt hs)
     rw [<- Int.natCast_emod, Int.gcd_natCast_natCast, <- Nat.gcd_rec]
     rwa [Int.gcd_natCast_natCast] at hg
termination_by r => r
theorem gcd_quot {M N : Int} (hM : 0 < M) : Int.gcd (M / (Int.gcd M N : Int)) (N / (Int.gcd M N : Int)) = 1 := by
 have h := Int.gcd_ediv_gcd_ediv_gcd (i := M) (j := N) (Int.gcd_pos_of_ne_zero_left _ (by omega))
 exact h
section
variable {M N R S : Int} (hM : 0 < M) (hN : 0 < N)
def stepI (M N R S : Int) : Int := ((S - R) % N / (Int.gcd M N : Int)) % (N / (Int.gcd M N : Int)) * invI (M / (Int.gcd M N : Int)) (N / (Int.gcd M N : Int)) % (N / (Int.gcd M N : Int))
include hM hN
theorem quot_pos : 0 < N / (Int.gcd M N : Int) /\ 0 < M / (Int.gcd M N : Int) /\ 0 < (Int.gcd M N : Int) := by
 have hg : 0 < (Int.gcd M N : Int) := by have := Int.gcd_pos_of_ne_zero_left (a := M) N (by omega); omega
 exact ⟨Int.ediv_pos_of_pos_of_dvd hN (by omega) (Int.gcd_dvd_right ..), Int.ediv_pos_of_pos_of_dvd hM (by omega) (Int.gcd_dvd_left ..), hg⟩
theorem step_r : 0 <= stepI M N R S /\ stepI M N R S < N / (Int.gcd M N : Int) := by
 have h := quot_pos hM hN
 exact ⟨Int.emod_nonneg _ (by omega), Int.emod_lt_of_pos _ h.1⟩
theorem inv_has : invOk (M / (Int.gcd M N : Int)) (N / (Int.gcd M N : Int)) (invI (M / (Int.gcd M N : Int)) (N / (Int.gcd M N : Int))) := by
 have hp := quot_pos hM hN
 have hg := gcd_quot (N := N) hM
 generalize M / (Int.gcd M N : Int) = a at *
 generalize N / (Int.gcd M N : Int) = m at *
 obtain ⟨n, rfl⟩ := Int.eq_ofNat_of_zero_le (Int.le_of_lt hp.2.1)
 obtain ⟨y, hy⟩ := inv_ex (a := n) (m := m) n m 1 0 (by rw [Int.one_mul, Int.sub_self]; exact Int.dvd_zero m) (by rw [Int.zero_mul, Int.zero_sub]; exact Int.dvd_neg.2 (Int.dvd_refl m)) hp.1 hg
 have hk : invOk n m (y % m) := by
  refine inv_end rfl ⟨Int.emod_nonneg _ (by omega), Int.emod_lt_of_pos _ hp.1⟩ ?_
  have e : y % m * n - 1 = (y * n - 1) - m * (y / m * n) := by rw [Int.emod_def]; grind
  rw [e]; exact Int.dvd_sub hy (Int.dvd_mul_right ..)
 rw [invI_eq hg hk]; exact hk
theorem crt (hd : (Int.gcd M N : Int) ∣ S - R) : N ∣ R + M * stepI M N R S - S := by
 have hp := quot_pos hM hN
 have hi := (inv_has hM hN).2
 have eM : M = (Int.gcd M N : Int) * (M / (Int.gcd M N : Int)) := (Int.mul_ediv_cancel' (Int.gcd_dvd_left ..)).symm
 have eN : N = (Int.gcd M N : Int) * (N / (Int.gcd M N : Int)) := (Int.mul_ediv_cancel' (Int.gcd_dvd_right ..)).symm
 have h1 : (Int.gcd M N : Int) ∣ (S - R) % N := by
  rw [Int.emod_def]; exact Int.dvd_sub hd (Int.dvd_mul_of_dvd_left (Int.gcd_dvd_right ..))
 have e1 : (S - R) % N = (Int.gcd M N : Int) * ((S - R) % N / (Int.gcd M N : Int)) := (Int.mul_ediv_cancel' h1).symm
 have e2 : N ∣ (S - R) % N - (S - R) := by
  refine Int.dvd_of_emod_eq_zero ?_
  rw [Int.emod_sub_emod]; simp
 unfold stepI
 generalize invI (M / (Int.gcd M N : Int)) (N / (Int.gcd M N : Int)) = y at *
 generalize (S - R) % N / (Int.gcd M N : Int) = d at *
 generalize M / (Int.gcd M N : Int) = a at *
 generalize N / (Int.gcd M N : Int) = m at *
 generalize (Int.gcd M N : Int) = g at *
 have e3 : m ∣ a * (d % m * y % m) - d := by
  refine Int.dvd_of_emod_eq_zero ?_
  rw [<- Int.emod_eq_emod_iff_emod_sub_eq_zero]
  rw [Int.mul_emod, Int.emod_emod_of_dvd _ (Int.dvd_refl m), Int.mul_emod (d % m) y, Int.emod_emod_of_dvd _ (Int.dvd_refl m), <- Int.mul_emod d y, <- Int.mul_emod]
  rw [show a * (d * y) = (a * y) * d by grind, Int.mul_emod, hi, <- Int.mul_emod, Int.one_mul]
 obtain ⟨t, ht⟩ := e3
 obtain ⟨u, hu⟩ := e2
 rw [e1] at hu
 refine ⟨t + u, ?_⟩
 generalize d % m * y % m = k at *
 have : M * k = g * (a * k) := by rw [eM, Int.mul_assoc]
 have h5 : a * k = d + m * t := by omega
 rw [this, h5]
 have : N * (t + u) = g * m * t + N * u := by rw [Int.mul_add]; congr 1; rw [<- eN]
 rw [this]
 grind
theorem lcm_dvd' {z : Int} : (M * (N / (Int.gcd M N : Int)) ∣ z) ↔ (M ∣ z /\ N ∣ z) := by
 have hp := quot_pos hM hN
 have eM : M = (Int.gcd M N : Int) * (M / (Int.gcd M N : Int)) := (Int.mul_ediv_cancel' (Int.gcd_dvd_left ..)).symm
 have eN : N = (Int.gcd M N : Int) * (N / (Int.gcd M N : Int)) := (Int.mul_ediv_cancel' (Int.gcd_dvd_right ..)).symm
 constructor
 . intro h
   refine ⟨Int.dvd_trans (Int.dvd_mul_right ..) h, Int.dvd_trans ?_ h⟩
   have : M * (N / (Int.gcd M N : Int)) = N * (M / (Int.gcd M N : Int)) := by
    generalize M / (Int.gcd M N : Int) = a at *
    generalize N / (Int.gcd M N : Int) = m at *
    generalize (Int.gcd M N : Int) = g at *
    rw [eM, eN]; grind
   rw [this]; exact Int.dvd_mul_right ..
 . rintro ⟨⟨t, rfl⟩, h⟩
   have hq := gcd_quot (N := N) hM
   refine Int.mul_dvd_mul_left M ?_
   refine cop_dvd hq ?_
   generalize M / (Int.gcd M N : Int) = a at *
   generalize N / (Int.gcd M N : Int) = m at *
   generalize (Int.gcd M N : Int) = g at *
   obtain ⟨u, hu⟩ := h
   refine ⟨u, ?_⟩
   rw [eM, eN] at hu
   have : g * (a * t) = g * (m * u) := by rw [<- Int.mul_assoc, <- Int.mul_assoc]; exact hu
   exact Int.eq_of_mul_eq_mul_left (by omega) this
end
theorem dvd_shift {m a b n : Int} (h : m ∣ a - b) : (m ∣ n - a) ↔ (m ∣ n - b) :=
 ⟨fun q => by have := Int.dvd_add q h; rwa [show n - a + (a - b) = n - b by omega] at this, fun q => by have := Int.dvd_sub q h; rwa [show n - b - (a - b) = n - a by omega] at this⟩
theorem cg_has_dvd {c : Cg} (h : c.tidy) (hs : c.some = true) (n : Int) : c.has n = true ↔ c.m ∣ n - c.r := by
 rw [has_t h hs, decide_eq_true_eq]
 rcases h with rfl | ⟨_, hr⟩
 . cases hs
 . exact l3_md hr.1 hr.2
namespace Cg
abbrev gc (x y : Cg) : Int := (Int.gcd x.m y.m : Int)
abbrev lc (x y : Cg) : Int := x.m * (y.m / (Int.gcd x.m y.m : Int))
def meet0 (x y : Cg) : Cg :=
 if (!x.some || !y.some) = true then none
 else if x.m = 0 then (if y.has x.r = true then x else none)
 else if y.m = 0 then (if x.has y.r = true then y else none)
 else if apartI x.r y.r % gc x y = 0 then
  (if wIntB (lc x y) = true then of (lc x y) (x.r + x.m * stepI x.m y.m x.r y.r) else if y.m > x.m then y else x)
 else none
def meet (a b : Cg) : Cg := meet0 a.clean b.clean
def fits (x y : Cg) : Bool := !(decide (0 < x.m) && decide (0 < y.m)) || wIntB (lc x y)
end Cg
theorem apart_iff {g a b : Int} : (apartI a b % g = 0) ↔ g ∣ b - a := by
 rw [<- Int.dvd_iff_emod_eq_zero]
 unfold apartI
 split
 . rw [<- Int.neg_sub, Int.dvd_neg]
 . exact Iff.rfl
theorem meet_law {x y : Cg} (hx : x.tidy) (hy : y.tidy) : (Cg.meet0 x y).tidy /\ (∀ n, x.has n = true -> y.has n = true -> (Cg.meet0 x y).has n = true) /\ (x.fits y = true -> ∀ n, (Cg.meet0 x y).has n = true -> x.has n = true /\ y.has n = true) /\ (x.inR -> y.inR -> (Cg.meet0 x y).inR) := by
 have hn : ∀ n, Cg.none.has n = true -> False := fun n h => by cases h
 have t0 : Cg.none.tidy := .inl rfl
 have i0 : Cg.none.inR := by unfold Cg.none Cg.inR; dsimp only; omega
 rcases hx with rfl | ⟨hxs, hxr⟩
 . have e : Cg.meet0 Cg.none y = Cg.none := by unfold Cg.meet0; rw [if_pos (by rfl)]
   rw [e]; exact ⟨t0, fun n h => (hn n h).elim, fun _ n h => (hn n h).elim, fun _ _ => i0⟩
 rcases hy with rfl | ⟨hys, hyr⟩
 . have e : Cg.meet0 x Cg.none = Cg.none := by unfold Cg.meet0; rw [if_pos (by rw [hxs]; rfl)]
   rw [e]; exact ⟨t0, fun n _ h => (hn n h).elim, fun _ n h => (hn n h).elim, fun _ _ => i0⟩
 have tx : x.tidy := .inr ⟨hxs, hxr⟩
 have ty : y.tidy := .inr ⟨hys, hyr⟩
 have X := cg_has_dvd tx hxs
 have Y := cg_has_dvd ty hys
 unfold Cg.meet0
 rw [if_neg (by rw [hxs, hys]; decide)]
 by_cases zx : x.m = 0
 . rw [if_pos zx]
   have k : ∀ n, x.has n = true -> n = x.r := fun n h => by have := (X n).1 h; rw [zx, Int.zero_dvd] at this; omega
   by_cases h : y.has x.r = true
   . rw [if_pos h]
     exact ⟨tx, fun n h1 _ => h1, fun _ n h1 => ⟨h1, by rw [k n h1]; exact h⟩, fun h _ => h⟩
   . rw [if_neg h]
     exact ⟨t0, fun n h1 h2 => absurd (by rw [<- k n h1]; exact h2) h, fun _ n h1 => (hn n h1).elim, fun _ _ => i0⟩
 rw [if_neg zx]
 by_cases zy : y.m = 0
 . rw [if_pos zy]
   have k : ∀ n, y.has n = true -> n = y.r := fun n h => by have := (Y n).1 h; rw [zy, Int.zero_dvd] at this; omega
   by_cases h : x.has y.r = true
   . rw [if_pos h]
     exact ⟨ty, fun n _ h1 => h1, fun _ n h1 => ⟨by rw [k n h1]; exact h, h1⟩, fun _ h => h⟩
   . rw [if_neg h]
     exact ⟨t0, fun n h1 h2 => absurd (by rw [<- k n h2]; exact h1) h, fun _ n h1 => (hn n h1).elim, fun _ _ => i0⟩
 rw [if_neg zy]
 have px : 0 < x.m := by have := hxr.1; omega
 have py : 0 < y.m := by have := hyr.1; omega
 have hq := quot_pos px py
 have bx := hxr.2 px
 by_cases hd : apartI x.r y.r % Cg.gc x y = 0
 . rw [if_pos hd]
   have hc := crt px py (apart_iff.1 hd)
   by_cases hw : wIntB (Cg.lc x y) = true
   . rw [if_pos hw]
     have hL : 0 < Cg.lc x y := Int.mul_pos px hq.1
     have hL2 : ∀ {z : Int}, Cg.lc x y ∣ z ↔ (x.m ∣ z /\ y.m ∣ z) := fun {z} => lcm_dvd' px py
     have hs := step_r (M := x.m) (N := y.m) (R := x.r) (S := y.r) px py
     have hb : x.m * stepI x.m y.m x.r y.r <= Cg.lc x y - x.m := by
      have h1 : x.m * stepI x.m y.m x.r y.r <= x.m * (y.m / (Int.gcd x.m y.m : Int) - 1) := Int.mul_le_mul_of_nonneg_left (by omega) (by omega)
      rw [Int.mul_sub, Int.mul_one] at h1; exact h1
     have hb0 : 0 <= x.m * stepI x.m y.m x.r y.r := Int.mul_nonneg (by omega) hs.1
     have hwr : -9223372036854775808 <= Cg.lc x y /\ Cg.lc x y < 9223372036854775808 := by unfold wIntB at hw; exact of_decide_eq_true hw
     generalize Cg.lc x y = L at *
     have h1 : x.m ∣ x.r + x.m * stepI x.m y.m x.r y.r - x.r := ⟨stepI x.m y.m x.r y.r, by omega⟩
     generalize x.m * stepI x.m y.m x.r y.r = k at *
     have eo : Cg.of L (x.r + k) = ⟨true, L, md (x.r + k) L⟩ := by unfold Cg.of; rw [if_neg (by omega)]
     have to : (Cg.of L (x.r + k)).tidy := by
      rw [eo]; right; refine ⟨rfl, ?_⟩; unfold Cg.red; dsimp only; exact ⟨by omega, fun h => md_bound _ _ h⟩
     have e1 : md (x.r + k) L = x.r + k := by unfold md; rw [if_neg (by omega)]; exact Int.emod_eq_of_lt (by omega) (by omega)
     have O : ∀ n, (Cg.of L (x.r + k)).has n = true ↔ (x.has n = true /\ y.has n = true) := by
      intro n
      rw [cg_has_dvd to (by rw [eo]), X, Y, eo]
      dsimp only
      rw [e1, hL2, dvd_shift h1, dvd_shift hc]
     exact ⟨to, fun n h1 h2 => (O n).2 ⟨h1, h2⟩, fun _ n h => (O n).1 h, fun _ _ => Cg.of_inR _ _ hwr.1 hwr.2 (by omega) (by omega)⟩
   . rw [if_neg hw]
     have hf : ¬ x.fits y = true := by
      intro h; unfold Cg.fits at h; rw [decide_eq_true px, decide_eq_true py] at h
      exact hw (by simpa using h)
     split
     . exact ⟨ty, fun n _ h => h, fun h => absurd h hf, fun _ h => h⟩
     . exact ⟨tx, fun n h _ => h, fun h => absurd h hf, fun h _ => h⟩
 . rw [if_neg hd]
   refine ⟨t0, fun n h1 h2 => ?_, fun _ n h1 => (hn n h1).elim, fun _ _ => i0⟩
   refine absurd (apart_iff.2 ?_) hd
   have g1 : Cg.gc x y ∣ n - x.r := Int.dvd_trans (Int.gcd_dvd_left ..) ((X n).1 h1)
   have g2 : Cg.gc x y ∣ n - y.r := Int.dvd_trans (Int.gcd_dvd_right ..) ((Y n).1 h2)
   have := Int.dvd_sub g1 g2
   rwa [show n - x.r - (n - y.r) = y.r - x.r by omega] at this
def Vl.meetF (a b : Vl) : Vl := ⟨⟨a.of.i.s.meet b.of.i.s, Cg.meet a.of.i.c b.of.i.c⟩, ⟨a.t.null && b.t.null, ofS (meetS (ofS a.t.names) (ofS b.t.names))⟩⟩
def Vl.meet (a b : Vl) : Vl := (Vl.meetF a b).reduce
theorem cmeet_of (a b : Vl) : Cg.meet a.of.i.c b.of.i.c = Cg.meet0 a.of.i.c b.of.i.c := by
 unfold Cg.meet; rw [Cg.tidy_fix (tidy_c (Vl.of_tidy a).i), Cg.tidy_fix (tidy_c (Vl.of_tidy b).i)]
theorem Sp.meet_has (a b : Sp) (n : Int) : (a.meet b).has n = (a.has n && b.has n) := by grind [Sp.meet, Sp.has, Sp.none, Sp.of]
theorem hasInt_of (v : Vl) (n : Int) : v.of.hasInt n = v.hasInt n := by unfold Vl.hasInt; rw [of_rclean]; exact has_clean n
theorem meetF_inR {a b : Vl} (ha : a.inR) (hb : b.inR) : (Vl.meetF a b).inR := by
 have h1 := Vl.of_inR ha
 have h2 := Vl.of_inR hb
 refine ⟨Sp.meet_inR h1.1 h2.1, ?_⟩
 show (Cg.meet _ _).inR
 rw [cmeet_of]
 exact (meet_law (tidy_c (Vl.of_tidy a).i) (tidy_c (Vl.of_tidy b).i)).2.2.2 h1.2 h2.2
theorem meet_hasInt {a b : Vl} {n : Int} (ha : a.inR) (hb : b.inR) (hn : -9223372036854775808 <= n /\ n < 9223372036854775808) : (Vl.meet a b).hasInt n = (Vl.meetF a b).hasInt n := by
 have h := meetF_inR ha hb
 exact v3 h.1 h.2 hn
theorem mt_sound {a b : Vl} {n : Int} (ha : a.inR) (hb : b.inR) (hn : -9223372036854775808 <= n /\ n < 9223372036854775808) (h1 : a.hasInt n = true) (h2 : b.hasInt n = true) : (Vl.meet a b).hasInt n = true := by
 rw [meet_hasInt ha hb hn]
 rw [<- hasInt_of] at h1 h2
 unfold Vl.hasInt at *
 unfold Vl.meetF
 rw [Bool.and_eq_true] at *
 dsimp only
 rw [Sp.meet_has, h1.1, h2.1, cmeet_of]
 exact ⟨rfl, (meet_law (tidy_c (Vl.of_tidy a).i) (tidy_c (Vl.of_tidy b).i)).2.1 n h1.2 h2.2⟩
theorem mt_exact {a b : Vl} {n : Int} (ha : a.inR) (hb : b.inR) (hn : -9223372036854775808 <= n /\ n < 9223372036854775808) (hf : a.of.i.c.fits b.of.i.c = true) : (Vl.meet a b).hasInt n = (a.hasInt n && b.hasInt n) := by
 cases h : (a.hasInt n && b.hasInt n) with
 | true => rw [Bool.and_eq_true] at h; exact mt_sound ha hb hn h.1 h.2
 | false =>
   cases h3 : (Vl.meet a b).hasInt n with
   | false => rfl
   | true =>
     rw [meet_hasInt ha hb hn] at h3
     unfold Vl.hasInt Vl.meetF at h3
     rw [Bool.and_eq_true] at h3
     dsimp only at h3
     rw [Sp.meet_has, cmeet_of, Bool.and_eq_true] at h3
     have := (meet_law (tidy_c (Vl.of_tidy a).i) (tidy_c (Vl.of_tidy b).i)).2.2.1 hf n h3.2
     rw [<- hasInt_of a, <- hasInt_of b] at h
     unfold Vl.hasInt at h
     rw [h3.1.1, h3.1.2, this.1, this.2] at h
     cases h
structure Iv (a m r s x y : Int) : Prop where
 r0 : 0 <= r
 rm : r < m
 s0 : 0 < s
 sm : s <= m
 x0 : 0 <= x /\ x < m
 y0 : 0 <= y /\ y < m
 g : Int.gcd r s = 1
 dx : m ∣ x * a - r
 dy : m ∣ y * a - s
theorem iv_start {a m : Int} (ha : 0 <= a) (hm : 0 < m) (hg : Int.gcd a m = 1) : Iv a m (a % m) m (1 % m) 0 := by
 have b1 := Int.emod_nonneg a (show m ≠ 0 by omega)
 have b3 := Int.emod_nonneg 1 (show m ≠ 0 by omega)
 have b4 := Int.emod_lt_of_pos 1 hm
 refine ⟨b1, Int.emod_lt_of_pos a hm, hm, Int.le_refl _, ⟨b3, b4⟩, ⟨Int.le_refl _, hm⟩, ?_, ?_, ?_⟩
 . obtain ⟨x, rfl⟩ := Int.eq_ofNat_of_zero_le ha
   obtain ⟨y, rfl⟩ := Int.eq_ofNat_of_zero_le (Int.le_of_lt hm)
   rw [<- Int.natCast_emod, Int.gcd_natCast_natCast]
   rw [Int.gcd_natCast_natCast] at hg
   rw [<- Nat.gcd_rec, Nat.gcd_comm]; exact hg
 . have e : 1 % m * a - a % m = (a - a % m) - (1 - 1 % m) * a := by rw [Int.sub_mul]; omega
   rw [e]
   exact Int.dvd_sub (Int.dvd_self_sub_emod) (Int.dvd_mul_of_dvd_left Int.dvd_self_sub_emod)
 . rw [Int.zero_mul, Int.zero_sub]; exact Int.dvd_neg.2 (Int.dvd_refl m)
theorem iv_step {a m r s x y : Int} (h : Iv a m r s x y) (hr : r ≠ 0) : Iv a m (s % r) r ((y + m - s / r % m * x % m) % m) x /\ (s % r) < r := by
 have h0 := h.r0
 have h1 := h.s0
 have h2 := h.rm
 have hm : 0 < m := by omega
 have b1 := Int.emod_nonneg s hr
 have b2 := Int.emod_lt_of_pos s (show 0 < r by omega)
 refine ⟨⟨b1, by omega, by omega, by omega, ⟨Int.emod_nonneg _ (by omega), Int.emod_lt_of_pos _ hm⟩, h.x0, ?_, inv_step h.dx h.dy, h.dx⟩, b2⟩
 have hg := h.g
 obtain ⟨n, rfl⟩ := Int.eq_ofNat_of_zero_le h0
 obtain ⟨k, rfl⟩ := Int.eq_ofNat_of_zero_le (Int.le_of_lt h1)
 rw [<- Int.natCast_emod, Int.gcd_natCast_natCast, <- Nat.gcd_rec]
 rwa [Int.gcd_natCast_natCast] at hg
theorem iv_prog {a m r s x y : Int} (h : Iv a m r s x y) (hr : r ≠ 0) (hm : m < 9223372036854775808) : (0 <= (IntKind.wrap .u64 (s.tdiv r)).tmod m /\ (IntKind.wrap .u64 (s.tdiv r)).tmod m < m) /\ s.tmod r = s % r /\ (IntKind.wrap .u64 (IntKind.wrap .u64 (y + m) - (IntKind.wrap .u64 (s.tdiv r)).tmod m * x % m)).tmod m = (y + m - s / r % m * x % m) % m := by
 have h0 := h.r0
 have h1 := h.s0
 have h2 := h.rm
 have h3 := h.sm
 have h4 := h.y0
 have hp : 0 < m := by omega
 have hs : 0 <= s := by omega
 have q0 := Int.ediv_nonneg hs h0
 have q1 : s / r <= s := Int.ediv_le_self _ hs
 have e1 : IntKind.wrap .u64 (s.tdiv r) = s / r := by rw [Int.tdiv_eq_ediv_of_nonneg hs, wU_id _ q0 (by omega)]
 have e2 : (s / r).tmod m = s / r % m := Int.tmod_eq_emod_of_nonneg q0
 rw [e1, e2]
 have t0 := Int.emod_nonneg (s / r % m * x) (show m ≠ 0 by omega)
 have t1 := Int.emod_lt_of_pos (s / r % m * x) hp
 refine ⟨⟨Int.emod_nonneg _ (by omega), Int.emod_lt_of_pos _ hp⟩, Int.tmod_eq_emod_of_nonneg hs, ?_⟩
 generalize s / r % m * x % m = t at *
 rw [wU_id (y + m) (by omega) (by omega), wU_id (y + m - t) (by omega) (by omega), Int.tmod_eq_emod_of_nonneg (by omega)]
theorem iv_end {a m s x y : Int} (h : Iv a m 0 s x y) (hg : Int.gcd a m = 1) : invI a m = y := by
 have e : s = 1 := by have := h.g; rw [Int.zero_gcd] at this; have := h.s0; omega
 exact invI_eq hg (inv_end e h.y0 h.dy)
def FCInv : List Ar -> Option Rs
 | [.c (.d (.v (.int .u64 u0))), .c (.d (.v (.int .u64 u1)))] => some ⟨(0 <= u0 /\ u0 < 18446744073709551616) /\ (0 <= u1 /\ u1 < 18446744073709551616) /\ ((0 < u1 /\ u1 < 9223372036854775808) /\ Int.gcd u0 u1 = 1), .va (.c (.d (ut (invI u0 u1)))), []⟩
 | _ => none
theorem fcCInv : FC Tryz.prog 145 FCInv := by
 intro xs pre r us h hp
 unfold FCInv at h
 split at h
 . rename_i u0 u1
   cases h
   obtain ⟨hp0, hp1, hp2⟩ := hp
   refine fcat tys_ok (l := [(144, ⟨[], FCTimes⟩)]) ⟨fcCTimes, trivial⟩ Tryz.func145 rfl (by kernel_rfl) false ?_
   have hst := iv_start hp0.1 hp2.1.1 hp2.2
   have t1 : u0.tmod u1 = u0 % u1 := Int.tmod_eq_emod_of_nonneg hp0.1
   have t2 : (1 : Int).tmod u1 = 1 % u1 := Int.tmod_eq_emod_of_nonneg (by decide)
   obtain ⟨⟨hm0, hm1⟩, hg⟩ := hp2
   repeat' (first | exact trivial | refine ⟨?_, ?_⟩ | intro _)
   all_goals first | (with_reducible apply qq) | (conv => whnf)
   refine scope_ok tys_ok (ls := [(144, ⟨[], FCTimes⟩)]) ⟨fcCTimes, trivial⟩ (by kernel_rfl) 0 rfl (X := Int × Int × Int × Int) (fun x => ⟨[(5, vx (.int .u64 x.1)), (6, vx (.int .u64 x.2.1)), (7, vx (.int .u64 x.2.2.1)), (8, vx (.int .u64 x.2.2.2)), (1, vx (.int .u64 u1))], [], 0, 41⟩) (fun x => x.1.toNat)
    (fun x => Iv u0 u1 x.1 x.2.1 x.2.2.1 x.2.2.2) [5, 6, 7, 8] [] (fun xs _ => match xs with | [a, b, c, d] => (iT a, iT b, iT c, iT d) | _ => (0, 0, 0, 0)) (fun _ xs _ => match xs with | [a, b, c, d] => (iT a, iT b, iT c, iT d) | _ => (0, 0, 0, 0)) [] [] 0 0 ?_ ?_
   . repeat' (first | exact trivial | refine ⟨?_, ?_⟩ | intro _)
     all_goals first | (with_reducible apply qq) | (conv => whnf)
     all_goals (try simp only [iT, beq_iff_eq, beq_eq_false_iff_ne, ne_eq] at *)
     all_goals (try simp only [t1, t2] at *)
     all_goals first | omega | ((with_reducible show idsOk _ _ = true); rfl) | rfl | skip
     all_goals first | (have hz : u0 % u1 = 0 := (by assumption); rw [hz] at hst; exact congrArg (Value.int .u64) (iv_end hst hg).symm) | (have b3 := hst.x0; first | omega | (obtain ⟨p1, p2, p3⟩ := iv_prog hst (by assumption) hm1; have p4 := iv_step hst (by assumption); first | omega | exact p1.1 | exact p1.2 | (rw [p2, p3]; exact p4.1) | (rw [p2]; omega)))
   . rintro ⟨r, s, x, y⟩ hi
     change Iv u0 u1 r s x y at hi
     have hr0 := hi.r0
     have hrm := hi.rm
     have hs0 := hi.s0
     have hsm := hi.sm
     have hx0 := hi.x0
     have hy0 := hi.y0
     repeat' (first | exact trivial | refine ⟨?_, ?_⟩ | intro _)
     all_goals first | (with_reducible apply qq) | (conv => whnf)
     all_goals (try simp only [iT, beq_iff_eq, beq_eq_false_iff_ne, ne_eq] at *)
     all_goals first | omega | ((with_reducible show idsOk _ _ = true); rfl) | rfl | skip
     all_goals first | (have hz : r = 0 := (by assumption); subst hz; exact congrArg (Value.int .u64) (iv_end hi hg).symm) | (obtain ⟨p1, p2, p3⟩ := iv_prog hi (by assumption) hm1; have p4 := iv_step hi (by assumption); first | omega | exact p1.1 | exact p1.2 | (rw [p2, p3]; exact p4.1) | (rw [p2]; omega))
 . cases h
structure Bt (m0 r0 m1 r1 G : Int) : Prop where
 e : G = (Int.gcd m0 m1 : Int)
 p0 : 0 < m0
 p1 : 0 < m1
 a : 0 <= r0 /\ r0 < m0
 b : 0 <= r1 /\ r1 < m1
 h0 : m0 < 9223372036854775808
 h1 : m1 < 9223372036854775808
 l : m0 * (m1 / G) < 9223372036854775808
theorem bt_facts {m0 r0 m1 r1 G : Int} (h : Bt m0 r0 m1 r1 G) :
 (0 < G /\ G <= m0 /\ G <= m1) /\ (0 < m1 / G /\ m1 / G <= m1) /\ (0 < m0 / G /\ m0 / G <= m0) /\ Int.gcd (m0 / G) (m1 / G) = 1 /\ md (IntKind.wrap .i64 (r1 - md r0 m1)) m1 = (r1 - r0) % m1 /\ (0 <= md r0 m1 /\ md r0 m1 < m1) /\ (0 <= (r1 - r0) % m1 /\ (r1 - r0) % m1 < m1) /\ IntKind.wrap .u64 m0 = m0 /\ IntKind.wrap .u64 m1 = m1 /\ IntKind.wrap .u64 (m1.tdiv G) = m1 / G /\ IntKind.wrap .u64 (m0.tdiv G) = m0 / G /\ IntKind.wrap .u64 ((r1 - r0) % m1) = (r1 - r0) % m1 /\ IntKind.wrap .u64 (((r1 - r0) % m1).tdiv G) = (r1 - r0) % m1 / G /\ ((r1 - r0) % m1 / G).tmod (m1 / G) = (r1 - r0) % m1 / G % (m1 / G) /\ (0 <= (r1 - r0) % m1 / G % (m1 / G) /\ (r1 - r0) % m1 / G % (m1 / G) < m1 / G) := by
 obtain ⟨e, p0, p1, a, b, h0, h1, l⟩ := h
 have q := quot_pos p0 p1
 have gq := gcd_quot (N := m1) p0
 rw [<- e] at q gq
 have g0 : G <= m0 := by rw [e]; exact Int.le_of_dvd p0 (Int.gcd_dvd_left ..)
 have g1 : G <= m1 := by rw [e]; exact Int.le_of_dvd p1 (Int.gcd_dvd_right ..)
 have d0 : m0 / G <= m0 := Int.ediv_le_self _ (by omega)
 have d1 : m1 / G <= m1 := Int.ediv_le_self _ (by omega)
 have k1 := md_bound r0 m1 p1
 have k2 : IntKind.wrap .i64 (r1 - md r0 m1) = r1 - md r0 m1 := wI_id _ (by omega) (by omega)
 have k3 := sub_md r1 r0 m1 p1
 have k4 := Int.emod_nonneg (r1 - r0) (show m1 ≠ 0 by omega)
 have k5 := Int.emod_lt_of_pos (r1 - r0) p1
 have k6 : 0 <= (r1 - r0) % m1 / G := Int.ediv_nonneg k4 (by omega)
 have k7 : (r1 - r0) % m1 / G <= (r1 - r0) % m1 := Int.ediv_le_self _ k4
 refine ⟨⟨q.2.2, g0, g1⟩, ⟨q.1, d1⟩, ⟨q.2.1, d0⟩, gq, by rw [k2]; exact k3, k1, ⟨k4, k5⟩, wU_id _ (by omega) (by omega), wU_id _ (by omega) (by omega), ?_, ?_, wU_id _ (by omega) (by omega), ?_, Int.tmod_eq_emod_of_nonneg k6, Int.emod_nonneg _ (by omega), Int.emod_lt_of_pos _ q.1⟩
 . rw [Int.tdiv_eq_ediv_of_nonneg (by omega), wU_id _ (by omega) (by omega)]
 . rw [Int.tdiv_eq_ediv_of_nonneg (by omega), wU_id _ (by omega) (by omega)]
 . rw [Int.tdiv_eq_ediv_of_nonneg k4, wU_id _ k6 (by omega)]
theorem bt_end {m0 r0 m1 r1 G : Int} (h : Bt m0 r0 m1 r1 G) : (0 <= stepI m0 m1 r0 r1 /\ stepI m0 m1 r0 r1 < 9223372036854775808) /\ (Wd.val (wd (Wd.val (wd r0) + Wd.val (wd (m0 * stepI m0 m1 r0 r1)))) + 9223372036854775808) % 18446744073709551616 - 9223372036854775808 = r0 + m0 * stepI m0 m1 r0 r1 := by
 have f := bt_facts h
 obtain ⟨e, p0, p1, a, b, h0, h1, l⟩ := h
 have s := step_r (R := r0) (S := r1) p0 p1
 rw [<- e] at s
 have k1 : m0 * stepI m0 m1 r0 r1 <= m0 * (m1 / G - 1) := Int.mul_le_mul_of_nonneg_left (by omega) (by omega)
 have k2 : 0 <= m0 * stepI m0 m1 r0 r1 := Int.mul_nonneg (by omega) s.1
 rw [Int.mul_sub, Int.mul_one] at k1
 refine ⟨⟨s.1, by omega⟩, ?_⟩
 generalize m0 * stepI m0 m1 r0 r1 = p at *
 generalize m0 * (m1 / G) = q at *
 rw [wd_val (v := r0) (by omega) (by omega), wd_val (v := p) (by omega) (by omega), wd_val (v := r0 + p) (by omega) (by omega)]
 omega
theorem bt_rng {m0 r0 m1 r1 G : Int} (h : Bt m0 r0 m1 r1 G) : 0 <= r0 + m0 * stepI m0 m1 r0 r1 /\ r0 + m0 * stepI m0 m1 r0 r1 < 9223372036854775808 := by
 obtain ⟨e, p0, p1, a, b, h0, h1, l⟩ := h
 have s := step_r (R := r0) (S := r1) p0 p1
 rw [<- e] at s
 have k1 : m0 * stepI m0 m1 r0 r1 <= m0 * (m1 / G - 1) := Int.mul_le_mul_of_nonneg_left (by omega) (by omega)
 have k2 : 0 <= m0 * stepI m0 m1 r0 r1 := Int.mul_nonneg (by omega) s.1
 rw [Int.mul_sub, Int.mul_one] at k1
 omega
theorem invI_r {a m : Int} (h : invOk a m (invI a m)) : 0 <= invI a m /\ invI a m < m := h.1
theorem step_eq {m0 r0 m1 r1 G : Int} (e : G = (Int.gcd m0 m1 : Int)) : (r1 - r0) % m1 / G % (m1 / G) * invI (m0 / G) (m1 / G) % (m1 / G) = stepI m0 m1 r0 r1 := by subst e; rfl
def FCBoth : List Ar -> Option Rs
 | [.agg [.d (.v (.bool b0)), .d (.v (.int .i64 m0)), .d (.v (.int .i64 r0))], .agg [.d (.v (.bool b1)), .d (.v (.int .i64 m1)), .d (.v (.int .i64 r1))], .c (.d (.v (.int .u64 u2)))] => some ⟨(Cg.inR ⟨b0, m0, r0⟩) /\ (Cg.inR ⟨b1, m1, r1⟩) /\ (0 <= u2 /\ u2 < 18446744073709551616) /\ (Bt m0 r0 m1 r1 u2), .va (.c (.d (it (r0 + m0 * stepI m0 m1 r0 r1)))), []⟩
 | _ => none
theorem fcCBoth : FC Tryz.prog 101 FCBoth := by
 intro xs pre r us h hp
 unfold FCBoth at h
 split at h
 . rename_i b0 m0 r0 b1 m1 r1 u2
   cases h
   obtain ⟨hp0, hp1, hp2, hp3⟩ := hp
   refine fcat tys_ok (l := [(86, ⟨[], FCMod⟩), (145, ⟨[], FCInv⟩), (144, ⟨[], FCTimes⟩), (138, ⟨[], FWOf⟩), (100, ⟨[], FWMul⟩), (146, ⟨[], FWAdd⟩), (141, ⟨[], FWLow⟩)]) ⟨fcCMod, fcCInv, fcCTimes, fcWOf, fcWMul, fcWAdd, fcWLow, trivial⟩ Tryz.func101 rfl (by kernel_rfl) false ?_
   have hb := hp3
   obtain ⟨f1, f2, f3, f4, f5, f6, f7, f8, f9, f10, f11, f12, f13, f14, f15⟩ := bt_facts hb
   obtain ⟨z1, z2⟩ := bt_end hb
   have zw : IntKind.wrap .i64 (stepI m0 m1 r0 r1) = stepI m0 m1 r0 r1 := wI_id _ (by omega) z1.2
   have be := hb.e
   have q0 := hb.p0
   have q1 := hb.p1
   have hqa := hb.a
   have hqb := hb.b
   have q2 := hb.h0
   have q3 := hb.h1
   have gU := invI_r (a := m0 / u2) (m := m1 / u2) (by rw [be]; exact inv_has q0 q1)
   repeat' (first | exact trivial | refine ⟨?_, ?_⟩ | intro _)
   all_goals first | (with_reducible apply qq) | (conv => whnf)
   all_goals (try simp only [f5, f8, f9, f10, f11, f12, f13, f14, step_eq be, zw])
   all_goals first | omega | (rw [wI]; omega) | exact f4 | exact f15.1 | exact f15.2 | (exfalso; have q := ‹(_ : Int) = 0›; (try simp only [f5, f8, f9, f10, f11, f12, f13, f14] at q); omega) | exact congrArg (Value.int .i64) z2 | exact wd_ok _ | exact (wd_ok _).1.1 | exact (wd_ok _).1.2 | exact (wd_ok _).2.1 | exact (wd_ok _).2.2
 . cases h
section
variable {a b : Cg}
theorem me_1 (h : (!a.clean.some) = true) : Cg.meet a b = Cg.none := by
 unfold Cg.meet Cg.meet0; rw [h]; rfl
theorem me_2 (ha : (!a.clean.some) = false) (h : (!b.clean.some) = true) : Cg.meet a b = Cg.none := by
 unfold Cg.meet Cg.meet0; rw [h, ha]; rfl
theorem me_s (ha : (!a.clean.some) = false) (hb : (!b.clean.some) = false) : ¬ ((!a.clean.some || !b.clean.some) = true) := by rw [ha, hb]; decide
variable (ha : (!a.clean.some) = false) (hb : (!b.clean.some) = false)
include ha hb
theorem me_3 (zx : (a.clean.m == 0) = true) (h : (!Cg.has b.clean a.clean.r) = true) : Cg.meet a b = Cg.none := by
 unfold Cg.meet Cg.meet0; rw [if_neg (me_s ha hb), if_pos (by simpa using zx), if_neg (by simpa using h)]
theorem me_4 (zx : (a.clean.m == 0) = true) (h : (!Cg.has b.clean a.clean.r) = false) : Cg.meet a b = a.clean := by
 unfold Cg.meet Cg.meet0; rw [if_neg (me_s ha hb), if_pos (by simpa using zx), if_pos (by simpa using h)]
theorem me_5 (zx : (a.clean.m == 0) = false) (zy : (b.clean.m == 0) = true) (h : (!Cg.has a.clean b.clean.r) = true) : Cg.meet a b = Cg.none := by
 unfold Cg.meet Cg.meet0; rw [if_neg (me_s ha hb), if_neg (by simpa using zx), if_pos (by simpa using zy), if_neg (by simpa using h)]
theorem me_6 (zx : (a.clean.m == 0) = false) (zy : (b.clean.m == 0) = true) (h : (!Cg.has a.clean b.clean.r) = false) : Cg.meet a b = b.clean := by
 unfold Cg.meet Cg.meet0; rw [if_neg (me_s ha hb), if_neg (by simpa using zx), if_pos (by simpa using zy), if_pos (by simpa using h)]
variable (zx : (a.clean.m == 0) = false) (zy : (b.clean.m == 0) = false)
include zx zy
theorem me_p : (0 < a.clean.m /\ 0 < b.clean.m) /\ (0 < (Int.gcd a.clean.m b.clean.m : Int) /\ (Int.gcd a.clean.m b.clean.m : Int) <= a.clean.m /\ (Int.gcd a.clean.m b.clean.m : Int) <= b.clean.m) := by
 have h1 := Cg.clean_nn a
 have h2 := Cg.clean_nn b
 have h3 : a.clean.m ≠ 0 := by simpa using zx
 have h4 : b.clean.m ≠ 0 := by simpa using zy
 have p0 : 0 < a.clean.m := by omega
 have p1 : 0 < b.clean.m := by omega
 exact ⟨⟨p0, p1⟩, (quot_pos p0 p1).2.2, Int.le_of_dvd p0 (Int.gcd_dvd_left ..), Int.le_of_dvd p1 (Int.gcd_dvd_right ..)⟩
theorem me_q (ra : a.clean.inR) (rb : b.clean.inR) : IntKind.wrap .i64 (Int.gcd a.clean.m b.clean.m : Int) = (Int.gcd a.clean.m b.clean.m : Int) /\ IntKind.wrap .i64 (b.clean.m.tdiv (Int.gcd a.clean.m b.clean.m : Int)) = b.clean.m / (Int.gcd a.clean.m b.clean.m : Int) /\ Wd.val (wd (a.clean.m * (b.clean.m / (Int.gcd a.clean.m b.clean.m : Int)))) = Cg.lc a.clean b.clean /\ (0 <= b.clean.m / (Int.gcd a.clean.m b.clean.m : Int) /\ b.clean.m / (Int.gcd a.clean.m b.clean.m : Int) < 9223372036854775808) := by
 obtain ⟨⟨p0, p1⟩, g0, g1, g2⟩ := me_p ha hb zx zy
 have q := quot_pos p0 p1
 have d := Int.ediv_le_self (Int.gcd a.clean.m b.clean.m : Int) (show 0 <= b.clean.m by omega)
 unfold Cg.inR at ra rb
 have m1 : a.clean.m * (b.clean.m / (Int.gcd a.clean.m b.clean.m : Int)) <= 9223372036854775808 * 9223372036854775808 := Int.mul_le_mul (by omega) (by omega) (by omega) (by decide)
 have m0 : 0 <= a.clean.m * (b.clean.m / (Int.gcd a.clean.m b.clean.m : Int)) := Int.mul_nonneg (by omega) (by omega)
 refine ⟨wI_id _ (by omega) (by omega), ?_, wd_val (by omega) (by omega), by omega, by omega⟩
 rw [Int.tdiv_eq_ediv_of_nonneg (by omega), wI_id _ (by omega) (by omega)]
theorem me_7 (ra : a.clean.inR) (rb : b.clean.inR) (h : ((apartI a.clean.r b.clean.r).tmod (Int.gcd a.clean.m b.clean.m : Int) != 0) = true) : Cg.meet a b = Cg.none := by
 rw [Int.tmod_eq_emod_of_nonneg (apart_u ra.2 rb.2).1] at h
 unfold Cg.meet Cg.meet0; rw [if_neg (me_s ha hb), if_neg (by simpa using zx), if_neg (by simpa using zy), if_neg (by simpa using h)]
theorem me_7' (ra : a.clean.inR) (rb : b.clean.inR) (h : ((apartI a.clean.r b.clean.r).tmod (Int.gcd a.clean.m b.clean.m : Int) != 0) = false) : Cg.meet a b = (if wIntB (Cg.lc a.clean b.clean) = true then Cg.of (Cg.lc a.clean b.clean) (a.clean.r + a.clean.m * stepI a.clean.m b.clean.m a.clean.r b.clean.r) else if b.clean.m > a.clean.m then b.clean else a.clean) := by
 rw [Int.tmod_eq_emod_of_nonneg (apart_u ra.2 rb.2).1] at h
 unfold Cg.meet Cg.meet0; rw [if_neg (me_s ha hb), if_neg (by simpa using zx), if_neg (by simpa using zy), if_pos (by simpa using h)]
theorem me_8 (ra : a.clean.inR) (rb : b.clean.inR) (h : ((apartI a.clean.r b.clean.r).tmod (Int.gcd a.clean.m b.clean.m : Int) != 0) = false) (hw : wIntB (Cg.lc a.clean b.clean) = true) : Cg.meet a b = Cg.of (wIntV (Cg.lc a.clean b.clean)) (a.clean.r + a.clean.m * stepI a.clean.m b.clean.m a.clean.r b.clean.r) := by
 have e : wIntV (Cg.lc a.clean b.clean) = Cg.lc a.clean b.clean := (wIn (of_decide_eq_true hw)).1
 rw [me_7' ha hb zx zy ra rb h, if_pos hw, e]
theorem me_9 (ra : a.clean.inR) (rb : b.clean.inR) (h : ((apartI a.clean.r b.clean.r).tmod (Int.gcd a.clean.m b.clean.m : Int) != 0) = false) (hw : wIntB (Cg.lc a.clean b.clean) = false) (hg : decide (b.clean.m > a.clean.m) = true) : Cg.meet a b = b.clean := by
 rw [me_7' ha hb zx zy ra rb h, if_neg (by rw [hw]; decide), if_pos (of_decide_eq_true hg)]
theorem me_10 (ra : a.clean.inR) (rb : b.clean.inR) (h : ((apartI a.clean.r b.clean.r).tmod (Int.gcd a.clean.m b.clean.m : Int) != 0) = false) (hw : wIntB (Cg.lc a.clean b.clean) = false) (hg : decide (b.clean.m > a.clean.m) = false) : Cg.meet a b = a.clean := by
 rw [me_7' ha hb zx zy ra rb h, if_neg (by rw [hw]; decide), if_neg (of_decide_eq_false hg)]
theorem me_bt (ra : a.clean.inR) (rb : b.clean.inR) (hw : wIntB (Cg.lc a.clean b.clean) = true) : Bt a.clean.m a.clean.r b.clean.m b.clean.r (Int.gcd a.clean.m b.clean.m : Int) := by
 obtain ⟨⟨p0, p1⟩, _⟩ := me_p ha hb zx zy
 have h := of_decide_eq_true hw
 exact ⟨rfl, p0, p1, (Cg.clean_red a).2 p0, (Cg.clean_red b).2 p1, ra.1.2, rb.1.2, h.2⟩
end
def FCMeet : List Ar -> Option Rs
 | [.agg [.d (.v (.bool b0)), .d (.v (.int .i64 m0)), .d (.v (.int .i64 r0))], .agg [.d (.v (.bool b1)), .d (.v (.int .i64 m1)), .d (.v (.int .i64 r1))]] => some ⟨(Cg.inR ⟨b0, m0, r0⟩) /\ (Cg.inR ⟨b1, m1, r1⟩), .va (Cg.ar (Cg.meet (⟨b0, m0, r0⟩ : Cg) (⟨b1, m1, r1⟩ : Cg))), []⟩
 | _ => none
theorem fcCMeet : FC Tryz.prog 64 FCMeet := by
 intro xs pre r us h hp
 unfold FCMeet at h
 split at h
 . rename_i b0 m0 r0 b1 m1 r1
   cases h
   obtain ⟨hp0, hp1⟩ := hp
   refine fcat tys_ok (l := [(85, ⟨[], FCClean⟩), (96, ⟨[], FCNone⟩), (48, ⟨[], FCHas⟩), (97, ⟨[], FCGcd⟩), (98, ⟨[], FCApart⟩), (100, ⟨[], FWMul⟩), (99, ⟨[], FWInt⟩), (101, ⟨[], FCBoth⟩), (61, ⟨[], FCOf⟩)]) ⟨fcCClean, fcCNone, fcCHas, fcCGcd, fcCApart, fcWMul, fcWInt, fcCBoth, fcCOf, trivial⟩ Tryz.func64 rfl (by kernel_rfl) false ?_
   have hx := Cg.clean_inR hp0
   have hy := Cg.clean_inR hp1
   have hxx := hx
   have hyy := hy
   unfold Cg.inR at hxx hyy
   have hx0 := Cg.clean_nn ⟨b0, m0, r0⟩
   have hy0 := Cg.clean_nn ⟨b1, m1, r1⟩
   have ux := wU_id (Cg.clean ⟨b0, m0, r0⟩).m hx0 (by have := hx.1.2; omega)
   have uy := wU_id (Cg.clean ⟨b1, m1, r1⟩).m hy0 (by have := hy.1.2; omega)
   have vx : 0 <= (Cg.clean ⟨b0, m0, r0⟩).m /\ (Cg.clean ⟨b0, m0, r0⟩).m < 18446744073709551616 := ⟨hx0, by have := hx.1.2; omega⟩
   have vy : 0 <= (Cg.clean ⟨b1, m1, r1⟩).m /\ (Cg.clean ⟨b1, m1, r1⟩).m < 18446744073709551616 := ⟨hy0, by have := hy.1.2; omega⟩
   have g1 := gcd_u vx vy
   have g2 := apart_u hx.2 hy.2
   have g3 := gcdJ_u hx hy hx0 hy0
   repeat' (first | exact trivial | (with_reducible first | assumption | exact hx.1 | exact hx.2 | exact hy.1 | exact hy.2 | exact vx | exact vy | exact g1 | exact g2) | refine ⟨?_, ?_⟩ | intro _)
   all_goals first | (with_reducible apply qq) | (conv => whnf)
   all_goals (try rw [ux] at *)
   all_goals (try rw [uy] at *)
   all_goals first | (with_reducible first | exact hxx.1.1 | exact hxx.1.2 | exact hxx.2.1 | exact hxx.2.2 | exact hyy.1.1 | exact hyy.1.2 | exact hyy.2.1 | exact hyy.2.2 | exact vx.1 | exact vx.2 | exact vy.1 | exact vy.2) | skip
   all_goals first | (exfalso; simp_all; done) | (have e := me_1 (a := ⟨b0, m0, r0⟩) (b := ⟨b1, m1, r1⟩) ‹_›; first | exact congrArg (fun i : Cg => Value.bool i.some) e.symm | exact congrArg (fun i : Cg => Value.int .i64 i.m) e.symm | exact congrArg (fun i : Cg => Value.int .i64 i.r) e.symm | fail) | (have e := me_2 (a := ⟨b0, m0, r0⟩) (b := ⟨b1, m1, r1⟩) ‹_› ‹_›; first | exact congrArg (fun i : Cg => Value.bool i.some) e.symm | exact congrArg (fun i : Cg => Value.int .i64 i.m) e.symm | exact congrArg (fun i : Cg => Value.int .i64 i.r) e.symm | fail) | (have e := me_3 (a := ⟨b0, m0, r0⟩) (b := ⟨b1, m1, r1⟩) ‹_› ‹_› ‹_› ‹_›; first | exact congrArg (fun i : Cg => Value.bool i.some) e.symm | exact congrArg (fun i : Cg => Value.int .i64 i.m) e.symm | exact congrArg (fun i : Cg => Value.int .i64 i.r) e.symm | fail) | (have e := me_4 (a := ⟨b0, m0, r0⟩) (b := ⟨b1, m1, r1⟩) ‹_› ‹_› ‹_› ‹_›; first | exact congrArg (fun i : Cg => Value.bool i.some) e.symm | exact congrArg (fun i : Cg => Value.int .i64 i.m) e.symm | exact congrArg (fun i : Cg => Value.int .i64 i.r) e.symm | fail) | (have e := me_5 (a := ⟨b0, m0, r0⟩) (b := ⟨b1, m1, r1⟩) ‹_› ‹_› ‹_› ‹_› ‹_›; first | exact congrArg (fun i : Cg => Value.bool i.some) e.symm | exact congrArg (fun i : Cg => Value.int .i64 i.m) e.symm | exact congrArg (fun i : Cg => Value.int .i64 i.r) e.symm | fail) | (have e := me_6 (a := ⟨b0, m0, r0⟩) (b := ⟨b1, m1, r1⟩) ‹_› ‹_› ‹_› ‹_› ‹_›; first | exact congrArg (fun i : Cg => Value.bool i.some) e.symm | exact congrArg (fun i : Cg => Value.int .i64 i.m) e.symm | exact congrArg (fun i : Cg => Value.int .i64 i.r) e.symm | fail) | (have e := me_7 (a := ⟨b0, m0, r0⟩) (b := ⟨b1, m1, r1⟩) ‹_› ‹_› ‹_› ‹_› hx hy ‹_›; first | exact congrArg (fun i : Cg => Value.bool i.some) e.symm | exact congrArg (fun i : Cg => Value.int .i64 i.m) e.symm | exact congrArg (fun i : Cg => Value.int .i64 i.r) e.symm | fail) | skip
   all_goals (obtain ⟨⟨p0, p1⟩, g0, gl0, gl1⟩ := me_p (a := ⟨b0, m0, r0⟩) (b := ⟨b1, m1, r1⟩) ‹_› ‹_› ‹_› ‹_›; obtain ⟨q1, q2, q3, q4⟩ := me_q (a := ⟨b0, m0, r0⟩) (b := ⟨b1, m1, r1⟩) ‹_› ‹_› ‹_› ‹_› hx hy)
   all_goals (try simp only [q1, q2, q3, Wd.eta'] at *)
   all_goals first | omega | exact (wd_ok _).1.1 | exact (wd_ok _).1.2 | exact (wd_ok _).2.1 | exact (wd_ok _).2.2 | exact (wInt_r _).1 | exact (wInt_r _).2 | (have bt := me_bt (a := ⟨b0, m0, r0⟩) (b := ⟨b1, m1, r1⟩) ‹_› ‹_› ‹_› ‹_› hx hy ‹wIntB _ = true›; have br := bt_rng bt; first | exact bt | omega | fail) | (have e := me_8 (a := ⟨b0, m0, r0⟩) (b := ⟨b1, m1, r1⟩) ‹_› ‹_› ‹_› ‹_› hx hy ‹_› ‹_›; first | exact congrArg (fun i : Cg => Value.bool i.some) e.symm | exact congrArg (fun i : Cg => Value.int .i64 i.m) e.symm | exact congrArg (fun i : Cg => Value.int .i64 i.r) e.symm | fail) | (have e := me_9 (a := ⟨b0, m0, r0⟩) (b := ⟨b1, m1, r1⟩) ‹_› ‹_› ‹_› ‹_› hx hy ‹_› ‹_› ‹_›; first | exact congrArg (fun i : Cg => Value.bool i.some) e.symm | exact congrArg (fun i : Cg => Value.int .i64 i.m) e.symm | exact congrArg (fun i : Cg => Value.int .i64 i.r) e.symm | fail) | (have e := me_10 (a := ⟨b0, m0, r0⟩) (b := ⟨b1, m1, r1⟩) ‹_› ‹_› ‹_› ‹_› hx hy ‹_› ‹_› ‹_›; first | exact congrArg (fun i : Cg => Value.bool i.some) e.symm | exact congrArg (fun i : Cg => Value.int .i64 i.m) e.symm | exact congrArg (fun i : Cg => Value.int .i64 i.r) e.symm | fail)
 . cases h
theorem gN_lst2 (l : List ByteArray) : gN l.length (fun i => [st (gT [st (atS l i)])]) = l := gN_lst l
theorem meetS_len (l m : List ByteArray) : (meetS l m).length <= l.length := List.length_filter_le _ _
theorem okV_meetF {a b : Vl} (ha : okV a) (hb : okV b) : okV (Vl.meetF a b) := by
 refine ⟨⟨?_, fun _ _ => rfl⟩, meetF_inR ha.2 hb.2⟩
 show (ofS (meetS (ofS a.t.names) (ofS b.t.names))).length * 16 <= 140737488351232
 have h1 := ofS_len (meetS (ofS a.t.names) (ofS b.t.names))
 have h2 := meetS_len (ofS a.t.names) (ofS b.t.names)
 have h3 := ofS_len a.t.names
 have := ha.1.1
 omega
def FVMeet : List Ar -> Option Rs
 | [.agg [.d (.v (.bool s0)), .d (.v (.int .i64 l0)), .d (.v (.int .i64 h0)), .d (.v (.bool b0)), .d (.v (.int .i64 m0)), .d (.v (.int .i64 r0)), .d (.v (.bool z0)), .d (.lst 1 n0 f0)], .agg [.d (.v (.bool s1)), .d (.v (.int .i64 l1)), .d (.v (.int .i64 h1)), .d (.v (.bool b1)), .d (.v (.int .i64 m1)), .d (.v (.int .i64 r1)), .d (.v (.bool z1)), .d (.lst 1 n1 f1)]] => some ⟨((n0 * 16 <= 140737488351232 /\ ∀ i, i < n0 -> f0 i = [st (gT (f0 i))]) /\ Sp.inR ⟨s0, l0, h0⟩ /\ Cg.inR ⟨b0, m0, r0⟩) /\ ((n1 * 16 <= 140737488351232 /\ ∀ i, i < n1 -> f1 i = [st (gT (f1 i))]) /\ Sp.inR ⟨s1, l1, h1⟩ /\ Cg.inR ⟨b1, m1, r1⟩), .va (Vl.ar (Vl.meet (⟨⟨⟨s0, l0, h0⟩, ⟨b0, m0, r0⟩⟩, ⟨z0, gN n0 f0⟩⟩ : Vl) (⟨⟨⟨s1, l1, h1⟩, ⟨b1, m1, r1⟩⟩, ⟨z1, gN n1 f1⟩⟩ : Vl))), []⟩
 | _ => none
theorem fcVMeet : FC Tryz.prog 35 FVMeet := by
 intro xs pre r us h hp
 unfold FVMeet at h
 split at h
 . rename_i s0 l0 h0 b0 m0 r0 z0 n0 f0 s1 l1 h1 b1 m1 r1 z1 n1 f1
   cases h
   obtain ⟨hp0, hp1⟩ := hp
   refine FCat.of_eq (as' := [.agg [.d (.v (.bool s0)), .d (.v (.int .i64 l0)), .d (.v (.int .i64 h0)), .d (.v (.bool b0)), .d (.v (.int .i64 m0)), .d (.v (.int .i64 r0)), .d (.v (.bool z0)), .d (.lst 1 n0 fun i => [st (gT (f0 i))])], .agg [.d (.v (.bool s1)), .d (.v (.int .i64 l1)), .d (.v (.int .i64 h1)), .d (.v (.bool b1)), .d (.v (.int .i64 m1)), .d (.v (.int .i64 r1)), .d (.v (.bool z1)), .d (.lst 1 n1 fun i => [st (gT (f1 i))])]]) ?_ rfl rfl ?_
   . repeat' (first | exact trivial | exact rfl | refine ⟨?_, ?_⟩ | fail)
     all_goals first | exact hp0.2 | exact hp1.2 | exact hp2.2 | (intro i hi; exact (hp0.2 i hi).1) | (intro i hi; exact (hp1.2 i hi).1) | (intro i hi; exact (hp2.2 i hi).1) | grind
   refine fcat tys_ok (l := [(62, ⟨[], FVOf⟩), (63, ⟨[], FSMeet⟩), (64, ⟨[], FCMeet⟩), (65, ⟨[], FNMeet⟩), (66, ⟨[], FVValue⟩), (60, ⟨[], FVReduce⟩)]) ⟨fcVOf, fcSMeet, fcCMeet, fcNMeet, fcVValue, fcVReduce, trivial⟩ Tryz.func35 rfl (by kernel_rfl) true ?_
   have hv0 : okV (⟨⟨⟨s0, l0, h0⟩, ⟨b0, m0, r0⟩⟩, ⟨z0, gN n0 fun i => [st (gT (f0 i))]⟩⟩ : Vl) := ⟨⟨(by rw [gN_length]; exact hp0.1.1), fun _ _ => rfl⟩, hp0.2⟩
   have hv1 : okV (⟨⟨⟨s1, l1, h1⟩, ⟨b1, m1, r1⟩⟩, ⟨z1, gN n1 fun i => [st (gT (f1 i))]⟩⟩ : Vl) := ⟨⟨(by rw [gN_length]; exact hp1.1.1), fun _ _ => rfl⟩, hp1.2⟩
   have ho0 := okV_of hv0
   have ho1 := okV_of hv1
   have hoo0 := okV_of ho0
   have hoo1 := okV_of ho1
   have hl0 : (Vl.of (⟨⟨⟨s0, l0, h0⟩, ⟨b0, m0, r0⟩⟩, ⟨z0, gN n0 fun i => [st (gT (f0 i))]⟩⟩ : Vl)).t.names.length <= n0 := by have := ofS_len (gN n0 f0); rw [gN_length] at this; exact this
   have hl1 : (Vl.of (⟨⟨⟨s1, l1, h1⟩, ⟨b1, m1, r1⟩⟩, ⟨z1, gN n1 fun i => [st (gT (f1 i))]⟩⟩ : Vl)).t.names.length <= n1 := by have := ofS_len (gN n1 f1); rw [gN_length] at this; exact this
   have hsj := Sp.join_inR ho0.2.1 ho1.2.1
   have hcj := Cg.join_inR ho0.2.2 ho1.2.2
   unfold okV at ho0 ho1 hoo0 hoo1
   have hmf := okV_meetF hv0 hv1
   unfold okV at hmf
   repeat' (first | exact trivial | (with_reducible first | assumption | exact ho0.1 | exact ho1.1 | exact ho0.2.1 | exact ho0.2.2 | exact ho1.2.1 | exact ho1.2.2 | exact hp0.1 | exact hp1.1 | exact hp0.2.1 | exact hp0.2.2 | exact hp1.2.1 | exact hp1.2.2 | exact hmf.1 | exact hmf.2.1 | exact hmf.2.2) | refine ⟨?_, ?_⟩ | intro _)
   all_goals first | (with_reducible apply qq) | (conv => whnf)
   all_goals (try simp only [gN_lst, gN_lst2, gN_canon] at *)
   all_goals first | rfl | (with_reducible first | exact hp0.1.1 | exact hp1.1.1) | exact hmf.1.1 | exact hmf.2.1.1.1 | exact hmf.2.1.1.2 | exact hmf.2.1.2.1 | exact hmf.2.1.2.2 | exact hmf.2.2.1.1 | exact hmf.2.2.1.2 | exact hmf.2.2.2.1 | exact hmf.2.2.2.2
 . cases h
open Go.RowKit Go.Lib Go.Sort
def adrV (s : ByteArray) (b : Bool) : Vl := if b = true then ⟨Ig.zero, ⟨false, ofS (ofS [s])⟩⟩ else Vl.zero
def ixT (L : List ByteArray) (s : ByteArray) : Int := match L.findIdx? (fun x => s.toList == x.toList) with
 | some i => i
 | none => -1
def hasT (L : List ByteArray) (s : ByteArray) : Bool := L.any fun x => decide (s = x)
theorem hasT_iff {L : List ByteArray} {s : ByteArray} : hasT L s = true ↔ s ∈ L := by
 unfold hasT
 rw [List.any_eq_true]
 exact ⟨fun ⟨x, h1, h2⟩ => of_decide_eq_true h2 ▸ h1, fun h => ⟨s, h, decide_eq_true rfl⟩⟩
theorem atS_get {L : List ByteArray} {k : Nat} (h : k < L.length) : atS L k = L[k] := by unfold atS; rw [List.getD_eq_getElem?_getD, List.getElem?_eq_getElem h]; rfl
theorem ixT_some {s : ByteArray} {L : List ByteArray} {i : Nat} (hi : i < L.length) (h1 : ∀ k, k < i -> (s.toList == (atS L k).toList) = false) (h2 : (s.toList == (atS L i).toList) = true) : ixT L s = i := by
 unfold ixT
 have : L.findIdx? (fun x => s.toList == x.toList) = some i := by
  rw [List.findIdx?_eq_some_iff_getElem]
  refine ⟨hi, by rw [<- atS_get hi]; exact h2, fun j hj => ?_⟩
  rw [<- atS_get (by omega), h1 j hj]; exact Bool.false_ne_true
 rw [this]
theorem ixT_none {s : ByteArray} {L : List ByteArray} (h1 : ∀ k, k < L.length -> (s.toList == (atS L k).toList) = false) : ixT L s = -1 := by
 unfold ixT
 have : L.findIdx? (fun x => s.toList == x.toList) = none := by
  rw [List.findIdx?_eq_none_iff]
  intro x hx
  obtain ⟨k, hk, rfl⟩ := List.mem_iff_getElem.1 hx
  have := h1 k hk
  rw [atS_get hk] at this; exact this
 rw [this]
theorem ixT_ge (L : List ByteArray) (s : ByteArray) : decide (ixT L s ≥ 0) = hasT L s := by
 unfold ixT
 cases h : L.findIdx? (fun x => s.toList == x.toList) with
 | some i =>
   rw [List.findIdx?_eq_some_iff_getElem] at h
   obtain ⟨h1, h2, _⟩ := h
   rw [seq_iff] at h2
   have e := of_decide_eq_true h2
   show decide ((i : Int) ≥ 0) = _
   rw [decide_eq_true (by omega)]
   exact (hasT_iff.2 (e ▸ List.getElem_mem h1)).symm
 | none =>
   rw [List.findIdx?_eq_none_iff] at h
   have : s ∉ L := fun hm => by
    have := h s hm
    rw [seq_iff, decide_eq_true rfl] at this; cases this
   rw [decide_eq_false (by decide)]
   cases hh : hasT L s with
   | false => rfl
   | true => exact absurd (hasT_iff.1 hh) this
theorem rowT_eq {n : Nat} {f : Nat -> List DV} (h : ∀ i, i < n -> f i = [st (gT (f i))]) : ∀ i, i < n -> f i = [st (atS (gN n f) i)] := fun i hi => by
 rw [h i hi]
 unfold gN atS
 simp [List.getD_eq_getElem?_getD, hi]
theorem canonTo {n : Nat} {f : Nat -> List DV} (h : ∀ i, i < n -> f i = [st (gT (f i))]) : icE (.ow 1 n f) (.ow 1 n (fun i => [st (atS (gN n f) i)])) :=
 ⟨rfl, rfl, fun i hi => by rw [rowT_eq h i hi]; exact ⟨rfl, fun j a b ha hb => by rw [ha] at hb; cases hb; exact .refl _⟩⟩
def arrS (L : List Gl) : Nat -> List ByteArray
 | 0 => []
 | i + 1 => if (decide ((glG L (atG L i).name).size > 0) && !hasT (arrS L i) (atG L i).name) = true then arrS L i ++ [(atG L i).name] else arrS L i
theorem arrS_len (L : List Gl) : ∀ i, (arrS L i).length <= i
 | 0 => Nat.le_refl 0
 | i + 1 => by
   have := arrS_len L i
   unfold arrS
   split
   . rw [List.length_append]; simp; omega
   . omega
def FAddr : List Ar -> Option Rs
 | [.c (.d (.v (.string x0))), .c (.d (.v (.bool b1)))] => some ⟨True, .va (Vl.ar (adrV x0 b1)), []⟩
 | _ => none
def FTIxO : List Ar -> Option Rs
 | [.c (.ow 1 n0 f0), .c (.d (.v (.string x1)))] => some ⟨(n0 * 16 <= 140737488351232 /\ ∀ i, i < n0 -> f0 i = [st (gT (f0 i))]), .va (.c (.d (it (ixT (gN n0 f0) x1)))), [some (fun i => [st (atS (gN n0 f0) i)])]⟩
 | _ => none
theorem fcTIxO : FC Tryz.prog 59 FTIxO := by
 intro xs pre r us h hp
 unfold FTIxO at h
 split at h
 . rename_i n0 f0 x1
   cases h
   have hp0 := hp
   refine FCat.deep (ys := [.c (.ow 1 n0 fun i => [st (atS (gN n0 f0) i)]), .c (.d (.v (.string x1)))]) ?_ ?_
   . repeat' (first | exact trivial | exact rfl | exact DvE.refl _ | refine ⟨?_, ?_⟩ | fail)
     all_goals first | exact (canonTo hp0.2).2.2
   refine fcat tys_ok (l := []) trivial Tryz.func59 rfl (by kernel_rfl) false ?_
   have hn := hp0.1
   have hlen := gN_length n0 f0
   generalize gN n0 f0 = L at *
   clear hp0
   subst hlen
   repeat' (first | exact trivial | refine ⟨?_, ?_⟩ | intro _)
   all_goals first | (with_reducible apply qq) | (conv => whnf)
   refine loop_ok tys_ok (l := []) trivial (by kernel_rfl) (X := Nat)
    (fun i => ⟨[(8, vx (.int .i64 i)), (0, .va (.c (.osl 0 1 0 L.length))), (1, vx (.string x1)), (7, vx (.int .i64 L.length))], [(0, .row 1 L.length fun i => [st (atS L i)])], 1, 19⟩)
    (fun i => L.length - i) (fun i => i <= L.length /\ ∀ k, k < i -> (x1.toList == (atS L k).toList) = false) [] []
    (fun i _ _ => i + 1) [0] [0] 0 0 0 ?_ ?_ ?_
   . exact ⟨Nat.zero_le _, fun k h => absurd h (Nat.not_lt_zero k)⟩
   . repeat' (first | exact trivial | exact rfl | (intro _ _; exact rfl) | refine ⟨?_, ?_⟩ | fail)
   . rintro i ⟨k1, k2⟩
     rcases Nat.lt_or_ge i L.length with hi | hi
     . have hne : decide ((i : Int) < (L.length : Int)) = true := decide_eq_true (by omega)
       have hib : (0 : Int) <= (i : Int) /\ (i : Int) < (L.length : Int) := by omega
       cases hq : (x1.toList == (atS L i).toList) with
       | true =>
         have hv := ixT_some hi k2 hq
         repeat' (first | exact trivial | (with_reducible first | exact n1 | exact n2 | exact hib | exact hib.1 | exact hib.2 | exact nx hne) | refine ⟨?_, ?_⟩ | intro _)
         all_goals first | (with_reducible apply qq) | (conv => whnf)
         all_goals (try simp only [Int.toNat_natCast, Nat.zero_add] at *)
         all_goals first | omega | (rw [hv]; done) | exact absurd (hq.symm.trans ‹_ = false›) (by decide) | rfl | (intro _ _; rfl) | (rw [hv]; rfl)
       | false =>
         have hk : ∀ k, k < i + 1 -> (x1.toList == (atS L k).toList) = false := fun k h => by
          rcases Nat.lt_or_ge k i with h1 | h1
          . exact k2 k h1
          . rw [show k = i by omega]; exact hq
         repeat' (first | exact trivial | (with_reducible first | exact n1 | exact n2 | exact hib | exact hib.1 | exact hib.2 | exact nx hne) | refine ⟨?_, ?_⟩ | intro _)
         all_goals first | (with_reducible apply qq) | (conv => whnf)
         all_goals (try dsimp only)
         all_goals (try simp only [Int.toNat_natCast, Nat.zero_add] at *)
         all_goals first | omega | exact absurd (hq.symm.trans ‹_ = true›) (by decide) | exact hk _ ‹_› | rfl | (exact congrArg (Value.int .i64) (by first | (rw [wI_id _ (by omega) (by omega)]; omega) | omega | (dsimp only; omega))) | (intro _ _; rfl)
     . have hne : decide ((i : Int) < (L.length : Int)) = false := decide_eq_false (by omega)
       obtain rfl : i = L.length := by omega
       have hv := ixT_none k2
       repeat' (first | exact trivial | (with_reducible first | exact n1 | exact n2 | exact nx hne) | refine ⟨?_, ?_⟩ | intro _)
       all_goals first | (with_reducible apply qq) | (conv => whnf)
       all_goals first | omega | (rw [hv]; done) | rfl | (intro _ _; rfl) | (rw [hv]; rfl)
 . cases h
def FTHasO : List Ar -> Option Rs
 | [.c (.ow 1 n0 f0), .c (.d (.v (.string x1)))] => some ⟨(n0 * 16 <= 140737488351232 /\ ∀ i, i < n0 -> f0 i = [st (gT (f0 i))]), .va (.c (.d (bo (hasT (gN n0 f0) x1)))), [some (fun i => [st (atS (gN n0 f0) i)])]⟩
 | _ => none
theorem fcTHasO : FC Tryz.prog 29 FTHasO := by
 intro xs pre r us h hp
 unfold FTHasO at h
 split at h
 . rename_i n0 f0 x1
   cases h
   have hp0 := hp
   refine FCat.deep (ys := [.c (.ow 1 n0 fun i => [st (atS (gN n0 f0) i)]), .c (.d (.v (.string x1)))]) ?_ ?_
   . repeat' (first | exact trivial | exact rfl | exact DvE.refl _ | refine ⟨?_, ?_⟩ | fail)
     all_goals first | exact (canonTo hp0.2).2.2
   refine fcat tys_ok (l := [(59, ⟨[true], FTIxO⟩)]) ⟨fcTIxO, trivial⟩ Tryz.func29 rfl (by kernel_rfl) false ?_
   have hn := hp0.1
   have hlen := gN_length n0 f0
   generalize gN n0 f0 = L at *
   clear hp0
   subst hlen
   have hix := ixT_ge L x1
   repeat' (first | exact trivial | (with_reducible exact hn) | refine ⟨?_, ?_⟩ | intro _)
   all_goals first | (with_reducible apply qq) | (conv => whnf)
   all_goals (try simp only [gN_lst] at *)
   all_goals first | (rw [hix]; done) | omega | rfl | (intro _ _; rfl)
 . cases h
end Go.Proofs.YtokjghkehojenaaGreat
namespace Go.Proofs.YtokjghkehojenaaGreat
open Go.Sx
open Go.RowKit Go.Lib Go.Sort
def oQ (t : Tm) : Nat := match t with
 | .va (.c (.osl k _ _ _)) => k
 | _ => 0
theorem row_snocT {M : List ByteArray} {x : ByteArray} {g : Nat -> List DV} (hg : g 0 = [st x]) : ∀ j, j < M.length + 1 -> appRow M.length (fun j => [st (atS M j)]) g j = [st (atS (M ++ [x]) j)] := by
 intro j hj
 unfold appRow
 split
 . rename_i h
   unfold atS
   simp only [List.getD_eq_getElem?_getD, List.getElem?_append_left h]
 . have : j = M.length := by omega
   subst this
   rw [Nat.sub_self, hg]
   simp [atS]
theorem arrS_yes {L : List Gl} {i : Nat} (h1 : decide ((glG L (atG L i).name).size > 0) = true) (h2 : (!hasT (arrS L i) (atG L i).name) = true) : arrS L (i + 1) = arrS L i ++ [(atG L i).name] := if_pos (by rw [h1, h2]; rfl)
theorem arrS_no {L : List Gl} {i : Nat} (h1 : decide ((glG L (atG L i).name).size > 0) = false) : arrS L (i + 1) = arrS L i := if_neg (by rw [h1]; exact Bool.false_ne_true)
theorem arrS_no2 {L : List Gl} {i : Nat} (h2 : (!hasT (arrS L i) (atG L i).name) = false) : arrS L (i + 1) = arrS L i := if_neg (by rw [h2, Bool.and_false]; exact Bool.false_ne_true)
def FArrays : List Ar -> Option Rs
 | [.agg [.d (.lst 4 n0 f0), .d (.lst 5 _ _)]] => some ⟨(n0 <= 1099511627776 /\ RowsG n0 f0), .va (.c (.d (lst (arrS (gGs n0 f0) n0)))), []⟩
 | _ => none
theorem fcArrays : FC Tryz.prog 15 FArrays := by
 intro xs pre r us h hp
 unfold FArrays at h
 split at h
 . rename_i n0 f0 c0 d0
   cases h
   have hp0 := hp
   refine FCat.of_eq (as' := [.agg [.d (.lst 4 n0 (rwG (gGs n0 f0))), .d (.lst 5 c0 d0)]]) ?_ rfl rfl ?_
   . repeat' (first | exact trivial | exact rfl | refine ⟨?_, ?_⟩ | fail)
     all_goals first | exact rowG_eq hp0.2 | (intro _ _; rfl) | exact hp0.2 | exact hp1.2 | exact hp2.2 | (intro i hi; exact (hp0.2 i hi).1) | (intro i hi; exact (hp1.2 i hi).1) | (intro i hi; exact (hp2.2 i hi).1) | grind
   refine fcat tys_ok (l := [(28, ⟨[], FGlob⟩), (29, ⟨[true], FTHasO⟩)]) ⟨fcGlob, fcTHasO, trivial⟩ Tryz.func15 rfl (by kernel_rfl) true ?_
   have hn := hp0.1
   have hL := okG_rows hp0.2
   have hlen := gGs_length n0 f0
   generalize gGs n0 f0 = L at *
   clear hp0
   subst hlen
   have hrw := rows_okG hL
   have hal := fun i => arrS_len L i
   repeat' (first | exact trivial | refine ⟨?_, ?_⟩ | intro _)
   all_goals first | (with_reducible apply qq) | (conv => whnf)
   refine loop_ids tys_ok (l := [(28, ⟨[], FGlob⟩), (29, ⟨[true], FTHasO⟩)]) ⟨fcGlob, fcTHasO, trivial⟩ (by kernel_rfl) (X := Nat)
    (fun i => ⟨[(11, vx (.int .i64 i)), (10, vx (.int .i64 L.length)), (9, .va (.c (.d (lstG L)))), (1, .va (.c (.own 0 0))), (3, .va (.c (.osl 1 1 0 (arrS L i).length)))], [(0, .cells [.d (lstG L), .d (.lst 5 c0 d0)]), (1, .row 1 (arrS L i).length fun j => [st (atS (arrS L i) j)])], 2, Tryz.f15.ntmps⟩)
    (fun i => L.length - i) (fun i => i <= L.length) [3] []
    (fun i _ _ => i + 1) (fun xs => match xs with | [t] => [0, oQ t] | _ => []) [0] 0 1 0 ?_ ?_ ?_
   . exact Nat.zero_le _
   . repeat' (first | exact trivial | exact rfl | (intro _ _; exact rfl) | refine ⟨?_, ?_⟩ | fail)
     all_goals first | (simp; done)
   . rintro i k1
     have hl1 := hal i
     rcases Nat.lt_or_ge i L.length with hi | hi
     . have hne : decide ((i : Int) < (L.length : Int)) = true := decide_eq_true (by omega)
       have hib : (0 : Int) <= (i : Int) /\ (i : Int) < (L.length : Int) := by omega
       have hal16 : (arrS L i).length * 16 <= 140737488351232 := by omega
       repeat' (first | exact trivial | (with_reducible first | assumption | exact n1 | exact n2 | exact hib.1 | exact hib.2 | exact nx hne) | refine ⟨?_, ?_⟩ | intro _)
       all_goals first | (with_reducible apply qq) | (conv => whnf)
       all_goals (try dsimp only)
       all_goals (try simp only [gGs_row, gN_lst, Int.toNat_natCast, Nat.zero_add] at *)
       all_goals first | exact Nat.le_refl _ | rfl | omega | ((exact congrArg (Value.int .i64) (by first | (rw [wI_id _ (by omega) (by omega)]; omega) | omega | (dsimp only; omega)))) | (rw [arrS_yes (by assumption) (by assumption), List.length_append]; rfl) | (rw [arrS_yes (by assumption) (by assumption)]; exact row_snocT rfl _ (by assumption)) | rw [arrS_no (by assumption)] | rw [arrS_no2 (by assumption)]
     . have hne : decide ((i : Int) < (L.length : Int)) = false := decide_eq_false (by omega)
       obtain rfl : i = L.length := by omega
       repeat' (first | exact trivial | (with_reducible first | exact n1 | exact n2 | exact nx hne) | refine ⟨?_, ?_⟩ | intro _)
       all_goals first | (with_reducible apply qq) | (conv => whnf)
       all_goals first | omega | rfl | (simp only [Nat.zero_add]; done)
 . cases h
end Go.Proofs.YtokjghkehojenaaGreat
