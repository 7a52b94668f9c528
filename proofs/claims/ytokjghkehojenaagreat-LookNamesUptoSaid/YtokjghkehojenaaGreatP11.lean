/- What is kept while the eye looks. No program in sight. -/
import Derived.Test.YtokjghkehojenaaGreatP10
set_option linter.all false
set_option maxHeartbeats 8000000
set_option maxRecDepth 100000
namespace Go.Proofs.YtokjghkehojenaaGreat
open Go.Sx
open Go.RowKit Go.Lib Go.Sort
theorem nodup_len {α : Type} [DecidableEq α] : ∀ {l m : List α}, l.Nodup -> (∀ x, x ∈ l -> x ∈ m) -> l.length <= m.length
 | [], _, _, _ => Nat.zero_le _
 | a :: l, m, h, hs => by
   have ha := hs a List.mem_cons_self
   rw [List.nodup_cons] at h
   have := nodup_len (m := m.erase a) h.2 (fun x hx => (List.mem_erase_of_ne (fun e => h.1 (by rw [<- e]; exact hx))).2 (hs x (List.mem_cons_of_mem _ hx)))
   rw [List.length_erase_of_mem ha] at this
   have := List.length_pos_of_mem ha
   rw [List.length_cons]; omega
structure okSe (R : Ro) (s : Se) : Prop where
 nd : s.gets.Nodup
 kn : ∀ k, k ∈ s.gets -> knB R.D k = true
theorem knB_mem {L : List Sd} {k : Ky} (h : knB L k = true) : k ∈ L.map (·.k) := by
 unfold knB knF at h
 cases e : L.find? (fun x => eqK x.k k) with
 | some x => exact List.mem_map.2 ⟨x, List.mem_of_find?_eq_some e, eqK_iff.1 (List.find?_some (p := fun x : Sd => eqK x.k k) e)⟩
 | none => rw [e] at h; cases h
theorem okSe_len {R : Ro} {s : Se} (h : okSe R s) : s.gets.length <= R.D.length := by
 have := nodup_len h.nd (fun k hk => knB_mem (h.kn k hk))
 rw [List.length_map] at this; exact this
theorem okV_z : okV Vl.zero := ⟨⟨Nat.zero_le _, fun _ h => absurd h (Nat.not_lt_zero _)⟩, ⟨⟨by decide, by decide⟩, by decide, by decide⟩, ⟨by decide, by decide⟩, by decide, by decide⟩
theorem knS_nm {L : List Sd} {n : Nat} (h : ∀ x, x ∈ L -> x.s.v.t.names.length <= n) (k : Ky) : (knS L k).v.t.names.length <= n := by
 unfold knS knF
 cases e : L.find? (fun x => eqK x.k k) with
 | some x => exact h x (List.mem_of_find?_eq_some e)
 | none => exact Nat.zero_le _
theorem readS_ok {R : Ro} (hR : R.ok) (s : Se) (x : ByteArray) : okV (readS R s x).1 /\ (readS R s x).1.t.names.length <= 1048576 := by
 unfold readS
 split
 . exact ⟨okV_z, Nat.zero_le _⟩
 . split
   . exact ⟨okV_of (knS_ok hR.d _), Nat.le_trans (ofS_len _) (knS_nm hR.dv _)⟩
   . exact ⟨okV_z, Nat.zero_le _⟩
theorem get_nm {e : En} {n : Nat} (h : ∀ x, x ∈ e.binds -> x.v.t.names.length <= n) (s : ByteArray) : (En.get e s).t.names.length <= n := by
 have hc : ∀ x, x ∈ e.clean.binds -> x.v.t.names.length <= n := by
  unfold En.clean
  split
  . intro x hx
    obtain ⟨b, hb, rfl⟩ := List.mem_map.1 hx
    exact Nat.le_trans (ofS_len _) (h b (srt_mem.1 (dd_sub hb)))
  . intro x hx; cases hx
 unfold En.get
 split
 . rename_i hd; exact hc _ (atB_mem (found_lt hd))
 . exact Nat.zero_le _
theorem get_okL {e : En} (h : okL e.binds) (s : ByteArray) : okV (En.get e s) := by
 unfold En.get
 split
 . rename_i hd; exact okL_at (clean_ok h) (found_lt hd)
 . exact okV_z
theorem nameS_ok {R : Ro} (hR : R.ok) (s : Se) (x : ByteArray) : okV (nameS R s x).1 /\ (nameS R s x).1.t.names.length <= 1048576 := by
 unfold nameS
 split
 . exact ⟨get_okL (e := ⟨R.lv, R.B⟩) hR.b x, get_nm (e := ⟨R.lv, R.B⟩) hR.bv x⟩
 . split
   . exact readS_ok hR s x
   . exact ⟨okV_z, Nat.zero_le _⟩
def ldF (R : Ro) (p : Vl × Se) (x : ByteArray) : Vl × Se := if glI R.G x = true then (Vl.join p.1 (readS R p.2 x).1, (readS R p.2 x).2) else p
def ldA (R : Ro) (N : List ByteArray) (s : Se) : Nat -> Vl × Se
 | 0 => (Vl.zero, s)
 | i + 1 => ldF R (ldA R N s i) (atS N i)
def loadS (R : Ro) (s : Se) (x : ByteArray) : Vl × Se := ldA R (nameS R s x).1.t.names (nameS R s x).2 (nameS R s x).1.t.names.length
end Go.Proofs.YtokjghkehojenaaGreat
namespace Go.Proofs.YtokjghkehojenaaGreat
open Go.Sx
theorem mul_lo {lo a b c d x y : Int} (ha : a <= x) (hb : x <= b) (hc : c <= y) (hd : y <= d) (h1 : lo <= a * c) (h2 : lo <= a * d) (h3 : lo <= b * c) (h4 : lo <= b * d) : lo <= x * y := by
 have e1 : lo <= a * y := by
  rcases Int.le_total 0 a with h | h
  . exact Int.le_trans h1 (Int.mul_le_mul_of_nonneg_left hc h)
  . exact Int.le_trans h2 (Int.mul_le_mul_of_nonpos_left h hd)
 have e2 : lo <= b * y := by
  rcases Int.le_total 0 b with h | h
  . exact Int.le_trans h3 (Int.mul_le_mul_of_nonneg_left hc h)
  . exact Int.le_trans h4 (Int.mul_le_mul_of_nonpos_left h hd)
 rcases Int.le_total 0 y with h | h
 . exact Int.le_trans e1 (Int.mul_le_mul_of_nonneg_right ha h)
 . exact Int.le_trans e2 (Int.mul_le_mul_of_nonpos_right hb h)
theorem mul_hi {hi a b c d x y : Int} (ha : a <= x) (hb : x <= b) (hc : c <= y) (hd : y <= d) (h1 : a * c <= hi) (h2 : a * d <= hi) (h3 : b * c <= hi) (h4 : b * d <= hi) : x * y <= hi := by
 have := mul_lo (lo := -hi) (a := -b) (b := -a) (c := c) (d := d) (x := -x) (y := y) (by omega) (by omega) hc hd (by rw [Int.neg_mul]; omega) (by rw [Int.neg_mul]; omega) (by rw [Int.neg_mul]; omega) (by rw [Int.neg_mul]; omega)
 rw [Int.neg_mul] at this; omega
def wr (n : Int) : Int := (n + 9223372036854775808) % 18446744073709551616 - 9223372036854775808
theorem wr_r (n : Int) : -9223372036854775808 <= wr n /\ wr n < 9223372036854775808 := by unfold wr; omega
def exI (op a b : Int) : Int := if op = 10 then a + b else if op = 11 then a - b else if op = 7 then a * b else 0
def exB (op : Int) : Bool := op == 10 || (op == 11 || op == 7)
def cmpB (op a b : Int) : Bool := if op = 12 then decide (a < b) else if op = 13 then decide (a <= b) else if op = 14 then decide (a = b) else if op = 15 then decide (a ≠ b) else if op = 16 then decide (a ≠ 0) && decide (b ≠ 0) else decide (a ≠ 0) || decide (b ≠ 0)
def doI (op a b : Int) : Int := if exB op then wr (exI op a b) else if op = 8 then (if b = 0 then 0 else wr (a.tdiv b)) else if op = 9 then (if b = 0 then 0 else a.tmod b) else if 12 <= op /\ op <= 17 then (if cmpB op a b then 1 else 0) else 0
def doE (op b : Int) : Int := if exB op then 0 else if op = 8 \/ op = 9 then (if b = 0 then 10 else 0) else if 12 <= op /\ op <= 17 then 0 else 2
def allS : Sp := Sp.of (-9223372036854775808) 9223372036854775807
def noS : Sp := ⟨false, 0, 0⟩
def wrapI (lo hi : Int) : Sp := if hi - lo ≥ 18446744073709551616 then allS else if wr lo > wr hi then allS else Sp.of (wr lo) (wr hi)
def minL : Int -> List Int -> Int := fun a l => l.foldl (fun a b => if b < a then b else a) a
def maxL : Int -> List Int -> Int := fun a l => l.foldl (fun a b => if a < b then b else a) a
theorem minL_le : ∀ (l : List Int) (a : Int), minL a l <= a /\ ∀ x, x ∈ l -> minL a l <= x
 | [], a => ⟨Int.le_refl _, fun x h => by cases h⟩
 | b :: l, a => by
   have h := minL_le l (if b < a then b else a)
   have e : minL a (b :: l) = minL (if b < a then b else a) l := rfl
   rw [e]
   refine ⟨?_, fun x hx => ?_⟩
   . have := h.1; split at this <;> split <;> omega
   . rcases List.mem_cons.1 hx with rfl | hx
     . have := h.1; split at this <;> split <;> omega
     . exact h.2 x hx
theorem le_maxL : ∀ (l : List Int) (a : Int), a <= maxL a l /\ ∀ x, x ∈ l -> x <= maxL a l
 | [], a => ⟨Int.le_refl _, fun x h => by cases h⟩
 | b :: l, a => by
   have h := le_maxL l (if a < b then b else a)
   have e : maxL a (b :: l) = maxL (if a < b then b else a) l := rfl
   rw [e]
   refine ⟨?_, fun x hx => ?_⟩
   . have := h.1; split at this <;> split <;> omega
   . rcases List.mem_cons.1 hx with rfl | hx
     . have := h.1; split at this <;> split <;> omega
     . exact h.2 x hx
def around : List Int -> Sp
 | [] => noS
 | x :: l => wrapI (minL x (x :: l)) (maxL x (x :: l))
def corners (f : Int -> Int -> Int) (a b : Sp) : List Int := [f a.lo b.lo, f a.lo b.hi, f a.hi b.lo, f a.hi b.hi]
def negS (b : Sp) : Sp := b.meet ⟨true, -9223372036854775808, -1⟩
def posS (b : Sp) : Sp := b.meet ⟨true, 1, 9223372036854775807⟩
def parts (b : Sp) : List Sp := (if (negS b).none then [] else [negS b]) ++ (if (posS b).none then [] else [posS b])
def divS (a b : Sp) : Sp := around ((parts b).flatMap fun p => corners Int.tdiv a p)
def absI (n : Int) : Int := if n < 0 then -n else n
def restM (b : Sp) : Int := (if absI b.lo < absI b.hi then absI b.hi else absI b.lo) - 1
def restS (a b : Sp) : Sp := if (parts b).isEmpty then noS else if a.lo = a.hi /\ b.lo = b.hi then Sp.of (doI 9 a.lo b.lo) (doI 9 a.lo b.lo) else Sp.of (if a.lo < 0 then (if a.lo < -restM b then -restM b else a.lo) else 0) (if 0 < a.hi then (if restM b < a.hi then restM b else a.hi) else 0)
theorem doI_rem {x y : Int} (h : y ≠ 0) : doI 9 x y = x.tmod y := by
 unfold doI; rw [if_neg (by decide), if_neg (by decide), if_pos rfl, if_neg h]
theorem doI_div {x y : Int} (h : y ≠ 0) : doI 8 x y = wr (x.tdiv y) := by
 unfold doI; rw [if_neg (by decide), if_pos rfl, if_neg h]
def truthS (always never : Bool) : Sp := if always then Sp.of 1 1 else if never then Sp.of 0 0 else Sp.of 0 1
def aloneS (a : Sp) (n : Int) : Bool := decide (a.lo = n) && decide (a.hi = n)
def eqS (a b : Sp) : Bool := (a.some == b.some) && (decide (a.lo = b.lo) && decide (a.hi = b.hi))
def cmpS (op : Int) (a b : Sp) : Sp :=
 if op = 12 then truthS (decide (a.hi < b.lo)) (decide (a.lo ≥ b.hi))
 else if op = 13 then truthS (decide (a.hi <= b.lo)) (decide (a.lo > b.hi))
 else if op = 14 then truthS (decide (a.lo = a.hi) && eqS b a) (decide (a.hi < b.lo) || decide (b.hi < a.lo))
 else if op = 15 then truthS (decide (a.hi < b.lo) || decide (b.hi < a.lo)) (decide (a.lo = a.hi) && eqS b a)
 else if op = 16 then truthS (!a.has 0 && !b.has 0) (aloneS a 0 || aloneS b 0)
 else if op = 17 then truthS (!a.has 0 || !b.has 0) (aloneS a 0 && aloneS b 0)
 else noS
def rkDo (op : Int) (a b : Sp) : Sp :=
 if a.none || b.none then noS
 else if exB op then around (corners (exI op) a b)
 else if op = 8 then divS a b
 else if op = 9 then restS a b
 else cmpS op a b
def partI (m : Int) : Int := ((m.toNat &&& (2 ^ 64 - m.toNat) : Nat) : Int)
def Cg.all : Cg := Cg.of 1 0
def linC (op m : Int) (a b : Cg) (wraps : Bool) : Cg :=
 let k := if wraps then partI m else m
 if exB op = false \/ k = 0 then Cg.all else Cg.of k (exI op a.r b.r % k)
def sclI (m c : Int) : Int := if sizeI c > 9223372036854775807 then m else if wIntB (m * sizeI c) = true then m * sizeI c else m
def alC (c : Cg) (n : Int) : Bool := c.m == 0 && c.r == n
def prod0 (a b : Cg) (wraps : Bool) : Cg :=
 if alC a 0 then Cg.of 0 0 else if a.m = 0 then linC 7 (sclI b.m a.r) a b wraps else linC 7 (Int.gcd a.m b.m : Int) a b wraps
def prodC (a b : Cg) (wraps : Bool) : Cg := if a.m ≠ 0 /\ b.m = 0 then prod0 b a wraps else prod0 a b wraps
def quoC (a b : Cg) (wraps : Bool) : Cg :=
 if alC b 0 then Cg.none else if b.m ≠ 0 \/ wraps = true then Cg.all
 else if a.m % sizeI b.r ≠ 0 \/ sizeI a.r % sizeI b.r ≠ 0 then Cg.all
 else Cg.of (a.m / sizeI b.r) (a.r.tdiv b.r)
def rstC (a b : Cg) : Cg := if alC b 0 then Cg.none else Cg.of (Int.gcd (Int.gcd a.m b.m : Int) (sizeI b.r) : Int) a.r
def aptC (a b : Cg) : Bool := !(Cg.meet (Cg.of (Int.gcd a.m b.m : Int) a.r) (Cg.of 0 b.r)).some
def cmpC (op : Int) (a b : Cg) : Cg :=
 if op = 15 then (if aptC a b then Cg.of 0 1 else Cg.all)
 else if op = 14 then (if aptC a b then Cg.of 0 0 else Cg.all)
 else if op = 16 then (if alC a 0 || alC b 0 then Cg.of 0 0 else if !a.has 0 && !b.has 0 then Cg.of 0 1 else Cg.all)
 else if op = 17 then (if !a.has 0 || !b.has 0 then Cg.of 0 1 else Cg.all)
 else if op = 12 \/ op = 13 then Cg.all else Cg.none
def rsDo0 (op : Int) (a b : Cg) (wraps : Bool) : Cg :=
 if !a.some || !b.some then Cg.none
 else if a.m = 0 /\ b.m = 0 then (if doE op b.r ≠ 0 then Cg.none else Cg.of 0 (doI op a.r b.r))
 else if op = 10 \/ op = 11 then linC op (Int.gcd a.m b.m : Int) a b wraps
 else if op = 7 then prodC a b wraps
 else if op = 8 then quoC a b wraps
 else if op = 9 then rstC a b
 else cmpC op a b
def rsDo (op : Int) (a b : Cg) (wraps : Bool) : Cg := rsDo0 op a.clean b.clean wraps
def wrB (op : Int) (a b : Sp) : Bool :=
 if a.none || b.none then false
 else if op = 8 then a.has (-9223372036854775808) && b.has (-1)
 else (corners (exI op) a b).any fun e => exB op && !wIntB e
section
variable {op a b : Int}
theorem ex_10 (h : (op == 10) = true) : exI op a b = a + b /\ exB op = true := by obtain rfl := eq_of_beq h; exact ⟨rfl, rfl⟩
theorem ex_11 (h : (op == 11) = true) : exI op a b = a - b /\ exB op = true := by obtain rfl := eq_of_beq h; exact ⟨rfl, rfl⟩
theorem ex_7 (h : (op == 7) = true) : exI op a b = a * b /\ exB op = true := by obtain rfl := eq_of_beq h; exact ⟨rfl, rfl⟩
theorem ex_no (h : (op == 10) = false) (h1 : (op == 11) = false) (h2 : (op == 7) = false) : exI op a b = 0 /\ exB op = false := by
 unfold exI exB
 rw [h, h1, h2, if_neg (ne_of_beq_false h), if_neg (ne_of_beq_false h1), if_neg (ne_of_beq_false h2)]; exact ⟨rfl, rfl⟩
end
theorem wd_addI (A B : Int) : wd ((wd A).val + (wd B).val) = wd (A + B) := by unfold wd Wd.val; dsimp only; congr 1 <;> omega
theorem wd_sub (A B : Int) : wd ((wd A).val - (wd B).val) = wd (A - B) := by unfold wd Wd.val; dsimp only; congr 1 <;> omega
theorem wr_wd (e : Int) : (Wd.val (wd e) + 9223372036854775808) % 18446744073709551616 - 9223372036854775808 = wr e := by unfold wr wd Wd.val; dsimp only; omega
theorem wr_lo (e : Int) : IntKind.wrap .i64 (wd e).lo = wr e := by rw [wI]; unfold wr wd; dsimp only; omega
def FXTruth : List Ar -> Option Rs
 | [.c (.d (.v (.bool b0)))] => some ⟨True, .va (.c (.d (it (if b0 = true then 1 else 0)))), []⟩
 | _ => none
theorem fcXTruth : FC Tryz.prog 195 FXTruth := by
 intro xs pre r us h hp
 unfold FXTruth at h
 split at h
 . rename_i b0
   cases h
   refine fcat tys_ok (l := []) trivial Tryz.func195 rfl (by kernel_rfl) false ?_
   repeat' (first | exact trivial | refine ⟨?_, ?_⟩ | intro _)
   all_goals first | (with_reducible apply qq) | (conv => whnf)
   all_goals first | rfl | (simp_all; done)
 . cases h
def FXExact : List Ar -> Option Rs
 | [.c (.d (.v (.int .i64 i0))), .c (.d (.v (.int .i64 i1))), .c (.d (.v (.int .i64 i2)))] => some ⟨(-9223372036854775808 <= i0 /\ i0 < 9223372036854775808) /\ (-9223372036854775808 <= i1 /\ i1 < 9223372036854775808) /\ (-9223372036854775808 <= i2 /\ i2 < 9223372036854775808), .tup [Wd.ar (wd (exI i0 i1 i2)), .c (.d (bo (exB i0)))], []⟩
 | _ => none
theorem fcXExact : FC Tryz.prog 150 FXExact := by
 intro xs pre r us h hp
 unfold FXExact at h
 split at h
 . rename_i i0 i1 i2
   cases h
   obtain ⟨hp0, hp1, hp2⟩ := hp
   refine fcat tys_ok (l := [(138, ⟨[], FWOf⟩), (146, ⟨[], FWAdd⟩), (137, ⟨[], FWSub⟩), (100, ⟨[], FWMul⟩)]) ⟨fcWOf, fcWAdd, fcWSub, fcWMul, trivial⟩ Tryz.func150 rfl (by kernel_rfl) false ?_
   repeat' (first | exact trivial | (with_reducible first | exact hp0 | exact hp1 | exact hp2 | exact hp0.1 | exact hp0.2 | exact hp1.1 | exact hp1.2 | exact hp2.1 | exact hp2.2 | exact wd_ok _ | exact (wd_ok _).1.1 | exact (wd_ok _).1.2 | exact (wd_ok _).2.1 | exact (wd_ok _).2.2) | refine ⟨?_, ?_⟩ | intro _)
   all_goals first | (with_reducible apply qq) | (conv => whnf)
   all_goals first | exact (wd_ok _).1.1 | exact (wd_ok _).1.2 | exact (wd_ok _).2.1 | exact (wd_ok _).2.2 | (rw [(ex_10 ‹_›).1]; first | exact (congrArg (fun w : Wd => Value.int .i64 w.hi) (wd_addI i1 i2)) | exact (congrArg (fun w : Wd => Value.int .u64 w.lo) (wd_addI i1 i2)) | done) | (rw [(ex_10 (a := 0) (b := 0) ‹_›).2]; done) | (rw [(ex_11 ‹_›).1]; first | exact (congrArg (fun w : Wd => Value.int .i64 w.hi) (wd_sub i1 i2)) | exact (congrArg (fun w : Wd => Value.int .u64 w.lo) (wd_sub i1 i2)) | done) | (rw [(ex_11 (a := 0) (b := 0) ‹_›).2]; done) | (rw [(ex_7 ‹_›).1]; done) | (rw [(ex_7 (a := 0) (b := 0) ‹_›).2]; done) | (rw [(ex_no ‹_› ‹_› ‹_›).1]; first | rfl | done) | (rw [(ex_no (a := 0) (b := 0) ‹_› ‹_› ‹_›).2]; done)
 . cases h
section
variable {op a b : Int}
theorem pa_0 (ho : op = 8 \/ op = 9) (h : (b == 0) = true) : doI op a b = 0 /\ doE op b = 10 := by
 obtain rfl := eq_of_beq h; rcases ho with rfl | rfl <;> exact ⟨rfl, rfl⟩
theorem pa_e (ho : op = 8 \/ op = 9) (h : (b == 0) = false) : doE op b = 0 := by
 have h := ne_of_beq_false h
 rcases ho with rfl | rfl <;> (unfold doE; rw [if_neg (by decide), if_pos (by decide), if_neg h])
theorem pa_1 (h : (b == -1) = true) (h8 : (op == 8) = true) : doI op a b = wr (-a) := by
 obtain rfl := eq_of_beq h; obtain rfl := eq_of_beq h8; rw [doI_div (by decide), show (-1 : Int) = -(1) from rfl, Int.tdiv_neg, Int.tdiv_one]
theorem pa_2 (ho : op = 8 \/ op = 9) (h : (b == -1) = true) (h8 : (op == 8) = false) : doI op a b = 0 := by
 obtain rfl := eq_of_beq h
 rcases ho with rfl | rfl
 . cases h8
 . rw [doI_rem (by decide), show (-1 : Int) = -(1) from rfl, Int.tmod_neg, Int.tmod_one]
theorem pa_3 (h0 : (b == 0) = false) (h8 : (op == 8) = true) : doI op a b = wr (a.tdiv b) := by
 obtain rfl := eq_of_beq h8
 exact doI_div (ne_of_beq_false h0)
theorem pa_4 (ho : op = 8 \/ op = 9) (h0 : (b == 0) = false) (h8 : (op == 8) = false) : doI op a b = a.tmod b := by
 rcases ho with rfl | rfl
 . cases h8
 . rw [doI_rem (ne_of_beq_false h0)]
theorem wr_neg (a : Int) : IntKind.wrap .i64 (0 - a) = wr (-a) := by rw [wI]; unfold wr; congr 2; omega
theorem wr_w (a : Int) : IntKind.wrap .i64 a = wr a := wI a
end
def FXParts : List Ar -> Option Rs
 | [.c (.d (.v (.int .i64 i0))), .c (.d (.v (.int .i64 i1))), .c (.d (.v (.int .i64 i2)))] => some ⟨(-9223372036854775808 <= i0 /\ i0 < 9223372036854775808) /\ (-9223372036854775808 <= i1 /\ i1 < 9223372036854775808) /\ (-9223372036854775808 <= i2 /\ i2 < 9223372036854775808) /\ (i0 = 8 \/ i0 = 9), .tup [.c (.d (it (doI i0 i1 i2))), .c (.d (it (doE i0 i2)))], []⟩
 | _ => none
theorem fcXParts : FC Tryz.prog 193 FXParts := by
 intro xs pre r us h hp
 unfold FXParts at h
 split at h
 . rename_i i0 i1 i2
   cases h
   obtain ⟨hp0, hp1, hp2, hp3⟩ := hp
   refine fcat tys_ok (l := []) trivial Tryz.func193 rfl (by kernel_rfl) false ?_
   repeat' (first | exact trivial | (with_reducible first | exact hp0 | exact hp1 | exact hp2 | exact hp0.1 | exact hp0.2 | exact hp1.1 | exact hp1.2 | exact hp2.1 | exact hp2.2 | exact wd_ok _ | exact (wd_ok _).1.1 | exact (wd_ok _).1.2 | exact (wd_ok _).2.1 | exact (wd_ok _).2.2) | refine ⟨?_, ?_⟩ | intro _)
   all_goals first | (with_reducible apply qq) | (conv => whnf)
   all_goals first | (rw [(pa_0 hp3 ‹_›).1]; done) | (rw [(pa_0 (a := 0) hp3 ‹_›).2]; done) | (rw [pa_e hp3 ‹_›]; done) | (rw [pa_1 ‹_› ‹_›]; first | exact congrArg _ (wr_neg _) | done) | (rw [pa_2 hp3 ‹_› ‹_›]; done) | (rw [pa_3 ‹_› ‹_›]; exact congrArg (Value.int .i64) (wr_w _)) | (exact absurd ‹i2 = 0› (ne_of_beq_false ‹(i2 == 0) = false›)) | (rw [pa_4 hp3 ‹_› ‹_›]; first | rfl | done)
 . cases h
def hoB (op a b : Int) : Bool := decide (12 <= op /\ op <= 17) && cmpB op a b
theorem ho_k (a b : Int) : hoB 12 a b = decide (a < b) /\ hoB 13 a b = decide (a <= b) /\ hoB 14 a b = (a == b) /\ hoB 15 a b = (a != b) /\ hoB 16 a b = (a != 0 && b != 0) /\ hoB 17 a b = (a != 0 || b != 0) := by
 unfold hoB cmpB
 refine ⟨?_, ?_, ?_, ?_, ?_, ?_⟩ <;> (rw [Bool.eq_iff_iff]; simp)
theorem ho_no {op a b : Int} (h : ¬ (12 <= op /\ op <= 17)) : hoB op a b = false := by unfold hoB; rw [decide_eq_false h]; rfl
def FXHolds : List Ar -> Option Rs
 | [.c (.d (.v (.int .i64 i0))), .c (.d (.v (.int .i64 i1))), .c (.d (.v (.int .i64 i2)))] => some ⟨(-9223372036854775808 <= i0 /\ i0 < 9223372036854775808) /\ (-9223372036854775808 <= i1 /\ i1 < 9223372036854775808) /\ (-9223372036854775808 <= i2 /\ i2 < 9223372036854775808), .tup [.c (.d (bo (hoB i0 i1 i2))), .c (.d (bo (decide (12 <= i0 /\ i0 <= 17))))], []⟩
 | _ => none
theorem fcXHolds : FC Tryz.prog 194 FXHolds := by
 intro xs pre r us h hp
 unfold FXHolds at h
 split at h
 . rename_i i0 i1 i2
   cases h
   obtain ⟨hp0, hp1, hp2⟩ := hp
   refine fcat tys_ok (l := []) trivial Tryz.func194 rfl (by kernel_rfl) false ?_
   repeat' (first | exact trivial | (with_reducible first | exact hp0 | exact hp1 | exact hp2 | exact hp0.1 | exact hp0.2 | exact hp1.1 | exact hp1.2 | exact hp2.1 | exact hp2.2 | exact wd_ok _ | exact (wd_ok _).1.1 | exact (wd_ok _).1.2 | exact (wd_ok _).2.1 | exact (wd_ok _).2.2) | refine ⟨?_, ?_⟩ | intro _)
   all_goals first | (with_reducible apply qq) | (conv => whnf)
   refine scope_ok tys_ok (ls := []) trivial (by kernel_rfl) 0 rfl (X := Bool) (fun x => ⟨[(8, vx (.bool x))], [], 0, 47⟩) (fun _ => 0)
    (fun x => x = hoB i0 i1 i2 /\ (12 <= i0 /\ i0 <= 17)) [8] [] (fun xs _ => match xs with | [a] => bT a | _ => false) (fun _ xs _ => match xs with | [a] => bT a | _ => false) [] [] 0 0 ?_ ?_
   . repeat' (first | exact trivial | refine ⟨?_, ?_⟩ | intro _)
     all_goals first | (with_reducible apply qq) | (conv => whnf)
     all_goals first | ((with_reducible show idsOk _ _ = true); rfl) | skip
     all_goals (try simp only [bT])
     all_goals (try simp only [beq_iff_eq, beq_eq_false_iff_ne, ne_eq] at *)
     all_goals (have hk := ho_k i1 i2)
     all_goals first | omega | rfl | (exfalso; exact absurd ‹_› ‹¬ _›) | (have e := ‹i0 = 12›; rw [e]; first | exact hk.1.symm | done) | (have e := ‹i0 = 13›; rw [e]; exact hk.2.1.symm) | (have e := ‹i0 = 14›; rw [e]; exact hk.2.2.1.symm) | (have e := ‹i0 = 15›; rw [e]; exact hk.2.2.2.1.symm) | (have e := ‹i0 = 16›; rw [e, hk.2.2.2.2.1]; (try (simp_all; done))) | (have e := ‹i0 = 17›; rw [e, hk.2.2.2.2.2]; (try (simp_all; done))) | (exact congrArg Value.bool (ho_no (by omega)).symm) | (exact congrArg Value.bool (decide_eq_false (by omega)).symm)
   . rintro x ⟨rfl, hx⟩
     repeat' (first | exact trivial | refine ⟨?_, ?_⟩ | intro _)
     all_goals first | (with_reducible apply qq) | (conv => whnf)
     all_goals first | rfl | exact congrArg Value.bool (decide_eq_true hx).symm
 . cases h
section
variable {op a b : Int}
theorem do_x (h : exB op = true) : doI op a b = wr (exI op a b) /\ doE op b = 0 := by unfold doI doE; rw [if_pos h, if_pos h]; exact ⟨rfl, rfl⟩
theorem do_h (h : exB op = false) (h8 : (op == 8) = false) (h9 : (op == 9) = false) (hh : decide (12 <= op /\ op <= 17) = true) : doI op a b = (if hoB op a b = true then 1 else 0) /\ doE op b = 0 := by
 have hh' := of_decide_eq_true hh
 have h' : ¬ exB op = true := by rw [h]; decide
 unfold doI doE hoB
 rw [if_neg h', if_neg h', if_neg (ne_of_beq_false h8), if_neg (ne_of_beq_false h9), if_pos hh', if_neg (c := _ \/ _) (by have := ne_of_beq_false h8; have := ne_of_beq_false h9; omega), if_pos hh', hh]
 exact ⟨rfl, rfl⟩
theorem do_n (h : exB op = false) (h8 : (op == 8) = false) (h9 : (op == 9) = false) (hh : decide (12 <= op /\ op <= 17) = false) : doI op a b = 0 /\ doE op b = 2 := by
 have hh' := of_decide_eq_false hh
 have h' : ¬ exB op = true := by rw [h]; decide
 unfold doI doE
 rw [if_neg h', if_neg h', if_neg (ne_of_beq_false h8), if_neg (ne_of_beq_false h9), if_neg hh', if_neg (by have := ne_of_beq_false h8; have := ne_of_beq_false h9; omega), if_neg hh']
 exact ⟨rfl, rfl⟩
end
def FXDo : List Ar -> Option Rs
 | [.c (.d (.v (.int .i64 i0))), .c (.d (.v (.int .i64 i1))), .c (.d (.v (.int .i64 i2)))] => some ⟨(-9223372036854775808 <= i0 /\ i0 < 9223372036854775808) /\ (-9223372036854775808 <= i1 /\ i1 < 9223372036854775808) /\ (-9223372036854775808 <= i2 /\ i2 < 9223372036854775808), .tup [.c (.d (it (doI i0 i1 i2))), .c (.d (it (doE i0 i2)))], []⟩
 | _ => none
theorem fcXDo : FC Tryz.prog 161 FXDo := by
 intro xs pre r us h hp
 unfold FXDo at h
 split at h
 . rename_i i0 i1 i2
   cases h
   obtain ⟨hp0, hp1, hp2⟩ := hp
   refine fcat tys_ok (l := [(150, ⟨[], FXExact⟩), (141, ⟨[], FWLow⟩), (193, ⟨[], FXParts⟩), (194, ⟨[], FXHolds⟩), (195, ⟨[], FXTruth⟩)]) ⟨fcXExact, fcWLow, fcXParts, fcXHolds, fcXTruth, trivial⟩ Tryz.func161 rfl (by kernel_rfl) false ?_
   repeat' (first | exact trivial | (with_reducible first | exact hp0 | exact hp1 | exact hp2 | exact hp0.1 | exact hp0.2 | exact hp1.1 | exact hp1.2 | exact hp2.1 | exact hp2.2 | exact wd_ok _ | exact (wd_ok _).1.1 | exact (wd_ok _).1.2 | exact (wd_ok _).2.1 | exact (wd_ok _).2.2) | refine ⟨?_, ?_⟩ | intro _)
   all_goals first | (with_reducible apply qq) | (conv => whnf)
   all_goals (try simp only [Bool.not_eq_true', Bool.not_eq_false'] at *)
   all_goals first | exact (wd_ok _).1.1 | exact (wd_ok _).1.2 | exact (wd_ok _).2.1 | exact (wd_ok _).2.2 | (exact .inl (eq_of_beq ‹(i0 == 8) = true›)) | (exact .inr (eq_of_beq ‹(i0 == 9) = true›)) | (rw [(do_x ‹_›).1]; first | exact congrArg (Value.int .i64) (wr_wd _) | exact congrArg (Value.int .i64) (wr_lo _) | done) | (rw [(do_x (a := 0) ‹_›).2]; done) | (rw [(do_h ‹_› ‹_› ‹_› ‹_›).1]; first | rfl | done) | (rw [(do_h (a := 0) ‹_› ‹_› ‹_› ‹_›).2]; done) | (rw [(do_n ‹_› ‹_› ‹_› ‹_›).1]; done) | (rw [(do_n (a := 0) ‹_› ‹_› ‹_› ‹_›).2]; done)
 . cases h
def stW (s : Int) (a x : Wd) : Wd := if wCmp x.val a.val = s then x else a
def bsN (s : Int) (a : Wd) (f : Nat -> List DV) : Nat -> Wd
 | 0 => a
 | k + 1 => stW s (bsN s a f k) (gW (f k))
theorem stW_t {s : Int} {a x : Wd} (h : (wCmp x.val a.val == s) = true) : stW s a x = x := by unfold stW; rw [if_pos (by simpa using h)]
theorem stW_f {s : Int} {a x : Wd} (h : (wCmp x.val a.val == s) = false) : stW s a x = a := by unfold stW; rw [if_neg (by simpa using h)]
theorem bsN_ok {s : Int} {a : Wd} {f : Nat -> List DV} (ha : a.ok) : ∀ n, (∀ i, i < n -> Wd.ok (gW (f i))) -> (bsN s a f n).ok
 | 0, _ => ha
 | n + 1, h => by
   unfold bsN stW; split
   . exact h n (Nat.lt_succ_self n)
   . exact bsN_ok ha n fun i hi => h i (Nat.lt_succ_of_lt hi)
theorem bsN_canon (s : Int) (a : Wd) (f : Nat -> List DV) : ∀ n, bsN s a (fun i => [it (gW (f i)).hi, ut (gW (f i)).lo]) n = bsN s a f n
 | 0 => rfl
 | n + 1 => by unfold bsN; rw [bsN_canon s a f n]; rfl
def valsW (n : Nat) (f : Nat -> List DV) : List Int := (List.range n).map fun i => (gW (f i)).val
theorem valsW_succ (n : Nat) (f : Nat -> List DV) : valsW (n + 1) f = valsW n f ++ [(gW (f n)).val] := by unfold valsW; rw [List.range_succ, List.map_append]; rfl
theorem bs_max (a : Wd) (f : Nat -> List DV) : ∀ n, (bsN 1 a f n).val = maxL a.val (valsW n f)
 | 0 => rfl
 | n + 1 => by
   have ih := bs_max a f n
   rw [valsW_succ]; unfold maxL; rw [List.foldl_append]
   show (stW 1 (bsN 1 a f n) (gW (f n))).val = if maxL a.val (valsW n f) < (gW (f n)).val then (gW (f n)).val else maxL a.val (valsW n f)
   rw [<- ih]; unfold stW wCmp
   (repeat' split) <;> first | rfl | omega
theorem bs_min (a : Wd) (f : Nat -> List DV) : ∀ n, (bsN (-1) a f n).val = minL a.val (valsW n f)
 | 0 => rfl
 | n + 1 => by
   have ih := bs_min a f n
   rw [valsW_succ]; unfold minL; rw [List.foldl_append]
   show (stW (-1) (bsN (-1) a f n) (gW (f n))).val = if (gW (f n)).val < minL a.val (valsW n f) then (gW (f n)).val else minL a.val (valsW n f)
   rw [<- ih]; unfold stW wCmp
   (repeat' split) <;> first | rfl | omega
def FWBestN : List Ar -> Option Rs
 | [.agg [.d (.v (.int .i64 h0)), .d (.v (.int .u64 l0))], .c (.d (.v (.int .i64 i1))), .c (.d (.lst 2 n2 f2))] => some ⟨(Wd.ok ⟨h0, l0⟩) /\ (-9223372036854775808 <= i1 /\ i1 < 9223372036854775808) /\ ((n2 <= 1000000 /\ ∀ i, i < n2 -> f2 i = [it (gW (f2 i)).hi, ut (gW (f2 i)).lo] /\ Wd.ok (gW (f2 i)))), .va (Wd.ar (bsN i1 (⟨h0, l0⟩ : Wd) f2 n2)), []⟩
 | _ => none
theorem fcWBestN : FC Tryz.prog 172 FWBestN := by
 intro xs pre r us h hp
 unfold FWBestN at h
 split at h
 . rename_i h0 l0 i1 n2 f2
   cases h
   obtain ⟨hp0, hp1, hp2⟩ := hp
   refine FCat.of_eq (as' := [.agg [.d (.v (.int .i64 h0)), .d (.v (.int .u64 l0))], .c (.d (.v (.int .i64 i1))), .c (.d (.lst 2 n2 fun i => [it (gW (f2 i)).hi, ut (gW (f2 i)).lo]))]) ?_ rfl rfl ?_
   . repeat' (first | exact trivial | exact rfl | refine ⟨?_, ?_⟩ | fail)
     all_goals first | (intro i hi; exact (hp2.2 i hi).1) | exact hp0.2 | exact hp1.2 | exact hp2.2 | (intro i hi; exact (hp0.2 i hi).1) | (intro i hi; exact (hp1.2 i hi).1) | (intro i hi; exact (hp2.2 i hi).1) | grind
   refine fcat tys_ok (l := [(204, ⟨[], FWCmp⟩)]) ⟨fcWCmp, trivial⟩ Tryz.func172 rfl (by kernel_rfl) true ?_
   repeat' (first | exact trivial | refine ⟨?_, ?_⟩ | intro _)
   all_goals first | (with_reducible apply qq) | (conv => whnf)
   refine loop_ok tys_ok (l := [(204, ⟨[], FWCmp⟩)]) ⟨fcWCmp, trivial⟩ (by kernel_rfl) (X := Nat)
    (fun x => ⟨[(11, vx (.int .i64 x)), (10, vx (.int .i64 n2)), (9, .va (.c (.d (.lst 2 n2 fun i => [it (gW (f2 i)).hi, ut (gW (f2 i)).lo])))), (1, vx (.int .i64 i1)), (3, .va (.c (.own 0 0))), (6, .va (.c (.own 1 0)))], [(0, .cells [.d (it (bsN i1 ⟨h0, l0⟩ f2 x).hi), .d (ut (bsN i1 ⟨h0, l0⟩ f2 x).lo)]), (1, .cells [.d (it 0), .d (ut 0)])], 2, 23⟩)
    (fun x => n2 - x) (fun x => x <= n2) [] [] (fun x _ _ => x + 1) [0, 1] [0, 1] 0 0 0 (Nat.zero_le _) ?_ ?_
   . repeat' (first | exact trivial | exact rfl | (intro _ h; exact absurd h (Nat.not_lt_zero _)) | (intro _ _; exact rfl) | refine ⟨?_, ?_⟩ | fail)
     all_goals first | rfl
   . intro i k1
     have f0 : Wd.ok (bsN i1 ⟨h0, l0⟩ f2 i) := bsN_ok hp0 i fun j hj => (hp2.2 j (by omega)).2
     rcases Nat.lt_or_ge i n2 with hi | hi
     . have hne : decide ((i : Int) < (n2 : Int)) = true := decide_eq_true (by omega)
       repeat' (first | exact trivial | (with_reducible first | exact hp2.1 | exact f0 | exact (hp2.2 i hi).2 | exact nx hne) | refine ⟨?_, ?_⟩ | intro _)
       all_goals first | (with_reducible apply qq) | (conv => whnf)
       all_goals (try simp only [Int.toNat_natCast] at *)
       all_goals first | omega | rfl | decide | (exact hp0.1.1) | (exact hp0.1.2) | (exact hp0.2.1) | (exact hp0.2.2) | exact f0.1.1 | exact f0.1.2 | exact f0.2.1 | exact f0.2.2 | (exact ((hp2.2 i hi).2).1.1) | (exact ((hp2.2 i hi).2).1.2) | (exact ((hp2.2 i hi).2).2.1) | (exact ((hp2.2 i hi).2).2.2) | (exact congrArg (fun w : Wd => Value.int .i64 w.hi) (stW_t ‹(_ == i1) = true›).symm) | (exact congrArg (fun w : Wd => Value.int .u64 w.lo) (stW_t ‹(_ == i1) = true›).symm) | (exact congrArg (fun w : Wd => Value.int .i64 w.hi) (stW_f ‹(_ == i1) = false›).symm) | (exact congrArg (fun w : Wd => Value.int .u64 w.lo) (stW_f ‹(_ == i1) = false›).symm) | (exact congrArg (Value.int .i64) (by first | (rw [wI_id _ (by omega) (by omega)]; omega) | omega | (dsimp only; omega)))
     . have hne : decide ((i : Int) < (n2 : Int)) = false := decide_eq_false (by omega)
       obtain rfl : i = n2 := by omega
       repeat' (first | exact trivial | (with_reducible exact nx hne) | refine ⟨?_, ?_⟩ | intro _)
       all_goals first | (with_reducible apply qq) | (conv => whnf)
       all_goals (try simp only [Int.toNat_natCast] at *)
       all_goals first | omega | rfl | decide | (exact hp0.1.1) | (exact hp0.1.2) | (exact hp0.2.1) | (exact hp0.2.2) | exact f0.1.1 | exact f0.1.2 | exact f0.2.1 | exact f0.2.2 | (exact congrArg (fun w : Wd => Value.int .i64 w.hi) (stW_t ‹(_ == i1) = true›).symm) | (exact congrArg (fun w : Wd => Value.int .u64 w.lo) (stW_t ‹(_ == i1) = true›).symm) | (exact congrArg (fun w : Wd => Value.int .i64 w.hi) (stW_f ‹(_ == i1) = false›).symm) | (exact congrArg (fun w : Wd => Value.int .u64 w.lo) (stW_f ‹(_ == i1) = false›).symm) | (exact congrArg (Value.int .i64) (by first | (rw [wI_id _ (by omega) (by omega)]; omega) | omega | (dsimp only; omega)))
 . cases h
def FWMaxN : List Ar -> Option Rs
 | [.agg [.d (.v (.int .i64 h0)), .d (.v (.int .u64 l0))], .c (.d (.lst 2 n1 f1))] => some ⟨(Wd.ok ⟨h0, l0⟩) /\ ((n1 <= 1000000 /\ ∀ i, i < n1 -> f1 i = [it (gW (f1 i)).hi, ut (gW (f1 i)).lo] /\ Wd.ok (gW (f1 i)))), .va (Wd.ar (bsN 1 (⟨h0, l0⟩ : Wd) f1 n1)), []⟩
 | _ => none
theorem fcWMaxN : FC Tryz.prog 139 FWMaxN := by
 intro xs pre r us h hp
 unfold FWMaxN at h
 split at h
 . rename_i h0 l0 n1 f1
   cases h
   obtain ⟨hp0, hp1⟩ := hp
   refine FCat.of_eq (as' := [.agg [.d (.v (.int .i64 h0)), .d (.v (.int .u64 l0))], .c (.d (.lst 2 n1 fun i => [it (gW (f1 i)).hi, ut (gW (f1 i)).lo]))]) ?_ rfl rfl ?_
   . repeat' (first | exact trivial | exact rfl | refine ⟨?_, ?_⟩ | fail)
     all_goals first | (intro i hi; exact (hp1.2 i hi).1) | exact hp0.2 | exact hp1.2 | exact hp2.2 | (intro i hi; exact (hp0.2 i hi).1) | (intro i hi; exact (hp1.2 i hi).1) | (intro i hi; exact (hp2.2 i hi).1) | grind
   refine fcat tys_ok (l := [(172, ⟨[], FWBestN⟩)]) ⟨fcWBestN, trivial⟩ Tryz.func139 rfl (by kernel_rfl) true ?_
   repeat' (first | exact trivial | refine ⟨?_, ?_⟩ | intro _)
   all_goals first | (with_reducible apply qq) | (conv => whnf)
   all_goals (try simp only [bsN_canon])
   all_goals first | rfl | decide | exact hp0 | exact hp0.1.1 | exact hp0.1.2 | exact hp0.2.1 | exact hp0.2.2 | exact hp1.1 | exact (hp1.2 _ ‹_›).2.1.1 | exact (hp1.2 _ ‹_›).2.1.2 | exact (hp1.2 _ ‹_›).2.2.1 | exact (hp1.2 _ ‹_›).2.2.2
 . cases h
def FWMinN : List Ar -> Option Rs
 | [.agg [.d (.v (.int .i64 h0)), .d (.v (.int .u64 l0))], .c (.d (.lst 2 n1 f1))] => some ⟨(Wd.ok ⟨h0, l0⟩) /\ ((n1 <= 1000000 /\ ∀ i, i < n1 -> f1 i = [it (gW (f1 i)).hi, ut (gW (f1 i)).lo] /\ Wd.ok (gW (f1 i)))), .va (Wd.ar (bsN (-1) (⟨h0, l0⟩ : Wd) f1 n1)), []⟩
 | _ => none
theorem fcWMinN : FC Tryz.prog 188 FWMinN := by
 intro xs pre r us h hp
 unfold FWMinN at h
 split at h
 . rename_i h0 l0 n1 f1
   cases h
   obtain ⟨hp0, hp1⟩ := hp
   refine FCat.of_eq (as' := [.agg [.d (.v (.int .i64 h0)), .d (.v (.int .u64 l0))], .c (.d (.lst 2 n1 fun i => [it (gW (f1 i)).hi, ut (gW (f1 i)).lo]))]) ?_ rfl rfl ?_
   . repeat' (first | exact trivial | exact rfl | refine ⟨?_, ?_⟩ | fail)
     all_goals first | (intro i hi; exact (hp1.2 i hi).1) | exact hp0.2 | exact hp1.2 | exact hp2.2 | (intro i hi; exact (hp0.2 i hi).1) | (intro i hi; exact (hp1.2 i hi).1) | (intro i hi; exact (hp2.2 i hi).1) | grind
   refine fcat tys_ok (l := [(172, ⟨[], FWBestN⟩)]) ⟨fcWBestN, trivial⟩ Tryz.func188 rfl (by kernel_rfl) true ?_
   repeat' (first | exact trivial | refine ⟨?_, ?_⟩ | intro _)
   all_goals first | (with_reducible apply qq) | (conv => whnf)
   all_goals (try simp only [bsN_canon])
   all_goals first | rfl | decide | exact hp0 | exact hp0.1.1 | exact hp0.1.2 | exact hp0.2.1 | exact hp0.2.2 | exact hp1.1 | exact (hp1.2 _ ‹_›).2.1.1 | exact (hp1.2 _ ‹_›).2.1.2 | exact (hp1.2 _ ‹_›).2.2.1 | exact (hp1.2 _ ‹_›).2.2.2
 . cases h
theorem rw_top {d : Int} (h0 : 0 <= d) (h1 : d < 170141183460469231731687303715884105728) : ((wd d).hi != 0) = decide (d ≥ 18446744073709551616) := by
 unfold wd; rw [Bool.eq_iff_iff]; simp; omega
theorem cmp_no {a b : Int} (h : a <= b) (h2 : decide (wCmp a b > 0) = true) : False := by
 have := of_decide_eq_true h2
 unfold wCmp at this; (repeat' split at this) <;> omega
section
variable {l h : Int} (hb : l ≤ h) (ht : h - l < 170141183460469231731687303715884105728)
include hb ht
theorem wr_1 (k : ((wd (h - l)).hi != 0) = true) : wrapI l h = allS := by
 rw [rw_top (by omega) ht] at k; have := of_decide_eq_true k; unfold wrapI; rw [if_pos (by omega)]
theorem wr_2 (k : ((wd (h - l)).hi != 0) = false) (k2 : decide (wr l > wr h) = true) : wrapI l h = allS := by
 rw [rw_top (by omega) ht] at k; have := of_decide_eq_false k; unfold wrapI; rw [if_neg (by omega), if_pos (of_decide_eq_true k2)]
theorem wr_3 (k : ((wd (h - l)).hi != 0) = false) (k2 : decide (wr l > wr h) = false) : wrapI l h = Sp.of (wr l) (wr h) := by
 rw [rw_top (by omega) ht] at k; have := of_decide_eq_false k; unfold wrapI; rw [if_neg (by omega), if_neg (of_decide_eq_false k2)]
end
theorem wr_low (w : Wd) : (w.val + 9223372036854775808) % 18446744073709551616 - 9223372036854775808 = wr w.val := rfl
def FReWrap : List Ar -> Option Rs
 | [.agg [.d (.v (.int .i64 h0)), .d (.v (.int .u64 l0))], .agg [.d (.v (.int .i64 h1)), .d (.v (.int .u64 l1))]] => some ⟨(Wd.ok ⟨h0, l0⟩) /\ (Wd.ok ⟨h1, l1⟩) /\ (Wd.val (⟨h0, l0⟩ : Wd) <= Wd.val (⟨h1, l1⟩ : Wd) /\ Wd.val (⟨h1, l1⟩ : Wd) - Wd.val (⟨h0, l0⟩ : Wd) < 170141183460469231731687303715884105728), .va (Sp.ar (wrapI (Wd.val (⟨h0, l0⟩ : Wd)) (Wd.val (⟨h1, l1⟩ : Wd)))), []⟩
 | _ => none
theorem fcReWrap : FC Tryz.prog 187 FReWrap := by
 intro xs pre r us h hp
 unfold FReWrap at h
 split at h
 . rename_i h0 l0 h1 l1
   cases h
   obtain ⟨hp0, hp1, hp2⟩ := hp
   refine fcat tys_ok (l := [(137, ⟨[], FWSub⟩), (204, ⟨[], FWCmp⟩), (141, ⟨[], FWLow⟩), (211, ⟨[], FSAll⟩), (32, ⟨[], FSOf⟩)]) ⟨fcWSub, fcWCmp, fcWLow, fcSAll, fcSOf, trivial⟩ Tryz.func187 rfl (by kernel_rfl) false ?_
   repeat' (first | exact trivial | (with_reducible first | exact hp0 | exact hp1 | exact hp2 | exact hp0.1 | exact hp0.2 | exact hp1.1 | exact hp1.2 | exact hp2.1 | exact hp2.2 | exact wd_ok _ | exact (wd_ok _).1.1 | exact (wd_ok _).1.2 | exact (wd_ok _).2.1 | exact (wd_ok _).2.2 | exact wr_r _ | exact (wr_r _).1 | exact (wr_r _).2) | refine ⟨?_, ?_⟩ | intro _)
   all_goals first | (with_reducible apply qq) | (conv => whnf)
   all_goals (try simp only [wr_low] at *)
   all_goals first | exact (cmp_no hp2.1 ‹_›).elim | exact (wr_r _).1 | exact (wr_r _).2 | (have e := wr_1 hp2.1 hp2.2 ‹_›; first | exact congrArg (fun i : Sp => Value.bool i.some) e.symm | exact congrArg (fun i : Sp => Value.int .i64 i.lo) e.symm | exact congrArg (fun i : Sp => Value.int .i64 i.hi) e.symm | fail) | (have e := wr_2 hp2.1 hp2.2 ‹_› ‹_›; first | exact congrArg (fun i : Sp => Value.bool i.some) e.symm | exact congrArg (fun i : Sp => Value.int .i64 i.lo) e.symm | exact congrArg (fun i : Sp => Value.int .i64 i.hi) e.symm | fail) | (have e := wr_3 hp2.1 hp2.2 ‹_› ‹_›; first | exact congrArg (fun i : Sp => Value.bool i.some) e.symm | exact congrArg (fun i : Sp => Value.int .i64 i.lo) e.symm | exact congrArg (fun i : Sp => Value.int .i64 i.hi) e.symm | fail)
 . cases h
theorem foldl_mem {f : Int -> Int -> Int} (hf : ∀ a b, f a b = a \/ f a b = b) : ∀ (l : List Int) (a : Int), l.foldl f a = a \/ l.foldl f a ∈ l
 | [], a => .inl rfl
 | b :: l, a => by
   have ih := foldl_mem hf l (f a b)
   rw [List.foldl_cons]
   rcases ih with h | h
   . rcases hf a b with h2 | h2
     . left; rw [h, h2]
     . right; rw [h, h2]; exact List.mem_cons_self
   . right; exact List.mem_cons_of_mem _ h
theorem minL_mem (a : Int) (l : List Int) : minL a l = a \/ minL a l ∈ l := foldl_mem (fun a b => by split <;> simp) l a
theorem maxL_mem (a : Int) (l : List Int) : maxL a l = a \/ maxL a l ∈ l := foldl_mem (fun a b => by split <;> simp) l a
theorem valsW_mem {n : Nat} {f : Nat -> List DV} {x : Int} (h : x ∈ valsW n f) : ∃ i, i < n /\ x = (gW (f i)).val := by
 unfold valsW at h
 obtain ⟨i, hi, rfl⟩ := List.mem_map.1 h
 exact ⟨i, List.mem_range.1 hi, rfl⟩
theorem valsW_0 {n : Nat} {f : Nat -> List DV} (h : 0 < n) : ∃ l, valsW n f = (gW (f 0)).val :: l := by
 cases n with
 | zero => omega
 | succ n => unfold valsW; rw [List.range_succ_eq_map]; exact ⟨_, rfl⟩
theorem ar_key {n : Nat} {f : Nat -> List DV} (h : 0 < n) (hr : ∀ i, i < n -> -85070591730234615865843651857942052864 < (gW (f i)).val /\ (gW (f i)).val <= 85070591730234615865843651857942052864) : around (valsW n f) = wrapI (bsN (-1) (gW (f 0)) f n).val (bsN 1 (gW (f 0)) f n).val /\ (bsN (-1) (gW (f 0)) f n).val <= (bsN 1 (gW (f 0)) f n).val /\ (bsN 1 (gW (f 0)) f n).val - (bsN (-1) (gW (f 0)) f n).val < 170141183460469231731687303715884105728 := by
 rw [bs_min, bs_max]
 obtain ⟨l, hl⟩ := valsW_0 (f := f) h
 refine ⟨by rw [hl]; rfl, Int.le_trans (minL_le _ _).1 (le_maxL _ _).1, ?_⟩
 have b1 : -85070591730234615865843651857942052864 < minL (gW (f 0)).val (valsW n f) := by
  rcases minL_mem (gW (f 0)).val (valsW n f) with e | e
  . rw [e]; exact (hr 0 h).1
  . obtain ⟨i, hi, e⟩ := valsW_mem e; rw [e]; exact (hr i hi).1
 have b2 : maxL (gW (f 0)).val (valsW n f) <= 85070591730234615865843651857942052864 := by
  rcases maxL_mem (gW (f 0)).val (valsW n f) with e | e
  . rw [e]; exact (hr 0 h).2
  . obtain ⟨i, hi, e⟩ := valsW_mem e; rw [e]; exact (hr i hi).2
 generalize minL (gW (f 0)).val (valsW n f) = a at *
 generalize maxL (gW (f 0)).val (valsW n f) = b at *
 omega
def FReAround : List Ar -> Option Rs
 | [.c (.d (.lst 2 n0 f0))] => some ⟨((n0 <= 1000000 /\ ∀ i, i < n0 -> f0 i = [it (gW (f0 i)).hi, ut (gW (f0 i)).lo] /\ Wd.ok (gW (f0 i)))) /\ (∀ i, i < n0 -> -85070591730234615865843651857942052864 < (gW (f0 i)).val /\ (gW (f0 i)).val <= 85070591730234615865843651857942052864), .va (Sp.ar (around (valsW n0 f0))), []⟩
 | _ => none
theorem fcReAround : FC Tryz.prog 156 FReAround := by
 intro xs pre r us h hp
 unfold FReAround at h
 split at h
 . rename_i n0 f0
   cases h
   obtain ⟨hp0, hp1⟩ := hp
   refine FCat.of_eq (as' := [.c (.d (.lst 2 n0 fun i => [it (gW (f0 i)).hi, ut (gW (f0 i)).lo]))]) ?_ rfl rfl ?_
   . repeat' (first | exact trivial | exact rfl | refine ⟨?_, ?_⟩ | fail)
     all_goals first | (intro i hi; exact (hp0.2 i hi).1) | exact hp0.2 | exact hp1.2 | exact hp2.2 | (intro i hi; exact (hp0.2 i hi).1) | (intro i hi; exact (hp1.2 i hi).1) | (intro i hi; exact (hp2.2 i hi).1) | grind
   refine fcat tys_ok (l := [(188, ⟨[], FWMinN⟩), (139, ⟨[], FWMaxN⟩), (187, ⟨[], FReWrap⟩)]) ⟨fcWMinN, fcWMaxN, fcReWrap, trivial⟩ Tryz.func156 rfl (by kernel_rfl) true ?_
   rcases Nat.eq_zero_or_pos n0 with rfl | hn
   . have hne : (((0 : Nat) : Int) == 0) = true := rfl
     repeat' (first | exact trivial | (with_reducible exact nx hne) | refine ⟨?_, ?_⟩ | intro _)
     all_goals first | (with_reducible apply qq) | (conv => whnf)
     all_goals first | rfl
   . have hne : ((n0 : Int) == 0) = false := beq_eq_false_iff_ne.2 (by omega)
     have hk := ar_key hn hp1
     have h1 := bsN_ok (s := 1) (hp0.2 0 hn).2 n0 fun i hi => (hp0.2 i hi).2
     have h2 := bsN_ok (s := -1) (hp0.2 0 hn).2 n0 fun i hi => (hp0.2 i hi).2
     have h3 := (hp0.2 0 hn).2
     repeat' (first | exact trivial | (with_reducible first | exact nx hne | exact hp0.1) | refine ⟨?_, ?_⟩ | intro _)
     all_goals first | (with_reducible apply qq) | (conv => whnf)
     all_goals (try simp only [bsN_canon, Int.toNat_zero] at *)
     all_goals first | exact Nat.le_refl _ | rfl | omega | exact h1.1.1 | exact h1.1.2 | exact h1.2.1 | exact h1.2.2 | exact h2.1.1 | exact h2.1.2 | exact h2.2.1 | exact h2.2.2 | exact h3.1.1 | exact h3.1.2 | exact h3.2.1 | exact h3.2.2 | exact hp0.1 | exact (hp0.2 _ ‹_›).2.1.1 | exact (hp0.2 _ ‹_›).2.1.2 | exact (hp0.2 _ ‹_›).2.2.1 | exact (hp0.2 _ ‹_›).2.2.2 | exact hk.2.1 | exact hk.2.2 | (have e := hk.1; first | exact congrArg (fun i : Sp => Value.bool i.some) e.symm | exact congrArg (fun i : Sp => Value.int .i64 i.lo) e.symm | exact congrArg (fun i : Sp => Value.int .i64 i.hi) e.symm | fail)
 . cases h
def FReDo1 : List Ar -> Option Rs
 | [.c (.d (.v (.int .i64 i0))), .c (.d (.v (.int .i64 i1))), .rp [.v (.int .i64 i2)]] => some ⟨(-9223372036854775808 <= i0 /\ i0 < 9223372036854775808) /\ (-9223372036854775808 <= i1 /\ i1 < 9223372036854775808) /\ (-9223372036854775808 <= i2 /\ i2 < 9223372036854775808), .va (Wd.ar (wd (exI i2 i0 i1))), []⟩
 | _ => none
theorem fcReDo1 : FC Tryz.prog 155 FReDo1 := by
 intro xs pre r us h hp
 unfold FReDo1 at h
 split at h
 . rename_i i0 i1 i2
   cases h
   obtain ⟨hp0, hp1, hp2⟩ := hp
   refine fcat tys_ok (l := [(150, ⟨[], FXExact⟩)]) ⟨fcXExact, trivial⟩ Tryz.func155 rfl (by kernel_rfl) false ?_
   repeat' (first | exact trivial | (with_reducible first | exact hp0 | exact hp1 | exact hp2 | exact hp0.1 | exact hp0.2 | exact hp1.1 | exact hp1.2 | exact hp2.1 | exact hp2.2 | exact wd_ok _ | exact (wd_ok _).1.1 | exact (wd_ok _).1.2 | exact (wd_ok _).2.1 | exact (wd_ok _).2.2) | refine ⟨?_, ?_⟩ | intro _)
   all_goals first | (with_reducible apply qq) | (conv => whnf)
   all_goals first | exact (wd_ok _).1.1 | exact (wd_ok _).1.2 | exact (wd_ok _).2.1 | exact (wd_ok _).2.2 | rfl
 . cases h
def rwW (W : List Int) (i : Nat) : List DV := [it (wd (W.getD i 0)).hi, ut (wd (W.getD i 0)).lo]
abbrev gEx (op : Int) : List Cv -> Option Gs := mkFv (sums [(155, ⟨[], FReDo1⟩)]) 155 [.rp [.v (.int .i64 op)]]
def crn (f : Int -> Int -> Int) (a b : Sp) : List Int := [f a.lo b.lo, f a.lo b.hi, f a.hi b.lo, f a.hi b.hi]
theorem crn_row {f : Int -> Int -> Int} {a b : Sp} {i : Nat} (h : i < 4) : Sx.rowAt 2 [it (wd (f a.lo b.lo)).hi, ut (wd (f a.lo b.lo)).lo, it (wd (f a.lo b.hi)).hi, ut (wd (f a.lo b.hi)).lo, it (wd (f a.hi b.lo)).hi, ut (wd (f a.hi b.lo)).lo, it (wd (f a.hi b.hi)).hi, ut (wd (f a.hi b.hi)).lo] (0 + i) = rwW (crn f a b) i := by
 have : i = 0 \/ i = 1 \/ i = 2 \/ i = 3 := by omega
 rcases this with rfl | rfl | rfl | rfl <;> rfl
def FReCornE (op : Int) : List Ar -> Option Rs
 | [.agg [.d (.v (.bool s0)), .d (.v (.int .i64 l0)), .d (.v (.int .i64 h0))], .agg [.d (.v (.bool s1)), .d (.v (.int .i64 l1)), .d (.v (.int .i64 h1))], .fv g2] => some ⟨(Sp.inR ⟨s0, l0, h0⟩) /\ (Sp.inR ⟨s1, l1, h1⟩) /\ (g2 = gEx op /\ (-9223372036854775808 <= op /\ op < 9223372036854775808)), .va (.c (.d (.lst 2 4 (rwW (crn (exI op) (⟨s0, l0, h0⟩ : Sp) (⟨s1, l1, h1⟩ : Sp)))))), []⟩
 | _ => none
theorem fcReCornE (op : Int) : FC Tryz.prog 157 (FReCornE op) := by
 intro xs pre r us h hp
 unfold FReCornE at h
 split at h
 . rename_i s0 l0 h0 s1 l1 h1 g2
   cases h
   obtain ⟨hp0, hp1, hp2⟩ := hp
   refine fcat tys_ok (l := [(155, ⟨[], FReDo1⟩)]) ⟨fcReDo1, trivial⟩ Tryz.func157 rfl (by kernel_rfl) true ?_
   obtain ⟨rfl, hop⟩ := hp2
   unfold Sp.inR at hp0 hp1
   have r1 := And.intro hp0.1 (And.intro hp1.1 hop)
   have r2 := And.intro hp0.1 (And.intro hp1.2 hop)
   have r3 := And.intro hp0.2 (And.intro hp1.1 hop)
   have r4 := And.intro hp0.2 (And.intro hp1.2 hop)
   repeat' (first | exact trivial | (with_reducible first | exact r1 | exact r2 | exact r3 | exact r4) | refine ⟨?_, ?_⟩ | intro _)
   all_goals first | (with_reducible apply qq) | (conv => whnf)
   all_goals first | exact crn_row (a := ⟨s0, l0, h0⟩) (b := ⟨s1, l1, h1⟩) ‹_› | exact Nat.le_refl _
 . cases h
end Go.Proofs.YtokjghkehojenaaGreat
namespace Go.Sx
section
variable {P : Program} {τ : Tys}
def thenJ (K : St -> Prop) (Q : Exit -> St -> Prop) : Exit -> St -> Prop
 | .normal, st => K st
 | .exit id, st => Q (.exit id) st
 | .goto l, st => Q (.goto l) st
 | .ret, st => Q .ret st
 | _, _ => False
variable {base : Nat} {x y z : Code} {st : St} {Q : Exit → St → Prop}
variable {t : TT} {l : List (Nat × Sm)}
end
def unrN (P : Program) (τ : Tys) (Γ : Sums) (calls : Nat -> List Va -> St -> (Tm -> St -> Prop) -> Prop) (base : Nat) (c : Code) (Q : Exit -> St -> Prop) : Nat -> St -> Prop
 | 0, _ => False
 | n + 1, st => vc P τ Γ calls base c st fun e st' => match e with
   | .normal => unrN P τ Γ calls base c Q n st'
   | .exit i => Q (.exit i) st'
   | .goto i => Q (.goto i) st'
   | .ret => Q .ret st'
   | _ => False
theorem loop_n {P : Program} {t : TT} (ht : t.ok P) {l : List (Nat × Sm)} (hl : sumsOk P l) (hmix : P.follows .mixedOrders = true) {base : Nat} {c : Code} {Q : Exit -> St -> Prop} {st : St} (n : Nat)
 (h : unrN P t.get (sums l) (vcCall P (sums l) base) base c Q n st) : ASat P base (.loop c) st Q := by
 refine ⟨fun ψ S w a hr => ?_⟩
 refine wp_loop_by (P := P) (fun k a' w' => ∃ st ψ' S', unrN P t.get (sums l) (vcCall P (sums l) base) base c Q k st /\ Rel P base ψ' S' w' st a' /\ Ext base ψ S w ψ' S' w') ?_ ⟨st, ψ, S, h, hr, Ext.refl _ _ _ _⟩
 rintro k a1 w1 ⟨st1, ψ1, S1, hk, hr1, he1⟩
 cases k with
 | zero => exact hk.elim
 | succ k =>
   refine wp_mono ((vc_ok (TT.tysOk ht) (TT.zeros ht) (sums_ok hl) hmix (vcCall_ok (sums_ok hl) base) c _ _ hk).run ψ1 S1 w1 a1 hr1) ?_
   rintro e a2 w2 ⟨st2, ψ2, S2, hq, hr2, he2⟩
   cases e with
   | normal => exact ⟨k, Nat.lt_succ_self k, st2, ψ2, S2, hq, hr2, he1.trans he2⟩
   | exit id => exact ⟨st2, ψ2, S2, hq, hr2, he1.trans he2⟩
   | goto l => exact ⟨st2, ψ2, S2, hq, hr2, he1.trans he2⟩
   | ret => exact ⟨st2, ψ2, S2, hq, hr2, he1.trans he2⟩
   | panic ch => exact hq.elim
   | outgrown => exact hq.elim
end Go.Sx
namespace Go.Proofs.YtokjghkehojenaaGreat
open Go.Sx
theorem gW_rwW (W : List Int) (i : Nat) : gW (rwW W i) = wd (W.getD i 0) := rfl
def Wok (n : Nat) (f : Nat -> List DV) : Prop := ∀ i, i < n -> f i = [it (gW (f i)).hi, ut (gW (f i)).lo] /\ Wd.ok (gW (f i))
def Wrg (n : Nat) (f : Nat -> List DV) : Prop := ∀ i, i < n -> -85070591730234615865843651857942052864 < (gW (f i)).val /\ (gW (f i)).val <= 85070591730234615865843651857942052864
theorem wok_rw (n : Nat) (W : List Int) : Wok n (rwW W) := fun i _ => ⟨rfl, wd_ok _⟩
theorem wd_valS {v : Int} (h0 : -85070591730234615865843651857942052864 < v) (h1 : v <= 85070591730234615865843651857942052864) : (wd v).val = v := wd_val (by omega) (by omega)
theorem lt4 {i : Nat} (h : i < 4) : i = 0 \/ i = 1 \/ i = 2 \/ i = 3 := by omega
theorem rw_vals {a b c d : Int} (ha : -85070591730234615865843651857942052864 < a /\ a <= 85070591730234615865843651857942052864) (hb : -85070591730234615865843651857942052864 < b /\ b <= 85070591730234615865843651857942052864) (hc : -85070591730234615865843651857942052864 < c /\ c <= 85070591730234615865843651857942052864) (hd : -85070591730234615865843651857942052864 < d /\ d <= 85070591730234615865843651857942052864) : valsW 4 (rwW [a, b, c, d]) = [a, b, c, d] /\ Wrg 4 (rwW [a, b, c, d]) := by
 constructor
 . show [(wd a).val, (wd b).val, (wd c).val, (wd d).val] = _
   rw [wd_valS ha.1 ha.2, wd_valS hb.1 hb.2, wd_valS hc.1 hc.2, wd_valS hd.1 hd.2]
 . intro i hi
   rw [gW_rwW]
   rcases lt4 hi with e | e | e | e <;> subst e
   . show _ < (wd a).val /\ (wd a).val <= _; rw [wd_valS ha.1 ha.2]; exact ha
   . show _ < (wd b).val /\ (wd b).val <= _; rw [wd_valS hb.1 hb.2]; exact hb
   . show _ < (wd c).val /\ (wd c).val <= _; rw [wd_valS hc.1 hc.2]; exact hc
   . show _ < (wd d).val /\ (wd d).val <= _; rw [wd_valS hd.1 hd.2]; exact hd
theorem ex_rng {op x y : Int} (rx : -9223372036854775808 <= x /\ x < 9223372036854775808) (ry : -9223372036854775808 <= y /\ y < 9223372036854775808) : -85070591730234615865843651857942052864 < exI op x y /\ exI op x y <= 85070591730234615865843651857942052864 := by
 have m1 := mul_hi (a := -9223372036854775808) (b := 9223372036854775808 - 1) (c := -9223372036854775808) (d := 9223372036854775808 - 1) (x := x) (y := y) (hi := 85070591730234615865843651857942052864) (by omega) (by omega) (by omega) (by omega) (by decide) (by decide) (by decide) (by decide)
 have m2 := mul_lo (a := -9223372036854775808) (b := 9223372036854775808 - 1) (c := -9223372036854775808) (d := 9223372036854775808 - 1) (x := x) (y := y) (lo := -85070591730234615865843651857942052864 + 9223372036854775808) (by omega) (by omega) (by omega) (by omega) (by decide) (by decide) (by decide) (by decide)
 unfold exI; (repeat' split) <;> omega
def rkOne (op : Int) (a : Sp) : Sp := if a.none then noS else if op = 5 then rkDo 11 (Sp.of 0 0) a else if op = 6 then truthS (aloneS a 0) (!a.has 0) else noS
section
variable (a b : Sp)
end
section
variable {op : Int} {a b : Cg} {w : Bool}
def rsOne0 (op : Int) (a : Cg) (w : Bool) : Cg := if !a.some then a else if op = 5 then rsDo 11 (Cg.of 0 0) a w else if op ≠ 6 then Cg.none else if alC a 0 then Cg.of 0 1 else if !a.has 0 then Cg.of 0 0 else Cg.of 1 0
def rsOne (op : Int) (a : Cg) (w : Bool) : Cg := rsOne0 op a.clean w
section
variable (h : a.some = true) (h2 : b.some = true)
include h h2
variable (z : ¬ (a.m = 0 ∧ b.m = 0))
include z
end
end
section
variable {op : Int} {a : Cg} {w : Bool}
end
def FRsOne : List Ar -> Option Rs
 | [.c (.d (.v (.int .i64 i0))), .agg [.d (.v (.bool b1)), .d (.v (.int .i64 m1)), .d (.v (.int .i64 r1))], .c (.d (.v (.bool b2)))] => some ⟨(-9223372036854775808 <= i0 /\ i0 < 9223372036854775808) /\ (Cg.inR ⟨b1, m1, r1⟩), .va (Cg.ar (rsOne i0 (⟨b1, m1, r1⟩ : Cg) b2)), []⟩
 | _ => none
section
variable {op : Int} {a b : Sp}
theorem wr_n1 (h : a.none = true) : wrB op a b = false := by unfold wrB; rw [if_pos (by rw [h]; rfl)]
theorem wr_n2 (h : b.none = true) : wrB op a b = false := by unfold wrB; rw [if_pos (by rw [h]; cases a.none <;> rfl)]
theorem wr_8 (h : a.none = false) (h2 : b.none = false) : wrB 8 a b = (a.has (-9223372036854775808) && b.has (-1)) := by unfold wrB; rw [if_neg (by rw [h, h2]; decide), if_pos rfl]
theorem wr_x (h : a.none = false) (h2 : b.none = false) (h8 : op ≠ 8) : wrB op a b = (corners (exI op) a b).any fun e => exB op && !wIntB e := by unfold wrB; rw [if_neg (by rw [h, h2]; decide), if_neg h8]
theorem wr_c0 (h : a.none = false) (h2 : b.none = false) (h8 : op ≠ 8) (hx : exB op = true) : wrB op a b = (!wIntB (exI op a.lo b.lo) || (!wIntB (exI op a.lo b.hi) || (!wIntB (exI op a.hi b.lo) || (!wIntB (exI op a.hi b.hi) || false)))) := by
 rw [wr_x h h2 h8, hx]; rfl
theorem exv {x y : Int} (rx : -9223372036854775808 <= x /\ x < 9223372036854775808) (ry : -9223372036854775808 <= y /\ y < 9223372036854775808) : (wd (exI op x y)).val = exI op x y := by have := ex_rng (op := op) rx ry; exact wd_valS this.1 this.2
theorem wr_c (ra : (-9223372036854775808 <= a.lo /\ a.lo < 9223372036854775808) /\ -9223372036854775808 <= a.hi /\ a.hi < 9223372036854775808) (rb : (-9223372036854775808 <= b.lo /\ b.lo < 9223372036854775808) /\ -9223372036854775808 <= b.hi /\ b.hi < 9223372036854775808) (h : a.none = false) (h2 : b.none = false) (h8 : op ≠ 8) (hx : exB op = true) : wrB op a b = (!wIntB (wd (exI op a.lo b.lo)).val || (!wIntB (wd (exI op a.lo b.hi)).val || (!wIntB (wd (exI op a.hi b.lo)).val || (!wIntB (wd (exI op a.hi b.hi)).val || false)))) := by
 rw [exv ra.1 rb.1, exv ra.1 rb.2, exv ra.2 rb.1, exv ra.2 rb.2]; exact wr_c0 h h2 h8 hx
theorem wr_f (h : a.none = false) (h2 : b.none = false) (h8 : op ≠ 8) (hx : exB op = false) : wrB op a b = false := by
 rw [wr_x h h2 h8, hx]; rfl
end
def FCWraps : List Ar -> Option Rs
 | [.c (.d (.v (.int .i64 i0))), .agg [.d (.v (.bool s1)), .d (.v (.int .i64 l1)), .d (.v (.int .i64 h1))], .agg [.d (.v (.bool s2)), .d (.v (.int .i64 l2)), .d (.v (.int .i64 h2))]] => some ⟨(-9223372036854775808 <= i0 /\ i0 < 9223372036854775808) /\ (Sp.inR ⟨s1, l1, h1⟩) /\ (Sp.inR ⟨s2, l2, h2⟩), .va (.c (.d (bo (wrB i0 (⟨s1, l1, h1⟩ : Sp) (⟨s2, l2, h2⟩ : Sp))))), []⟩
 | _ => none
abbrev sl4P : List (Nat × Sm) := [(34, ⟨[], FSNone⟩), (47, ⟨[], FSHas⟩), (150, ⟨[], FXExact⟩), (99, ⟨[], FWInt⟩)]
theorem sp4P : sumsOk Tryz.prog sl4P := ⟨fcSNone, fcSHas, fcXExact, fcWInt, trivial⟩
theorem fcCWraps : FC Tryz.prog 114 FCWraps := by
 intro xs pre r us h hp
 unfold FCWraps at h
 split at h
 . rename_i i0 s1 l1 h1 s2 l2 h2
   cases h
   obtain ⟨hp0, hp1, hp2⟩ := hp
   refine fcat tys_ok (l := sl4P) sp4P Tryz.func114 rfl (by kernel_rfl) false ?_
   unfold Sp.inR at hp1 hp2
   have hi0 : decide ((0 : Int) < 2) = true := rfl
   have hi1 : decide (IntKind.i64.wrap (0 + 1) < (2 : Int)) = true := rfl
   have hi2 : decide (IntKind.i64.wrap (IntKind.i64.wrap (0 + 1) + 1) < (2 : Int)) = false := rfl
   all_goals first | (by_cases e8 : i0 = 8) | skip
   all_goals first | (cases nA : Sp.none (⟨s1, l1, h1⟩ : Sp)) | skip
   all_goals first | (have _ := (show _ = false from nA); cases nB : Sp.none (⟨s2, l2, h2⟩ : Sp)) | skip
   all_goals first | (have _ := (show _ = false from nB); have _ := (show ¬ _ from e8); cases hx : exB i0) | skip
   all_goals first | (have _ := (show _ = true from hx); cases w0 : wIntB ((wd (exI i0 l1 l2)).val)) | skip
   all_goals first | (have _ := (show _ = true from w0); cases w1 : wIntB ((wd (exI i0 l1 h2)).val)) | skip
   all_goals first | (have _ := (show _ = true from w1); cases w2 : wIntB ((wd (exI i0 h1 l2)).val)) | skip
   all_goals first | (have _ := (show _ = true from w2); cases w3 : wIntB ((wd (exI i0 h1 h2)).val)) | skip
   all_goals first | (have k8 := e8; have _ := (show _ = _ from k8)) | skip
   all_goals first | subst e8 | skip
   all_goals first | (have e := wr_n1 (op := i0) (a := (⟨s1, l1, h1⟩ : Sp)) (b := (⟨s2, l2, h2⟩ : Sp)) nA) | (have e := wr_n2 (op := i0) (a := (⟨s1, l1, h1⟩ : Sp)) (b := (⟨s2, l2, h2⟩ : Sp)) nB) | (have _ := k8; have e := wr_8 (a := (⟨s1, l1, h1⟩ : Sp)) (b := (⟨s2, l2, h2⟩ : Sp)) nA nB) | (have e := wr_f (a := (⟨s1, l1, h1⟩ : Sp)) (b := (⟨s2, l2, h2⟩ : Sp)) nA nB e8 hx) | (have e := wr_c (a := (⟨s1, l1, h1⟩ : Sp)) (b := (⟨s2, l2, h2⟩ : Sp)) hp1 hp2 nA nB e8 hx) | (have e := wr_n1 (op := 8) (a := (⟨s1, l1, h1⟩ : Sp)) (b := (⟨s2, l2, h2⟩ : Sp)) nA) | (have e := wr_n2 (op := 8) (a := (⟨s1, l1, h1⟩ : Sp)) (b := (⟨s2, l2, h2⟩ : Sp)) nB) | skip
   all_goals repeat' (first | exact trivial | (with_reducible first | exact hp0 | exact hp1 | exact hp2 | exact hp1.1 | exact hp1.2 | exact hp2.1 | exact hp2.2 | exact And.intro hp0 (And.intro hp1.1 hp2.1) | exact And.intro hp0 (And.intro hp1.1 hp2.2) | exact And.intro hp0 (And.intro hp1.2 hp2.1) | exact And.intro hp0 (And.intro hp1.2 hp2.2) | exact wd_ok _ | exact (wd_ok _).1.1 | exact (wd_ok _).1.2 | exact (wd_ok _).2.1 | exact (wd_ok _).2.2 | exact (fun h : (0 : Int) = ((1 : Nat) : Int) => absurd h (by decide)) | exact (fun h : IntKind.i64.wrap (0 + 1) = ((0 : Nat) : Int) => absurd h (by decide)) | exact nx hi0 | exact nx hi1 | exact nx hi2 | exact (nx (beq_eq_false_iff_ne.2 e8)) | exact nx nA | exact nx nB | exact nx hx | exact nx w0 | exact nx w1 | exact nx w2 | exact nx w3 | exact (nx (congrArg Bool.not nA)) | exact (nx (congrArg Bool.not nB)) | exact (nx (congrArg Bool.not hx)) | exact (nx (congrArg Bool.not w0)) | exact (nx (congrArg Bool.not w1)) | exact (nx (congrArg Bool.not w2)) | exact (nx (congrArg Bool.not w3)) | exact nd) | refine ⟨?_, ?_⟩ | intro _)
   all_goals first | (with_reducible apply qq) | (conv => whnf)
   all_goals first | ((with_reducible show ASat _ _ _ _ _); refine loop_n tys_ok (l := sl4P) sp4P (by kernel_rfl) 3 ?_) | skip
   all_goals repeat' (first | exact trivial | (with_reducible first | exact hp0 | exact hp1 | exact hp2 | exact hp1.1 | exact hp1.2 | exact hp2.1 | exact hp2.2 | exact And.intro hp0 (And.intro hp1.1 hp2.1) | exact And.intro hp0 (And.intro hp1.1 hp2.2) | exact And.intro hp0 (And.intro hp1.2 hp2.1) | exact And.intro hp0 (And.intro hp1.2 hp2.2) | exact wd_ok _ | exact (wd_ok _).1.1 | exact (wd_ok _).1.2 | exact (wd_ok _).2.1 | exact (wd_ok _).2.2 | exact (fun h : (0 : Int) = ((1 : Nat) : Int) => absurd h (by decide)) | exact (fun h : IntKind.i64.wrap (0 + 1) = ((0 : Nat) : Int) => absurd h (by decide)) | exact nx hi0 | exact nx hi1 | exact nx hi2 | exact (nx (beq_eq_false_iff_ne.2 e8)) | exact nx nA | exact nx nB | exact nx hx | exact nx w0 | exact nx w1 | exact nx w2 | exact nx w3 | exact (nx (congrArg Bool.not nA)) | exact (nx (congrArg Bool.not nB)) | exact (nx (congrArg Bool.not hx)) | exact (nx (congrArg Bool.not w0)) | exact (nx (congrArg Bool.not w1)) | exact (nx (congrArg Bool.not w2)) | exact (nx (congrArg Bool.not w3)) | exact nd) | refine ⟨?_, ?_⟩ | intro _)
   all_goals first | (with_reducible apply qq) | (conv => whnf)
   all_goals first | ((with_reducible show ASat _ _ _ _ _); refine loop_n tys_ok (l := sl4P) sp4P (by kernel_rfl) 3 ?_) | skip
   all_goals repeat' (first | exact trivial | (with_reducible first | exact hp0 | exact hp1 | exact hp2 | exact hp1.1 | exact hp1.2 | exact hp2.1 | exact hp2.2 | exact And.intro hp0 (And.intro hp1.1 hp2.1) | exact And.intro hp0 (And.intro hp1.1 hp2.2) | exact And.intro hp0 (And.intro hp1.2 hp2.1) | exact And.intro hp0 (And.intro hp1.2 hp2.2) | exact wd_ok _ | exact (wd_ok _).1.1 | exact (wd_ok _).1.2 | exact (wd_ok _).2.1 | exact (wd_ok _).2.2 | exact (fun h : (0 : Int) = ((1 : Nat) : Int) => absurd h (by decide)) | exact (fun h : IntKind.i64.wrap (0 + 1) = ((0 : Nat) : Int) => absurd h (by decide)) | exact nx hi0 | exact nx hi1 | exact nx hi2 | exact (nx (beq_eq_false_iff_ne.2 e8)) | exact nx nA | exact nx nB | exact nx hx | exact nx w0 | exact nx w1 | exact nx w2 | exact nx w3 | exact (nx (congrArg Bool.not nA)) | exact (nx (congrArg Bool.not nB)) | exact (nx (congrArg Bool.not hx)) | exact (nx (congrArg Bool.not w0)) | exact (nx (congrArg Bool.not w1)) | exact (nx (congrArg Bool.not w2)) | exact (nx (congrArg Bool.not w3)) | exact nd) | refine ⟨?_, ?_⟩ | intro _)
   all_goals first | (with_reducible apply qq) | (conv => whnf)
   all_goals first | ((with_reducible show ASat _ _ _ _ _); refine loop_n tys_ok (l := sl4P) sp4P (by kernel_rfl) 3 ?_) | skip
   all_goals repeat' (first | exact trivial | (with_reducible first | exact hp0 | exact hp1 | exact hp2 | exact hp1.1 | exact hp1.2 | exact hp2.1 | exact hp2.2 | exact And.intro hp0 (And.intro hp1.1 hp2.1) | exact And.intro hp0 (And.intro hp1.1 hp2.2) | exact And.intro hp0 (And.intro hp1.2 hp2.1) | exact And.intro hp0 (And.intro hp1.2 hp2.2) | exact wd_ok _ | exact (wd_ok _).1.1 | exact (wd_ok _).1.2 | exact (wd_ok _).2.1 | exact (wd_ok _).2.2 | exact (fun h : (0 : Int) = ((1 : Nat) : Int) => absurd h (by decide)) | exact (fun h : IntKind.i64.wrap (0 + 1) = ((0 : Nat) : Int) => absurd h (by decide)) | exact nx hi0 | exact nx hi1 | exact nx hi2 | exact (nx (beq_eq_false_iff_ne.2 e8)) | exact nx nA | exact nx nB | exact nx hx | exact nx w0 | exact nx w1 | exact nx w2 | exact nx w3 | exact (nx (congrArg Bool.not nA)) | exact (nx (congrArg Bool.not nB)) | exact (nx (congrArg Bool.not hx)) | exact (nx (congrArg Bool.not w0)) | exact (nx (congrArg Bool.not w1)) | exact (nx (congrArg Bool.not w2)) | exact (nx (congrArg Bool.not w3)) | exact nd) | refine ⟨?_, ?_⟩ | intro _)
   all_goals first | (with_reducible apply qq) | (conv => whnf)
   all_goals first | ((with_reducible show ASat _ _ _ _ _); refine loop_n tys_ok (l := sl4P) sp4P (by kernel_rfl) 3 ?_) | skip
   all_goals repeat' (first | exact trivial | (with_reducible first | exact hp0 | exact hp1 | exact hp2 | exact hp1.1 | exact hp1.2 | exact hp2.1 | exact hp2.2 | exact And.intro hp0 (And.intro hp1.1 hp2.1) | exact And.intro hp0 (And.intro hp1.1 hp2.2) | exact And.intro hp0 (And.intro hp1.2 hp2.1) | exact And.intro hp0 (And.intro hp1.2 hp2.2) | exact wd_ok _ | exact (wd_ok _).1.1 | exact (wd_ok _).1.2 | exact (wd_ok _).2.1 | exact (wd_ok _).2.2 | exact (fun h : (0 : Int) = ((1 : Nat) : Int) => absurd h (by decide)) | exact (fun h : IntKind.i64.wrap (0 + 1) = ((0 : Nat) : Int) => absurd h (by decide)) | exact nx hi0 | exact nx hi1 | exact nx hi2 | exact (nx (beq_eq_false_iff_ne.2 e8)) | exact nx nA | exact nx nB | exact nx hx | exact nx w0 | exact nx w1 | exact nx w2 | exact nx w3 | exact (nx (congrArg Bool.not nA)) | exact (nx (congrArg Bool.not nB)) | exact (nx (congrArg Bool.not hx)) | exact (nx (congrArg Bool.not w0)) | exact (nx (congrArg Bool.not w1)) | exact (nx (congrArg Bool.not w2)) | exact (nx (congrArg Bool.not w3)) | exact nd) | refine ⟨?_, ?_⟩ | intro _)
   all_goals first | (with_reducible apply qq) | (conv => whnf)
   all_goals first | (with_reducible rfl) | decide | ((with_reducible show Value.bool _ = _); first | (rw [e]; done) | (rw [e]; rfl) | (rw [e]; simp only [*, Bool.not_true, Bool.not_false, Bool.true_or, Bool.false_or, Bool.true_and, Bool.false_and]; done))
 . cases h
def zeroV : Vl := ⟨Ig.zero, ⟨false, []⟩⟩
def intsB (v : Vl) : Bool := !v.i.s.none && v.i.c.some
def bothV (s : Sp) (c : Cg) : Vl := if s.none = true then zeroV else if c.some = false then zeroV else Vl.reduce ⟨⟨s, c⟩, ⟨false, []⟩⟩
def numV (op : Int) (a b : Vl) : Vl := if intsB a = false then zeroV else if intsB b = false then zeroV else bothV (rkDo op a.i.s b.i.s) (rsDo op a.i.c b.i.c (wrB op a.i.s b.i.s))
def lenN (a : Ns) : Int := ((ofS a.names).length : Int) + if a.null then 1 else 0
def onlyB (a : Ns) : Bool := !a.null && decide ((ofS a.names).length = 1)
def onlyT (a : Ns) : ByteArray := if onlyB a then atS (ofS a.names) 0 else ByteArray.empty
def mayB (a b : Ns) : Bool := !(!(a.null && b.null) && decide (ofS (meetS a.names b.names) = []))
def mustB (a b : Ns) : Bool := mayB a b && (lenN a == 1 && lenN b == 1)
def eqMust (a b : Ns) (many : List ByteArray) : Bool := mustB a b && !(onlyB a && memS (onlyT a) many)
def noneN (a : Ns) : Bool := !a.null && decide (a.names = [])
def numO (n : Int) : Vl := ⟨⟨Sp.of n n, Cg.of 0 n⟩, ⟨false, []⟩⟩
def b01 : Vl := Vl.reduce ⟨⟨Sp.of 0 1, Cg.of 1 0⟩, ⟨false, []⟩⟩
def ptrV (op : Int) (a b : Ns) (many : List ByteArray) : Vl :=
 if noneN a = true then zeroV else if noneN b = true then zeroV else if op ≠ 14 /\ op ≠ 15 then zeroV
 else if eqMust a b many = true then numO (if op = 15 then 0 else 1) else if mayB a b = false then numO (if op = 15 then 1 else 0) else b01
def calcDo (op : Int) (a b : Vl) (many : List ByteArray) : Vl := Vl.join (numV op a.of b.of) (ptrV op a.of.t b.of.t many)
section
variable {b b' : Bool} {L L' M : List ByteArray}
end
section
variable {s : Sp} {c : Cg} {a b : Vl} {op : Int} {x y : Ns} {m : List ByteArray}
theorem bo_1 (h : s.none = true) : bothV s c = zeroV := by unfold bothV; rw [if_pos h]
theorem bo_2 (h : c.some = false) : bothV s c = zeroV := by unfold bothV; by_cases k : s.none = true; rw [if_pos k]; rw [if_neg k, if_pos h]
theorem bo_3 (h : s.none = false) (h2 : c.some = true) : bothV s c = Vl.reduce ⟨⟨s, c⟩, ⟨false, []⟩⟩ := by unfold bothV; rw [if_neg (by rw [h]; decide), if_neg (by rw [h2]; decide)]
section
variable (h : noneN x = false) (h2 : noneN y = false)
include h h2
end
end
def FNLen : List Ar -> Option Rs
 | [.agg [.d (.v (.bool b0)), .d (.lst 1 n0 f0)]] => some ⟨(n0 * 16 <= 140737488351232 /\ ∀ i, i < n0 -> f0 i = [st (gT (f0 i))]), .va (.c (.d (it (lenN (⟨b0, gN n0 f0⟩ : Ns))))), []⟩
 | _ => none
def FCInts : List Ar -> Option Rs
 | [.agg [.d (.v (.bool s0)), .d (.v (.int .i64 l0)), .d (.v (.int .i64 h0)), .d (.v (.bool b0)), .d (.v (.int .i64 m0)), .d (.v (.int .i64 r0)), .d (.v (.bool z0)), .d (.lst 1 n0 f0)]] => some ⟨((n0 * 16 <= 140737488351232 /\ ∀ i, i < n0 -> f0 i = [st (gT (f0 i))]) /\ Sp.inR ⟨s0, l0, h0⟩ /\ Cg.inR ⟨b0, m0, r0⟩), .va (.c (.d (bo (intsB (⟨⟨⟨s0, l0, h0⟩, ⟨b0, m0, r0⟩⟩, ⟨z0, gN n0 f0⟩⟩ : Vl))))), []⟩
 | _ => none
theorem fcCInts : FC Tryz.prog 113 FCInts := by
 intro xs pre r us h hp
 unfold FCInts at h
 split at h
 . rename_i s0 l0 h0 b0 m0 r0 z0 n0 f0
   cases h
   have hp0 := hp
   refine FCat.of_eq (as' := [.agg [.d (.v (.bool s0)), .d (.v (.int .i64 l0)), .d (.v (.int .i64 h0)), .d (.v (.bool b0)), .d (.v (.int .i64 m0)), .d (.v (.int .i64 r0)), .d (.v (.bool z0)), .d (.lst 1 n0 fun i => [st (gT (f0 i))])]]) ?_ rfl rfl ?_
   . repeat' (first | exact trivial | exact rfl | refine ⟨?_, ?_⟩ | fail)
     all_goals first | exact hp0.2 | exact hp1.2 | exact hp2.2 | (intro i hi; exact (hp0.2 i hi).1) | (intro i hi; exact (hp1.2 i hi).1) | (intro i hi; exact (hp2.2 i hi).1) | grind
   refine fcat tys_ok (l := [(34, ⟨[], FSNone⟩), (96, ⟨[], FCNone⟩)]) ⟨fcSNone, fcCNone, trivial⟩ Tryz.func113 rfl (by kernel_rfl) false ?_
   have q0 := hp0.2.2; unfold Cg.inR at q0; dsimp only at q0
   have c0 : (gN n0 fun i => [st (gT (f0 i))]) = gN n0 f0 := rfl
   rw [<- c0]
   cases nA : Sp.none ⟨s0, l0, h0⟩
   . cases hb : b0
     . have nAn := congrArg Bool.not nA; simp only [Bool.not_true, Bool.not_false] at nAn
       have hbn := congrArg Bool.not hb; simp only [Bool.not_true, Bool.not_false] at hbn
       have e : intsB (⟨⟨⟨s0, l0, h0⟩, ⟨false, m0, r0⟩⟩, ⟨z0, (gN n0 fun i => [st (gT (f0 i))])⟩⟩ : Vl) = false := by unfold intsB; dsimp only; rw [nA]; rfl
       repeat' (first | exact trivial | (with_reducible first | exact hp0 | exact hp0.1 | exact hp0.2 | exact hp0.2.1 | exact hp0.2.2 | exact hp0.1.1 | exact q0.1 | exact q0.2 | exact q0.1.1 | exact q0.1.2 | exact q0.2.1 | exact q0.2.2 | exact (fun h : false = true => absurd h (by decide)) | exact (fun h : true = false => absurd h (by decide)) | exact (fun h : (!false) = false => absurd h (by decide)) | exact (fun h : (!true) = true => absurd h (by decide)) | exact nx nA | exact nx hb | exact nx nAn | exact nx hbn) | refine ⟨?_, ?_⟩ | intro _)
       all_goals first | (with_reducible apply qq) | (conv => whnf)
       all_goals first | (with_reducible rfl) | decide | (rw [e]; done) | (rw [e]; rfl) | rfl
     . have nAn := congrArg Bool.not nA; simp only [Bool.not_true, Bool.not_false] at nAn
       have hbn := congrArg Bool.not hb; simp only [Bool.not_true, Bool.not_false] at hbn
       have e : intsB (⟨⟨⟨s0, l0, h0⟩, ⟨true, m0, r0⟩⟩, ⟨z0, (gN n0 fun i => [st (gT (f0 i))])⟩⟩ : Vl) = true := by unfold intsB; dsimp only; rw [nA]; rfl
       repeat' (first | exact trivial | (with_reducible first | exact hp0 | exact hp0.1 | exact hp0.2 | exact hp0.2.1 | exact hp0.2.2 | exact hp0.1.1 | exact q0.1 | exact q0.2 | exact q0.1.1 | exact q0.1.2 | exact q0.2.1 | exact q0.2.2 | exact (fun h : false = true => absurd h (by decide)) | exact (fun h : true = false => absurd h (by decide)) | exact (fun h : (!false) = false => absurd h (by decide)) | exact (fun h : (!true) = true => absurd h (by decide)) | exact nx nA | exact nx hb | exact nx nAn | exact nx hbn) | refine ⟨?_, ?_⟩ | intro _)
       all_goals first | (with_reducible apply qq) | (conv => whnf)
       all_goals first | (with_reducible rfl) | decide | (rw [e]; done) | (rw [e]; rfl) | rfl
   . cases hb : b0
     . have nAn := congrArg Bool.not nA; simp only [Bool.not_true, Bool.not_false] at nAn
       have hbn := congrArg Bool.not hb; simp only [Bool.not_true, Bool.not_false] at hbn
       have e : intsB (⟨⟨⟨s0, l0, h0⟩, ⟨false, m0, r0⟩⟩, ⟨z0, (gN n0 fun i => [st (gT (f0 i))])⟩⟩ : Vl) = false := by unfold intsB; dsimp only; rw [nA]; rfl
       repeat' (first | exact trivial | (with_reducible first | exact hp0 | exact hp0.1 | exact hp0.2 | exact hp0.2.1 | exact hp0.2.2 | exact hp0.1.1 | exact q0.1 | exact q0.2 | exact q0.1.1 | exact q0.1.2 | exact q0.2.1 | exact q0.2.2 | exact (fun h : false = true => absurd h (by decide)) | exact (fun h : true = false => absurd h (by decide)) | exact (fun h : (!false) = false => absurd h (by decide)) | exact (fun h : (!true) = true => absurd h (by decide)) | exact nx nA | exact nx hb | exact nx nAn | exact nx hbn) | refine ⟨?_, ?_⟩ | intro _)
       all_goals first | (with_reducible apply qq) | (conv => whnf)
       all_goals first | (with_reducible rfl) | decide | (rw [e]; done) | (rw [e]; rfl) | rfl
     . have nAn := congrArg Bool.not nA; simp only [Bool.not_true, Bool.not_false] at nAn
       have hbn := congrArg Bool.not hb; simp only [Bool.not_true, Bool.not_false] at hbn
       have e : intsB (⟨⟨⟨s0, l0, h0⟩, ⟨true, m0, r0⟩⟩, ⟨z0, (gN n0 fun i => [st (gT (f0 i))])⟩⟩ : Vl) = false := by unfold intsB; dsimp only; rw [nA]; rfl
       repeat' (first | exact trivial | (with_reducible first | exact hp0 | exact hp0.1 | exact hp0.2 | exact hp0.2.1 | exact hp0.2.2 | exact hp0.1.1 | exact q0.1 | exact q0.2 | exact q0.1.1 | exact q0.1.2 | exact q0.2.1 | exact q0.2.2 | exact (fun h : false = true => absurd h (by decide)) | exact (fun h : true = false => absurd h (by decide)) | exact (fun h : (!false) = false => absurd h (by decide)) | exact (fun h : (!true) = true => absurd h (by decide)) | exact nx nA | exact nx hb | exact nx nAn | exact nx hbn) | refine ⟨?_, ?_⟩ | intro _)
       all_goals first | (with_reducible apply qq) | (conv => whnf)
       all_goals first | (with_reducible rfl) | decide | (rw [e]; done) | (rw [e]; rfl) | rfl
 . cases h
def FCBothV : List Ar -> Option Rs
 | [.agg [.d (.v (.bool s0)), .d (.v (.int .i64 l0)), .d (.v (.int .i64 h0))], .agg [.d (.v (.bool b1)), .d (.v (.int .i64 m1)), .d (.v (.int .i64 r1))]] => some ⟨(Sp.inR ⟨s0, l0, h0⟩) /\ (Cg.inR ⟨b1, m1, r1⟩), .va (Vl.ar (bothV (⟨s0, l0, h0⟩ : Sp) (⟨b1, m1, r1⟩ : Cg))), []⟩
 | _ => none
theorem fcCBothV : FC Tryz.prog 115 FCBothV := by
 intro xs pre r us h hp
 unfold FCBothV at h
 split at h
 . rename_i s0 l0 h0 b1 m1 r1
   cases h
   obtain ⟨hp0, hp1⟩ := hp
   refine fcat tys_ok (l := [(34, ⟨[], FSNone⟩), (96, ⟨[], FCNone⟩), (31, ⟨[], FVInt⟩)]) ⟨fcSNone, fcCNone, fcVInt, trivial⟩ Tryz.func115 rfl (by kernel_rfl) true ?_
   have q0 := hp0; unfold Sp.inR at q0; dsimp only at q0
   have q1 := hp1; unfold Cg.inR at q1; dsimp only at q1
   cases nA : Sp.none ⟨s0, l0, h0⟩
   . cases hb : b1
     . have nAn := congrArg Bool.not nA; simp only [Bool.not_true, Bool.not_false] at nAn
       have hbn := congrArg Bool.not hb; simp only [Bool.not_true, Bool.not_false] at hbn
       have e := bo_2 (s := ⟨s0, l0, h0⟩) (c := ⟨false, m1, r1⟩) rfl
       repeat' (first | exact trivial | (with_reducible first | assumption | exact q0.1 | exact q0.2 | exact q0.1.1 | exact q0.1.2 | exact q0.2.1 | exact q0.2.2 | exact q1.1 | exact q1.2 | exact q1.1.1 | exact q1.1.2 | exact q1.2.1 | exact q1.2.2 | exact (fun h : false = true => absurd h (by decide)) | exact (fun h : true = false => absurd h (by decide)) | exact (fun h : (!false) = false => absurd h (by decide)) | exact (fun h : (!true) = true => absurd h (by decide)) | exact nx nA | exact nx hb | exact nx nAn | exact nx hbn) | refine ⟨?_, ?_⟩ | intro _)
       all_goals first | (with_reducible apply qq) | (conv => whnf)
       all_goals first | (with_reducible rfl) | decide | (rw [e]; done) | (rw [e]; rfl) | rfl
     . have nAn := congrArg Bool.not nA; simp only [Bool.not_true, Bool.not_false] at nAn
       have hbn := congrArg Bool.not hb; simp only [Bool.not_true, Bool.not_false] at hbn
       have e := bo_3 (c := ⟨true, m1, r1⟩) nA rfl
       repeat' (first | exact trivial | (with_reducible first | assumption | exact q0.1 | exact q0.2 | exact q0.1.1 | exact q0.1.2 | exact q0.2.1 | exact q0.2.2 | exact q1.1 | exact q1.2 | exact q1.1.1 | exact q1.1.2 | exact q1.2.1 | exact q1.2.2 | exact (fun h : false = true => absurd h (by decide)) | exact (fun h : true = false => absurd h (by decide)) | exact (fun h : (!false) = false => absurd h (by decide)) | exact (fun h : (!true) = true => absurd h (by decide)) | exact nx nA | exact nx hb | exact nx nAn | exact nx hbn) | refine ⟨?_, ?_⟩ | intro _)
       all_goals first | (with_reducible apply qq) | (conv => whnf)
       all_goals first | (with_reducible rfl) | decide | (rw [e]; done) | (rw [e]; rfl) | rfl
   . have nAn := congrArg Bool.not nA; simp only [Bool.not_true, Bool.not_false] at nAn
     have e := bo_1 (c := ⟨b1, m1, r1⟩) nA
     repeat' (first | exact trivial | (with_reducible first | assumption | exact q0.1 | exact q0.2 | exact q0.1.1 | exact q0.1.2 | exact q0.2.1 | exact q0.2.2 | exact q1.1 | exact q1.2 | exact q1.1.1 | exact q1.1.2 | exact q1.2.1 | exact q1.2.2 | exact (fun h : false = true => absurd h (by decide)) | exact (fun h : true = false => absurd h (by decide)) | exact (fun h : (!false) = false => absurd h (by decide)) | exact (fun h : (!true) = true => absurd h (by decide)) | exact nx nA | exact nx nAn) | refine ⟨?_, ?_⟩ | intro _)
     all_goals first | (with_reducible apply qq) | (conv => whnf)
     all_goals first | (with_reducible rfl) | decide | (rw [e]; done) | (rw [e]; rfl) | rfl
 . cases h
def calcOne (op : Int) (a : Vl) : Vl := if intsB a.of = false then zeroV else bothV (rkOne op a.of.i.s) (rsOne op a.of.i.c (decide (op = 5) && wrB 11 (Sp.of 0 0) a.of.i.s))
open Go.RowKit Go.Lib Go.Sort
theorem ofS_n0 (f : Nat -> List DV) : ofS (gN 0 f) = [] := List.eq_nil_of_length_eq_zero (by have := ofS_len (gN 0 f); rw [gN_length] at this; omega)
theorem ofS_00 : ofS [] = [] := ofS_n0 fun _ => []
def numL (n : Int) : Vl := ⟨⟨Sp.of n n, Cg.of 0 n⟩, ⟨false, []⟩⟩
def nullL : Vl := ⟨Ig.zero, ⟨true, []⟩⟩
def leafS (R : Ro) (s : Se) (op n : Int) (x : ByteArray) : Vl × Se :=
 if op = 1 then (numL n, s) else if op = 2 then nameS R s x else if op = 4 then loadS R s x else if op = 19 then (adrV x (glI R.G x), s) else (nullL, s)
def oneS (R : Ro) (s : Se) (op : Int) (x : ByteArray) (k : Vl) : Vl × Se :=
 if op = 3 then (if plS R.G x k = true then readS R s x else (Vl.zero, s)) else if op = 20 then (adrV x (plS R.G x k), s) else (calcOne op k, s)
end Go.Proofs.YtokjghkehojenaaGreat
namespace Go.Proofs.YtokjghkehojenaaGreat
open Go.Sx
open Go.RowKit Go.Lib Go.Sort
def kidsD : DV -> Nat × (Nat -> List DV)
 | .lst _ k f => (k, f)
 | _ => (0, fun _ => [])
abbrev xpC (op n : Int) (x : ByteArray) (kd : DV) (at_ : Int) : List DV := [it op, it n, st x, kd, it at_]
def exprS (R : Ro) : Nat -> Se -> List DV -> Vl × Se
 | 0, s, _ => (Vl.zero, s)
 | M + 1, s, c => match c with
   | [.v (.int .i64 op), .v (.int .i64 n), .v (.string x), kd, .v (.int .i64 _)] =>
     if needsI op = (kidsD kd).1 then
      if (kidsD kd).1 = 0 then leafS R s op n x
      else if (kidsD kd).1 = 1 then oneS R (exprS R M s ((kidsD kd).2 0)).2 op x (exprS R M s ((kidsD kd).2 0)).1
      else (calcDo op (exprS R M s ((kidsD kd).2 0)).1 (exprS R M (exprS R M s ((kidsD kd).2 0)).2 ((kidsD kd).2 1)).1 (arrS R.G R.G.length), (exprS R M (exprS R M s ((kidsD kd).2 0)).2 ((kidsD kd).2 1)).2)
     else (Vl.zero, s)
   | _ => (Vl.zero, s)
def XOk : Nat -> List DV -> Prop
 | 0, _ => False
 | M + 1, c => ∃ op n x kd at_, c = xpC op n x kd at_ /\ rI op /\ rI n /\ rI at_ /\ (kd = .v (.slice none 0 0) \/ ∃ k f, kd = .lst 5 k f /\ k <= 1099511627776 /\ ∀ i, i < k -> XOk M (f i))
end Go.Proofs.YtokjghkehojenaaGreat
namespace Go.Proofs.YtokjghkehojenaaGreat
open Go.Sx
open Go.RowKit Go.Lib Go.Sort
def tellS (p : Vl × Se) : Vl := if p.2.wants = true then Vl.zero else p.1.of
abbrev seL (k : Nat) (s : Se) (v : Vl) : List Cell := [.d (bo v.i.s.some), .d (it v.i.s.lo), .d (it v.i.s.hi), .d (bo v.i.c.some), .d (it v.i.c.m), .d (it v.i.c.r), .d (bo v.t.null), .d (lst v.t.names), .osl k 2 0 s.gets.length, .d (bo s.wants), .d (st s.want.name), .d (it s.want.node)]
abbrev HT (R : Ro) (s : Se) (v : Vl) : List (Nat × Blk) := [(0, .cells ([.d (lstG R.G), .d (.lst 5 R.c R.d), .d (bo R.lv), .d (lstB R.B), .d (lstD R.D)] ++ seL 1 s v)), (1, .row 2 s.gets.length (rwK s.gets))]
theorem mTell (R : Ro) (s : Se) (v : Vl) (hv : okV v) : Meth Tryz.prog 19 [.c (.own 0 0), .agg [.d (bo (v).i.s.some), .d (it (v).i.s.lo), .d (it (v).i.s.hi), .d (bo (v).i.c.some), .d (it (v).i.c.m), .d (it (v).i.c.r), .d (bo (v).t.null), .d (lst (v).t.names)]] (HE R s) (.va (.agg (seL 1 s (tellS (v, s))))) (HT R s (tellS (v, s))) := by
 cases h1 : s.wants with
 | true =>
   have e : tellS (v, s) = Vl.zero := if_pos h1
   rw [e]
   refine meth_of (c := 13) (inl tys_ok (l := [(40, ⟨[], FVCleanV⟩)]) ⟨fcVCleanV, trivial⟩ Tryz.func19 rfl (by kernel_rfl) (by kernel_rfl) rfl ?_)
   repeat' (first | exact trivial | (with_reducible first | exact n1 | exact n2 | exact nx h1 | exact (nx (congrArg Bool.not h1))) | refine ⟨?_, ?_⟩ | intro _)
   all_goals first | (with_reducible apply qq) | (conv => whnf)
   all_goals (try simp only [gN_lst, gN_canon])
   all_goals first | (exact rfl) | (rw [List.length_append]; rfl) | (exact row_snocK rfl _ (by assumption)) | omega | ((with_reducible show idsOk _ _ = true); rfl) | (intro _ _; rfl) | exact Nat.zero_le _ | decide | exact hv.1.1 | exact hv.2.1.1.1 | exact hv.2.1.1.2 | exact hv.2.1.2.1 | exact hv.2.1.2.2 | exact hv.2.2.1.1 | exact hv.2.2.1.2 | exact hv.2.2.2.1 | exact hv.2.2.2.2
 | false =>
   have e : tellS (v, s) = v.of := if_neg (by rw [h1]; decide)
   rw [e]
   refine meth_of (c := 13) (inl tys_ok (l := [(40, ⟨[], FVCleanV⟩)]) ⟨fcVCleanV, trivial⟩ Tryz.func19 rfl (by kernel_rfl) (by kernel_rfl) rfl ?_)
   repeat' (first | exact trivial | (with_reducible first | exact n1 | exact n2 | exact nx h1 | exact (nx (congrArg Bool.not h1))) | refine ⟨?_, ?_⟩ | intro _)
   all_goals first | (with_reducible apply qq) | (conv => whnf)
   all_goals (try simp only [gN_lst, gN_canon])
   all_goals first | (exact rfl) | (rw [List.length_append]; rfl) | (exact row_snocK rfl _ (by assumption)) | omega | ((with_reducible show idsOk _ _ = true); rfl) | (intro _ _; rfl) | exact Nat.zero_le _ | decide | exact hv.1.1 | exact hv.2.1.1.1 | exact hv.2.1.1.2 | exact hv.2.1.2.1 | exact hv.2.1.2.2 | exact hv.2.2.1.1 | exact hv.2.2.1.2 | exact hv.2.2.2.1 | exact hv.2.2.2.2
end Go.Proofs.YtokjghkehojenaaGreat
namespace Go.Proofs.YtokjghkehojenaaGreat
open Go.Sx
open Go.RowKit Go.Lib Go.Sort
structure XOkS (M : Nat) (c : List DV) : Prop where
 h : True -> XOk M c
theorem canonG {n : Nat} {f : Nat -> List DV} (h : RowsG n f) : DvE (.lst 4 n f) (.lst 4 n (rwG (gGs n f))) :=
 .rows fun i hi => by rw [rowG_eq h i hi]; exact ⟨rfl, fun j a b ha hb => by rw [ha] at hb; cases hb; exact .refl _⟩
abbrev seAr (v : Vl) (s : Se) : Ar := .agg [.d (bo v.i.s.some), .d (it v.i.s.lo), .d (it v.i.s.hi), .d (bo v.i.c.some), .d (it v.i.c.m), .d (it v.i.c.r), .d (bo v.t.null), .d (lst v.t.names), .d (lstK s.gets), .d (bo s.wants), .d (st s.want.name), .d (it s.want.node)]
def lookS (R : Ro) (M : Nat) (c : List DV) : Vl × Se := if R.lv = true then (tellS (exprS R M ⟨[], false, ⟨⟨#[]⟩, 0⟩⟩ c), (exprS R M ⟨[], false, ⟨⟨#[]⟩, 0⟩⟩ c).2) else (Vl.zero, ⟨[], false, ⟨⟨#[]⟩, 0⟩⟩)
def lookN (R : Ro) (x : ByteArray) : Vl × Se := if R.lv = true then (tellS (nameS R ⟨[], false, ⟨⟨#[]⟩, 0⟩⟩ x), (nameS R ⟨[], false, ⟨⟨#[]⟩, 0⟩⟩ x).2) else (Vl.zero, ⟨[], false, ⟨⟨#[]⟩, 0⟩⟩)
def FLookX (M : Nat) : List Ar -> Option Rs
 | [.agg [.d (.lst 4 n0 f0), .d (.lst 5 c0 d0), .d (.v (.bool e0)), .d (.lst 9 p0 q0), .d (.lst 12 u0 w0)], .agg [.d (.v (.int .i64 i1)), .d (.v (.int .i64 j1)), .d (.v (.string x1)), .d k1, .d (.v (.int .i64 a1))]] => some ⟨((n0 <= 1099511627776 /\ RowsG n0 f0) /\ (p0 <= 1099511627776 /\ RowsOk p0 q0) /\ (u0 <= 1099511627776 /\ RowsD u0 w0) /\ (∀ x, x ∈ gBs p0 q0 -> x.v.t.names.length <= 1048576) /\ (∀ x, x ∈ gD u0 w0 -> x.s.v.t.names.length <= 1048576)) /\ (XOkS M (xpC i1 j1 x1 k1 a1)), .va (seAr (lookS (⟨gGs n0 f0, c0, d0, e0, gBs p0 q0, gD u0 w0⟩ : Ro) M (xpC i1 j1 x1 k1 a1)).1 (lookS (⟨gGs n0 f0, c0, d0, e0, gBs p0 q0, gD u0 w0⟩ : Ro) M (xpC i1 j1 x1 k1 a1)).2), []⟩
 | _ => none
def FLookNm : List Ar -> Option Rs
 | [.agg [.d (.lst 4 n0 f0), .d (.lst 5 c0 d0), .d (.v (.bool e0)), .d (.lst 9 p0 q0), .d (.lst 12 u0 w0)], .c (.d (.v (.string x1)))] => some ⟨((n0 <= 1099511627776 /\ RowsG n0 f0) /\ (p0 <= 1099511627776 /\ RowsOk p0 q0) /\ (u0 <= 1099511627776 /\ RowsD u0 w0) /\ (∀ x, x ∈ gBs p0 q0 -> x.v.t.names.length <= 1048576) /\ (∀ x, x ∈ gD u0 w0 -> x.s.v.t.names.length <= 1048576)), .va (seAr (lookN (⟨gGs n0 f0, c0, d0, e0, gBs p0 q0, gD u0 w0⟩ : Ro) x1).1 (lookN (⟨gGs n0 f0, c0, d0, e0, gBs p0 q0, gD u0 w0⟩ : Ro) x1).2), []⟩
 | _ => none
theorem fcLookNm : FC Tryz.prog 12 FLookNm := by
 intro xs pre r us h hp
 unfold FLookNm at h
 split at h
 . rename_i n0 f0 c0 d0 e0 p0 q0 u0 w0 x1
   cases h
   have hp0 := hp
   refine FCat.deep (ys := [.agg [.d (.lst 4 n0 (rwG (gGs n0 f0))), .d (.lst 5 c0 d0), .d (.v (.bool e0)), .d (.lst 9 p0 (rwB (gBs p0 q0))), .d (.lst 12 u0 (rwD (gD u0 w0)))], .c (.d (.v (.string x1)))]) ?_ ?_
   . repeat' (first | exact trivial | exact rfl | exact DvE.refl _ | refine ⟨?_, ?_⟩ | fail)
     all_goals first | first | exact canonG hp0.1.2 | exact canonB hp0.2.1.2.h | exact canonD hp0.2.2.1.2.h
   refine fcat tys_ok (l := []) trivial Tryz.func12 rfl (by kernel_rfl) true ?_
   have hR : Ro.ok ⟨gGs n0 f0, c0, d0, e0, gBs p0 q0, gD u0 w0⟩ := ⟨okG_rows hp0.1.2, by rw [gGs_length]; exact hp0.1.1, okL_rows hp0.2.1.2, by rw [gBs_length]; exact hp0.2.1.1, okD_rows hp0.2.2.1.2, by rw [gD_length]; exact hp0.2.2.1.1, hp0.2.2.2.1, hp0.2.2.2.2⟩
   have l1 := gGs_length n0 f0
   have l2 := gBs_length p0 q0
   have l3 := gD_length u0 w0
   generalize gGs n0 f0 = G_ at *
   generalize gBs p0 q0 = B_ at *
   generalize gD u0 w0 = D_ at *
   clear hp0
   subst l1 l2 l3
   have hz : okSe ⟨G_, c0, d0, e0, B_, D_⟩ ⟨[], false, ⟨⟨#[]⟩, 0⟩⟩ := ⟨List.nodup_nil, fun k h => by cases h⟩
   have hme := mName hR ⟨[], false, ⟨⟨#[]⟩, 0⟩⟩ x1 (Nat.zero_le _)
   have hke := (nameS_ok hR ⟨[], false, ⟨⟨#[]⟩, 0⟩⟩ x1).1
   have hmt := mTell ⟨G_, c0, d0, e0, B_, D_⟩ (nameS ⟨G_, c0, d0, e0, B_, D_⟩ ⟨[], false, ⟨⟨#[]⟩, 0⟩⟩ x1).2 (nameS ⟨G_, c0, d0, e0, B_, D_⟩ ⟨[], false, ⟨⟨#[]⟩, 0⟩⟩ x1).1 hke
   unfold lookN
   generalize nameS ⟨G_, c0, d0, e0, B_, D_⟩ ⟨[], false, ⟨⟨#[]⟩, 0⟩⟩ x1 = P_ at *
   cases e0
   all_goals all_goals repeat' (first | exact trivial | (with_reducible first | exact n1 | exact n2 | exact nd) | refine ⟨?_, ?_⟩ | intro _)
   all_goals first | (with_reducible apply qq) | (conv => whnf)
   all_goals first | ((with_reducible show ACall _ _ 25 _ _ _); refine Meth.use (nv := 1) [2] hme rfl rfl rfl rfl rfl rfl ?_ ?_ ?_) | skip
   all_goals repeat' (first | exact trivial | (with_reducible first | exact n1 | exact n2 | exact nd) | refine ⟨?_, ?_⟩ | intro _)
   all_goals first | (with_reducible apply qq) | (conv => whnf)
   all_goals first | ((with_reducible show ACall _ _ 19 _ _ _); refine Meth.use (nv := 0) [2, 3] hmt rfl rfl rfl rfl rfl rfl ?_ ?_ ?_) | skip
   all_goals repeat' (first | exact trivial | (with_reducible first | exact n1 | exact n2 | exact nd) | refine ⟨?_, ?_⟩ | intro _)
   all_goals first | (with_reducible apply qq) | (conv => whnf)
   all_goals (try simp only [gKs_row, gN_lst, gN_canon])
   all_goals first | (exact rfl) | (rw [List.length_append]; rfl) | (exact row_snocK rfl _ (by assumption)) | omega | ((with_reducible show idsOk _ _ = true); rfl) | (intro _ _; rfl) | exact Nat.zero_le _ | decide | (rw [Nat.zero_add]; rfl)
 . cases h
end Go.Proofs.YtokjghkehojenaaGreat
namespace Go.Proofs.YtokjghkehojenaaGreat
open Go.Sx
open Go.RowKit Go.Lib Go.Sort
theorem hasKy_t {k : Ky} {L : List Ky} {i : Nat} (hi : i < L.length) (h2 : eqK (atK L i) k = true) : hasKy L k = true := decide_eq_true (by rw [<- eqK_iff.1 h2]; exact atK_mem hi)
theorem hasKy_f {k : Ky} {L : List Ky} (h1 : ∀ j, j < L.length -> eqK (atK L j) k = false) : hasKy L k = false := decide_eq_false fun h => by
 obtain ⟨j, hj, e⟩ := mem_atK h
 have := h1 j hj
 rw [eqK_iff.2 e] at this; cases this
theorem atK_get {L : List Ky} {k : Nat} (h : k < L.length) : atK L k = L[k] := by unfold atK; rw [List.getD_eq_getElem?_getD, List.getElem?_eq_getElem h]; rfl
theorem keys_t {L M : List Ky} (hl : L.length = M.length) (h : ∀ k, k < L.length -> eqK (atK L k) (atK M k) = true) : decide (L = M) = true := decide_eq_true <| List.ext_getElem hl fun i h1 h2 => by
 have := eqK_iff.1 (h i h1)
 rw [atK_get h1, atK_get h2] at this; exact this
theorem keys_f {L M : List Ky} {i : Nat} (h : eqK (atK L i) (atK M i) = false) : decide (L = M) = false := decide_eq_false fun e => by subst e; rw [eqK_iff.2 rfl] at h; cases h
theorem keys_s {L M : List Ky} {i : Nat} (h : ∀ k, k < i -> eqK (atK L k) (atK M k) = true) (h2 : (!eqK (atK L i) (atK M i)) = false) : ∀ k, k < i + 1 -> eqK (atK L k) (atK M k) = true := fun k hk => by
 rcases Nat.lt_or_ge k i with h1 | h1
 . exact h k h1
 . obtain rfl : k = i := by omega
   cases e : eqK (atK L k) (atK M k) with
   | true => rfl
   | false => rw [e] at h2; cases h2
theorem keys_f2 {L M : List Ky} {i : Nat} (h : (!eqK (atK L i) (atK M i)) = true) : decide (L = M) = false := keys_f (i := i) (by
 cases e : eqK (atK L i) (atK M i) with
 | true => rw [e] at h; cases h
 | false => rfl)
theorem keys_l {L M : List Ky} (h : ((L.length : Int) != (M.length : Int)) = true) : decide (L = M) = false := decide_eq_false fun e => by subst e; simp at h
theorem keys_n {L M : List Ky} (h : ((L.length : Int) != (M.length : Int)) = false) : L.length = M.length := by
 have := bne_eq_false_iff_eq.1 h; omega
def FOnce : List Ar -> Option Rs
 | [.c (.d (.lst 2 n0 f0)), .agg [.d (.v (.string x1)), .d (.v (.int .i64 i1))]] => some ⟨(n0 <= 1099511627776 /\ RowsK n0 f0), .va (.c (.d (bo (hasKy (gKs n0 f0) (⟨x1, i1⟩ : Ky))))), []⟩
 | _ => none
theorem fcOnce : FC Tryz.prog 6 FOnce := by
 intro xs pre r us h hp
 unfold FOnce at h
 split at h
 . rename_i n0 f0 x1 i1
   cases h
   have hp0 := hp
   refine FCat.of_eq (as' := [.c (.d (.lst 2 n0 (rwK (gKs n0 f0)))), .agg [.d (.v (.string x1)), .d (.v (.int .i64 i1))]]) ?_ rfl rfl ?_
   . repeat' (first | exact trivial | exact rfl | refine ⟨?_, ?_⟩ | fail)
     all_goals first | exact rowK_eq hp0.2 | exact hp0.2 | exact hp1.2 | exact hp2.2 | (intro i hi; exact (hp0.2 i hi).1) | (intro i hi; exact (hp1.2 i hi).1) | (intro i hi; exact (hp2.2 i hi).1) | grind
   refine fcat tys_ok (l := []) trivial Tryz.func6 rfl (by kernel_rfl) false ?_
   have hn := hp0.1
   have hlen := gKs_length n0 f0
   generalize gKs n0 f0 = L at *
   clear hp0
   subst hlen
   repeat' (first | exact trivial | refine ⟨?_, ?_⟩ | intro _)
   all_goals first | (with_reducible apply qq) | (conv => whnf)
   refine loop_ok tys_ok (l := []) trivial (by kernel_rfl) (X := Nat)
    (fun i => ⟨[(5, vx (.int .i64 i)), (3, .va (.c (.own 0 0))), (0, .va (.c (.d (lstK L))))], [(0, .cells [.d (st x1), .d (it i1)])], 1, 18⟩)
    (fun i => L.length - i) (fun i => i <= L.length /\ ∀ k, k < i -> eqK (atK L k) ⟨x1, i1⟩ = false) [] []
    (fun i _ _ => i + 1) [0] [0] 0 0 0 ?_ ?_ ?_
   . exact ⟨Nat.zero_le _, fun k h => absurd h (Nat.not_lt_zero k)⟩
   . repeat' (first | exact trivial | exact rfl | (intro _ _; exact rfl) | refine ⟨?_, ?_⟩ | fail)
   . rintro i ⟨k1, k2⟩
     rcases Nat.lt_or_ge i L.length with hi | hi
     . have hne : decide ((i : Int) < (L.length : Int)) = true := decide_eq_true (by omega)
       have hib : (0 : Int) <= (i : Int) /\ (i : Int) < (L.length : Int) := by omega
       cases hq : eqK (atK L i) ⟨x1, i1⟩ with
       | true =>
         have hv := hasKy_t (k := ⟨x1, i1⟩) hi hq
         repeat' (first | exact trivial | (with_reducible first | exact n1 | exact n2 | exact hib | exact hib.1 | exact hib.2 | exact nx hne) | refine ⟨?_, ?_⟩ | intro _)
         all_goals first | (with_reducible apply qq) | (conv => whnf)
         all_goals (try simp only [Int.toNat_natCast, Nat.zero_add] at *)
         all_goals first | omega | (rw [hv]; done) | exact absurd (hq.symm.trans ‹_ = false›) (by decide) | rfl | (intro _ _; rfl) | (rw [hv]; rfl)
       | false =>
         have hk : ∀ k, k < i + 1 -> eqK (atK L k) ⟨x1, i1⟩ = false := fun k h => by
          rcases Nat.lt_or_ge k i with h1 | h1
          . exact k2 k h1
          . rw [show k = i by omega]; exact hq
         repeat' (first | exact trivial | (with_reducible first | exact n1 | exact n2 | exact hib | exact hib.1 | exact hib.2 | exact nx hne) | refine ⟨?_, ?_⟩ | intro _)
         all_goals first | (with_reducible apply qq) | (conv => whnf)
         all_goals (try dsimp only)
         all_goals (try simp only [Int.toNat_natCast, Nat.zero_add] at *)
         all_goals first | omega | exact absurd (hq.symm.trans ‹_ = true›) (by decide) | exact hk _ ‹_› | rfl | (exact congrArg (Value.int .i64) (by first | (rw [wI_id _ (by omega) (by omega)]; omega) | omega | (dsimp only; omega))) | (intro _ _; rfl)
     . have hne : decide ((i : Int) < (L.length : Int)) = false := decide_eq_false (by omega)
       obtain rfl : i = L.length := by omega
       have hv := hasKy_f (k := ⟨x1, i1⟩) k2
       repeat' (first | exact trivial | (with_reducible first | exact n1 | exact n2 | exact nx hne) | refine ⟨?_, ?_⟩ | intro _)
       all_goals first | (with_reducible apply qq) | (conv => whnf)
       all_goals first | omega | (rw [hv]; done) | rfl | (intro _ _; rfl) | (rw [hv]; rfl)
 . cases h
def FKeys : List Ar -> Option Rs
 | [.c (.d (.lst 2 n0 f0)), .c (.d (.lst 2 n1 f1))] => some ⟨(n0 <= 1099511627776 /\ RowsK n0 f0) /\ (n1 <= 1099511627776 /\ RowsK n1 f1), .va (.c (.d (bo (decide ((gKs n0 f0) = (gKs n1 f1)))))), []⟩
 | _ => none
theorem fcKeys : FC Tryz.prog 21 FKeys := by
 intro xs pre r us h hp
 unfold FKeys at h
 split at h
 . rename_i n0 f0 n1 f1
   cases h
   obtain ⟨hp0, hp1⟩ := hp
   refine FCat.of_eq (as' := [.c (.d (.lst 2 n0 (rwK (gKs n0 f0)))), .c (.d (.lst 2 n1 (rwK (gKs n1 f1))))]) ?_ rfl rfl ?_
   . repeat' (first | exact trivial | exact rfl | refine ⟨?_, ?_⟩ | fail)
     all_goals first | exact rowK_eq hp0.2 | exact rowK_eq hp1.2 | exact hp0.2 | exact hp1.2 | exact hp2.2 | (intro i hi; exact (hp0.2 i hi).1) | (intro i hi; exact (hp1.2 i hi).1) | (intro i hi; exact (hp2.2 i hi).1) | grind
   refine fcat tys_ok (l := []) trivial Tryz.func21 rfl (by kernel_rfl) false ?_
   have hn := hp0.1
   have hlen := gKs_length n0 f0
   generalize gKs n0 f0 = L at *
   clear hp0
   subst hlen
   have hn1 := hp1.1
   have hlen1 := gKs_length n1 f1
   generalize gKs n1 f1 = M_ at *
   clear hp1
   subst hlen1
   repeat' (first | exact trivial | refine ⟨?_, ?_⟩ | intro _)
   all_goals first | (with_reducible apply qq) | (conv => whnf)
   all_goals first | (rw [keys_l (by assumption)]; done) | skip
   have hl := keys_n (by assumption)
   refine loop_ok tys_ok (l := []) trivial (by kernel_rfl) (X := Nat)
    (fun i => ⟨[(5, vx (.int .i64 i)), (0, .va (.c (.d (lstK L)))), (1, .va (.c (.d (lstK M_))))], [], 0, Tryz.f21.ntmps⟩)
    (fun i => L.length - i) (fun i => i <= L.length /\ ∀ k, k < i -> eqK (atK L k) (atK M_ k) = true) [] []
    (fun i _ _ => i + 1) [] [] 0 0 0 ?_ ?_ ?_
   . exact ⟨Nat.zero_le _, fun k h => absurd h (Nat.not_lt_zero k)⟩
   . repeat' (first | exact trivial | exact rfl | (intro _ _; exact rfl) | refine ⟨?_, ?_⟩ | fail)
   . rintro i ⟨k1, k2⟩
     rcases Nat.lt_or_ge i L.length with hi | hi
     . have hne : decide ((i : Int) < (L.length : Int)) = true := decide_eq_true (by omega)
       have hib : (0 : Int) <= (i : Int) /\ (i : Int) < (L.length : Int) := by omega
       have hib2 : (i : Int) < (M_.length : Int) := by omega
       repeat' (first | exact trivial | (with_reducible first | assumption | exact n1 | exact n2 | exact hib.1 | exact hib.2 | exact nx hne) | refine ⟨?_, ?_⟩ | intro _)
       all_goals first | (with_reducible apply qq) | (conv => whnf)
       all_goals (try dsimp only)
       all_goals (try simp only [Int.toNat_natCast, Nat.zero_add] at *)
       all_goals first | omega | (rw [keys_f2 (L := L) (M := M_) (i := i) (by assumption)]; done) | (exact keys_s k2 (by assumption) _ (by assumption)) | rfl | (exact congrArg (Value.int .i64) (by first | (rw [wI_id _ (by omega) (by omega)]; omega) | omega | (dsimp only; omega)))
     . have hne : decide ((i : Int) < (L.length : Int)) = false := decide_eq_false (by omega)
       obtain rfl : i = L.length := by omega
       have hv := keys_t hl k2
       repeat' (first | exact trivial | (with_reducible first | exact n1 | exact n2 | exact nx hne) | refine ⟨?_, ?_⟩ | intro _)
       all_goals first | (with_reducible apply qq) | (conv => whnf)
       all_goals first | omega | (rw [hv]; done) | rfl
 . cases h
end Go.Proofs.YtokjghkehojenaaGreat
