/- Rows of keys without a key. No condition. -/
import Derived.Test.YtakcacejpbiogaaDoorKey20
namespace Go.Proofs.YtakcacejpbiogaaDoor
set_option linter.all false
open Go.Sx

open Go.RowKit Go.Lib Go.Sort
section
variable {α : Type} [Inhabited α]
/-! rows as functions, a list laid into them -/
def put (g : Nat → α) (a : Nat) (l : List α) : Nat → α := fun k => if a ≤ k ∧ k < a + l.length then l.getD (k - a) default else g k
def seg (g : Nat → α) (a b : Nat) : List α := (List.range' a (b - a)).map g
theorem seg_length (g : Nat → α) (a b : Nat) : (seg g a b).length = b - a := by simp [seg]
theorem seg_get {g : Nat → α} {a b k : Nat} (h : k < b - a) : (seg g a b)[k]? = some (g (a + k)) := by
  simp [seg, List.getElem?_map, h]
theorem seg_getD {g : Nat → α} {a b k : Nat} (h : k < b - a) : (seg g a b).getD k default = g (a + k) := by
  rw [List.getD_eq_getElem?_getD, seg_get h]; rfl
theorem seg_eq {g g' : Nat → α} {a b : Nat} (h : ∀ k, a ≤ k → k < b → g k = g' k) : seg g a b = seg g' a b := by
  unfold seg
  refine List.map_congr_left fun k hk => ?_
  simp at hk
  exact h k hk.1 (by omega)
theorem seg_nil (g : Nat → α) {a b : Nat} (h : b ≤ a) : seg g a b = [] := by
  apply List.eq_nil_of_length_eq_zero; rw [seg_length]; omega
theorem seg_app (g : Nat → α) {a m b : Nat} (h1 : a ≤ m) (h2 : m ≤ b) : seg g a b = seg g a m ++ seg g m b := by
  apply List.ext_getElem?
  intro k
  by_cases hk : k < m - a
  · rw [seg_get (by omega), List.getElem?_append_left (by rw [seg_length]; exact hk), seg_get hk]
  · rw [List.getElem?_append_right (by rw [seg_length]; omega), seg_length]
    by_cases hb : k < b - a
    · rw [seg_get hb, seg_get (by omega)]; congr 2; omega
    · rw [List.getElem?_eq_none (by rw [seg_length]; omega), List.getElem?_eq_none (by rw [seg_length]; omega)]
theorem seg_one (g : Nat → α) (a : Nat) : seg g a (a + 1) = [g a] := by simp [seg]
theorem seg_snoc (g : Nat → α) {a b : Nat} (h : a ≤ b) : seg g a (b + 1) = seg g a b ++ [g b] := by rw [seg_app g h (Nat.le_succ b), seg_one]
theorem seg_cons (g : Nat → α) {a b : Nat} (h : a < b) : seg g a b = g a :: seg g (a + 1) b := by rw [seg_app g (Nat.le_succ a) h, seg_one]; rfl
theorem mem_seg {g : Nat → α} {a b : Nat} {x : α} : x ∈ seg g a b ↔ ∃ k, a ≤ k ∧ k < b ∧ g k = x := by
  simp only [seg, List.mem_map, List.mem_range']
  constructor
  · rintro ⟨k, ⟨i, hi, rfl⟩, rfl⟩; exact ⟨a + 1 * i, by omega, by omega, rfl⟩
  · rintro ⟨k, h1, h2, rfl⟩; exact ⟨k, ⟨k - a, by omega, by omega⟩, rfl⟩
theorem putAt {g : Nat → α} {a : Nat} {l : List α} {k : Nat} (h : k < l.length) : put g a l (a + k) = l.getD k default := by
  unfold put; rw [if_pos (by omega)]; congr 1; omega
theorem put_mid (g : Nat → α) (a : Nat) (p : List α) (x : α) (q : List α) : put g a (p ++ x :: q) (a + p.length) = x := by
  rw [putAt (by simp)]
  simp [List.getD_eq_getElem?_getD]
theorem put_out {g : Nat → α} {a : Nat} {l : List α} {k : Nat} (h : k < a ∨ a + l.length ≤ k) : put g a l k = g k := by
  unfold put; rw [if_neg (by omega)]
theorem seg_put (g : Nat → α) (a b : Nat) (l : List α) (h : l.length = b - a) (hab : a ≤ b) : seg (put g a l) a b = l := by
  apply List.ext_getElem?
  intro k
  by_cases hk : k < b - a
  · rw [seg_get hk, putAt (by omega), List.getD_eq_getElem?_getD, List.getElem?_eq_getElem (by omega)]; rfl
  · rw [List.getElem?_eq_none (by rw [seg_length]; omega), List.getElem?_eq_none (by omega)]
theorem put_seg (g : Nat → α) (a b : Nat) : put g a (seg g a b) = g := by
  funext k
  unfold put
  split
  · rename_i h
    rw [seg_length] at h
    rw [seg_getD (by omega)]; congr 1; omega
  · rfl
end
theorem setRow_at (f : Nat → List DV) (i : Nat) (r : List DV) (k : Nat) : setRow f i r k = if k = i then r else f k := by
  unfold setRow
  cases h : Nat.beq k i with
  | true => rw [if_pos (Nat.eq_of_beq_eq_true h)]
  | false => rw [if_neg (Nat.ne_of_beq_eq_false h)]
theorem clr_lo {f : Nat → List DV} {o len : Nat} {ds : List DV} {k : Nat} (h : k < o) : clrRow f o len ds k = f k := by
  unfold clrRow; rw [if_neg (by omega)]
theorem atK_get {L : List Ky} {i : Nat} (h : i < L.length) : atK L i = L[i] := by
  unfold atK; rw [List.getD_eq_getElem?_getD, List.getElem?_eq_getElem h]; rfl
def ixK (p : Ky → Bool) (L : List Ky) : Int := match L.findIdx? p with
  | some i => i
  | none => -1
theorem ixK_some {p : Ky → Bool} {L : List Ky} {i : Nat} (hi : i < L.length) (h1 : ∀ k, k < i → p (atK L k) = false) (h2 : p (atK L i) = true) : ixK p L = i := by
  unfold ixK
  have : L.findIdx? p = some i := by
    rw [List.findIdx?_eq_some_iff_getElem]
    refine ⟨hi, by rw [← atK_get hi]; exact h2, fun j hj => ?_⟩
    rw [← atK_get (by omega), h1 j hj]; exact Bool.false_ne_true
  rw [this]
theorem ixK_none {p : Ky → Bool} {L : List Ky} (h1 : ∀ k, k < L.length → p (atK L k) = false) : ixK p L = -1 := by
  unfold ixK
  have : L.findIdx? p = none := by
    rw [List.findIdx?_eq_none_iff]
    intro x hx
    obtain ⟨k, hk, rfl⟩ := mem_atK hx
    exact h1 k hk
  rw [this]
theorem ixK_cases (p : Ky → Bool) (L : List Ky) : (ixK p L = -1 ∧ ∀ k, k < L.length → p (atK L k) = false) ∨ ∃ i, ixK p L = (i : Nat) ∧ i < L.length ∧ (∀ k, k < i → p (atK L k) = false) ∧ p (atK L i) = true := by
  unfold ixK
  cases h : L.findIdx? p with
  | none =>
    rw [List.findIdx?_eq_none_iff] at h
    exact .inl ⟨rfl, fun k hk => h _ (atK_mem hk)⟩
  | some i =>
    rw [List.findIdx?_eq_some_iff_getElem] at h
    obtain ⟨h1, h2, h3⟩ := h
    refine .inr ⟨i, rfl, h1, fun k hk => ?_, by rw [atK_get h1]; exact h2⟩
    rw [atK_get (by omega)]
    simpa using h3 k hk
theorem seg_atK (L : List Ky) : seg (atK L) 0 L.length = L := by
  apply List.ext_getElem
  · rw [seg_length]; omega
  · intro i h1 h2
    have := seg_getD (g := atK L) (a := 0) (b := L.length) (k := i) (by omega)
    rw [List.getD_eq_getElem?_getD, List.getElem?_eq_getElem h1, Nat.zero_add, atK_get h2] at this
    exact this
theorem filK_len (p : Ky → Bool) (G : Nat → Ky) (j : Nat) : ((seg G 0 j).filter p).length ≤ j := by
  have := List.length_filter_le p (seg G 0 j)
  rw [seg_length] at this; omega
theorem filK_step (p : Ky → Bool) (G : Nat → Ky) (j : Nat) : (seg G 0 (j + 1)).filter p = (seg G 0 j).filter p ++ if p (G j) = true then [G j] else [] := by
  rw [seg_snoc G (Nat.zero_le j), List.filter_append]
  congr 1
  cases h : p (G j) <;> simp [List.filter, h]
theorem filK_all {p : Ky → Bool} {G : Nat → Ky} {j : Nat} (h : ∀ k, k < j → p (G k) = true) : (seg G 0 j).filter p = seg G 0 j := by
  rw [List.filter_eq_self]
  intro x hx
  obtain ⟨k, _, hk, rfl⟩ := mem_seg.1 hx
  exact h k hk
theorem row_pushK {G : Nat → Ky} {L : List Ky} {x : Ky} {i : Nat} {r : List DV} (hi : i = L.length) (hr : r = kyC x) (k : Nat) : setRow (fun k => kyC (put G 0 L k)) i r k = kyC (put G 0 (L ++ [x]) k) := by
  subst hi; subst hr
  rw [setRow_at]
  split
  · rename_i h; subst h
    have := put_mid G 0 L x []
    rw [Nat.zero_add] at this
    rw [this]
  · rename_i h
    unfold put
    rw [List.length_append]
    by_cases c : k < L.length
    · rw [if_pos (by omega), if_pos (by simp; omega), List.getD_eq_getElem?_getD, List.getD_eq_getElem?_getD, List.getElem?_append_left (by omega)]
    · rw [if_neg (by omega), if_neg (by simp; omega)]
theorem put_atK {G : Nat → Ky} {l : List Ky} {k : Nat} (h : k < l.length) : put G 0 l k = atK l k := by
  have := putAt (g := G) (a := 0) h
  rw [Nat.zero_add] at this; exact this
/-- two rows that have the same keys are one -/
theorem sk_ext : ∀ {A B : List Ky}, SK A → SK B → (∀ x, x ∈ A ↔ x ∈ B) → A = B
  | [], [], _, _, _ => rfl
  | [], b :: B, _, _, h => absurd ((h b).2 (by simp)) (by simp)
  | a :: A, [], _, _, h => absurd ((h a).1 (by simp)) (by simp)
  | a :: A, b :: B, hA, hB, h => by
    obtain ⟨pA, cA⟩ := hA
    obtain ⟨pB, cB⟩ := hB
    obtain ⟨a1, a2⟩ := List.pairwise_cons.1 pA
    obtain ⟨b1, b2⟩ := List.pairwise_cons.1 pB
    have e : a = b := by
      rcases List.mem_cons.1 ((h a).1 (by simp)) with h1 | h1
      · exact h1
      · rcases List.mem_cons.1 ((h b).2 (by simp)) with h2 | h2
        · exact h2.symm
        · have := Ky.lt_asymm (b1 a h1)
          rw [a1 b h2] at this; cases this
    subst e
    have hn : ∀ (l : List Ky), (∀ y, y ∈ l → Ky.lt a y = true) → ¬ a ∈ l := fun l hl hm => by
      have := hl a hm
      rw [Ky.lt_irrefl] at this; cases this
    congr 1
    refine sk_ext ⟨a2, fun k hk => cA k (List.mem_cons_of_mem _ hk)⟩ ⟨b2, fun k hk => cB k (List.mem_cons_of_mem _ hk)⟩ fun x => ⟨fun hx => ?_, fun hx => ?_⟩
    · rcases List.mem_cons.1 ((h x).1 (List.mem_cons_of_mem _ hx)) with rfl | h1
      · exact absurd hx (hn A a1)
      · exact h1
    · rcases List.mem_cons.1 ((h x).2 (List.mem_cons_of_mem _ hx)) with rfl | h1
      · exact absurd hx (hn B b1)
      · exact h1
def cutK (L : List Ky) (k : Ky) : List Ky := (rowK L).filter fun x => !decide (x = k.cl)
def hasK (L : List Ky) (k : Ky) : Bool := L.any fun x => decide (x.cl = k.cl)
theorem cut_ref (L : List Ky) (k : Ky) : cutK L k = rowK (L.filter fun x => !decide (x.cl = k.cl)) := by
  have h1 := rowK_sk L
  refine sk_ext ⟨List.Pairwise.filter _ h1.1, fun x hx => h1.2 x (List.mem_filter.1 hx).1⟩ (rowK_sk _) fun x => ?_
  unfold cutK
  rw [List.mem_filter, rowK_mem, rowK_mem]
  constructor
  · rintro ⟨⟨y, h2, rfl⟩, h3⟩
    exact ⟨y, List.mem_filter.2 ⟨h2, h3⟩, rfl⟩
  · rintro ⟨y, h2, rfl⟩
    obtain ⟨h3, h4⟩ := List.mem_filter.1 h2
    exact ⟨⟨y, h3, rfl⟩, h4⟩
def FCutC : List Ar → Option Rs
  | [.agg [.d (.v (.string x0)), .d (.v (.int .i64 i0))], .rp [.v (.string x1), .v (.int .i64 i1)]] => some ⟨(rI i0) ∧ (rI i1), .va (.c (.d (bo (decide ((⟨x0, i0⟩ : Ky) = Ky.cl (⟨x1, i1⟩ : Ky)))))), []⟩
  | _ => none
set_option maxHeartbeats 1000000 in
set_option maxRecDepth 100000 in
theorem fcCutC : FC Tryd.prog 52 FCutC := by
  intro xs pre r us h hp
  unfold FCutC at h
  split at h
  · rename_i x0 i0 x1 i1
    cases h
    obtain ⟨hp0, hp1⟩ := hp
    refine fcat tys_ok (l := [(29, ⟨[], FKyClean⟩)]) ⟨fcKyClean, trivial⟩ Tryd.func52 rfl (by kernel_rfl) true ?_
    repeat' (first | exact trivial | (with_reducible exact hp0) | (with_reducible exact hp1) | refine ⟨?_, ?_⟩ | intro _)
    all_goals first | (with_reducible show (_ : Int) ≤ _) | (with_reducible show (_ : Int) < _) | (with_reducible show (_ : Nat) ≤ _) | (with_reducible show (_ : Nat) < _) | (conv => whnf)
    all_goals first | (unfold rI at hp0 hp1; omega) | (refine congrArg Value.bool ?_; exact keyEq_iff) | trace_state
  · cases h
abbrev gCutK (xk : ByteArray) (ik : Int) : List Cv → Option Gs := mkFv (sums [(52, ⟨[], FCutC⟩)]) 52 [.rp [.v (.string xk), .v (.int .i64 ik)]]
abbrev pCK (xk : ByteArray) (ik : Int) (x : Ky) : Bool := decide (x = Ky.cl ⟨xk, ik⟩)
def FIndexKf (xk : ByteArray) (ik : Int) : List Ar → Option Rs
  | [.c (.ow 2 n0 f0), .fv g1] => some ⟨(n0 ≤ 1000000000 ∧ RowsK n0 f0) ∧ (g1 = gCutK xk ik ∧ rI ik), .va (.c (.d (it (ixK (pCK xk ik) (gKs n0 f0))))), [some (rwK (gKs n0 f0))]⟩
  | _ => none
set_option maxHeartbeats 3000000 in
set_option maxRecDepth 100000 in
theorem fcIndexKf (xk : ByteArray) (ik : Int) : FC Tryd.prog 74 (FIndexKf xk ik) := by
  intro xs pre r us h hp
  unfold FIndexKf at h
  split at h
  · rename_i n0 f0 g1
    cases h
    obtain ⟨hp0, hp1⟩ := hp
    refine FCat.deep (ys := [.c (.ow 2 n0 (rwK (gKs n0 f0))), .fv g1]) ?_ ?_
    · repeat' (first | exact trivial | exact rfl | exact DvE.refl _ | refine ⟨?_, ?_⟩ | fail)
      all_goals first | exact (canonKo hp0.2.h).2.2
    refine fcat tys_ok (l := []) trivial Tryd.func74 rfl (by kernel_rfl) false ?_
    obtain ⟨rfl, hk1⟩ := hp1
    have hn := hp0.1
    have hO := rowsK_r hp0.2
    have hlen := gKs_length n0 f0
    generalize gKs n0 f0 = L at *
    clear hp0
    subst hlen
    have hrow : RowsK L.length (rwK L) := rowsK_of hO
    have hrn : ∀ k, k < L.length → rI (atK L k).node := fun k hk => hO _ (atK_mem hk)
    repeat' (first | exact trivial | refine ⟨?_, ?_⟩ | intro _)
    all_goals first | (with_reducible show (_ : Int) ≤ _) | (with_reducible show (_ : Int) < _) | (with_reducible show (_ : Nat) ≤ _) | (with_reducible show (_ : Nat) < _) | (conv => whnf)
    refine loop_ok tys_ok (l := []) trivial (by kernel_rfl) (X := Nat)
      (fun i => ⟨[(8, vx (.int .i64 i)), (0, .va (.c (.osl 0 2 0 L.length))), (1, .va (.c (.fv (gCutK xk ik)))), (7, vx (.int .i64 L.length))], [(0, .row 2 L.length (rwK L))], 1, 19⟩)
      (fun i => L.length - i) (fun i => i ≤ L.length ∧ ∀ k, k < i → pCK xk ik (atK L k) = false) [] []
      (fun i _ _ => i + 1) [0] [0] 0 0 0 ?_ ?_ ?_
    · exact ⟨Nat.zero_le _, fun k h => absurd h (Nat.not_lt_zero k)⟩
    · repeat' (first | exact trivial | exact rfl | (intro _ _; exact rfl) | refine ⟨?_, ?_⟩ | fail)
    · rintro i ⟨k1, k2⟩
      rcases Nat.lt_or_ge i L.length with hi | hi
      · have hne : decide ((i : Int) < (L.length : Int)) = true := decide_eq_true (by omega)
        have har := hrn i hi
        have hall : pCK xk ik (atK L i) = false → ∀ k, k < i + 1 → pCK xk ik (atK L k) = false := fun h k hk => by
          rcases Nat.lt_or_ge k i with hki | hki
          · exact k2 k hki
          · rw [show k = i by omega]; exact h
        repeat' (first | exact trivial | refine ⟨?_, ?_⟩ | intro _)
        all_goals first | (with_reducible show (_ : Int) ≤ _) | (with_reducible show (_ : Int) < _) | (with_reducible show (_ : Nat) ≤ _) | (with_reducible show (_ : Nat) < _) | (conv => whnf)
        all_goals first | (exact absurd (hne.symm.trans ‹_ = false›) (by decide)) | skip
        all_goals (try simp only [Int.toNat_natCast, Nat.zero_add] at *)
        all_goals first | omega | rfl | exact har | exact har.1 | exact har.2 | exact hk1 | exact hk1.1 | exact hk1.2 | (exact congrArg (Value.int .i64) (by first | (rw [wI_id _ (by omega) (by omega)]; omega) | omega | (dsimp only; omega))) | skip
        all_goals first | (rw [ixK_some hi k2 ‹_ = true›]; done) | (rw [ixK_some hi k2 ‹_ = true›]; rfl) | (exact hall ‹decide _ = false› _ ‹_ < i + 1›) | trace_state
      · have hne : decide ((i : Int) < (L.length : Int)) = false := decide_eq_false (by omega)
        obtain rfl : i = L.length := by omega
        repeat' (first | exact trivial | refine ⟨?_, ?_⟩ | intro _)
        all_goals first | (with_reducible show (_ : Int) ≤ _) | (with_reducible show (_ : Int) < _) | (with_reducible show (_ : Nat) ≤ _) | (with_reducible show (_ : Nat) < _) | (conv => whnf)
        all_goals first | (exact absurd (hne.symm.trans ‹_ = true›) (by decide)) | skip
        all_goals first | exact Nat.le_refl _ | (rw [ixK_none k2]; done) | (rw [ixK_none k2]; rfl) | trace_state
  · cases h
def FDeleteKf (xk : ByteArray) (ik : Int) : List Ar → Option Rs
  | [.c (.ow 2 n0 f0), .fv g1] => some ⟨(n0 ≤ 1000000000 ∧ RowsK n0 f0) ∧ (g1 = gCutK xk ik ∧ rI ik), .va (.c (.ow 2 (((gKs n0 f0)).filter fun x => !pCK xk ik x).length (rwK (((gKs n0 f0)).filter fun x => !pCK xk ik x)))), [none]⟩
  | _ => none
set_option maxHeartbeats 4000000 in
set_option maxRecDepth 100000 in
theorem fcDeleteKf (xk : ByteArray) (ik : Int) : FC Tryd.prog 51 (FDeleteKf xk ik) := by
  intro xs pre r us h hp
  unfold FDeleteKf at h
  split at h
  · rename_i n0 f0 g1
    cases h
    obtain ⟨hp0, hp1⟩ := hp
    refine FCat.deep (ys := [.c (.ow 2 n0 (rwK (gKs n0 f0))), .fv g1]) ?_ ?_
    · repeat' (first | exact trivial | exact rfl | exact DvE.refl _ | refine ⟨?_, ?_⟩ | fail)
      all_goals first | exact (canonKo hp0.2.h).2.2
    refine fcat tys_ok (l := [(74, ⟨[true], (FIndexKf xk ik)⟩)]) ⟨(fcIndexKf xk ik), trivial⟩ Tryd.func51 rfl (by kernel_rfl) false ?_
    obtain ⟨rfl, hk1⟩ := hp1
    have hn := hp0.1
    have hO := rowsK_r hp0.2
    have hlen := gKs_length n0 f0
    generalize gKs n0 f0 = L at *
    clear hp0
    subst hlen
    have hrow : RowsK L.length (rwK L) := rowsK_of hO
    have hrn : ∀ k, k < L.length → rI (atK L k).node := fun k hk => hO _ (atK_mem hk)
    have hgb := gKs_row L
    have hsl : (L.filter fun x => !pCK xk ik x) = (seg (atK L) 0 L.length).filter fun x => !pCK xk ik x := by rw [seg_atK]
    have hfl := filK_len (fun x => !pCK xk ik x) (atK L)
    repeat' (first | exact trivial | (with_reducible exact hrow) | refine ⟨?_, ?_⟩ | intro _)
    all_goals first | (with_reducible show (_ : Int) ≤ _) | (with_reducible show (_ : Int) < _) | (with_reducible show (_ : Nat) ≤ _) | (with_reducible show (_ : Nat) < _) | (conv => whnf)
    all_goals first | exact hn | exact hk1 | exact hk1.1 | exact hk1.2 | exact Nat.le_refl _ | rfl | skip
    all_goals (rcases ixK_cases (pCK xk ik) L with ⟨hix, hno⟩ | ⟨i, hix, hi, hlo, hat⟩)
    all_goals (simp only [hgb, hix] at *)
    all_goals first | (exact absurd ‹((-1 : Int) == -1) = false› (by decide)) | (exact absurd (eq_of_beq ‹((i : Int) == -1) = true›) (by omega)) | skip
    · rw [List.filter_eq_self.2 (fun x hx => by obtain ⟨k, hk, rfl⟩ := mem_atK hx; rw [hno k hk]; rfl)]
    · rw [List.filter_eq_self.2 (fun x hx => by obtain ⟨k, hk, rfl⟩ := mem_atK hx; rw [hno k hk]; rfl)]
    have hF : (seg (atK L) 0 (i + 1)).filter (fun x => !pCK xk ik x) = seg (atK L) 0 i := by
      rw [filK_step, hat, filK_all fun k hk => by rw [hlo k hk]; rfl]
      simp
    have hgen : ∀ j, (seg (atK L) 0 (j + 1)).filter (fun x => !pCK xk ik x) = (seg (atK L) 0 j).filter (fun x => !pCK xk ik x) ++ if (!pCK xk ik (atK L j)) = true then [atK L j] else [] := filK_step _ _
    generalize hFF : (fun j => (seg (atK L) 0 j).filter (fun x => !pCK xk ik x)) = F
    have hFe : ∀ j, (seg (atK L) 0 j).filter (fun x => !pCK xk ik x) = F j := fun j => congrFun hFF j
    simp only [hFe] at hF hgen hsl hfl
    have hw0 : IntKind.wrap .i64 ((i : Int) + 1) = ((i + 1 : Nat) : Int) := by rw [wI_id _ (by omega) (by omega)]; omega
    refine loop_ok tys_ok (l := [(74, ⟨[true], (FIndexKf xk ik)⟩)]) ⟨(fcIndexKf xk ik), trivial⟩ (by kernel_rfl) (X := Nat)
      (fun j => ⟨[(6, vx (.int .i64 j)), (5, vx (.int .i64 (F j).length)), (0, .va (.c (.osl 0 2 0 L.length))), (1, .va (.c (.fv (gCutK xk ik))))], [(0, .row 2 L.length fun k => kyC (put (atK L) 0 (F j) k))], 1, 42⟩)
      (fun j => L.length - j) (fun j => i + 1 ≤ j ∧ j ≤ L.length ∧ (F j).length < j) [] []
      (fun j _ _ => j + 1) [0] [0] 0 0 (i + 1) ?_ ?_ ?_
    · exact ⟨Nat.le_refl _, hi, by rw [hF, seg_length]; omega⟩
    · rw [hF, put_seg]
      repeat' (first | exact trivial | exact rfl | (intro _ _; exact rfl) | refine ⟨?_, ?_⟩ | fail)
      all_goals (refine congrArg (Value.int .i64) ?_; first | rw [hw0] | (rw [seg_length]; omega))
    · rintro j ⟨k1, k2, k3⟩
      rcases Nat.lt_or_ge j L.length with hj | hj
      · have hne : decide ((j : Int) < (L.length : Int)) = true := decide_eq_true (by omega)
        have hg1 : put (atK L) 0 (F j) j = atK L j := put_out (.inr (by omega))
        have hs := hgen j
        have har := hrn j hj
        cases hc : pCK xk ik (atK L j) with
        | true =>
          rw [hc, if_neg (by decide), List.append_nil] at hs
          repeat' (first | exact trivial | refine ⟨?_, ?_⟩ | intro _)
          all_goals first | (with_reducible show (_ : Int) ≤ _) | (with_reducible show (_ : Int) < _) | (with_reducible show (_ : Nat) ≤ _) | (with_reducible show (_ : Nat) < _) | (conv => whnf)
          all_goals first | (exact absurd (hne.symm.trans ‹_ = false›) (by decide)) | skip
          all_goals (try simp only [Int.toNat_natCast, Nat.zero_add, hg1] at *)
          all_goals first | (exact absurd ((congrArg not hc).symm.trans ‹(!decide _) = true›) (by decide)) | skip
          all_goals (try simp only [hs])
          all_goals first | omega | rfl | exact har | exact har.1 | exact har.2 | exact hk1 | exact hk1.1 | exact hk1.2 | (exact congrArg (Value.int .i64) (by first | (rw [wI_id _ (by omega) (by omega)]; omega) | omega | (dsimp only; omega))) | trace_state
        | false =>
          rw [hc, if_pos (by decide)] at hs
          have hlen : (F (j + 1)).length = (F j).length + 1 := by rw [hs]; simp
          repeat' (first | exact trivial | refine ⟨?_, ?_⟩ | intro _)
          all_goals first | (with_reducible show (_ : Int) ≤ _) | (with_reducible show (_ : Int) < _) | (with_reducible show (_ : Nat) ≤ _) | (with_reducible show (_ : Nat) < _) | (conv => whnf)
          all_goals first | (exact absurd (hne.symm.trans ‹_ = false›) (by decide)) | skip
          all_goals (try simp only [Int.toNat_natCast, Nat.zero_add, hg1] at *)
          all_goals first | (exact absurd ((congrArg not hc).symm.trans ‹(!decide _) = false›) (by decide)) | skip
          all_goals (try simp only [hlen])
          all_goals first | omega | rfl | exact har | exact har.1 | exact har.2 | exact hk1 | exact hk1.1 | exact hk1.2 | (exact congrArg (Value.int .i64) (by first | (rw [wI_id _ (by omega) (by omega)]; omega) | omega | (dsimp only; omega))) | (rw [hs]; exact row_pushK rfl rfl _) | trace_state
      · have hne : decide ((j : Int) < (L.length : Int)) = false := decide_eq_false (by omega)
        obtain rfl : j = L.length := by omega
        repeat' (first | exact trivial | refine ⟨?_, ?_⟩ | intro _)
        all_goals first | (with_reducible show (_ : Int) ≤ _) | (with_reducible show (_ : Int) < _) | (with_reducible show (_ : Nat) ≤ _) | (with_reducible show (_ : Nat) < _) | (conv => whnf)
        all_goals first | (exact absurd (hne.symm.trans ‹_ = true›) (by decide)) | skip
        all_goals (try simp only [Int.toNat_natCast, Nat.zero_add, hsl])
        all_goals first | rfl | omega | (rename_i k hk; rw [clr_lo (by omega)]; exact congrArg kyC (put_atK (by omega))) | trace_state
  · cases h

end Go.Proofs.YtakcacejpbiogaaDoor
