/- Keys, and rows of keys, in plain words. No condition. -/
import Derived.Test.YtakcacejpbiogaaDoorSx
import Derived.Test.YtakcacejpbiogaaDoorTys
import Derived.Lib.Bytealg
import Derived.Shelf.Small.Strs
import Derived.Sort.Walk0
namespace Go.Proofs.YtakcacejpbiogaaDoor
set_option linter.all false
open Go.Sx

open Go.RowKit Go.Lib Go.Sort
abbrev bo (b : Bool) : DV := .v (.bool b)
abbrev it (n : Int) : DV := .v (.int .i64 n)
theorem wI (n : Int) : IntKind.wrap .i64 n = (n + 9223372036854775808) % 18446744073709551616 - 9223372036854775808 := by
  simp [IntKind.wrap, IntKind.signed, IntKind.bits]
  split <;> omega
theorem wI_id (n : Int) (h0 : -9223372036854775808 ≤ n) (h1 : n < 9223372036854775808) : IntKind.wrap .i64 n = n := by rw [wI]; omega
abbrev st (s : ByteArray) : DV := .v (.string s)
def gT : List DV → ByteArray
  | [.v (.string s)] => s
  | _ => ByteArray.empty
def gN (n : Nat) (f : Nat → List DV) : List ByteArray := (List.range n).map fun i => gT (f i)
def atS (l : List ByteArray) (i : Nat) : ByteArray := l.getD i ByteArray.empty
theorem gN_length (n : Nat) (f : Nat → List DV) : (gN n f).length = n := by simp [gN]
theorem gN_canon (n : Nat) (f : Nat → List DV) : (gN n fun i => [st (gT (f i))]) = gN n f := rfl
theorem gN_lst (l : List ByteArray) : gN l.length (fun i => [st (atS l i)]) = l := by
  unfold gN atS
  apply List.ext_getElem
  · simp
  · intro i h1 h2; simp [gT, h2]
def slt (a b : ByteArray) : Bool := Op.bytesLess a.toList b.toList
theorem seq_iff (a b : ByteArray) : (a.toList == b.toList) = decide (a = b) := by
  rw [ByteArray.toList_eq, ByteArray.toList_eq]
  rw [Bool.eq_iff_iff]
  simp only [beq_iff_eq, decide_eq_true_eq]
  constructor
  · intro h
    have : a.data = b.data := Array.ext' h
    cases a; cases b; simp_all
  · rintro rfl; rfl
theorem gN_mem {n : Nat} {f : Nat → List DV} {x : ByteArray} : x ∈ gN n f ↔ ∃ i, i < n ∧ gT (f i) = x := by simp [gN]
def memS (x : ByteArray) (l : List ByteArray) : Bool := l.any fun y => decide (x = y)
theorem memS_iff {x : ByteArray} {l : List ByteArray} : memS x l = true ↔ x ∈ l := by
  unfold memS; simp
theorem memS_not {x : ByteArray} {l : List ByteArray} : memS x l = false ↔ ¬ x ∈ l := by
  rw [← memS_iff]; simp
def ixS (l : List ByteArray) (x : ByteArray) : Int := if memS x l = true then (l.findIdx fun y => decide (x = y) : Nat) else -1
theorem ixS_no {n : Nat} {f : Nat → List DV} {x : ByteArray} (h : ∀ j, j < n → ¬ x = gT (f j)) : (-1 : Int) = ixS (gN n f) x := by
  unfold ixS
  rw [if_neg]
  rw [memS_iff, gN_mem]
  rintro ⟨i, hi, e⟩
  exact h i hi e.symm
theorem ixS_at {n i : Nat} {f : Nat → List DV} {x : ByteArray} (h : ∀ j, j < i → ¬ x = gT (f j)) (hi : i < n) (he : x = gT (f i)) : (i : Int) = ixS (gN n f) x := by
  unfold ixS
  rw [if_pos (memS_iff.2 (gN_mem.2 ⟨i, hi, he.symm⟩))]
  have hl : i < (gN n f).length := by rw [gN_length]; exact hi
  have hg : ∀ j (hj : j < (gN n f).length), (gN n f)[j] = gT (f j) := fun j hj => by simp [gN]
  have : (gN n f).findIdx (fun y => decide (x = y)) = i := by
    rw [List.findIdx_eq hl]
    refine ⟨by rw [hg i hl]; simpa using he, fun j hj => ?_⟩
    rw [hg j (by omega)]; simpa using h j hj
  rw [this]
theorem ixS_ge {l : List ByteArray} {x : ByteArray} : decide (ixS l x ≥ 0) = memS x l := by
  unfold ixS
  split
  · rename_i h; simp [h]
  · rename_i h; simp [h]
theorem not_step {i : Nat} {f : Nat → List DV} {x : ByteArray} (k : ∀ j, j < i → ¬ x = gT (f j)) (h : ¬ x = gT (f i)) (j : Nat) (hj : j < i + 1) : ¬ x = gT (f j) := by
  rcases Nat.lt_or_ge j i with h1 | h1
  · exact k j h1
  · have : j = i := by omega
    subst this
    exact h
def cfL (x y : List UInt8) : Int := Lib.compareBytes x y
theorem cfL_lt : ∀ (x y : List UInt8), (cfL x y < 0) ↔ x < y
  | [], [] => by simp [cfL, Lib.compareBytes]
  | [], _ :: _ => by simp [cfL, Lib.compareBytes]
  | _ :: _, [] => by simp [cfL, Lib.compareBytes]
  | a :: x, b :: y => by
    have ih := cfL_lt x y
    unfold cfL at ih ⊢
    unfold Lib.compareBytes
    rw [List.cons_lt_cons_iff]
    by_cases h1 : a < b
    · simp [h1]
    · by_cases h2 : b < a
      · have hne : a ≠ b := fun e => by subst e; exact h1 h2
        simp [h1, h2, hne]
      · have he : a = b := by
          have h1 := UInt8.not_lt.1 h1
          have h2 := UInt8.not_lt.1 h2
          exact UInt8.le_antisymm h2 h1
        subst he
        simp [h1, ih]
def nilD (sz : Nat) : DV → DV
  | .v (.slice none 0 0) => .lst sz 0 (fun _ => [])
  | x => x
def nilI (sz : Nat) : Ic → Ic
  | .d x => .d (nilD sz x)
  | x => x
theorem dvEq_refl (x : DV) : dvEq x x := by cases x <;> simp [dvEq]
theorem nilD_eq (sz : Nat) (x : DV) : dvEq x (nilD sz x) := by
  unfold nilD; split
  · exact ⟨rfl, rfl⟩
  · exact dvEq_refl x
theorem nilI_eq (sz : Nat) (x : Ic) : icEq x (nilI sz x) := by
  cases x with
  | d x => exact nilD_eq sz x
  | ow a b c => exact ⟨rfl, rfl, fun _ _ => rfl⟩
abbrev kS (s : ByteArray) : List UInt8 := s.data.toList
theorem kS_inj {a b : ByteArray} (h : kS a = kS b) : a = b := by
  have : a.data = b.data := Array.ext' h
  cases a; cases b; simp_all
theorem kS_tl (s : ByteArray) : s.toList = kS s := ByteArray.toList_eq s
theorem slt_eq (a b : ByteArray) : slt a b = decide (kS a < kS b) := by unfold slt; rw [bytesLess_eq, kS_tl, kS_tl]
def rI (n : Int) : Prop := -9223372036854775808 ≤ n ∧ n < 9223372036854775808
def gI : List DV → Int
  | [.v (.int .i64 n)] => n
  | _ => 0
inductive DvE : DV → DV → Prop
  | refl (x : DV) : DvE x x
  | nil {sz : Nat} {f : Nat → List DV} : DvE (.v (.slice none 0 0)) (.lst sz 0 f)
  | lst {sz n : Nat} {f g : Nat → List DV} : (∀ i, i < n → (f i).length = (g i).length) → (∀ (i j : Nat) (x y : DV), i < n → (f i)[j]? = some x → (g i)[j]? = some y → DvE x y) → DvE (.lst sz n f) (.lst sz n g)
theorem DvE.rep {S : Nat → Prop} {w : World} {x y : DV} (h : DvE x y) : ∀ {v : Value}, RepD S w x v → RepD S w y v := by
  induction h with
  | refl x => exact fun h => h
  | nil => intro v hx; cases hx; exact .nil
  | @lst sz n f g hl hr ih =>
    intro v hx
    cases hx with
    | nil => exact .nil
    | lst c h1 h2 h3 h4 h5 =>
      refine .lst c h1 (fun i hi => by rw [← hl i hi]; exact h2 i hi) h3 (fun i j hi hj => ?_) h5
      have e1 : j < (f i).length := by rw [h2 i hi]; exact hj
      have e2 : j < (g i).length := by rw [← hl i hi]; exact e1
      have h := h4 i j hi hj
      rw [List.getD_eq_getElem?_getD, List.getElem?_eq_getElem e1] at h
      rw [List.getD_eq_getElem?_getD, List.getElem?_eq_getElem e2]
      exact ih i j _ _ hi (List.getElem?_eq_getElem e1) (List.getElem?_eq_getElem e2) h
def rowE (x y : List DV) : Prop := x.length = y.length ∧ ∀ (j : Nat) a b, x[j]? = some a → y[j]? = some b → DvE a b
theorem DvE.rows {sz n : Nat} {f g : Nat → List DV} (h : ∀ i, i < n → rowE (f i) (g i)) : DvE (.lst sz n f) (.lst sz n g) := .lst (fun i hi => (h i hi).1) fun i j x y hi => (h i hi).2 j x y
def icE : Ic → Ic → Prop
  | .d x, .d y => DvE x y
  | .ow sz n f, .ow sz' n' g => sz = sz' ∧ n = n' ∧ ∀ i, i < n → rowE (f i) (g i)
  | _, _ => False
def icsE : List Ic → List Ic → Prop
  | [], [] => True
  | x :: xs, y :: ys => icE x y ∧ icsE xs ys
  | _, _ => False
def arE : Ar → Ar → Prop
  | .c x, .c y => icE x y
  | .agg xs, .agg ys => icsE xs ys
  | .rp cs, .rp cs' => cs = cs'
  | .fv g, .fv g' => g = g'
  | _, _ => False
def arsE : List Ar → List Ar → Prop
  | [], [] => True
  | x :: xs, y :: ys => arE x y ∧ arsE xs ys
  | _, _ => False
theorem RowRep.deep {S : Nat → Prop} {w : World} {sz n : Nat} {f g : Nat → List DV} {l : Go.Sx.Loc} (h : ∀ i, i < n → rowE (f i) (g i)) (hr : RowRep S w sz n f l) : RowRep S w sz n g l := by
  cases l with
  | virt => exact hr
  | «at» b m =>
    obtain ⟨arr, e, h1, h2, h3, h4, h5⟩ := hr
    refine ⟨arr, e, h1, h2, h3, fun i hi => by rw [← (h i hi).1]; exact h4 i hi, fun i j hi hj => ?_⟩
    have e1 : j < (f i).length := by rw [h4 i hi]; exact hj
    have e2 : j < (g i).length := by rw [← (h i hi).1]; exact e1
    have h6 := h5 i j hi hj
    rw [List.getD_eq_getElem?_getD, List.getElem?_eq_getElem e1] at h6
    rw [List.getD_eq_getElem?_getD, List.getElem?_eq_getElem e2]
    exact ((h i hi).2 j _ _ (List.getElem?_eq_getElem e1) (List.getElem?_eq_getElem e2)).rep h6
theorem icsE.rep {S : Nat → Prop} {w : World} : ∀ {xs ys : List Ic} {vs : List Value} {ls : List Go.Sx.Loc}, icsE xs ys → RepIcs S w xs vs ls → RepIcs S w ys vs ls
  | [], [], vs, ls, _, h => h
  | .d x :: xs, .d y :: ys, [], ls, _, h => by simp [RepIcs] at h
  | .d x :: xs, .d y :: ys, v :: vs, ls, h, h' => by
    simp only [RepIcs] at h' ⊢
    exact ⟨DvE.rep h.1 h'.1, icsE.rep h.2 h'.2⟩
  | .ow _ _ _ :: xs, .ow _ _ _ :: ys, [], _, _, h => by simp [RepIcs] at h
  | .ow _ _ _ :: xs, .ow _ _ _ :: ys, _ :: _, [], _, h => by simp [RepIcs] at h
  | .ow sz n f :: xs, .ow sz' n' g :: ys, v :: vs, l :: ls, h, h' => by
    simp only [RepIcs] at h' ⊢
    obtain ⟨⟨rfl, rfl, h1⟩, h2⟩ := h
    exact ⟨h'.1, RowRep.deep h1 h'.2.1, icsE.rep h2 h'.2.2⟩
  | [], _ :: _, _, _, h, _ => h.elim
  | _ :: _, [], _, _, h, _ => h.elim
  | .d _ :: _, .ow _ _ _ :: _, _, _, h, _ => h.1.elim
  | .ow _ _ _ :: _, .d _ :: _, _, _, h, _ => h.1.elim
theorem arE.rep {P : Program} {S : Nat → Prop} {w : World} {x y : Ar} {v : Value} {ls : List Go.Sx.Loc} (h : arE x y) (h' : RepAr P S w x v ls) : RepAr P S w y v ls := by
  cases x <;> cases y <;> first | exact h.elim | skip
  · exact icsE.rep (xs := [_]) (ys := [_]) ⟨h, trivial⟩ h'
  · obtain ⟨arr, e, h'⟩ := h'; exact ⟨arr, e, icsE.rep h h'⟩
  · have : _ = _ := h; subst this; exact h'
  · have : _ = _ := h; subst this; exact h'
theorem arsE.rep {P : Program} {S : Nat → Prop} {w : World} : ∀ {xs ys : List Ar} {vs : List Value} {ls : List Go.Sx.Loc}, arsE xs ys → RepArs P S w xs vs ls → RepArs P S w ys vs ls
  | [], [], _, _, _, h => h
  | [], _ :: _, _, _, h, _ => h.elim
  | _ :: _, [], _, _, h, _ => h.elim
  | x :: xs, y :: ys, [], _, _, h => by simp [RepArs] at h
  | x :: xs, y :: ys, v :: vs, ls, h, h' => by
    obtain ⟨l1, l2, e, h1, h2⟩ := h'
    exact ⟨l1, l2, e, arE.rep h.1 h1, arsE.rep h.2 h2⟩
theorem icsE.rows : ∀ {xs ys : List Ic}, icsE xs ys → icRows xs = icRows ys
  | [], [], _ => rfl
  | .d _ :: xs, .d _ :: ys, h => icsE.rows (xs := xs) (ys := ys) h.2
  | .ow _ _ _ :: xs, .ow _ _ _ :: ys, h => by obtain ⟨⟨rfl, rfl, _⟩, h2⟩ := h; simp only [icRows, icsE.rows h2]
  | [], _ :: _, h => h.elim
  | _ :: _, [], h => h.elim
  | .d _ :: _, .ow _ _ _ :: _, h => h.1.elim
  | .ow _ _ _ :: _, .d _ :: _, h => h.1.elim
theorem arsE.rows : ∀ {xs ys : List Ar}, arsE xs ys → arsRows xs = arsRows ys
  | [], [], _ => rfl
  | [], _ :: _, h => h.elim
  | _ :: _, [], h => h.elim
  | x :: xs, y :: ys, h => by
    have e1 : arRows x = arRows y := by
      have h1 := h.1
      cases x <;> cases y <;> first | exact h1.elim | rfl | skip
      · exact icsE.rows (xs := [_]) (ys := [_]) ⟨h1, trivial⟩
      · exact icsE.rows h1
    simp only [arsRows, e1, arsE.rows h.2]
theorem FCat.deep {P : Program} {f : Nat} {xs ys : List Ar} {r : Rt} {us : List (Option (Nat → List DV))} (he : arsE xs ys) (h : FCat P f ys r us) : FCat P f xs r us := by
  intro S w vals ls hS hr hsep
  have := h S w vals ls hS (he.rep hr) hsep
  rw [← he.rows] at this
  exact this
def unr (P : Program) (τ : Tys) (Γ : Sums) (calls : Nat → List Va → St → (Tm → St → Prop) → Prop) (base : Nat) (c : Code) (Q : Exit → St → Prop) : Nat → St → Prop
  | 0, _ => False
  | n + 1, st => vc P τ Γ calls base c st fun e st' => match e with
    | .normal => unr P τ Γ calls base c Q n st'
    | .exit i => Q (.exit i) st'
    | .goto i => Q (.goto i) st'
    | .ret => Q .ret st'
    | _ => False
theorem loop_unr {P : Program} {t : TT} (ht : t.ok P) {l : List (Nat × Sm)} (hl : sumsOk P l) (hmix : P.follows .mixedOrders = true) {base : Nat} {c : Code} {Q : Exit → St → Prop} {st : St} (n : Nat)
    (h : unr P t.get (sums l) (vcCall P (sums l) base) base c Q n st) : ASat P base (.loop c) st Q := by
  refine ⟨fun ψ S w a hr => ?_⟩
  refine wp_loop_by (P := P) (fun k a' w' => ∃ st ψ' S', unr P t.get (sums l) (vcCall P (sums l) base) base c Q k st ∧ Rel P base ψ' S' w' st a' ∧ Ext base ψ S w ψ' S' w') ?_ ⟨st, ψ, S, h, hr, Ext.refl _ _ _ _⟩
  rintro k a1 w1 ⟨st1, ψ1, S1, hk, hr1, he1⟩
  cases k with
  | zero => exact hk.elim
  | succ k =>
    refine wp_mono ((vc_ok (TT.tysOk ht) (TT.zeros ht) (sums_ok hl) hmix (vcCall_ok (sums_ok hl) base) c _ _ hk).run ψ1 S1 w1 a1 hr1) ?_
    rintro e a2 w2 ⟨st2, ψ2, S2, hq, hr2, he2⟩
    cases e with
    | normal => exact ⟨k, Nat.lt_succ_self k, st2, ψ2, S2, hq, hr2, he1.trans he2⟩
    | exit id => exact ⟨st2, ψ2, S2, hq, hr2, he1.trans he2⟩
    | goto l => exact ⟨st2, ψ2, S2, hq, hr2, he1.trans he2⟩
    | ret => exact ⟨st2, ψ2, S2, hq, hr2, he1.trans he2⟩
    | panic ch => exact hq.elim
    | outgrown => exact hq.elim
def gS9 (l : List DV) : ByteArray := match l[(0 : Nat)]? with
  | some (.v (.string s)) => s
  | _ => ByteArray.empty
def gI9 (l : List DV) (j : Nat) : Int := match l[j]? with
  | some (.v (.int _ n)) => n
  | _ => 0
theorem snocRec {α : Type} {p : List α → Prop} (h0 : p []) (h1 : ∀ l x, p l → p (l ++ [x])) (l : List α) : p l := by
  have : ∀ m : List α, p m.reverse := by
    intro m
    induction m with
    | nil => exact h0
    | cons x m ih => rw [List.reverse_cons]; exact h1 _ _ ih
  have := this l.reverse
  rwa [List.reverse_reverse] at this
theorem cfL_eq : ∀ (x y : List UInt8), (cfL x y = 0) ↔ x = y
  | [], [] => by simp [cfL, Lib.compareBytes]
  | [], _ :: _ => by simp [cfL, Lib.compareBytes]
  | _ :: _, [] => by simp [cfL, Lib.compareBytes]
  | a :: x, b :: y => by
    have ih := cfL_eq x y
    unfold cfL at ih ⊢
    rw [Lib.compareBytes]
    split
    · rename_i h
      constructor
      · intro h; omega
      · intro h; cases h; exact absurd h (UInt8.lt_irrefl _)
    · split
      · rename_i h
        constructor
        · intro h; omega
        · intro h; cases h; exact absurd h (UInt8.lt_irrefl _)
      · rename_i h1 h2
        have : a = b := UInt8.le_antisymm (UInt8.not_lt.1 h2) (UInt8.not_lt.1 h1)
        subst this
        rw [ih]; simp
def nilIp : List Nat → List Ic → List Ic
  | _, [] => []
  | [], x :: xs => nilI 1 x :: nilIp [] xs
  | z :: zs, x :: xs => nilI z x :: nilIp zs xs
def nilAp : List Nat → Ar → Ar
  | [], .c x => .c (nilI 1 x)
  | z :: _, .c x => .c (nilI z x)
  | zs, .agg xs => .agg (nilIp zs xs)
  | _, x => x
def nilP : List (List Nat) → List Ar → List Ar
  | _, [] => []
  | [], x :: xs => nilAp [] x :: nilP [] xs
  | z :: zs, x :: xs => nilAp z x :: nilP zs xs
theorem nilIp_eq : ∀ (zs : List Nat) (xs : List Ic), icsEq xs (nilIp zs xs)
  | _, [] => by unfold nilIp; trivial
  | [], x :: xs => by unfold nilIp; exact ⟨nilI_eq 1 x, nilIp_eq [] xs⟩
  | z :: zs, x :: xs => by unfold nilIp; exact ⟨nilI_eq z x, nilIp_eq zs xs⟩
theorem nilAp_eq : ∀ (zs : List Nat) (x : Ar), arEq x (nilAp zs x)
  | [], .c x => nilI_eq 1 x
  | z :: _, .c x => nilI_eq z x
  | [], .agg xs => nilIp_eq [] xs
  | z :: zs, .agg xs => nilIp_eq (z :: zs) xs
  | [], .rp _ => rfl
  | _ :: _, .rp _ => rfl
  | [], .fv _ => rfl
  | _ :: _, .fv _ => rfl
theorem nilP_eq : ∀ (zs : List (List Nat)) (xs : List Ar), arsEq xs (nilP zs xs)
  | _, [] => by unfold nilP; trivial
  | [], x :: xs => by unfold nilP; exact ⟨nilAp_eq [] x, nilP_eq [] xs⟩
  | z :: zs, x :: xs => by unfold nilP; exact ⟨nilAp_eq z x, nilP_eq zs xs⟩
theorem nilI_rows (z : Nat) (x : Ic) (xs ys : List Ic) (h : icRows xs = icRows ys) : icRows (nilI z x :: xs) = icRows (x :: ys) := by
  cases x with
  | d x => simp only [nilI, icRows]; exact h
  | ow a b c => simp only [nilI, icRows]; rw [h]
theorem nilIp_rows : ∀ (zs : List Nat) (xs : List Ic), icRows (nilIp zs xs) = icRows xs
  | _, [] => by unfold nilIp; rfl
  | [], x :: xs => by unfold nilIp; exact nilI_rows 1 x _ _ (nilIp_rows [] xs)
  | z :: zs, x :: xs => by unfold nilIp; exact nilI_rows z x _ _ (nilIp_rows zs xs)
theorem nilAp_rows : ∀ (zs : List Nat) (x : Ar), arRows (nilAp zs x) = arRows x
  | [], .c x => by cases x <;> rfl
  | z :: _, .c x => by cases x <;> rfl
  | [], .agg xs => nilIp_rows [] xs
  | z :: zs, .agg xs => nilIp_rows (z :: zs) xs
  | [], .rp _ => rfl
  | _ :: _, .rp _ => rfl
  | [], .fv _ => rfl
  | _ :: _, .fv _ => rfl
theorem nilP_rows : ∀ (zs : List (List Nat)) (xs : List Ar), arsRows (nilP zs xs) = arsRows xs
  | _, [] => by unfold nilP; rfl
  | [], x :: xs => by unfold nilP; simp only [arsRows]; rw [nilAp_rows, nilP_rows [] xs]
  | z :: zs, x :: xs => by unfold nilP; simp only [arsRows]; rw [nilAp_rows, nilP_rows zs xs]
structure Ky where
  name : ByteArray
  node : Int
instance : Inhabited Ky := ⟨⟨ByteArray.empty, 0⟩⟩
theorem Ky.ext_iff' {a b : Ky} : a = b ↔ a.name = b.name ∧ a.node = b.node := by
  cases a; cases b; simp
instance : DecidableEq Ky := fun a b => decidable_of_iff (a.name = b.name ∧ a.node = b.node) Ky.ext_iff'.symm
namespace Ky
def cl (k : Ky) : Ky := ⟨k.name, if k.node < 0 then -1 else k.node⟩
def lt (a b : Ky) : Bool := if a.name = b.name then decide (a.cl.node < b.cl.node) else decide (kS a.name < kS b.name)
theorem cl_cl (k : Ky) : k.cl.cl = k.cl := by unfold cl; simp only; split <;> rename_i h <;> simp [h]
theorem lt_cl1 (a b : Ky) : lt a.cl b = lt a b := by unfold lt; rw [cl_cl]; rfl
theorem lt_cl2 (a b : Ky) : lt a b.cl = lt a b := by unfold lt; rw [cl_cl]; rfl
theorem lt_iff {a b : Ky} : lt a b = true ↔ (a.name = b.name ∧ a.cl.node < b.cl.node) ∨ kS a.name < kS b.name := by
  unfold lt
  split
  · rename_i h
    rw [decide_eq_true_eq]
    constructor
    · exact fun q => .inl ⟨h, q⟩
    · rintro (q | q)
      · exact q.2
      · rw [h] at q; exact absurd q (List.lt_irrefl _)
  · rename_i h
    rw [decide_eq_true_eq]
    constructor
    · exact .inr
    · rintro (q | q)
      · exact absurd q.1 h
      · exact q
theorem lt_irrefl (a : Ky) : lt a a = false := by
  cases h : lt a a with
  | false => rfl
  | true =>
    rcases lt_iff.1 h with q | q
    · omega
    · exact absurd q (List.lt_irrefl _)
theorem lt_trans {a b c : Ky} (h1 : lt a b = true) (h2 : lt b c = true) : lt a c = true := by
  rw [lt_iff] at *
  rcases h1 with q | q <;> rcases h2 with p | p
  · exact .inl ⟨q.1.trans p.1, by omega⟩
  · exact .inr (by rw [q.1]; exact p)
  · exact .inr (by rw [← p.1]; exact q)
  · exact .inr (List.lt_trans q p)
theorem lt_asymm {a b : Ky} (h : lt a b = true) : lt b a = false := by
  cases h2 : lt b a with
  | false => rfl
  | true => have := lt_trans h h2; rw [lt_irrefl] at this; cases this
theorem lt_tri {a b : Ky} (h1 : lt a b = false) (h2 : lt b a = false) : a.cl = b.cl := by
  have n1 : ¬ lt a b = true := by rw [h1]; exact Bool.false_ne_true
  have n2 : ¬ lt b a = true := by rw [h2]; exact Bool.false_ne_true
  rw [lt_iff] at n1 n2
  have e : a.name = b.name := by
    have hle : ¬ kS a.name < kS b.name := fun q => n1 (.inr q)
    have hge : ¬ kS b.name < kS a.name := fun q => n2 (.inr q)
    exact kS_inj (List.le_antisymm (List.not_lt.1 hge) (List.not_lt.1 hle))
  refine Ky.ext_iff'.2 ⟨e, ?_⟩
  have m1 : ¬ a.cl.node < b.cl.node := fun q => n1 (.inl ⟨e, q⟩)
  have m2 : ¬ b.cl.node < a.cl.node := fun q => n2 (.inl ⟨e.symm, q⟩)
  omega
theorem lt_ne {a b : Ky} (h : lt a b = true) : a.cl ≠ b.cl := fun e => by
  rw [← lt_cl1, e, lt_cl1, lt_irrefl] at h; cases h
end Ky
def SK (l : List Ky) : Prop := l.Pairwise (fun a b => Ky.lt a b = true) ∧ ∀ k, k ∈ l → k.cl = k
theorem SK.tail {x : Ky} {l : List Ky} (h : SK (x :: l)) : SK l := ⟨(List.pairwise_cons.1 h.1).2, fun k hk => h.2 k (List.mem_cons_of_mem _ hk)⟩
theorem sk_split : ∀ {l : List Ky}, SK l → ∀ k : Ky, ∃ A B, l = A ++ B ∧ (∀ a, a ∈ A → Ky.lt a k = true) ∧ ∀ b, b ∈ B → Ky.lt b k = false
  | [], _, k => ⟨[], [], rfl, fun a h => (by cases h), fun a h => (by cases h)⟩
  | x :: l, h, k => by
    cases hx : Ky.lt x k with
    | true =>
      obtain ⟨A, B, rfl, h1, h2⟩ := sk_split h.tail k
      exact ⟨x :: A, B, rfl, fun a ha => by rcases List.mem_cons.1 ha with rfl | ha; exact hx; exact h1 a ha, h2⟩
    | false =>
      refine ⟨[], x :: l, rfl, fun a ha => (by cases ha), fun b hb => ?_⟩
      rcases List.mem_cons.1 hb with rfl | hb
      · exact hx
      · cases hb2 : Ky.lt b k with
        | false => rfl
        | true => have := Ky.lt_trans ((List.pairwise_cons.1 h.1).1 b hb) hb2; rw [hx] at this; cases this
def putK (l : List Ky) (k : Ky) : List Ky := l.takeWhile (fun x => Ky.lt x k) ++ k.cl :: (l.dropWhile fun x => Ky.lt x k).filter fun x => decide (x ≠ k.cl)
theorem tw_split {A B : List Ky} {k : Ky} (h1 : ∀ a, a ∈ A → Ky.lt a k = true) (h2 : ∀ b, b ∈ B → Ky.lt b k = false) : (A ++ B).takeWhile (fun x => Ky.lt x k) = A ∧ (A ++ B).dropWhile (fun x => Ky.lt x k) = B := by
  rw [List.takeWhile_append_of_pos h1, List.dropWhile_append_of_pos h1]
  cases B with
  | nil => exact ⟨by simp, rfl⟩
  | cons b B =>
    have := h2 b List.mem_cons_self
    rw [List.takeWhile_cons_of_neg (by rw [this]; exact Bool.false_ne_true), List.dropWhile_cons_of_neg (by rw [this]; exact Bool.false_ne_true)]
    exact ⟨List.append_nil _, rfl⟩
theorem put_split {A B : List Ky} {k : Ky} (h1 : ∀ a, a ∈ A → Ky.lt a k = true) (h2 : ∀ b, b ∈ B → Ky.lt b k = false) : putK (A ++ B) k = A ++ k.cl :: B.filter fun x => decide (x ≠ k.cl) := by
  unfold putK; rw [(tw_split h1 h2).1, (tw_split h1 h2).2]
theorem sk_behind {A B : List Ky} {k : Ky} (h : SK (A ++ B)) (h2 : ∀ b, b ∈ B → Ky.lt b k = false) :
    (∃ B', B = k.cl :: B' ∧ ∀ b, b ∈ B' → b ≠ k.cl) ∨ (∀ b, b ∈ B → Ky.lt k b = true) := by
  cases B with
  | nil => exact .inr fun b hb => (by cases hb)
  | cons b B =>
    have hs := (List.pairwise_append.1 h.1).2.1
    have hb := List.pairwise_cons.1 hs
    have hcl : b.cl = b := h.2 b (List.mem_append_right _ List.mem_cons_self)
    cases hk : Ky.lt k b with
    | false =>
      have e := Ky.lt_tri (h2 b List.mem_cons_self) hk
      rw [hcl] at e
      refine .inl ⟨B, by rw [e], fun c hc q => ?_⟩
      have := hb.1 c hc
      rw [q, ← e, Ky.lt_irrefl] at this; cases this
    | true =>
      refine .inr fun c hc => ?_
      rcases List.mem_cons.1 hc with rfl | hc
      · exact hk
      · exact Ky.lt_trans hk (hb.1 c hc)
theorem filt_ne {B : List Ky} {k : Ky} (h : ∀ b, b ∈ B → b ≠ k) : (B.filter fun x => decide (x ≠ k)) = B :=
  List.filter_eq_self.2 fun b hb => decide_eq_true (h b hb)
theorem ne_behind {B : List Ky} {k : Ky} (hc : ∀ b, b ∈ B → b.cl = b) (h : ∀ b, b ∈ B → Ky.lt k b = true) : ∀ b, b ∈ B → b ≠ k.cl := fun b hb q => by
  have := Ky.lt_ne (h b hb)
  rw [hc b hb, q] at this; exact this rfl
theorem mem_put {l : List Ky} {k x : Ky} (h : SK l) : x ∈ putK l k ↔ x = k.cl ∨ x ∈ l := by
  obtain ⟨A, B, rfl, h1, h2⟩ := sk_split h k
  rw [put_split h1 h2, List.mem_append, List.mem_cons, List.mem_filter, List.mem_append, decide_eq_true_eq]
  constructor
  · rintro (q | q | q)
    · exact .inr (.inl q)
    · exact .inl q
    · exact .inr (.inr q.1)
  · rintro (q | q | q)
    · exact .inr (.inl q)
    · exact .inl q
    · by_cases e : x = k.cl
      · exact .inr (.inl e)
      · exact .inr (.inr ⟨q, e⟩)
theorem put_sk {l : List Ky} (h : SK l) (k : Ky) : SK (putK l k) := by
  refine ⟨?_, fun x hx => ?_⟩
  · obtain ⟨A, B, rfl, h1, h2⟩ := sk_split h k
    rw [put_split h1 h2]
    have hp := List.pairwise_append.1 h.1
    have hcA : ∀ a, a ∈ A → Ky.lt a k.cl = true := fun a ha => by rw [Ky.lt_cl2]; exact h1 a ha
    rcases sk_behind h h2 with ⟨B', rfl, hn⟩ | hn
    · have e : ((k.cl :: B').filter fun x => decide (x ≠ k.cl)) = B' := by
        rw [List.filter_cons_of_neg (by simp), filt_ne hn]
      rw [e]; exact h.1
    · rw [filt_ne (ne_behind (fun b hb => h.2 b (List.mem_append_right _ hb)) hn)]
      refine List.pairwise_append.2 ⟨hp.1, List.pairwise_cons.2 ⟨fun b hb => by rw [Ky.lt_cl1]; exact hn b hb, hp.2.1⟩, fun a ha b hb => ?_⟩
      rcases List.mem_cons.1 hb with rfl | hb
      · exact hcA a ha
      · exact hp.2.2 a ha b hb
  · rcases (mem_put h).1 hx with rfl | hx
    · exact Ky.cl_cl k
    · exact h.2 x hx
theorem put_len (l : List Ky) (k : Ky) : (putK l k).length ≤ l.length + 1 := by
  unfold putK
  rw [List.length_append, List.length_cons]
  have h1 := List.length_filter_le (fun x => decide (x ≠ k.cl)) (l.dropWhile fun x => Ky.lt x k)
  have h2 : (l.takeWhile fun x => Ky.lt x k).length + (l.dropWhile fun x => Ky.lt x k).length = l.length := by
    rw [← List.length_append, List.takeWhile_append_dropWhile]
  omega
abbrev Ky.ar (k : Ky) : Ar := .agg [.d (st k.name), .d (it k.node)]
def gSx (l : List DV) (j : Nat) : ByteArray := match l[j]? with
  | some (.v (.string s)) => s
  | _ => ByteArray.empty
def icmp (x y : Int) : Int := if x < y then -1 else if x > y then 1 else 0
def Ky.cmp (a b : Ky) : Int := if cfL a.name.data.toList b.name.data.toList = 0 then icmp a.cl.node b.cl.node else cfL a.name.data.toList b.name.data.toList
theorem icmp_lt {x y : Int} : icmp x y < 0 ↔ x < y := by unfold icmp; split; omega; split <;> omega
theorem icmp_eq {x y : Int} : icmp x y = 0 ↔ x = y := by unfold icmp; split; omega; split <;> omega
theorem Ky.cmp_lt (a b : Ky) : Ky.cmp a b < 0 ↔ Ky.lt a b = true := by
  rw [Ky.lt_iff]
  unfold Ky.cmp
  split
  · rename_i h
    have e := kS_inj (a := a.name) (b := b.name) ((cfL_eq _ _).1 h)
    rw [icmp_lt]
    constructor
    · exact fun q => .inl ⟨e, q⟩
    · rintro (q | q)
      · exact q.2
      · rw [e] at q; exact absurd q (List.lt_irrefl _)
  · rename_i h
    rw [cfL_lt]
    constructor
    · exact .inr
    · rintro (q | q)
      · rw [q.1] at h; exact absurd ((cfL_eq _ _).2 rfl) h
      · exact q
theorem Ky.cmp_eq (a b : Ky) : Ky.cmp a b = 0 ↔ a.cl = b.cl := by
  rw [Ky.ext_iff']
  unfold Ky.cmp
  split
  · rename_i h
    have e := kS_inj (a := a.name) (b := b.name) ((cfL_eq _ _).1 h)
    rw [icmp_eq]
    exact ⟨fun q => ⟨e, q⟩, fun q => q.2⟩
  · rename_i h
    exact ⟨fun q => absurd q h, fun q => absurd ((cfL_eq _ _).2 (congrArg kS q.1)) h⟩
theorem Ky.cl_r {k : Ky} (h : rI k.node) : rI k.cl.node := by unfold rI at *; unfold Ky.cl; simp only; split <;> omega
theorem canon2 {f : Nat → List DV} (h0 : f 0 = [it (gI (f 0))]) (h1 : f 1 = [it (gI (f 1))]) : DvE (.lst 1 2 f) (.lst 1 2 fun i => [it (gI (f i))]) :=
  .rows fun i hi => by
    have : i = 0 ∨ i = 1 := by omega
    rcases this with rfl | rfl
    · rw [← h0]; exact ⟨rfl, fun j a b ha hb => by rw [ha] at hb; cases hb; exact .refl _⟩
    · rw [← h1]; exact ⟨rfl, fun j a b ha hb => by rw [ha] at hb; cases hb; exact .refl _⟩
theorem cmp_lt (a b : Ky) : decide (Ky.cmp a b < 0) = Ky.lt a b := by
  cases h : Ky.lt a b with
  | true => exact decide_eq_true ((Ky.cmp_lt a b).2 h)
  | false => exact decide_eq_false fun q => by rw [(Ky.cmp_lt a b).1 q] at h; cases h
theorem cmp_eq (a b : Ky) : (Ky.cmp a b == 0) = decide (a.cl = b.cl) := by
  by_cases h : a.cl = b.cl
  · rw [decide_eq_true h, (Ky.cmp_eq a b).2 h]; rfl
  · rw [decide_eq_false h]; exact beq_eq_false_iff_ne.2 fun q => h ((Ky.cmp_eq a b).1 q)
def atK (l : List Ky) (i : Nat) : Ky := l.getD i default
abbrev kyC (k : Ky) : List DV := [st k.name, it k.node]
abbrev rwK (l : List Ky) : Nat → List DV := fun i => kyC (atK l i)
abbrev lstK (l : List Ky) : DV := .lst 2 l.length (rwK l)
def gKy (l : List DV) : Ky := ⟨gSx l 0, gI9 l 1⟩
def gKs (n : Nat) (f : Nat → List DV) : List Ky := (List.range n).map fun i => gKy (f i)
theorem gKs_length (n : Nat) (f : Nat → List DV) : (gKs n f).length = n := by simp [gKs]
theorem atK_gKs {n i : Nat} {f : Nat → List DV} (h : i < n) : atK (gKs n f) i = gKy (f i) := by
  simp [atK, gKs, List.getD_eq_getElem?_getD, h]
theorem gKs_row (l : List Ky) : gKs l.length (rwK l) = l := by
  unfold gKs
  apply List.ext_getElem
  · simp
  · intro i h1 h2
    have : gKy (kyC (atK l i)) = atK l i := rfl
    simp [this, atK, List.getD_eq_getElem?_getD, h2]
structure RowsK (n : Nat) (f : Nat → List DV) : Prop where
  h : ∀ i, i < n → f i = kyC (gKy (f i)) ∧ rI (gKy (f i)).node
theorem canonK {n : Nat} {f : Nat → List DV} (h : ∀ i, i < n → f i = kyC (gKy (f i)) ∧ rI (gKy (f i)).node) : DvE (.lst 2 n f) (.lst 2 n (rwK (gKs n f))) :=
  .rows fun i hi => by
    have e : rwK (gKs n f) i = f i := by
      show kyC (atK (gKs n f) i) = f i
      rw [atK_gKs hi]; exact (h i hi).1.symm
    rw [e]; exact ⟨rfl, fun j a b ha hb => by rw [ha] at hb; cases hb; exact .refl _⟩
theorem atK_mem {l : List Ky} {i : Nat} (h : i < l.length) : atK l i ∈ l := by
  unfold atK; rw [List.getD_eq_getElem?_getD, List.getElem?_eq_getElem h]; exact List.getElem_mem h
theorem mem_atK {l : List Ky} {x : Ky} (h : x ∈ l) : ∃ i, i < l.length ∧ atK l i = x := by
  obtain ⟨i, hi, e⟩ := List.mem_iff_getElem.1 h
  exact ⟨i, hi, by unfold atK; rw [List.getD_eq_getElem?_getD, List.getElem?_eq_getElem hi]; exact e⟩
theorem rowsK_of {l : List Ky} (h : ∀ x, x ∈ l → rI x.node) : RowsK l.length (rwK l) := ⟨fun i hi => ⟨rfl, h _ (atK_mem hi)⟩⟩
theorem rowsK_r {n : Nat} {f : Nat → List DV} (h : RowsK n f) : ∀ x, x ∈ gKs n f → rI x.node := fun x hx => by
  obtain ⟨i, hi, rfl⟩ := mem_atK hx
  rw [gKs_length] at hi
  rw [atK_gKs hi]; exact (h.h i hi).2
theorem rwK_snoc {O : List Ky} {x : Ky} {g : Nat → List DV} {k : Nat} (hg : g 0 = kyC x) (hk : k < O.length + 1) : appRow O.length (rwK O) g k = rwK (O ++ [x]) k := by
  unfold appRow
  split
  · rename_i h
    show kyC (atK O k) = kyC (atK (O ++ [x]) k)
    unfold atK; rw [List.getD_eq_getElem?_getD, List.getD_eq_getElem?_getD, List.getElem?_append_left h]
  · rename_i h
    obtain rfl : k = O.length := by omega
    rw [Nat.sub_self, hg]
    show kyC x = kyC (atK (O ++ [x]) O.length)
    unfold atK; rw [List.getD_eq_getElem?_getD, List.getElem?_append_right (Nat.le_refl _), Nat.sub_self]; rfl
theorem takeK_snoc {L : List Ky} {i : Nat} (h : i < L.length) : L.take (i + 1) = L.take i ++ [atK L i] := by
  rw [List.take_succ_eq_append_getElem h]
  congr 2
  unfold atK; rw [List.getD_eq_getElem?_getD, List.getElem?_eq_getElem h]; rfl
def putO (L : List Ky) (k : Ky) (i j : Nat) : List Ky := L.take i ++ k.cl :: ((L.drop i).take (j - i)).filter fun x => decide (x ≠ k.cl)
theorem putO_snoc {L : List Ky} {k : Ky} {i j : Nat} (hij : i ≤ j) (hj : j < L.length) : putO L k i (j + 1) = if atK L j = k.cl then putO L k i j else putO L k i j ++ [atK L j] := by
  have e : (L.drop i).take (j + 1 - i) = (L.drop i).take (j - i) ++ [atK L j] := by
    have h1 : j - i < (L.drop i).length := by rw [List.length_drop]; omega
    have h2 := takeK_snoc h1
    rw [show j - i + 1 = j + 1 - i by omega] at h2
    have e2 : atK (L.drop i) (j - i) = atK L j := by
      unfold atK; rw [List.getD_eq_getElem?_getD, List.getElem?_drop, List.getD_eq_getElem?_getD, show i + (j - i) = j by omega]
    rw [h2, e2]
  unfold putO
  rw [e, List.filter_append]
  by_cases h : atK L j = k.cl
  · rw [if_pos h]; simp [h]
  · rw [if_neg h]; simp [h]
theorem putO_len (L : List Ky) (k : Ky) (i j : Nat) (hij : i ≤ j) (hj : j ≤ L.length) : (putO L k i j).length ≤ j + 1 := by
  unfold putO
  rw [List.length_append, List.length_cons, List.length_take]
  have := List.length_filter_le (fun x => decide (x ≠ k.cl)) ((L.drop i).take (j - i))
  rw [List.length_take, List.length_drop] at this
  omega
theorem twK_of {L : List Ky} {k : Ky} {i : Nat} (hi : i ≤ L.length) (h1 : ∀ q, q < i → Ky.lt (atK L q) k = true) (h2 : i < L.length → Ky.lt (atK L i) k = false) : putK L k = putO L k i L.length := by
  have hA : ∀ a, a ∈ L.take i → Ky.lt a k = true := fun a ha => by
    obtain ⟨q, hq, rfl⟩ := mem_atK ha
    rw [List.length_take] at hq
    have e : atK (L.take i) q = atK L q := by unfold atK; rw [List.getD_eq_getElem?_getD, List.getElem?_take_of_lt (by omega), List.getD_eq_getElem?_getD]
    rw [e]; exact h1 q (by omega)
  have tw : L.takeWhile (fun x => Ky.lt x k) = L.take i ∧ L.dropWhile (fun x => Ky.lt x k) = L.drop i := by
    have e := List.take_append_drop i L
    have g1 := List.takeWhile_append_of_pos (p := fun x => Ky.lt x k) (l₁ := L.take i) (l₂ := L.drop i) hA
    have g2 := List.dropWhile_append_of_pos (p := fun x => Ky.lt x k) (l₁ := L.take i) (l₂ := L.drop i) hA
    rw [e] at g1 g2
    rw [g1, g2]
    cases hd : L.drop i with
    | nil => exact ⟨by simp, rfl⟩
    | cons b B =>
      have hlt : i < L.length := by
        have := congrArg List.length hd
        rw [List.length_drop, List.length_cons] at this; omega
      have hb : atK L i = b := by
        unfold atK
        rw [List.getD_eq_getElem?_getD]
        have := List.getElem?_drop (xs := L) (i := i) (j := 0)
        rw [hd] at this
        rw [Nat.add_zero] at this
        rw [← this]; rfl
      have h3 := h2 hlt
      rw [hb] at h3
      rw [List.takeWhile_cons_of_neg (by rw [h3]; exact Bool.false_ne_true), List.dropWhile_cons_of_neg (by rw [h3]; exact Bool.false_ne_true)]
      exact ⟨List.append_nil _, rfl⟩
  unfold putK putO
  rw [tw.1, tw.2, List.take_of_length_le (l := L.drop i) (by rw [List.length_drop]; omega)]
theorem keyEq_iff {a b : ByteArray} {n m : Int} : (a.toList == b.toList && (n == m && true)) = decide ((⟨a, n⟩ : Ky) = ⟨b, m⟩) := by
  rw [seq_iff, Bool.and_true]
  by_cases h : a = b
  · subst h
    rw [decide_eq_true rfl, Bool.true_and]
    by_cases h2 : n = m
    · subst h2; simp
    · rw [beq_eq_false_iff_ne.2 h2, decide_eq_false fun e => h2 (Ky.ext_iff'.1 e).2]
  · rw [decide_eq_false h, Bool.false_and, decide_eq_false fun e => h (Ky.ext_iff'.1 e).1]

end Go.Proofs.YtakcacejpbiogaaDoor
