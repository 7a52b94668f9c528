/- Keys, and rows of keys, in plain words. No condition. -/
import Derived.Test.YtbjfogojoalnpaaGreatS4
import Derived.Lib.Bytealg
import Derived.Shelf.Small.Strs
import Derived.Sort.Walk0
import Derived.Test.YtbjfogojoalnpaaGreatProg
import Derived.Lib.Overlaps
set_option linter.all false
set_option maxHeartbeats 8000000
set_option maxRecDepth 100000
namespace Go.Proofs.YtbjfogojoalnpaaGreat
open Go.Sx
open Go.RowKit Go.Lib Go.Sort
abbrev bo (b : Bool) : DV := .v (.bool b)
abbrev it (n : Int) : DV := .v (.int .i64 n)
theorem wI (n : Int) : IntKind.wrap .i64 n = (n + 9223372036854775808) % 18446744073709551616 - 9223372036854775808 := by
 simp [IntKind.wrap, IntKind.signed, IntKind.bits]
 split <;> omega
theorem wI_id (n : Int) (h0 : -9223372036854775808 <= n) (h1 : n < 9223372036854775808) : IntKind.wrap .i64 n = n := by rw [wI]; omega
abbrev st (s : ByteArray) : DV := .v (.string s)
def gT : List DV -> ByteArray
 | [.v (.string s)] => s
 | _ => ByteArray.empty
def cfL (x y : List UInt8) : Int := Lib.compareBytes x y
theorem cfL_lt : ∀ (x y : List UInt8), (cfL x y < 0) ↔ x < y
 | [], [] => by simp [cfL, Lib.compareBytes]
 | [], _ :: _ => by simp [cfL, Lib.compareBytes]
 | _ :: _, [] => by simp [cfL, Lib.compareBytes]
 | a :: x, b :: y => by
   have ih := cfL_lt x y
   unfold cfL at ih ⊢
   unfold Lib.compareBytes
   rw [List.cons_lt_cons_iff]
   by_cases h1 : a < b
   . simp [h1]
   . by_cases h2 : b < a
     . have hne : a ≠ b := fun e => by subst e; exact h1 h2
       simp [h1, h2, hne]
     . have he : a = b := by
        have h1 := UInt8.not_lt.1 h1
        have h2 := UInt8.not_lt.1 h2
        exact UInt8.le_antisymm h2 h1
       subst he
       simp [h1, ih]
def nilD (sz : Nat) : DV -> DV
 | .v (.slice none 0 0) => .lst sz 0 (fun _ => [])
 | x => x
def nilI (sz : Nat) : Ic -> Ic
 | .d x => .d (nilD sz x)
 | x => x
abbrev kS (s : ByteArray) : List UInt8 := s.data.toList
theorem kS_inj {a b : ByteArray} (h : kS a = kS b) : a = b := by
 have : a.data = b.data := Array.ext' h
 cases a; cases b; simp_all
def rI (n : Int) : Prop := -9223372036854775808 <= n /\ n < 9223372036854775808
def gI : List DV -> Int
 | [.v (.int .i64 n)] => n
 | _ => 0
inductive DvE : DV -> DV -> Prop
 | refl (x : DV) : DvE x x
 | nil {sz : Nat} {f : Nat -> List DV} : DvE (.v (.slice none 0 0)) (.lst sz 0 f)
 | lst {sz n : Nat} {f g : Nat -> List DV} : (∀ i, i < n -> (f i).length = (g i).length) -> (∀ (i j : Nat) (x y : DV), i < n -> (f i)[j]? = some x -> (g i)[j]? = some y -> DvE x y) -> DvE (.lst sz n f) (.lst sz n g)
theorem DvE.rep {S : Nat -> Prop} {w : World} {x y : DV} (h : DvE x y) : ∀ {v : Value}, RepD S w x v -> RepD S w y v := by
 induction h with
 | refl x => exact fun h => h
 | nil => intro v hx; cases hx; exact .nil
 | @lst sz n f g hl hr ih =>
   intro v hx
   cases hx with
   | nil => exact .nil
   | lst c h1 h2 h3 h4 h5 =>
     refine .lst c h1 (fun i hi => by rw [<- hl i hi]; exact h2 i hi) h3 (fun i j hi hj => ?_) h5
     have e1 : j < (f i).length := by rw [h2 i hi]; exact hj
     have e2 : j < (g i).length := by rw [<- hl i hi]; exact e1
     have h := h4 i j hi hj
     rw [List.getD_eq_getElem?_getD, List.getElem?_eq_getElem e1] at h
     rw [List.getD_eq_getElem?_getD, List.getElem?_eq_getElem e2]
     exact ih i j _ _ hi (List.getElem?_eq_getElem e1) (List.getElem?_eq_getElem e2) h
def rowE (x y : List DV) : Prop := x.length = y.length /\ ∀ (j : Nat) a b, x[j]? = some a -> y[j]? = some b -> DvE a b
theorem DvE.rows {sz n : Nat} {f g : Nat -> List DV} (h : ∀ i, i < n -> rowE (f i) (g i)) : DvE (.lst sz n f) (.lst sz n g) := .lst (fun i hi => (h i hi).1) fun i j x y hi => (h i hi).2 j x y
def icE : Ic -> Ic -> Prop
 | .d x, .d y => DvE x y
 | .ow sz n f, .ow sz' n' g => sz = sz' /\ n = n' /\ ∀ i, i < n -> rowE (f i) (g i)
 | _, _ => False
def icsE : List Ic -> List Ic -> Prop
 | [], [] => True
 | x :: xs, y :: ys => icE x y /\ icsE xs ys
 | _, _ => False
def arE : Ar -> Ar -> Prop
 | .c x, .c y => icE x y
 | .agg xs, .agg ys => icsE xs ys
 | .rp cs, .rp cs' => cs = cs'
 | .fv g, .fv g' => g = g'
 | _, _ => False
def arsE : List Ar -> List Ar -> Prop
 | [], [] => True
 | x :: xs, y :: ys => arE x y /\ arsE xs ys
 | _, _ => False
theorem RowRep.deep {S : Nat -> Prop} {w : World} {sz n : Nat} {f g : Nat -> List DV} {l : Go.Sx.Loc} (h : ∀ i, i < n -> rowE (f i) (g i)) (hr : RowRep S w sz n f l) : RowRep S w sz n g l := by
 cases l with
 | virt => exact hr
 | «at» b m =>
   obtain ⟨arr, e, h1, h2, h3, h4, h5⟩ := hr
   refine ⟨arr, e, h1, h2, h3, fun i hi => by rw [<- (h i hi).1]; exact h4 i hi, fun i j hi hj => ?_⟩
   have e1 : j < (f i).length := by rw [h4 i hi]; exact hj
   have e2 : j < (g i).length := by rw [<- (h i hi).1]; exact e1
   have h6 := h5 i j hi hj
   rw [List.getD_eq_getElem?_getD, List.getElem?_eq_getElem e1] at h6
   rw [List.getD_eq_getElem?_getD, List.getElem?_eq_getElem e2]
   exact ((h i hi).2 j _ _ (List.getElem?_eq_getElem e1) (List.getElem?_eq_getElem e2)).rep h6
theorem icsE.rep {S : Nat -> Prop} {w : World} : ∀ {xs ys : List Ic} {vs : List Value} {ls : List Go.Sx.Loc}, icsE xs ys -> RepIcs S w xs vs ls -> RepIcs S w ys vs ls
 | [], [], vs, ls, _, h => h
 | .d x :: xs, .d y :: ys, [], ls, _, h => by simp [RepIcs] at h
 | .d x :: xs, .d y :: ys, v :: vs, ls, h, h' => by
   simp only [RepIcs] at h' ⊢
   exact ⟨DvE.rep h.1 h'.1, icsE.rep h.2 h'.2⟩
 | .ow _ _ _ :: xs, .ow _ _ _ :: ys, [], _, _, h => by simp [RepIcs] at h
 | .ow _ _ _ :: xs, .ow _ _ _ :: ys, _ :: _, [], _, h => by simp [RepIcs] at h
 | .ow sz n f :: xs, .ow sz' n' g :: ys, v :: vs, l :: ls, h, h' => by
   simp only [RepIcs] at h' ⊢
   obtain ⟨⟨rfl, rfl, h1⟩, h2⟩ := h
   exact ⟨h'.1, RowRep.deep h1 h'.2.1, icsE.rep h2 h'.2.2⟩
 | [], _ :: _, _, _, h, _ => h.elim
 | _ :: _, [], _, _, h, _ => h.elim
 | .d _ :: _, .ow _ _ _ :: _, _, _, h, _ => h.1.elim
 | .ow _ _ _ :: _, .d _ :: _, _, _, h, _ => h.1.elim
theorem arE.rep {P : Program} {S : Nat -> Prop} {w : World} {x y : Ar} {v : Value} {ls : List Go.Sx.Loc} (h : arE x y) (h' : RepAr P S w x v ls) : RepAr P S w y v ls := by
 cases x <;> cases y <;> first | exact h.elim | skip
 . exact icsE.rep (xs := [_]) (ys := [_]) ⟨h, trivial⟩ h'
 . obtain ⟨arr, e, h'⟩ := h'; exact ⟨arr, e, icsE.rep h h'⟩
 . have : _ = _ := h; subst this; exact h'
 . have : _ = _ := h; subst this; exact h'
theorem arsE.rep {P : Program} {S : Nat -> Prop} {w : World} : ∀ {xs ys : List Ar} {vs : List Value} {ls : List Go.Sx.Loc}, arsE xs ys -> RepArs P S w xs vs ls -> RepArs P S w ys vs ls
 | [], [], _, _, _, h => h
 | [], _ :: _, _, _, h, _ => h.elim
 | _ :: _, [], _, _, h, _ => h.elim
 | x :: xs, y :: ys, [], _, _, h => by simp [RepArs] at h
 | x :: xs, y :: ys, v :: vs, ls, h, h' => by
   obtain ⟨l1, l2, e, h1, h2⟩ := h'
   exact ⟨l1, l2, e, arE.rep h.1 h1, arsE.rep h.2 h2⟩
theorem icsE.rows : ∀ {xs ys : List Ic}, icsE xs ys -> icRows xs = icRows ys
 | [], [], _ => rfl
 | .d _ :: xs, .d _ :: ys, h => icsE.rows (xs := xs) (ys := ys) h.2
 | .ow _ _ _ :: xs, .ow _ _ _ :: ys, h => by obtain ⟨⟨rfl, rfl, _⟩, h2⟩ := h; simp only [icRows, icsE.rows h2]
 | [], _ :: _, h => h.elim
 | _ :: _, [], h => h.elim
 | .d _ :: _, .ow _ _ _ :: _, h => h.1.elim
 | .ow _ _ _ :: _, .d _ :: _, h => h.1.elim
theorem arsE.rows : ∀ {xs ys : List Ar}, arsE xs ys -> arsRows xs = arsRows ys
 | [], [], _ => rfl
 | [], _ :: _, h => h.elim
 | _ :: _, [], h => h.elim
 | x :: xs, y :: ys, h => by
   have e1 : arRows x = arRows y := by
    have h1 := h.1
    cases x <;> cases y <;> first | exact h1.elim | rfl | skip
    . exact icsE.rows (xs := [_]) (ys := [_]) ⟨h1, trivial⟩
    . exact icsE.rows h1
   simp only [arsRows, e1, arsE.rows h.2]
theorem FCat.deep {P : Program} {f : Nat} {xs ys : List Ar} {r : Rt} {us : List (Option (Nat -> List DV))} (he : arsE xs ys) (h : FCat P f ys r us) : FCat P f xs r us := by
 intro S w vals ls hS hr hsep
 have := h S w vals ls hS (he.rep hr) hsep
 rw [<- he.rows] at this
 exact this
def unr (P : Program) (τ : Tys) (Γ : Sums) (calls : Nat -> List Va -> St -> (Tm -> St -> Prop) -> Prop) (base : Nat) (c : Code) (Q : Exit -> St -> Prop) : Nat -> St -> Prop
 | 0, _ => False
 | n + 1, st => vc P τ Γ calls base c st fun e st' => match e with
   | .normal => unr P τ Γ calls base c Q n st'
   | .exit i => Q (.exit i) st'
   | .goto i => Q (.goto i) st'
   | .ret => Q .ret st'
   | _ => False
theorem loop_unr {P : Program} {t : TT} (ht : t.ok P) {l : List (Nat × Sm)} (hl : sumsOk P l) (hmix : P.follows .mixedOrders = true) {base : Nat} {c : Code} {Q : Exit -> St -> Prop} {st : St} (n : Nat)
 (h : unr P t.get (sums l) (vcCall P (sums l) base) base c Q n st) : ASat P base (.loop c) st Q := by
 refine ⟨fun ψ S w a hr => ?_⟩
 refine wp_loop_by (P := P) (fun k a' w' => ∃ st ψ' S', unr P t.get (sums l) (vcCall P (sums l) base) base c Q k st /\ Rel P base ψ' S' w' st a' /\ Ext base ψ S w ψ' S' w') ?_ ⟨st, ψ, S, h, hr, Ext.refl _ _ _ _⟩
 rintro k a1 w1 ⟨st1, ψ1, S1, hk, hr1, he1⟩
 cases k with
 | zero => exact hk.elim
 | succ k =>
   refine wp_mono ((vc_ok (TT.tysOk ht) (TT.zeros ht) (sums_ok hl) hmix (vcCall_ok (sums_ok hl) base) c _ _ hk).run ψ1 S1 w1 a1 hr1) ?_
   rintro e a2 w2 ⟨st2, ψ2, S2, hq, hr2, he2⟩
   cases e with
   | normal => exact ⟨k, Nat.lt_succ_self k, st2, ψ2, S2, hq, hr2, he1.trans he2⟩
   | exit id => exact ⟨st2, ψ2, S2, hq, hr2, he1.trans he2⟩
   | goto l => exact ⟨st2, ψ2, S2, hq, hr2, he1.trans he2⟩
   | ret => exact ⟨st2, ψ2, S2, hq, hr2, he1.trans he2⟩
   | panic ch => exact hq.elim
   | outgrown => exact hq.elim
def gS9 (l : List DV) : ByteArray := match l[(0 : Nat)]? with
 | some (.v (.string s)) => s
 | _ => ByteArray.empty
def gI9 (l : List DV) (j : Nat) : Int := match l[j]? with
 | some (.v (.int _ n)) => n
 | _ => 0
theorem snocRec {α : Type} {p : List α -> Prop} (h0 : p []) (h1 : ∀ l x, p l -> p (l ++ [x])) (l : List α) : p l := by
 have : ∀ m : List α, p m.reverse := by
  intro m
  induction m with
  | nil => exact h0
  | cons x m ih => rw [List.reverse_cons]; exact h1 _ _ ih
 have := this l.reverse
 rwa [List.reverse_reverse] at this
theorem cfL_eq : ∀ (x y : List UInt8), (cfL x y = 0) ↔ x = y
 | [], [] => by simp [cfL, Lib.compareBytes]
 | [], _ :: _ => by simp [cfL, Lib.compareBytes]
 | _ :: _, [] => by simp [cfL, Lib.compareBytes]
 | a :: x, b :: y => by
   have ih := cfL_eq x y
   unfold cfL at ih ⊢
   rw [Lib.compareBytes]
   split
   . rename_i h
     constructor
     . intro h; omega
     . intro h; cases h; exact absurd h (UInt8.lt_irrefl _)
   . split
     . rename_i h
       constructor
       . intro h; omega
       . intro h; cases h; exact absurd h (UInt8.lt_irrefl _)
     . rename_i h1 h2
       have : a = b := UInt8.le_antisymm (UInt8.not_lt.1 h2) (UInt8.not_lt.1 h1)
       subst this
       rw [ih]; simp
structure Ky where
 name : ByteArray
 node : Int
instance : Inhabited Ky := ⟨⟨ByteArray.empty, 0⟩⟩
theorem Ky.ext_iff' {a b : Ky} : a = b ↔ a.name = b.name /\ a.node = b.node := by
 cases a; cases b; simp
instance : DecidableEq Ky := fun a b => decidable_of_iff (a.name = b.name /\ a.node = b.node) Ky.ext_iff'.symm
namespace Ky
def cl (k : Ky) : Ky := ⟨k.name, if k.node < 0 then -1 else k.node⟩
def lt (a b : Ky) : Bool := if a.name = b.name then decide (a.cl.node < b.cl.node) else decide (kS a.name < kS b.name)
theorem cl_cl (k : Ky) : k.cl.cl = k.cl := by unfold cl; simp only; split <;> rename_i h <;> simp [h]
theorem lt_cl1 (a b : Ky) : lt a.cl b = lt a b := by unfold lt; rw [cl_cl]; rfl
theorem lt_cl2 (a b : Ky) : lt a b.cl = lt a b := by unfold lt; rw [cl_cl]; rfl
theorem lt_iff {a b : Ky} : lt a b = true ↔ (a.name = b.name /\ a.cl.node < b.cl.node) \/ kS a.name < kS b.name := by
 unfold lt
 split
 . rename_i h
   rw [decide_eq_true_eq]
   constructor
   . exact fun q => .inl ⟨h, q⟩
   . rintro (q | q)
     . exact q.2
     . rw [h] at q; exact absurd q (List.lt_irrefl _)
 . rename_i h
   rw [decide_eq_true_eq]
   constructor
   . exact .inr
   . rintro (q | q)
     . exact absurd q.1 h
     . exact q
theorem lt_irrefl (a : Ky) : lt a a = false := by
 cases h : lt a a with
 | false => rfl
 | true =>
   rcases lt_iff.1 h with q | q
   . omega
   . exact absurd q (List.lt_irrefl _)
theorem lt_trans {a b c : Ky} (h1 : lt a b = true) (h2 : lt b c = true) : lt a c = true := by
 rw [lt_iff] at *
 rcases h1 with q | q <;> rcases h2 with p | p
 . exact .inl ⟨q.1.trans p.1, by omega⟩
 . exact .inr (by rw [q.1]; exact p)
 . exact .inr (by rw [<- p.1]; exact q)
 . exact .inr (List.lt_trans q p)
theorem lt_tri {a b : Ky} (h1 : lt a b = false) (h2 : lt b a = false) : a.cl = b.cl := by
 have n1 : ¬ lt a b = true := by rw [h1]; exact Bool.false_ne_true
 have n2 : ¬ lt b a = true := by rw [h2]; exact Bool.false_ne_true
 rw [lt_iff] at n1 n2
 have e : a.name = b.name := by
  have hle : ¬ kS a.name < kS b.name := fun q => n1 (.inr q)
  have hge : ¬ kS b.name < kS a.name := fun q => n2 (.inr q)
  exact kS_inj (List.le_antisymm (List.not_lt.1 hge) (List.not_lt.1 hle))
 refine Ky.ext_iff'.2 ⟨e, ?_⟩
 have m1 : ¬ a.cl.node < b.cl.node := fun q => n1 (.inl ⟨e, q⟩)
 have m2 : ¬ b.cl.node < a.cl.node := fun q => n2 (.inl ⟨e.symm, q⟩)
 omega
theorem lt_ne {a b : Ky} (h : lt a b = true) : a.cl ≠ b.cl := fun e => by
 rw [<- lt_cl1, e, lt_cl1, lt_irrefl] at h; cases h
end Ky
def SK (l : List Ky) : Prop := l.Pairwise (fun a b => Ky.lt a b = true) /\ ∀ k, k ∈ l -> k.cl = k
theorem SK.tail {x : Ky} {l : List Ky} (h : SK (x :: l)) : SK l := ⟨(List.pairwise_cons.1 h.1).2, fun k hk => h.2 k (List.mem_cons_of_mem _ hk)⟩
theorem sk_split : ∀ {l : List Ky}, SK l -> ∀ k : Ky, ∃ A B, l = A ++ B /\ (∀ a, a ∈ A -> Ky.lt a k = true) /\ ∀ b, b ∈ B -> Ky.lt b k = false
 | [], _, k => ⟨[], [], rfl, fun a h => (by cases h), fun a h => (by cases h)⟩
 | x :: l, h, k => by
   cases hx : Ky.lt x k with
   | true =>
     obtain ⟨A, B, rfl, h1, h2⟩ := sk_split h.tail k
     exact ⟨x :: A, B, rfl, fun a ha => by rcases List.mem_cons.1 ha with rfl | ha; exact hx; exact h1 a ha, h2⟩
   | false =>
     refine ⟨[], x :: l, rfl, fun a ha => (by cases ha), fun b hb => ?_⟩
     rcases List.mem_cons.1 hb with rfl | hb
     . exact hx
     . cases hb2 : Ky.lt b k with
       | false => rfl
       | true => have := Ky.lt_trans ((List.pairwise_cons.1 h.1).1 b hb) hb2; rw [hx] at this; cases this
def putK (l : List Ky) (k : Ky) : List Ky := l.takeWhile (fun x => Ky.lt x k) ++ k.cl :: (l.dropWhile fun x => Ky.lt x k).filter fun x => decide (x ≠ k.cl)
theorem tw_split {A B : List Ky} {k : Ky} (h1 : ∀ a, a ∈ A -> Ky.lt a k = true) (h2 : ∀ b, b ∈ B -> Ky.lt b k = false) : (A ++ B).takeWhile (fun x => Ky.lt x k) = A /\ (A ++ B).dropWhile (fun x => Ky.lt x k) = B := by
 rw [List.takeWhile_append_of_pos h1, List.dropWhile_append_of_pos h1]
 cases B with
 | nil => exact ⟨by simp, rfl⟩
 | cons b B =>
   have := h2 b List.mem_cons_self
   rw [List.takeWhile_cons_of_neg (by rw [this]; exact Bool.false_ne_true), List.dropWhile_cons_of_neg (by rw [this]; exact Bool.false_ne_true)]
   exact ⟨List.append_nil _, rfl⟩
theorem put_split {A B : List Ky} {k : Ky} (h1 : ∀ a, a ∈ A -> Ky.lt a k = true) (h2 : ∀ b, b ∈ B -> Ky.lt b k = false) : putK (A ++ B) k = A ++ k.cl :: B.filter fun x => decide (x ≠ k.cl) := by
 unfold putK; rw [(tw_split h1 h2).1, (tw_split h1 h2).2]
theorem sk_behind {A B : List Ky} {k : Ky} (h : SK (A ++ B)) (h2 : ∀ b, b ∈ B -> Ky.lt b k = false) :
 (∃ B', B = k.cl :: B' /\ ∀ b, b ∈ B' -> b ≠ k.cl) \/ (∀ b, b ∈ B -> Ky.lt k b = true) := by
 cases B with
 | nil => exact .inr fun b hb => (by cases hb)
 | cons b B =>
   have hs := (List.pairwise_append.1 h.1).2.1
   have hb := List.pairwise_cons.1 hs
   have hcl : b.cl = b := h.2 b (List.mem_append_right _ List.mem_cons_self)
   cases hk : Ky.lt k b with
   | false =>
     have e := Ky.lt_tri (h2 b List.mem_cons_self) hk
     rw [hcl] at e
     refine .inl ⟨B, by rw [e], fun c hc q => ?_⟩
     have := hb.1 c hc
     rw [q, <- e, Ky.lt_irrefl] at this; cases this
   | true =>
     refine .inr fun c hc => ?_
     rcases List.mem_cons.1 hc with rfl | hc
     . exact hk
     . exact Ky.lt_trans hk (hb.1 c hc)
theorem filt_ne {B : List Ky} {k : Ky} (h : ∀ b, b ∈ B -> b ≠ k) : (B.filter fun x => decide (x ≠ k)) = B :=
 List.filter_eq_self.2 fun b hb => decide_eq_true (h b hb)
theorem ne_behind {B : List Ky} {k : Ky} (hc : ∀ b, b ∈ B -> b.cl = b) (h : ∀ b, b ∈ B -> Ky.lt k b = true) : ∀ b, b ∈ B -> b ≠ k.cl := fun b hb q => by
 have := Ky.lt_ne (h b hb)
 rw [hc b hb, q] at this; exact this rfl
theorem mem_put {l : List Ky} {k x : Ky} (h : SK l) : x ∈ putK l k ↔ x = k.cl \/ x ∈ l := by
 obtain ⟨A, B, rfl, h1, h2⟩ := sk_split h k
 rw [put_split h1 h2, List.mem_append, List.mem_cons, List.mem_filter, List.mem_append, decide_eq_true_eq]
 constructor
 . rintro (q | q | q)
   . exact .inr (.inl q)
   . exact .inl q
   . exact .inr (.inr q.1)
 . rintro (q | q | q)
   . exact .inr (.inl q)
   . exact .inl q
   . by_cases e : x = k.cl
     . exact .inr (.inl e)
     . exact .inr (.inr ⟨q, e⟩)
theorem put_sk {l : List Ky} (h : SK l) (k : Ky) : SK (putK l k) := by
 refine ⟨?_, fun x hx => ?_⟩
 . obtain ⟨A, B, rfl, h1, h2⟩ := sk_split h k
   rw [put_split h1 h2]
   have hp := List.pairwise_append.1 h.1
   have hcA : ∀ a, a ∈ A -> Ky.lt a k.cl = true := fun a ha => by rw [Ky.lt_cl2]; exact h1 a ha
   rcases sk_behind h h2 with ⟨B', rfl, hn⟩ | hn
   . have e : ((k.cl :: B').filter fun x => decide (x ≠ k.cl)) = B' := by
      rw [List.filter_cons_of_neg (by simp), filt_ne hn]
     rw [e]; exact h.1
   . rw [filt_ne (ne_behind (fun b hb => h.2 b (List.mem_append_right _ hb)) hn)]
     refine List.pairwise_append.2 ⟨hp.1, List.pairwise_cons.2 ⟨fun b hb => by rw [Ky.lt_cl1]; exact hn b hb, hp.2.1⟩, fun a ha b hb => ?_⟩
     rcases List.mem_cons.1 hb with rfl | hb
     . exact hcA a ha
     . exact hp.2.2 a ha b hb
 . rcases (mem_put h).1 hx with rfl | hx
   . exact Ky.cl_cl k
   . exact h.2 x hx
theorem put_len (l : List Ky) (k : Ky) : (putK l k).length <= l.length + 1 := by
 unfold putK
 rw [List.length_append, List.length_cons]
 have h1 := List.length_filter_le (fun x => decide (x ≠ k.cl)) (l.dropWhile fun x => Ky.lt x k)
 have h2 : (l.takeWhile fun x => Ky.lt x k).length + (l.dropWhile fun x => Ky.lt x k).length = l.length := by
  rw [<- List.length_append, List.takeWhile_append_dropWhile]
 omega
abbrev Ky.ar (k : Ky) : Ar := .agg [.d (st k.name), .d (it k.node)]
def gSx (l : List DV) (j : Nat) : ByteArray := match l[j]? with
 | some (.v (.string s)) => s
 | _ => ByteArray.empty
def icmp (x y : Int) : Int := if x < y then -1 else if x > y then 1 else 0
def Ky.cmp (a b : Ky) : Int := if cfL a.name.data.toList b.name.data.toList = 0 then icmp a.cl.node b.cl.node else cfL a.name.data.toList b.name.data.toList
theorem icmp_lt {x y : Int} : icmp x y < 0 ↔ x < y := by unfold icmp; split; omega; split <;> omega
theorem icmp_eq {x y : Int} : icmp x y = 0 ↔ x = y := by unfold icmp; split; omega; split <;> omega
theorem Ky.cmp_lt (a b : Ky) : Ky.cmp a b < 0 ↔ Ky.lt a b = true := by
 rw [Ky.lt_iff]
 unfold Ky.cmp
 split
 . rename_i h
   have e := kS_inj (a := a.name) (b := b.name) ((cfL_eq _ _).1 h)
   rw [icmp_lt]
   constructor
   . exact fun q => .inl ⟨e, q⟩
   . rintro (q | q)
     . exact q.2
     . rw [e] at q; exact absurd q (List.lt_irrefl _)
 . rename_i h
   rw [cfL_lt]
   constructor
   . exact .inr
   . rintro (q | q)
     . rw [q.1] at h; exact absurd ((cfL_eq _ _).2 rfl) h
     . exact q
theorem Ky.cmp_eq (a b : Ky) : Ky.cmp a b = 0 ↔ a.cl = b.cl := by
 rw [Ky.ext_iff']
 unfold Ky.cmp
 split
 . rename_i h
   have e := kS_inj (a := a.name) (b := b.name) ((cfL_eq _ _).1 h)
   rw [icmp_eq]
   exact ⟨fun q => ⟨e, q⟩, fun q => q.2⟩
 . rename_i h
   exact ⟨fun q => absurd q h, fun q => absurd ((cfL_eq _ _).2 (congrArg kS q.1)) h⟩
theorem Ky.cl_r {k : Ky} (h : rI k.node) : rI k.cl.node := by unfold rI at *; unfold Ky.cl; simp only; split <;> omega
theorem canon2 {f : Nat -> List DV} (h0 : f 0 = [it (gI (f 0))]) (h1 : f 1 = [it (gI (f 1))]) : DvE (.lst 1 2 f) (.lst 1 2 fun i => [it (gI (f i))]) :=
 .rows fun i hi => by
  have : i = 0 \/ i = 1 := by omega
  rcases this with rfl | rfl
  . rw [<- h0]; exact ⟨rfl, fun j a b ha hb => by rw [ha] at hb; cases hb; exact .refl _⟩
  . rw [<- h1]; exact ⟨rfl, fun j a b ha hb => by rw [ha] at hb; cases hb; exact .refl _⟩
theorem cmp_lt (a b : Ky) : decide (Ky.cmp a b < 0) = Ky.lt a b := by
 cases h : Ky.lt a b with
 | true => exact decide_eq_true ((Ky.cmp_lt a b).2 h)
 | false => exact decide_eq_false fun q => by rw [(Ky.cmp_lt a b).1 q] at h; cases h
theorem cmp_eq (a b : Ky) : (Ky.cmp a b == 0) = decide (a.cl = b.cl) := by
 by_cases h : a.cl = b.cl
 . rw [decide_eq_true h, (Ky.cmp_eq a b).2 h]; rfl
 . rw [decide_eq_false h]; exact beq_eq_false_iff_ne.2 fun q => h ((Ky.cmp_eq a b).1 q)
def atK (l : List Ky) (i : Nat) : Ky := l.getD i default
abbrev kyC (k : Ky) : List DV := [st k.name, it k.node]
abbrev rwK (l : List Ky) : Nat -> List DV := fun i => kyC (atK l i)
abbrev lstK (l : List Ky) : DV := .lst 2 l.length (rwK l)
def gKy (l : List DV) : Ky := ⟨gSx l 0, gI9 l 1⟩
def gKs (n : Nat) (f : Nat -> List DV) : List Ky := (List.range n).map fun i => gKy (f i)
theorem gKs_length (n : Nat) (f : Nat -> List DV) : (gKs n f).length = n := by simp [gKs]
theorem atK_gKs {n i : Nat} {f : Nat -> List DV} (h : i < n) : atK (gKs n f) i = gKy (f i) := by
 simp [atK, gKs, List.getD_eq_getElem?_getD, h]
theorem gKs_row (l : List Ky) : gKs l.length (rwK l) = l := by
 unfold gKs
 apply List.ext_getElem
 . simp
 . intro i h1 h2
   have : gKy (kyC (atK l i)) = atK l i := rfl
   simp [this, atK, List.getD_eq_getElem?_getD, h2]
structure RowsK (n : Nat) (f : Nat -> List DV) : Prop where
 h : ∀ i, i < n -> f i = kyC (gKy (f i)) /\ rI (gKy (f i)).node
theorem canonK {n : Nat} {f : Nat -> List DV} (h : ∀ i, i < n -> f i = kyC (gKy (f i)) /\ rI (gKy (f i)).node) : DvE (.lst 2 n f) (.lst 2 n (rwK (gKs n f))) :=
 .rows fun i hi => by
  have e : rwK (gKs n f) i = f i := by
   show kyC (atK (gKs n f) i) = f i
   rw [atK_gKs hi]; exact (h i hi).1.symm
  rw [e]; exact ⟨rfl, fun j a b ha hb => by rw [ha] at hb; cases hb; exact .refl _⟩
theorem atK_mem {l : List Ky} {i : Nat} (h : i < l.length) : atK l i ∈ l := by
 unfold atK; rw [List.getD_eq_getElem?_getD, List.getElem?_eq_getElem h]; exact List.getElem_mem h
theorem mem_atK {l : List Ky} {x : Ky} (h : x ∈ l) : ∃ i, i < l.length /\ atK l i = x := by
 obtain ⟨i, hi, e⟩ := List.mem_iff_getElem.1 h
 exact ⟨i, hi, by unfold atK; rw [List.getD_eq_getElem?_getD, List.getElem?_eq_getElem hi]; exact e⟩
theorem rowsK_of {l : List Ky} (h : ∀ x, x ∈ l -> rI x.node) : RowsK l.length (rwK l) := ⟨fun i hi => ⟨rfl, h _ (atK_mem hi)⟩⟩
theorem rowsK_r {n : Nat} {f : Nat -> List DV} (h : RowsK n f) : ∀ x, x ∈ gKs n f -> rI x.node := fun x hx => by
 obtain ⟨i, hi, rfl⟩ := mem_atK hx
 rw [gKs_length] at hi
 rw [atK_gKs hi]; exact (h.h i hi).2
end Go.Proofs.YtbjfogojoalnpaaGreat
namespace Go.Sx
section
variable {P : Program} {τ : Tys} {Γ : Sums} {base : Nat} {ψ ψ' : Psi} {S S' : Nat → Prop} {w w' : World} {a : Act} {st : St}
end
def idxOf (k : Nat) : List Nat -> List Nat -> Option Nat
 | i :: l, j :: js => match Nat.beq i k with
   | true => some j
   | false => idxOf k l js
 | _, _ => none
def renCaps (js ids : List Nat) : List (Nat × Nat) -> Option (List (Nat × Nat))
 | [] => some []
 | (k, o) :: l => match idxOf k ids js, renCaps js ids l with
   | some j, some r => some ((j, o) :: r)
   | _, _ => none
def renC (js ids : List Nat) (x : Cell) : Cell := match x with
 | .own k off => match idxOf k ids js with
   | some j => .own j off
   | none => .top
 | .osl k sz o len => match idxOf k ids js with
   | some j => .osl j sz o len
   | none => .top
 | .ep k sz i off => match idxOf k ids js with
   | some j => .ep j sz i off
   | none => .top
 | .fn f caps => match renCaps js ids caps with
   | some r => .fn f r
   | none => .top
 | .mp k => match idxOf k ids js with
   | some j => .mp j
   | none => .top
 | .fb f k off => match idxOf k ids js with
   | some j => .fb f j off
   | none => .top
 | .osc .. => .top
 | .ap .. => .top
 | x => x
def renVa (js ids : List Nat) (x : Va) : Va := match x with
 | .c x => .c (renC js ids x)
 | .agg xs => .agg (xs.map (renC js ids))
def renT (js ids : List Nat) (x : Tm) : Tm := match x with
 | .va x => .va (renVa js ids x)
 | .tup _ => topT
def renB (js ids : List Nat) (b : Blk) : Blk := match b with
 | .cells cs => .cells (cs.map (renC js ids))
 | .map es bc => .map (es.map fun p => (p.1, renVa js ids p.2)) bc
 | b => b
def renTs (js ids : List Nat) (ts : List (Nat × Tm)) (l : List Nat) : List (Nat × Tm) := l.map fun t => (t, renT js ids (lookT ts t))
def renHs (js ids : List Nat) (h : List (Nat × Blk)) : List Nat -> List Nat -> List (Nat × Blk)
 | k :: l, j :: l' => (j, renB js ids (lookB h k)) :: renHs js ids h l l'
 | _, _ => []
def fTs {α : Type} : List (Nat × Tm) -> (List (Nat × Tm) -> α) -> α
 | [], K => K []
 | (t, x) :: l, K => fT x fun x => fTs l fun r => K ((t, x) :: r)
def fBc {α : Type} (b : Blk) (K : Blk -> α) : α := match b with
 | .cells cs => fCs cs fun cs => K (.cells cs)
 | b => fB b K
def fHs {α : Type} : List (Nat × Blk) -> (List (Nat × Blk) -> α) -> α
 | [], K => K []
 | (t, x) :: l, K => fBc x fun x => fHs l fun r => K ((t, x) :: r)
theorem fTs_eq {α : Type} : ∀ (l : List (Nat × Tm)) (K : List (Nat × Tm) -> α), fTs l K = K l
 | [], _ => rfl
 | (t, x) :: l, K => by simp only [fTs, fT_eq, fTs_eq l]
theorem fBc_eq {α : Type} (b : Blk) (K : Blk -> α) : fBc b K = K b := by
 cases b <;> simp only [fBc, fB_eq, fCs_eq]
theorem fHs_eq {α : Type} : ∀ (l : List (Nat × Blk)) (K : List (Nat × Blk) -> α), fHs l K = K l
 | [], _ => rfl
 | (t, x) :: l, K => by simp only [fHs, fBc_eq, fHs_eq l]
theorem idxOf_some {k : Nat} : ∀ {l js : List Nat} {i j : Nat}, idxOf k l js = some j -> (∀ q, q < js.length -> js[q]? = some (i + q)) -> i <= j /\ l[j - i]? = some k
 | [], _, _, _, h, _ => by simp [idxOf] at h
 | _ :: _, [], _, _, h, _ => by simp [idxOf] at h
 | x :: l, y :: js, i, j, h, hj => by
   simp only [idxOf] at h
   have hy : y = i := by simpa using hj 0 (by simp)
   split at h
   . rename_i e; cases h; subst hy; exact ⟨Nat.le_refl _, by simp [Nat.eq_of_beq_eq_true e]⟩
   . obtain ⟨h1, h2⟩ := idxOf_some (i := i + 1) h (fun q hq => by
      have := hj (q + 1) (by simp; omega)
      rw [List.getElem?_cons_succ] at this
      rw [this]; congr 1; omega)
     exact ⟨by omega, by rw [show j - i = (j - (i + 1)) + 1 by omega, List.getElem?_cons_succ]; exact h2⟩
def Ups (js : List Nat) : Prop := ∀ q, q < js.length -> js[q]? = some q
theorem idx_at {k j : Nat} {js ids : List Nat} (hj : Ups js) (h : idxOf k ids js = some j) : ids[j]? = some k := by simpa using (idxOf_some (i := 0) h (by simpa [Ups] using hj)).2
theorem renCaps_le {js ids : List Nat} (hj : Ups js) : ∀ {l r : List (Nat × Nat)}, renCaps js ids l = some r -> capsLe ids l r
 | [], r, h => by cases h; trivial
 | (k, o) :: l, r, h => by
   simp only [renCaps] at h
   split at h
   . rename_i j r' h1 h2; cases h; exact ⟨⟨idx_at hj h1, rfl⟩, renCaps_le hj h2⟩
   . cases h
theorem cellLe_top {ids : List Nat} {nv : Nat} (x : Cell) : cellLe ids nv x .top := by cases x <;> trivial
theorem renC_le {js : List Nat} (hj : Ups js) (ids : List Nat) (x : Cell) : cellLe ids 0 x (renC js ids x) := by
 cases x with
 | own k off => simp only [renC]; split; exact ⟨idx_at hj ‹_›, rfl⟩; exact cellLe_top _
 | osl k sz o len => simp only [renC]; split; exact ⟨idx_at hj ‹_›, rfl, rfl, rfl⟩; exact cellLe_top _
 | ep k sz i off => simp only [renC]; split; exact ⟨idx_at hj ‹_›, rfl, rfl, rfl⟩; exact cellLe_top _
 | fn f caps => simp only [renC]; split; exact ⟨rfl, renCaps_le hj ‹_›⟩; exact cellLe_top _
 | mp k => simp only [renC]; split; exact idx_at hj ‹_›; exact cellLe_top _
 | fb f k off => simp only [renC]; split; exact ⟨idx_at hj ‹_›, rfl, rfl⟩; exact cellLe_top _
 | osc => exact cellLe_top _
 | ap => exact cellLe_top _
 | top => trivial
 | und => trivial
 | kb b => exact rfl
 | d x => cases x <;> simp [renC, cellLe, dvEq]
 | rp cs => exact rfl
 | fv g => exact rfl
theorem renCs_le {js : List Nat} (hj : Ups js) (ids : List Nat) : ∀ (xs : List Cell), cellsLe ids 0 xs (xs.map (renC js ids))
 | [] => trivial
 | x :: xs => ⟨renC_le hj ids x, renCs_le hj ids xs⟩
theorem renVa_le {js : List Nat} (hj : Ups js) (ids : List Nat) (x : Va) : vaLe ids 0 x (renVa js ids x) := by
 cases x with
 | c x =>
   have h := renC_le hj ids x
   show vaLe ids 0 (.c x) (.c (renC js ids x))
   cases hx : renC js ids x <;> rw [hx] at h <;> first | trivial | exact h
 | agg xs => exact renCs_le hj ids xs
theorem renT_le {js : List Nat} (hj : Ups js) (ids : List Nat) (x : Tm) : tmLe ids 0 x (renT js ids x) := by
 cases x with
 | va x =>
   have h := renVa_le hj ids x
   show tmLe ids 0 (.va x) (.va (renVa js ids x))
   cases hx : renVa js ids x with
   | c y => rw [hx] at h; cases y <;> first | trivial | exact h
   | agg ys => rw [hx] at h; exact h
 | tup xs => trivial
theorem renTs_le {js : List Nat} (hj : Ups js) (ids : List Nat) (ts : List (Nat × Tm)) : ∀ (l : List Nat), tmpsLe ids 0 ts (renTs js ids ts l)
 | [] => trivial
 | t :: l => ⟨renT_le hj ids _, renTs_le hj ids ts l⟩
theorem renEs_le {js : List Nat} (hj : Ups js) (ids : List Nat) : ∀ (es : List (List Value × Va)), entsLe ids 0 es (es.map fun p => (p.1, renVa js ids p.2))
 | [] => trivial
 | _ :: es => ⟨⟨rfl, renVa_le hj ids _⟩, renEs_le hj ids es⟩
theorem renB_le {js : List Nat} (hj : Ups js) (ids : List Nat) (b : Blk) : blkLe ids 0 b (renB js ids b) := by
 cases b with
 | cells cs => exact renCs_le hj ids cs
 | row => exact ⟨rfl, rfl, fun _ _ => rfl⟩
 | fz => exact rfl
 | fzr => exact ⟨rfl, rfl, fun _ _ => rfl⟩
 | it => exact ⟨rfl, rfl⟩
 | map es bc => exact ⟨rfl, renEs_le hj ids es⟩
 | gone => trivial
theorem renHs_le {js : List Nat} (hj : Ups js) (ids : List Nat) (h : List (Nat × Blk)) : ∀ (l l' : List Nat) (j : Nat), (∀ i, l[i]? = ids[j + i]?) -> (∀ q, q < l'.length -> l'[q]? = some (j + q)) -> heapLe ids 0 h (renHs js ids h l l')
 | [], _, _, _, _ => trivial
 | _ :: _, [], _, _, _ => trivial
 | k :: l, y :: l', j, hl, hq => by
   have h0 := hl 0
   simp only [List.getElem?_cons_zero, Nat.add_zero] at h0
   have hy : y = j := by simpa using hq 0 (by simp)
   subst hy
   refine ⟨?_, renHs_le hj ids h l l' (y + 1) (fun i => ?_) (fun q hqq => ?_)⟩
   . rw [<- h0]; exact renB_le hj ids _
   . have := hl (i + 1)
     rw [List.getElem?_cons_succ] at this
     rw [this]; congr 1; omega
   . have := hq (q + 1) (by simp; omega)
     rw [List.getElem?_cons_succ] at this
     rw [this]; congr 1; omega
end Go.Sx
namespace Go.Proofs
open Go.Shelf
def Tryz.lays213_ren : Go.Shelf.Ren := ⟨fun | 213 => 187 | 265 => 251 | n => n, fun | 9 => 9 | 3 => 3 | n => n, fun | n => n⟩
open Go.RowKit in
def Tryz.lays106_ren : Go.Shelf.Ren := ⟨fun | 106 => 128 | 213 => 187 | 265 => 251 | n => n, fun | 9 => 9 | 3 => 3 | n => n, fun | n => n⟩
theorem Tryz.lays106 : Go.Proofs.Lays.n106 Tryz.prog Tryz.lays106_ren := {
 mixed := by kernel_rfl
 f106 := Tryz.func128.trans (congrArg some (by kernel_rfl))
 f213 := Tryz.func187.trans (congrArg some (by kernel_rfl))
 f265 := Tryz.func251.trans (congrArg some (by kernel_rfl))
 t3 := Tryz.underlying3
 a3 := Tryz.isAgg3
 z3 := Tryz.sizeOf3
 v3 := Tryz.zeroValue3
 t9 := Tryz.underlying9
 a9 := Tryz.isAgg9
 z9 := Tryz.sizeOf9
 v9 := Tryz.zeroValue9 }
open Go.RowKit in
theorem Tryz.strings_Compare (a b : ByteArray) (w : World) :
 Calls Tryz.prog 128 #[.string a, .string b] w fun e w' => e = .returned (.int .i64 (Lib.compareBytes a.data.toList b.data.toList)) /\ w' = w := Any.strings_Compare Tryz.lays106 a b w
end Go.Proofs
namespace Go.Proofs.YtbjfogojoalnpaaGreat
open Go.Sx
theorem fc_calls {P : Program} {f : Nat} {F : List Ar -> Option Rs} (hc : Callable P f) (h : ∀ xs pre r us, F xs = some ⟨pre, r, us⟩ -> pre ->
 ∃ (vs : List Value) (v : Value), xs = vs.map (fun x => Ar.c (.d (.v x))) /\ us = [] /\ (∀ w, Calls P f vs.toArray w fun e w' => e = .returned v /\ w' = w) /\ ∀ S w, RepRt P S w r v []) : FC P f F := by
 intro xs pre r us hF hpre S w vals ls hS hr hsep
 obtain ⟨vs, v, rfl, rfl, hrun, hrep⟩ := h _ _ _ _ hF hpre
 have hrows : ∀ (vs : List Value), arsRows (vs.map fun x => Ar.c (.d (.v x))) = [] := by
  intro vs
  induction vs with
  | nil => rfl
  | cons v vs ih => simp [arsRows, arRows, icRows, ih]
 have e := repArs_rows hr (hrows vs)
 subst e
 have hv : vals = vs := by
  clear hrun hF hrows
  induction vs generalizing vals with
  | nil => cases vals with | nil => rfl | cons _ _ => simp [RepArs] at hr
  | cons x vs ih => cases vals with
    | nil => simp [RepArs] at hr
    | cons u vals =>
      simp only [List.map_cons, RepArs] at hr
      obtain ⟨l1, l2, e, h1, h2⟩ := hr
      obtain ⟨rfl, rfl⟩ := List.append_eq_nil_iff.1 e.symm
      have h1 : RepIcs S w [.d (.v x)] [u] [] := h1
      have h1 : RepD S w (.v x) u := h1.1
      cases h1
      rw [ih _ h2]
 subst hv
 refine .inl ⟨hc, (hrun w).mono ?_⟩
 rintro e w' ⟨rfl, rfl⟩
 refine ⟨v, S, [], rfl, hrep S w', ?_, trivial, ⟨rfl, rfl, rfl, Nat.le_refl _, fun _ _ _ => rfl, Later.refl _ _, fun _ h => .inl h, fun b hb => .inl hb, hS⟩⟩
 rw [hrows]; trivial
def FStrCmp : List Ar -> Option Rs
 | [.c (.d (.v (.string x))), .c (.d (.v (.string y)))] => some ⟨True, .va (.c (.d (it (cfL x.data.toList y.data.toList)))), []⟩
 | _ => none
theorem fcStrCmp : FC Tryz.prog 128 FStrCmp := by
 refine fc_calls (callable_of Tryz.func128 rfl rfl) fun xs pre r us h hp => ?_
 unfold FStrCmp at h
 split at h
 . rename_i x y
   cases h
   exact ⟨[.string x, .string y], _, rfl, rfl, fun w => Tryz.strings_Compare x y w, fun S w => And.intro (.v trivial) trivial⟩
 . cases h
def FIsNaN : List Ar -> Option Rs
 | [.c (.d (.v (.int .i64 i0)))] => some ⟨(-9223372036854775808 <= i0 /\ i0 < 9223372036854775808), .va (.c (.d (bo (false)))), []⟩
 | _ => none
theorem fcIsNaN : FC Tryz.prog 197 FIsNaN := by
 intro xs pre r us h hp
 unfold FIsNaN at h
 split at h
 . rename_i i0
   cases h
   have hp0 := hp
   refine fcat tys_ok (l := []) trivial Tryz.func197 rfl (by kernel_rfl) false ?_
   repeat' (first | exact trivial | refine ⟨?_, ?_⟩ | intro _)
   all_goals first | (with_reducible first | apply qa | apply qb | apply qc | apply qd) | (conv => whnf)
   all_goals first | (refine congrArg Value.bool ?_; simp; done)
 . cases h
def FKyClean : List Ar -> Option Rs
 | [.agg [.d (.v (.string x0)), .d (.v (.int .i64 i0))]] => some ⟨(rI i0), .va (Ky.ar (Ky.cl (⟨x0, i0⟩ : Ky))), []⟩
 | _ => none
theorem fcKyClean : FC Tryz.prog 13 FKyClean := by
 intro xs pre r us h hp
 unfold FKyClean at h
 split at h
 . rename_i x0 i0
   cases h
   have hp0 := hp
   refine fcat tys_ok (l := []) trivial Tryz.func13 rfl (by kernel_rfl) true ?_
   repeat' (first | exact trivial | refine ⟨?_, ?_⟩ | intro _)
   all_goals first | (with_reducible first | apply qa | apply qb | apply qc | apply qd) | (conv => whnf)
   all_goals first | rfl | (refine congrArg (Value.int .i64) ?_; unfold Ky.cl; dsimp only; split <;> split <;> omega)
 . cases h
def FCmpInt : List Ar -> Option Rs
 | [.c (.d (.v (.int .i64 i0))), .c (.d (.v (.int .i64 i1)))] => some ⟨(-9223372036854775808 <= i0 /\ i0 < 9223372036854775808) /\ (-9223372036854775808 <= i1 /\ i1 < 9223372036854775808), .va (.c (.d (it (icmp i0 i1)))), []⟩
 | _ => none
theorem fcCmpInt : FC Tryz.prog 140 FCmpInt := by
 intro xs pre r us h hp
 unfold FCmpInt at h
 split at h
 . rename_i i0 i1
   cases h
   obtain ⟨hp0, hp1⟩ := hp
   refine fcat tys_ok (l := [(197, ⟨[], FIsNaN⟩)]) ⟨fcIsNaN, trivial⟩ Tryz.func140 rfl (by kernel_rfl) true ?_
   repeat' (first | exact trivial | (with_reducible first | exact hp0.1 | exact hp0.2 | exact hp1.1 | exact hp1.2 | exact (fun h => absurd (h : false = true) (by decide))) | refine ⟨?_, ?_⟩ | intro _)
   all_goals first | (with_reducible first | apply qa | apply qb | apply qc | apply qd) | (conv => whnf)
   all_goals first | (refine congrArg (Value.int .i64) ?_; unfold icmp; simp only [decide_eq_true_eq, decide_eq_false_iff_not] at *; first | (rw [if_pos ‹_›]; done) | (rw [if_neg ‹_›, if_pos ‹_›]; done) | (rw [if_neg ‹_›, if_neg ‹_›]; done) | (split <;> first | rfl | omega | (split <;> first | rfl | omega)))
 . cases h
def FCmpOr : List Ar -> Option Rs
 | [.c (.d (.lst 1 2 f0))] => some ⟨(f0 0 = [it (gI (f0 0))] /\ f0 1 = [it (gI (f0 1))]), .va (.c (.d (it (if gI (f0 0) = 0 then gI (f0 1) else gI (f0 0))))), []⟩
 | _ => none
theorem fcCmpOr : FC Tryz.prog 139 FCmpOr := by
 intro xs pre r us h hp
 unfold FCmpOr at h
 split at h
 . rename_i f0
   cases h
   have hp0 := hp
   refine FCat.deep (ys := [.c (.d (.lst 1 2 fun i => [it (gI (f0 i))]))]) ?_ ?_
   . repeat' (first | exact trivial | exact rfl | exact DvE.refl _ | refine ⟨?_, ?_⟩ | fail)
     all_goals first | exact canon2 hp0.1 hp0.2
   refine fcat tys_ok (l := []) trivial Tryz.func139 rfl (by kernel_rfl) true ?_
   repeat' (first | exact trivial | refine ⟨?_, ?_⟩ | intro _)
   all_goals first | (with_reducible first | apply qa | apply qb | apply qc | apply qd) | (conv => whnf)
   refine loop_unr tys_ok (l := []) trivial (by kernel_rfl) 3 ?_
   repeat' (first | exact trivial | refine ⟨?_, ?_⟩ | intro _)
   all_goals first | (with_reducible first | apply qa | apply qb | apply qc | apply qd) | (conv => whnf)
   all_goals (have w1 : IntKind.wrap .i64 (0 + 1) = 1 := wrap64 (by omega) (by omega))
   all_goals (have w2 : IntKind.wrap .i64 (IntKind.wrap .i64 (0 + 1) + 1) = 2 := by rw [w1]; exact wrap64 (by omega) (by omega))
   all_goals (simp only [w2, w1, Int.toNat_zero, Int.toNat_one] at *)
   all_goals first | omega | (exact absurd (of_decide_eq_true ‹decide ((2 : Int) < _) = true›) (by omega)) | (exact absurd (of_decide_eq_false ‹decide ((0 : Int) < _) = false›) (by omega)) | (exact absurd (of_decide_eq_false ‹decide ((1 : Int) < _) = false›) (by omega)) | skip
   all_goals (refine congrArg (Value.int .i64) ?_)
   all_goals first | (rw [if_neg (by simpa using ‹(gI (f0 0) != 0) = true›)]; done) | (rw [if_neg (by simpa using ‹(gI (f0 0) != 0) = true›)]; rfl) | (rw [if_pos (by simpa using ‹(gI (f0 0) != 0) = false›)]; done) | (rw [if_pos (by simpa using ‹(gI (f0 0) != 0) = false›)]; simpa using ‹(gI (f0 1) != 0) = false›) | (rw [if_pos (by simpa using ‹(gI (f0 0) != 0) = false›)]; exact (by simpa using ‹(gI (f0 1) != 0) = false› : gI (f0 1) = 0).symm)
 . cases h
def FKyCmp : List Ar -> Option Rs
 | [.agg [.d (.v (.string x0)), .d (.v (.int .i64 i0))], .agg [.d (.v (.string x1)), .d (.v (.int .i64 i1))]] => some ⟨(rI i0) /\ (rI i1), .va (.c (.d (it (Ky.cmp (⟨x0, i0⟩ : Ky) (⟨x1, i1⟩ : Ky))))), []⟩
 | _ => none
theorem fcKyCmp : FC Tryz.prog 87 FKyCmp := by
 intro xs pre r us h hp
 unfold FKyCmp at h
 split at h
 . rename_i x0 i0 x1 i1
   cases h
   obtain ⟨hp0, hp1⟩ := hp
   refine fcat tys_ok (l := [(13, ⟨[], FKyClean⟩), (128, ⟨[], FStrCmp⟩), (140, ⟨[], FCmpInt⟩), (139, ⟨[], FCmpOr⟩)]) ⟨fcKyClean, fcStrCmp, fcCmpInt, fcCmpOr, trivial⟩ Tryz.func87 rfl (by kernel_rfl) true ?_
   have hc0 := Ky.cl_r (k := ⟨x0, i0⟩) hp0
   have hc1 := Ky.cl_r (k := ⟨x1, i1⟩) hp1
   unfold rI at hc0 hc1
   repeat' (first | exact trivial | (with_reducible first | exact hp0 | exact hp1 | exact hc0 | exact hc1 | exact hc0.1 | exact hc0.2 | exact hc1.1 | exact hc1.2) | refine ⟨?_, ?_⟩ | intro _)
   all_goals first | (with_reducible first | apply qa | apply qb | apply qc | apply qd) | (conv => whnf)
   all_goals first | omega | rfl | (refine congrArg (Value.int .i64) ?_; exact rfl)
 . cases h
open Go.RowKit Go.Lib Go.Sort
abbrev gCmpK : List Cv -> Option Gs := mkFv (sums [(87, ⟨[], FKyCmp⟩)]) 87 []
theorem hlf {x y : Nat} (h : x + y < 9223372036854775808) : IntKind.wrap .i64 ((IntKind.wrap .u64 (IntKind.wrap .i64 ((x : Int) + (y : Int)))).fdiv (2 ^ min (Int.toNat 1) (IntKind.bits .u64))) = (((x + y) / 2 : Nat) : Int) := by
 have e1 : IntKind.wrap .i64 ((x : Int) + (y : Int)) = ((x + y : Nat) : Int) := by rw [wI_id _ (by omega) (by omega)]; omega
 have e2 : IntKind.wrap .u64 ((x + y : Nat) : Int) = ((x + y : Nat) : Int) := by
  simp [IntKind.wrap, IntKind.signed, IntKind.bits]
  omega
 have e3 : (2 : Int) ^ min (Int.toNat 1) (IntKind.bits .u64) = 2 := by decide
 rw [e1, e2, e3]
 have e4 : (((x + y : Nat) : Int)).fdiv 2 = (((x + y) / 2 : Nat) : Int) := by
  rw [Int.fdiv_eq_ediv_of_nonneg _ (by omega)]; omega
 rw [e4, wI_id _ (by omega) (by omega)]
def lowQ (L : List Ky) (k : Ky) : Nat := L.countP fun x => Ky.lt x k
def foundQ (L : List Ky) (k : Ky) : Bool := decide (lowQ L k < L.length) && decide ((atK L (lowQ L k)).cl = k.cl)
theorem low_ofQ {L : List Ky} {k : Ky} {i : Nat} (hi : i <= L.length) (h1 : ∀ q, q < i -> Ky.lt (atK L q) k = true) (h2 : ∀ q, i <= q -> q < L.length -> Ky.lt (atK L q) k = false) : lowQ L k = i := by
 unfold lowQ
 conv => lhs; rw [<- List.take_append_drop i L, List.countP_append]
 rw [List.countP_eq_length.2, List.countP_eq_zero.2, List.length_take]
 . omega
 . intro x hx
   obtain ⟨q, hq, rfl⟩ := mem_atK hx
   rw [List.length_drop] at hq
   have e : atK (L.drop i) q = atK L (i + q) := by unfold atK; rw [List.getD_eq_getElem?_getD, List.getElem?_drop, List.getD_eq_getElem?_getD]
   rw [e, h2 (i + q) (by omega) (by omega)]; exact Bool.false_ne_true
 . intro x hx
   obtain ⟨q, hq, rfl⟩ := mem_atK hx
   rw [List.length_take] at hq
   have e : atK (L.take i) q = atK L q := by unfold atK; rw [List.getD_eq_getElem?_getD, List.getElem?_take_of_lt (by omega), List.getD_eq_getElem?_getD]
   rw [e]; exact h1 q (by omega)
theorem sk_atQ {L : List Ky} (h : SK L) {i j : Nat} (hij : i < j) (hj : j < L.length) : Ky.lt (atK L i) (atK L j) = true := by
 have := List.pairwise_iff_getElem.1 h.1 i j (by omega) (by omega) hij
 unfold atK
 rw [List.getD_eq_getElem?_getD, List.getElem?_eq_getElem (by omega), List.getD_eq_getElem?_getD, List.getElem?_eq_getElem hj]
 exact this
theorem canonKo {n : Nat} {f : Nat -> List DV} (h : ∀ i, i < n -> f i = kyC (gKy (f i)) /\ rI (gKy (f i)).node) : icE (.ow 2 n f) (.ow 2 n (rwK (gKs n f))) :=
 ⟨rfl, rfl, fun i hi => by
   have e : rwK (gKs n f) i = f i := by
    show kyC (atK (gKs n f) i) = f i
    rw [atK_gKs hi]; exact (h i hi).1.symm
   rw [e]; exact ⟨rfl, fun j a b ha hb => by rw [ha] at hb; cases hb; exact .refl _⟩⟩
def FBSearchK : List Ar -> Option Rs
 | [.c (.ow 2 n0 f0), .agg [.d (.v (.string x1)), .d (.v (.int .i64 i1))], .fv g2] => some ⟨(n0 <= 1000000000 /\ RowsK n0 f0) /\ (rI i1) /\ (SK (gKs n0 f0) /\ g2 = gCmpK), .tup [.c (.d (it (lowQ (gKs n0 f0) (⟨x1, i1⟩ : Ky) : Nat))), .c (.d (bo (foundQ (gKs n0 f0) (⟨x1, i1⟩ : Ky))))], [some (rwK (gKs n0 f0))]⟩
 | _ => none
theorem fcBSearchK : FC Tryz.prog 149 FBSearchK := by
 intro xs pre r us h hp
 unfold FBSearchK at h
 split at h
 . rename_i n0 f0 x1 i1 g2
   cases h
   obtain ⟨hp0, hp1, hp2⟩ := hp
   refine FCat.deep (ys := [.c (.ow 2 n0 (rwK (gKs n0 f0))), .agg [.d (.v (.string x1)), .d (.v (.int .i64 i1))], .fv g2]) ?_ ?_
   . repeat' (first | exact trivial | exact rfl | exact DvE.refl _ | refine ⟨?_, ?_⟩ | fail)
     all_goals first | exact (canonKo hp0.2.h).2.2
   refine fcat tys_ok (l := []) trivial Tryz.func149 rfl (by kernel_rfl) false ?_
   obtain ⟨hs, rfl⟩ := hp2
   have hn := hp0.1
   have hO := rowsK_r hp0.2
   have hlen := gKs_length n0 f0
   generalize gKs n0 f0 = L at *
   clear hp0
   subst hlen
   have hri : ∀ k, k < L.length -> rI (atK L k).node := fun k hk => hO _ (atK_mem hk)
   generalize hp : (fun k => Ky.lt (atK L k) ⟨x1, i1⟩) = p
   have hpd : ∀ k, p k = decide (Ky.cmp (atK L k) ⟨x1, i1⟩ < 0) := fun k => by rw [<- hp, cmp_lt]
   have hm : ∀ k q, k <= q -> q < L.length -> p q = true -> p k = true := fun k q h1 h2 h3 => by
    rw [<- hp] at h3 ⊢
    rcases Nat.lt_or_ge k q with h | h
    . exact Ky.lt_trans (sk_atQ hs h h2) h3
    . obtain rfl : k = q := by omega
      exact h3
   have hm2 : ∀ k q, q <= k -> k < L.length -> p q = false -> p k = false := fun k q h1 h2 h3 => by
    cases h : p k with
    | false => rfl
    | true => rw [hm q k h1 h2 h] at h3; cases h3
   have hlow : ∀ i, i <= L.length -> (∀ k, k < i -> p k = true) -> (∀ k, i <= k -> k < L.length -> p k = false) -> lowQ L ⟨x1, i1⟩ = i := fun i h1 h2 h3 => by
    rw [<- hp] at h2 h3; exact low_ofQ h1 h2 h3
   have hfe : ∀ k, (Ky.cmp (atK L k) ⟨x1, i1⟩ == 0) = decide ((atK L k).cl = (⟨x1, i1⟩ : Ky).cl) := fun k => cmp_eq _ _
   clear hp
   repeat' (first | exact trivial | (with_reducible exact hp1) | refine ⟨?_, ?_⟩ | intro _)
   all_goals first | (with_reducible first | apply qa | apply qb | apply qc | apply qd) | (conv => whnf)
   refine loop_ok tys_ok (l := []) trivial (by kernel_rfl) (X := Nat × Nat)
    (fun x => ⟨[(9, vx (.int .i64 x.1)), (10, vx (.int .i64 x.2)), (0, .va (.c (.osl 0 2 0 L.length))), (4, .va (.c (.own 1 0))), (2, .va (.c (.fv gCmpK))), (8, vx (.int .i64 L.length))], [(0, .row 2 L.length (rwK L)), (1, .cells [.d (st x1), .d (it i1)])], 2, 49⟩)
    (fun x => x.2 - x.1) (fun x => x.1 <= x.2 /\ x.2 <= L.length /\ (∀ k, k < x.1 -> p k = true) /\ (∀ k, x.2 <= k -> k < L.length -> p k = false)) [] []
    (fun x _ _ => if p ((x.1 + x.2) / 2) = true then ((x.1 + x.2) / 2 + 1, x.2) else (x.1, (x.1 + x.2) / 2)) [0, 1] [0, 1] 0 0 (0, L.length) ?_ ?_ ?_
   . exact ⟨Nat.zero_le _, Nat.le_refl _, fun k h => absurd h (Nat.not_lt_zero k), fun k h1 h2 => absurd h1 (Nat.not_le_of_lt h2)⟩
   . repeat' (first | exact trivial | exact rfl | (intro _ _; exact rfl) | refine ⟨?_, ?_⟩ | fail)
   . rintro ⟨i, j⟩ ⟨k2, k3, k4, k5⟩
     dsimp only at k2 k3 k4 k5
     rcases Nat.lt_or_ge i j with hij | hij
     . have hne : decide ((i : Int) < (j : Int)) = true := decide_eq_true (by omega)
       have hh : IntKind.wrap .i64 ((IntKind.wrap .u64 (IntKind.wrap .i64 ((i : Int) + (j : Int)))).fdiv (2 ^ min (Int.toNat 1) (IntKind.bits .u64))) = (((i + j) / 2 : Nat) : Int) := hlf (by omega)
       have hq1 : i <= (i + j) / 2 := by omega
       have hq2 : (i + j) / 2 < j := by omega
       generalize hq : (i + j) / 2 = q at *
       have hri' := hri q (by omega)
       cases hc : p q with
       | true =>
         repeat' (first | exact trivial | (with_reducible exact hp1) | refine ⟨?_, ?_⟩ | intro _)
         all_goals first | (with_reducible first | apply qa | apply qb | apply qc | apply qd) | (conv => whnf)
         all_goals first | (exact absurd (hne.symm.trans ‹_ = false›) (by decide)) | skip
         all_goals first | (have hd := ‹decide (Ky.cmp _ _ < 0) = false›; simp only [hh, Int.toNat_natCast, Nat.zero_add] at hd; exact absurd ((hc.symm.trans (hpd q)).trans hd) (by decide)) | skip
         all_goals (try simp only [hh, hq, hc, if_true, Int.toNat_natCast, Nat.zero_add])
         all_goals first | rfl | omega | exact hri'.1 | exact hri'.2 | (dsimp only; omega) | (exact congrArg (Value.int .i64) (by first | (rw [wI_id _ (by omega) (by omega)]; omega) | omega | (dsimp only; omega))) | (rename_i kk h1; simp only [hq, hc, if_true] at h1; exact hm _ q (by omega) (by omega) hc) | (rename_i kk h1 h2; simp only [hq, hc, if_true] at h1 h2; exact k5 _ h1 h2)
       | false =>
         repeat' (first | exact trivial | (with_reducible exact hp1) | refine ⟨?_, ?_⟩ | intro _)
         all_goals first | (with_reducible first | apply qa | apply qb | apply qc | apply qd) | (conv => whnf)
         all_goals first | (exact absurd (hne.symm.trans ‹_ = false›) (by decide)) | skip
         all_goals first | (have hd := ‹decide (Ky.cmp _ _ < 0) = true›; simp only [hh, Int.toNat_natCast, Nat.zero_add] at hd; exact absurd ((hc.symm.trans (hpd q)).trans hd) (by decide)) | skip
         all_goals (try simp only [hh, hq, hc, if_false, Bool.false_eq_true, Int.toNat_natCast, Nat.zero_add])
         all_goals first | rfl | omega | exact hri'.1 | exact hri'.2 | (dsimp only; omega) | (exact congrArg (Value.int .i64) (by first | (rw [wI_id _ (by omega) (by omega)]; omega) | omega | (dsimp only; omega))) | (rename_i kk h1; simp only [hq, hc, if_false, Bool.false_eq_true] at h1; exact k4 _ h1) | (rename_i kk h1 h2; simp only [hq, hc, if_false, Bool.false_eq_true] at h1 h2; exact hm2 _ q (by omega) h2 hc)
     . have hne : decide ((i : Int) < (j : Int)) = false := decide_eq_false (by omega)
       obtain rfl : i = j := by omega
       have hl := hlow i k3 k4 k5
       have hri' := fun h => hri i h
       repeat' (first | exact trivial | (with_reducible exact hp1) | refine ⟨?_, ?_⟩ | intro _)
       all_goals first | (with_reducible first | apply qa | apply qb | apply qc | apply qd) | (conv => whnf)
       all_goals first | (exact absurd (hne.symm.trans ‹_ = true›) (by decide)) | skip
       all_goals (try dsimp only)
       all_goals (try simp only [Int.toNat_natCast, Nat.zero_add])
       all_goals (try unfold foundQ)
       all_goals (try rw [hl])
       all_goals first | omega | rfl | (have hd := of_decide_eq_true ‹decide (((i, i).1 : Int) < (L.length : Int)) = true›; exact hd) | (have hd := of_decide_eq_true ‹decide (((i, i).1 : Int) < _) = true›; exact (hri' (by dsimp only at hd; omega)).1) | (have hd := of_decide_eq_true ‹decide (((i, i).1 : Int) < _) = true›; exact (hri' (by dsimp only at hd; omega)).2) | (have hd := of_decide_eq_true ‹decide (((i, i).1 : Int) < _) = true›; rw [show decide (i < L.length) = true from decide_eq_true (by dsimp only at hd; omega), <- hfe i]; rfl) | (have hd := of_decide_eq_false ‹decide (((i, i).1 : Int) < (L.length : Int)) = false›; rw [show decide (i < L.length) = false from decide_eq_false (by dsimp only at hd; omega)]; rfl)
 . cases h
theorem rep_atD {P : Program} {base : Nat} {ψ : Psi} {S : Nat -> Prop} {w : World} {st : St} {a : Act} (hrel : Rel P base ψ S w st a) {k ln : Nat} {f : Nat -> List DV} (hb : lookB st.heap k = .row 2 ln f) {b m : Nat} (h1 : ψ k = some (.at b m)) :
 ∃ arr e, w.heap[b]? = some (.cells arr e (0, 0)) /\ arr.size = m := by
 have := hrel.sim.blk k _ h1
 rw [hb] at this
 obtain ⟨arr, e, h2, h3, _⟩ := this
 exact ⟨arr, e, h2, h3⟩
theorem rep_slD {P : Program} {ψ : Psi} {S : Nat -> Prop} {w : World} {k o len : Nat} {c : Cell} {v : Value} (hc : c = .osl k 2 o len \/ ∃ q, c = .osc k 2 o len q) (hl : 0 < len) (h : RepC P ψ S w c v) :
 ∃ b m q off, ψ k = some (.at b m) /\ v = .slice (some ⟨b, off, none⟩) len q /\ 0 < m := by
 rcases hc with rfl | ⟨q, rfl⟩
 . rcases h with ⟨_, h, _⟩ | ⟨b, m, c, off, h1, h2, h3, h4⟩
   . omega
   . obtain ⟨_, h5⟩ := h4 (by omega)
     exact ⟨b, m, c, off, h1, h2, by omega⟩
 . rcases h with ⟨_, h, _⟩ | ⟨b, m, off, h1, h2, h3, h4⟩
   . omega
   . obtain ⟨_, h5⟩ := h4 (by omega)
     exact ⟨b, m, q, off, h1, h2, by omega⟩
theorem acall_overlapsD {base : Nat} {k1 k2 o1 o2 len1 len2 ln1 ln2 : Nat} {f1 f2 : Nat -> List DV} {c1 c2 : Cell} {ts : List (Nat × Tm)} {h : List (Nat × Blk)} {n m : Nat} {K : Tm -> St -> Prop} (hc1 : c1 = .osl k1 2 o1 len1 \/ ∃ q, c1 = .osc k1 2 o1 len1 q) (hc2 : c2 = .osl k2 2 o2 len2 \/ ∃ q, c2 = .osc k2 2 o2 len2 q) (hne : k1 ≠ k2) (hb1 : lookB h k1 = .row 2 ln1 f1) (hb2 : lookB h k2 = .row 2 ln2 f2)
 (hl1 : 0 < len1) (hl2 : 0 < len2) (hk : K (.va (.c (.d (bo false)))) ⟨ts, h, n, m⟩) : ACall Tryz.prog base 208 [.c c1, .c c2] ⟨ts, h, n, m⟩ K := by
 refine ⟨fun ψ S w a vals hrel hvals => ?_⟩
 match vals, hvals with
 | [v1, v2], ⟨hv1, hv2, _⟩ =>
   obtain ⟨b1, m1, q1, off1, p1, rfl, r1⟩ := rep_slD hc1 hl1 hv1
   obtain ⟨b2, m2, q2, off2, p2, rfl, r2⟩ := rep_slD hc2 hl2 hv2
   obtain ⟨a1, e1, s1, u1⟩ := rep_atD hrel (f := f1) (ln := ln1) hb1 p1
   obtain ⟨a2, e2, s2, u2⟩ := rep_atD hrel (f := f2) (ln := ln2) hb2 p2
   have hbb : b1 ≠ b2 := by
    intro e
    subst e
    exact hne (hrel.sim.inj k1 k2 b1 m1 m2 p1 p2 (by show (lookB h k1).live; rw [hb1]; trivial) (by show (lookB h k2).live; rw [hb2]; trivial))
   have key : (callFunc 208 #[.slice (some ⟨b1, off1, none⟩) len1 q1, .slice (some ⟨b2, off2, none⟩) len2 q2]).run Tryz.prog w = .ok (.value (.bool false)) w := by
    rw [run_callFunc_extern (fn := Tryz.f208) (by kernel_rfl) (by kernel_rfl) (by kernel_rfl) (by kernel_rfl) (e := Extern.SlicesOverlaps.overlaps #[34, 34] #[4]) (by kernel_rfl),
     Lib.run_overlaps_apart w 34 4 23 (by kernel_rfl) 2 (fun w => by kernel_rfl) ⟨b1, off1, none⟩ ⟨b2, off2, none⟩ len1 q1 len2 q2 hbb e1 e2 a1.size a2.size
      (by simp [World.shape?, s1]) (by simp [World.shape?, s2]) (by omega) (by simp [World.frozen?, s1]) (by simp [World.frozen?, s1])]
    rfl
   exact .inr ⟨_, _, key, _, _, _, ψ, S, rfl, hk, hrel, .v trivial, Ext.refl _ _ _ _⟩
def insF (G : Nat -> List DV) (i : Nat) (x : List DV) : Nat -> List DV := fun k => if k < i then G k else if k = i then x else G (k - 1)
def FInsertK : List Ar -> Option Rs
 | [.c (.ow 2 n0 f0), .c (.d (.v (.int .i64 i1))), .c (.ow 2 n2 f2)] => some ⟨(n0 <= 1000000000) /\ (-9223372036854775808 <= i1 /\ i1 < 9223372036854775808) /\ (n2 <= 1000000000) /\ ((0 <= i1 /\ i1 <= n0) /\ n2 = 1), .va (.c (.ow 2 (n0 + 1) (insF f0 (i1).toNat (f2 0)))), [none, some f2]⟩
 | _ => none
theorem fcInsertK : FC Tryz.prog 150 FInsertK := by
 intro xs pre r us h hp
 unfold FInsertK at h
 split at h
 . rename_i n0 f0 i1 n2 f2
   cases h
   obtain ⟨hp0, hp1, hp2, hp3⟩ := hp
   refine fcatc tys_ok (l := []) trivial Tryz.func150 rfl (by kernel_rfl) false ?_
   obtain ⟨⟨ha, hb⟩, rfl⟩ := hp3
   obtain ⟨i, rfl⟩ := Int.eq_ofNat_of_zero_le ha
   have hn := hp0
   clear hp0 hp2
   generalize f0 = G at *
   generalize f2 = X at *
   simp only [Int.toNat_natCast] at *
   repeat' (first | exact trivial | refine ⟨?_, ?_⟩ | intro _)
   all_goals first | (with_reducible first | apply qa | apply qb | apply qc | apply qd) | (conv => whnf)
   all_goals (have hcap := ‹capLe _ _›; simp only [capLe] at hcap)
   all_goals first | omega | (exact absurd (eq_of_beq ‹(((1 : Nat) : Int) == 0) = true›) (by decide)) | skip
   all_goals (have hw1 : IntKind.wrap .i64 ((n0 : Int) + ((1 : Nat) : Int)) = (n0 : Int) + 1 := by rw [wI_id _ (by omega) (by omega)]; rfl)
   all_goals (have hw2 : IntKind.wrap .i64 ((i : Int) + ((1 : Nat) : Int)) = (i : Int) + 1 := by rw [wI_id _ (by omega) (by omega)]; rfl)
   all_goals (have hw3 : IntKind.wrap .i64 (IntKind.wrap .i64 ((n0 : Int) + ((1 : Nat) : Int)) - (i : Int)) = (n0 : Int) + 1 - i := by rw [hw1, wI_id _ (by omega) (by omega)])
   all_goals first | (have hin := eq_of_beq ‹((i : Int) == (n0 : Int)) = true›) | (have hin := ne_of_beq_false ‹((i : Int) == (n0 : Int)) = false›) | skip
   all_goals first | (have hgt := of_decide_eq_true ‹decide (_ > (_ : Int)) = true›) | (have hgt := of_decide_eq_false ‹decide (_ > (_ : Int)) = false›) | skip
   all_goals (simp only [hw3, hw1, hw2] at *)
   all_goals first | omega | skip
   all_goals first | (rename_i k hk; simp only [cpyRow, appRow, insF]; (repeat' split); all_goals first | (exfalso; omega) | exact (congrArg X (by omega)) | exact (congrArg G (by omega))) | skip
   apply acall_overlapsD
   . exact .inl rfl
   . exact .inr ⟨_, rfl⟩
   . decide
   . exact rfl
   . exact rfl
   . decide
   . omega
   have hw4 : IntKind.wrap .i64 ((i : Int) + ((1 : Nat) : Int)) = (i : Int) + 1 := by rw [wI_id _ (by omega) (by omega)]; rfl
   repeat' (first | exact trivial | refine ⟨?_, ?_⟩ | intro _)
   all_goals first | (with_reducible first | apply qa | apply qb | apply qc | apply qd) | (conv => whnf)
   all_goals first | (exact absurd ‹(!false) = false› (by decide)) | skip
   all_goals (try simp only [hw4])
   all_goals first | omega | (rename_i k hk; simp only [cpyRow, appRow, insF]; (repeat' split); all_goals first | (exfalso; omega) | exact (congrArg X (by omega)) | exact (congrArg G (by omega)))
 . cases h
end Go.Proofs.YtbjfogojoalnpaaGreat
