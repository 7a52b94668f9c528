/- Binds and envs as data; arguments that differ in nothing that is looked at; loops over what is written out. No condition. -/
import Derived.Test.YtokjghkehojenaaGreatP6
set_option linter.all false
set_option maxHeartbeats 8000000
set_option maxRecDepth 100000
namespace Go.Proofs.YtokjghkehojenaaGreat
open Go.Sx
inductive DvE : DV -> DV -> Prop
 | refl (x : DV) : DvE x x
 | nil {sz : Nat} {f : Nat -> List DV} : DvE (.v (.slice none 0 0)) (.lst sz 0 f)
 | lst {sz n : Nat} {f g : Nat -> List DV} : (∀ i, i < n -> (f i).length = (g i).length) -> (∀ (i j : Nat) (x y : DV), i < n -> (f i)[j]? = some x -> (g i)[j]? = some y -> DvE x y) -> DvE (.lst sz n f) (.lst sz n g)
theorem DvE.rep {S : Nat -> Prop} {w : World} {x y : DV} (h : DvE x y) : ∀ {v : Value}, RepD S w x v -> RepD S w y v := by
 induction h with
 | refl x => exact fun h => h
 | nil => intro v hx; cases hx; exact .nil
 | @lst sz n f g hl hr ih =>
   intro v hx
   cases hx with
   | nil => exact .nil
   | lst c h1 h2 h3 h4 h5 =>
     refine .lst c h1 (fun i hi => by rw [<- hl i hi]; exact h2 i hi) h3 (fun i j hi hj => ?_) h5
     have e1 : j < (f i).length := by rw [h2 i hi]; exact hj
     have e2 : j < (g i).length := by rw [<- hl i hi]; exact e1
     have h := h4 i j hi hj
     rw [List.getD_eq_getElem?_getD, List.getElem?_eq_getElem e1] at h
     rw [List.getD_eq_getElem?_getD, List.getElem?_eq_getElem e2]
     exact ih i j _ _ hi (List.getElem?_eq_getElem e1) (List.getElem?_eq_getElem e2) h
def rowE (x y : List DV) : Prop := x.length = y.length /\ ∀ (j : Nat) a b, x[j]? = some a -> y[j]? = some b -> DvE a b
theorem DvE.rows {sz n : Nat} {f g : Nat -> List DV} (h : ∀ i, i < n -> rowE (f i) (g i)) : DvE (.lst sz n f) (.lst sz n g) := .lst (fun i hi => (h i hi).1) fun i j x y hi => (h i hi).2 j x y
def icE : Ic -> Ic -> Prop
 | .d x, .d y => DvE x y
 | .ow sz n f, .ow sz' n' g => sz = sz' /\ n = n' /\ ∀ i, i < n -> rowE (f i) (g i)
 | _, _ => False
def icsE : List Ic -> List Ic -> Prop
 | [], [] => True
 | x :: xs, y :: ys => icE x y /\ icsE xs ys
 | _, _ => False
def arE : Ar -> Ar -> Prop
 | .c x, .c y => icE x y
 | .agg xs, .agg ys => icsE xs ys
 | .rp cs, .rp cs' => cs = cs'
 | .fv g, .fv g' => g = g'
 | _, _ => False
def arsE : List Ar -> List Ar -> Prop
 | [], [] => True
 | x :: xs, y :: ys => arE x y /\ arsE xs ys
 | _, _ => False
theorem RowRep.deep {S : Nat -> Prop} {w : World} {sz n : Nat} {f g : Nat -> List DV} {l : Go.Sx.Loc} (h : ∀ i, i < n -> rowE (f i) (g i)) (hr : RowRep S w sz n f l) : RowRep S w sz n g l := by
 cases l with
 | virt => exact hr
 | «at» b m =>
   obtain ⟨arr, e, h1, h2, h3, h4, h5⟩ := hr
   refine ⟨arr, e, h1, h2, h3, fun i hi => by rw [<- (h i hi).1]; exact h4 i hi, fun i j hi hj => ?_⟩
   have e1 : j < (f i).length := by rw [h4 i hi]; exact hj
   have e2 : j < (g i).length := by rw [<- (h i hi).1]; exact e1
   have h6 := h5 i j hi hj
   rw [List.getD_eq_getElem?_getD, List.getElem?_eq_getElem e1] at h6
   rw [List.getD_eq_getElem?_getD, List.getElem?_eq_getElem e2]
   exact ((h i hi).2 j _ _ (List.getElem?_eq_getElem e1) (List.getElem?_eq_getElem e2)).rep h6
theorem icsE.rep {S : Nat -> Prop} {w : World} : ∀ {xs ys : List Ic} {vs : List Value} {ls : List Go.Sx.Loc}, icsE xs ys -> RepIcs S w xs vs ls -> RepIcs S w ys vs ls
 | [], [], vs, ls, _, h => h
 | .d x :: xs, .d y :: ys, [], ls, _, h => by simp [RepIcs] at h
 | .d x :: xs, .d y :: ys, v :: vs, ls, h, h' => by
   simp only [RepIcs] at h' ⊢
   exact ⟨DvE.rep h.1 h'.1, icsE.rep h.2 h'.2⟩
 | .ow _ _ _ :: xs, .ow _ _ _ :: ys, [], _, _, h => by simp [RepIcs] at h
 | .ow _ _ _ :: xs, .ow _ _ _ :: ys, _ :: _, [], _, h => by simp [RepIcs] at h
 | .ow sz n f :: xs, .ow sz' n' g :: ys, v :: vs, l :: ls, h, h' => by
   simp only [RepIcs] at h' ⊢
   obtain ⟨⟨rfl, rfl, h1⟩, h2⟩ := h
   exact ⟨h'.1, RowRep.deep h1 h'.2.1, icsE.rep h2 h'.2.2⟩
 | [], _ :: _, _, _, h, _ => h.elim
 | _ :: _, [], _, _, h, _ => h.elim
 | .d _ :: _, .ow _ _ _ :: _, _, _, h, _ => h.1.elim
 | .ow _ _ _ :: _, .d _ :: _, _, _, h, _ => h.1.elim
theorem arE.rep {P : Program} {S : Nat -> Prop} {w : World} {x y : Ar} {v : Value} {ls : List Go.Sx.Loc} (h : arE x y) (h' : RepAr P S w x v ls) : RepAr P S w y v ls := by
 cases x <;> cases y <;> first | exact h.elim | skip
 . exact icsE.rep (xs := [_]) (ys := [_]) ⟨h, trivial⟩ h'
 . obtain ⟨arr, e, h'⟩ := h'; exact ⟨arr, e, icsE.rep h h'⟩
 . have : _ = _ := h; subst this; exact h'
 . have : _ = _ := h; subst this; exact h'
theorem arsE.rep {P : Program} {S : Nat -> Prop} {w : World} : ∀ {xs ys : List Ar} {vs : List Value} {ls : List Go.Sx.Loc}, arsE xs ys -> RepArs P S w xs vs ls -> RepArs P S w ys vs ls
 | [], [], _, _, _, h => h
 | [], _ :: _, _, _, h, _ => h.elim
 | _ :: _, [], _, _, h, _ => h.elim
 | x :: xs, y :: ys, [], _, _, h => by simp [RepArs] at h
 | x :: xs, y :: ys, v :: vs, ls, h, h' => by
   obtain ⟨l1, l2, e, h1, h2⟩ := h'
   exact ⟨l1, l2, e, arE.rep h.1 h1, arsE.rep h.2 h2⟩
theorem icsE.rows : ∀ {xs ys : List Ic}, icsE xs ys -> icRows xs = icRows ys
 | [], [], _ => rfl
 | .d _ :: xs, .d _ :: ys, h => icsE.rows (xs := xs) (ys := ys) h.2
 | .ow _ _ _ :: xs, .ow _ _ _ :: ys, h => by obtain ⟨⟨rfl, rfl, _⟩, h2⟩ := h; simp only [icRows, icsE.rows h2]
 | [], _ :: _, h => h.elim
 | _ :: _, [], h => h.elim
 | .d _ :: _, .ow _ _ _ :: _, h => h.1.elim
 | .ow _ _ _ :: _, .d _ :: _, h => h.1.elim
theorem arsE.rows : ∀ {xs ys : List Ar}, arsE xs ys -> arsRows xs = arsRows ys
 | [], [], _ => rfl
 | [], _ :: _, h => h.elim
 | _ :: _, [], h => h.elim
 | x :: xs, y :: ys, h => by
   have e1 : arRows x = arRows y := by
    have h1 := h.1
    cases x <;> cases y <;> first | exact h1.elim | rfl | skip
    . exact icsE.rows (xs := [_]) (ys := [_]) ⟨h1, trivial⟩
    . exact icsE.rows h1
   simp only [arsRows, e1, arsE.rows h.2]
theorem FCat.deep {P : Program} {f : Nat} {xs ys : List Ar} {r : Rt} {us : List (Option (Nat -> List DV))} (he : arsE xs ys) (h : FCat P f ys r us) : FCat P f xs r us := by
 intro S w vals ls hS hr hsep
 have := h S w vals ls hS (he.rep hr) hsep
 rw [<- he.rows] at this
 exact this
def unr (P : Program) (τ : Tys) (Γ : Sums) (calls : Nat -> List Va -> St -> (Tm -> St -> Prop) -> Prop) (base : Nat) (c : Code) (Q : Exit -> St -> Prop) : Nat -> St -> Prop
 | 0, _ => False
 | n + 1, st => vc P τ Γ calls base c st fun e st' => match e with
   | .normal => unr P τ Γ calls base c Q n st'
   | .exit i => Q (.exit i) st'
   | .goto i => Q (.goto i) st'
   | .ret => Q .ret st'
   | _ => False
theorem loop_unr {P : Program} {t : TT} (ht : t.ok P) {l : List (Nat × Sm)} (hl : sumsOk P l) (hmix : P.follows .mixedOrders = true) {base : Nat} {c : Code} {Q : Exit -> St -> Prop} {st : St} (n : Nat)
 (h : unr P t.get (sums l) (vcCall P (sums l) base) base c Q n st) : ASat P base (.loop c) st Q := by
 refine ⟨fun ψ S w a hr => ?_⟩
 refine wp_loop_by (P := P) (fun k a' w' => ∃ st ψ' S', unr P t.get (sums l) (vcCall P (sums l) base) base c Q k st /\ Rel P base ψ' S' w' st a' /\ Ext base ψ S w ψ' S' w') ?_ ⟨st, ψ, S, h, hr, Ext.refl _ _ _ _⟩
 rintro k a1 w1 ⟨st1, ψ1, S1, hk, hr1, he1⟩
 cases k with
 | zero => exact hk.elim
 | succ k =>
   refine wp_mono ((vc_ok (TT.tysOk ht) (TT.zeros ht) (sums_ok hl) hmix (vcCall_ok (sums_ok hl) base) c _ _ hk).run ψ1 S1 w1 a1 hr1) ?_
   rintro e a2 w2 ⟨st2, ψ2, S2, hq, hr2, he2⟩
   cases e with
   | normal => exact ⟨k, Nat.lt_succ_self k, st2, ψ2, S2, hq, hr2, he1.trans he2⟩
   | exit id => exact ⟨st2, ψ2, S2, hq, hr2, he1.trans he2⟩
   | goto l => exact ⟨st2, ψ2, S2, hq, hr2, he1.trans he2⟩
   | ret => exact ⟨st2, ψ2, S2, hq, hr2, he1.trans he2⟩
   | panic ch => exact hq.elim
   | outgrown => exact hq.elim
structure Bd where
 name : ByteArray
 v : Vl
instance : Inhabited Bd := ⟨⟨ByteArray.empty, Vl.zero⟩⟩
abbrev bdC (b : Bd) : List DV := [st b.name, bo b.v.i.s.some, it b.v.i.s.lo, it b.v.i.s.hi, bo b.v.i.c.some, it b.v.i.c.m, it b.v.i.c.r, bo b.v.t.null, lst b.v.t.names]
def atB (l : List Bd) (i : Nat) : Bd := l.getD i default
abbrev rwB (l : List Bd) : Nat -> List DV := fun i => bdC (atB l i)
abbrev lstB (l : List Bd) : DV := .lst 9 l.length (rwB l)
structure En where
 live : Bool
 binds : List Bd
abbrev En.ar (e : En) : Ar := .agg [.d (bo e.live), .d (lstB e.binds)]
def gS9 (l : List DV) : ByteArray := match l[(0 : Nat)]? with
 | some (.v (.string s)) => s
 | _ => ByteArray.empty
def gB9 (l : List DV) (j : Nat) : Bool := match l[j]? with
 | some (.v (.bool b)) => b
 | _ => false
def gI9 (l : List DV) (j : Nat) : Int := match l[j]? with
 | some (.v (.int _ n)) => n
 | _ => 0
def gn9 (l : List DV) : Nat := match l[(8 : Nat)]? with
 | some (.lst _ n _) => n
 | _ => 0
def gf9 (l : List DV) : Nat -> List DV := match l[(8 : Nat)]? with
 | some (.lst _ _ f) => f
 | _ => fun _ => []
def gB (l : List DV) : Bd := ⟨gS9 l, ⟨⟨⟨gB9 l 1, gI9 l 2, gI9 l 3⟩, ⟨gB9 l 4, gI9 l 5, gI9 l 6⟩⟩, ⟨gB9 l 7, gN (gn9 l) (gf9 l)⟩⟩⟩
abbrev rowM9 (l : List DV) : List DV := [st (gS9 l), bo (gB9 l 1), it (gI9 l 2), it (gI9 l 3), bo (gB9 l 4), it (gI9 l 5), it (gI9 l 6), bo (gB9 l 7), .lst 1 (gn9 l) (gf9 l)]
def okB (b : Bd) : Prop := okV b.v
abbrev rowZ9 (l : List DV) : List DV := [st (gS9 l), bo (gB9 l 1), it (gI9 l 2), it (gI9 l 3), bo (gB9 l 4), it (gI9 l 5), it (gI9 l 6), bo (gB9 l 7), .v (.slice none 0 0)]
def rowOkB (l : List DV) : Prop := (l = rowM9 l \/ l = rowZ9 l) /\ (∀ i, i < gn9 l -> gf9 l i = [st (gT (gf9 l i))]) /\ okB (gB l)
theorem gB_bdC (b : Bd) : gB (bdC b) = b := by
 obtain ⟨n, ⟨⟨⟨a1, a2, a3⟩, ⟨c1, c2, c3⟩⟩, ⟨z, l⟩⟩⟩ := b
 show Bd.mk n ⟨⟨⟨a1, a2, a3⟩, ⟨c1, c2, c3⟩⟩, ⟨z, gN l.length (fun i => [st (atS l i)])⟩⟩ = _
 rw [gN_lst]
theorem rowOkB_bdC {b : Bd} (h : okB b) : rowOkB (bdC b) := ⟨.inl rfl, fun _ _ => rfl, by rw [gB_bdC]; exact h⟩
def rowSB (l : List DV) : Prop := (l = rowM9 l \/ l = rowZ9 l) /\ ∀ i, i < gn9 l -> gf9 l i = [st (gT (gf9 l i))]
theorem rowSB_bdC (b : Bd) : rowSB (bdC b) := ⟨.inl rfl, fun _ _ => rfl⟩
theorem rowE_gS {l : List DV} (h : rowSB l) : rowE l (bdC (gB l)) := by
 obtain ⟨h1, h2⟩ := h
 have key : ∀ y, DvE y (.lst 1 (gN (gn9 l) (gf9 l)).length fun i => [st (atS (gN (gn9 l) (gf9 l)) i)]) -> rowE [st (gS9 l), bo (gB9 l 1), it (gI9 l 2), it (gI9 l 3), bo (gB9 l 4), it (gI9 l 5), it (gI9 l 6), bo (gB9 l 7), y] (bdC (gB l)) := by
  intro y hy
  refine ⟨rfl, ?_⟩
  intro j a b ha hb
  match j with
  | 0 => cases ha; cases hb; exact .refl _
  | 1 => cases ha; cases hb; exact .refl _
  | 2 => cases ha; cases hb; exact .refl _
  | 3 => cases ha; cases hb; exact .refl _
  | 4 => cases ha; cases hb; exact .refl _
  | 5 => cases ha; cases hb; exact .refl _
  | 6 => cases ha; cases hb; exact .refl _
  | 7 => cases ha; cases hb; exact .refl _
  | 8 => cases ha; cases hb; exact hy
  | j + 9 => simp at ha
 rcases h1 with h1 | h1
 . have e : rowE (rowM9 l) (bdC (gB l)) := key (.lst 1 (gn9 l) (gf9 l)) (by
    rw [gN_length]
    refine .rows fun i hi => ?_
    rw [h2 i hi, atS_gN hi]
    exact ⟨rfl, fun j a b ha hb => by rw [ha] at hb; cases hb; exact .refl _⟩)
   rw [<- h1] at e; exact e
 . have h0 : gn9 l = 0 := by rw [h1]; rfl
   have e : rowE (rowZ9 l) (bdC (gB l)) := key _ (by rw [gN_length, h0]; exact .nil)
   rw [<- h1] at e; exact e
theorem rowE_gB {l : List DV} (h : rowOkB l) : rowE l (bdC (gB l)) := rowE_gS ⟨h.1, h.2.1⟩
def gBs (n : Nat) (f : Nat -> List DV) : List Bd := (List.range n).map fun i => gB (f i)
theorem gBs_length (n : Nat) (f : Nat -> List DV) : (gBs n f).length = n := by simp [gBs]
theorem atB_gBs {n i : Nat} {f : Nat -> List DV} (h : i < n) : atB (gBs n f) i = gB (f i) := by
 simp [atB, gBs, List.getD_eq_getElem?_getD, h]
theorem gBs_row (l : List Bd) : gBs l.length (rwB l) = l := by
 unfold gBs
 apply List.ext_getElem
 . simp
 . intro i h1 h2; simp [gB_bdC, atB, List.getD_eq_getElem?_getD, h2]
theorem canonB {n : Nat} {f : Nat -> List DV} (h : ∀ i, i < n -> rowOkB (f i)) : DvE (.lst 9 n f) (.lst 9 n (rwB (gBs n f))) :=
 .rows fun i hi => by show rowE (f i) (bdC (atB (gBs n f) i)); rw [atB_gBs hi]; exact rowE_gB (h i hi)
theorem canonBo {n : Nat} {f : Nat -> List DV} (h : ∀ i, i < n -> rowOkB (f i)) : icE (.ow 9 n f) (.ow 9 n (rwB (gBs n f))) :=
 ⟨rfl, rfl, fun i hi => by show rowE (f i) (bdC (atB (gBs n f) i)); rw [atB_gBs hi]; exact rowE_gB (h i hi)⟩
theorem okB_at {n : Nat} {f : Nat -> List DV} (h : ∀ i, i < n -> rowOkB (f i)) (i : Nat) (hi : i < n) : okB (atB (gBs n f) i) := by rw [atB_gBs hi]; exact (h i hi).2.2
theorem snocRec {α : Type} {p : List α -> Prop} (h0 : p []) (h1 : ∀ l x, p l -> p (l ++ [x])) (l : List α) : p l := by
 have : ∀ m : List α, p m.reverse := by
  intro m
  induction m with
  | nil => exact h0
  | cons x m ih => rw [List.reverse_cons]; exact h1 _ _ ih
 have := this l.reverse
 rwa [List.reverse_reverse] at this
structure Wk {α : Type} (lt : α -> α -> Bool) : Prop where
 asymm : ∀ a b, lt a b = true -> lt b a = false
 trans : ∀ a b c, lt b a = false -> lt c b = false -> lt c a = false
section
variable {α : Type} [Inhabited α] {lt : α → α → Bool}
def mg (lt : α -> α -> Bool) (l r : List α) : List α := l.merge r fun a b => !lt b a
theorem mg_nil (r : List α) : mg lt [] r = r := List.nil_merge r
theorem mg_right (l : List α) : mg lt l [] = l := List.merge_right l
theorem mg_cons (a b : α) (l r : List α) : mg lt (a :: l) (b :: r) = if lt b a = true then b :: mg lt (a :: l) r else a :: mg lt l (b :: r) := by
 unfold mg; rw [List.cons_merge_cons]; cases lt b a <;> rfl
theorem mg_length (l r : List α) : (mg lt l r).length = l.length + r.length := List.length_merge _ l r
theorem mg_mem {l r : List α} {x : α} : x ∈ mg lt l r ↔ x ∈ l \/ x ∈ r := List.mem_merge
theorem mg_assoc (h : Wk lt) : ∀ (a b c : List α), mg lt (mg lt a b) c = mg lt a (mg lt b c)
 | [], b, c => by rw [mg_nil, mg_nil]
 | x :: a, [], c => by rw [mg_right, mg_nil]
 | x :: a, y :: b, [] => by rw [mg_right, mg_right]
 | x :: a, y :: b, z :: c => by
   have i1 := mg_assoc h a (y :: b) (z :: c)
   have i2 := mg_assoc h (x :: a) b (z :: c)
   have i3 := mg_assoc h (x :: a) (y :: b) c
   cases hyx : lt y x with
   | false =>
     have e1 : mg lt (x :: a) (y :: b) = x :: mg lt a (y :: b) := by rw [mg_cons, if_neg (by simp [hyx])]
     cases hzx : lt z x with
     | false =>
       cases hzy : lt z y with
       | false =>
         rw [e1, mg_cons, if_neg (by simp [hzx]), i1]
         have e2 : mg lt (y :: b) (z :: c) = y :: mg lt b (z :: c) := by rw [mg_cons, if_neg (by simp [hzy])]
         rw [e2, mg_cons, if_neg (by simp [hyx])]
       | true =>
         rw [e1, mg_cons, if_neg (by simp [hzx]), i1]
         have e2 : mg lt (y :: b) (z :: c) = z :: mg lt (y :: b) c := by rw [mg_cons, if_pos hzy]
         rw [e2, mg_cons, if_neg (by simp [hzx])]
     | true =>
       have hzy : lt z y = true := by
        cases hzy : lt z y with
        | true => rfl
        | false => have := h.trans x y z hyx hzy; rw [this] at hzx; cases hzx
       have e2 : mg lt (y :: b) (z :: c) = z :: mg lt (y :: b) c := by rw [mg_cons, if_pos hzy]
       rw [e1, mg_cons, if_pos hzx, e2, mg_cons, if_pos hzx, <- i3, e1]
   | true =>
     have e1 : mg lt (x :: a) (y :: b) = y :: mg lt (x :: a) b := by rw [mg_cons, if_pos hyx]
     cases hzy : lt z y with
     | false =>
       have e2 : mg lt (y :: b) (z :: c) = y :: mg lt b (z :: c) := by rw [mg_cons, if_neg (by simp [hzy])]
       rw [e1, mg_cons, if_neg (by simp [hzy]), i2, e2, mg_cons, if_pos hyx]
     | true =>
       have hzx : lt z x = true := by
        cases hzx : lt z x with
        | true => rfl
        | false =>
          have h1 := h.asymm z y hzy
          have h3 := h.trans x z y hzx h1
          rw [h3] at hyx; cases hyx
       have e2 : mg lt (y :: b) (z :: c) = z :: mg lt (y :: b) c := by rw [mg_cons, if_pos hzy]
       rw [e1, mg_cons, if_pos hzy, e2, mg_cons, if_pos hzx, <- i3, e1]
termination_by a b c => a.length + b.length + c.length
theorem mg_split : ∀ (l1 r1 l2 r2 : List α), (∀ x ∈ l1, ∀ y ∈ r2, lt y x = false) -> (∀ y ∈ r1, ∀ x ∈ l2, lt y x = true) -> mg lt (l1 ++ l2) (r1 ++ r2) = mg lt l1 r1 ++ mg lt l2 r2
 | [], [], l2, r2, _, _ => by simp [mg_nil]
 | x :: l1, [], l2, r2, h1, h2 => by
   have ih := mg_split l1 [] l2 r2 (fun x hx => h1 x (by simp [hx])) h2
   rw [mg_right] at ih ⊢
   cases r2 with
   | nil => simp [mg_right]
   | cons y r2 =>
     have := h1 x (by simp) y (by simp)
     simp only [List.cons_append, List.nil_append] at ih ⊢
     rw [mg_cons, if_neg (by simp [this]), ih]
 | [], y :: r1, l2, r2, h1, h2 => by
   have ih := mg_split [] r1 l2 r2 h1 (fun y hy => h2 y (by simp [hy]))
   rw [mg_nil] at ih ⊢
   cases l2 with
   | nil => simp [mg_nil]
   | cons x l2 =>
     have := h2 y (by simp) x (by simp)
     simp only [List.cons_append, List.nil_append] at ih ⊢
     rw [mg_cons, if_pos this, ih]
 | x :: l1, y :: r1, l2, r2, h1, h2 => by
   have i1 := mg_split l1 (y :: r1) l2 r2 (fun x hx => h1 x (by simp [hx])) h2
   have i2 := mg_split (x :: l1) r1 l2 r2 h1 (fun y hy => h2 y (by simp [hy]))
   simp only [List.cons_append] at i1 i2 ⊢
   rw [mg_cons, mg_cons]
   split
   . rw [i2]; rfl
   . rw [i1]; rfl
termination_by l1 r1 => l1.length + r1.length
def Std (lt : α -> α -> Bool) (l : List α) : Prop := l.Pairwise fun a b => lt b a = false
theorem mg_srt (h : Wk lt) {l r : List α} (h1 : Std lt l) (h2 : Std lt r) : Std lt (mg lt l r) := by
 have := List.pairwise_merge (le := fun a b => !lt b a) (fun a b c h1 h2 => by have := h.trans a b c (by simpa using h1) (by simpa using h2); simp [this]) (fun a b => by
  cases hab : lt b a with
  | false => simp
  | true => have := h.asymm b a hab; simp [this]) l r (h1.imp (by simp)) (h2.imp (by simp))
 exact this.imp (by simp)
def srt (lt : α -> α -> Bool) (l : List α) : List α := l.foldl (fun s x => mg lt s [x]) []
theorem srt_snoc (l : List α) (x : α) : srt lt (l ++ [x]) = mg lt (srt lt l) [x] := by unfold srt; rw [List.foldl_append]; rfl
theorem srt_length (l : List α) : (srt lt l).length = l.length := by
 refine snocRec (p := fun l => (srt lt l).length = l.length) rfl (fun l x ih => ?_) l
 rw [srt_snoc, mg_length, ih, List.length_append]
theorem srt_srt (h : Wk lt) (l : List α) : Std lt (srt lt l) := by
 refine snocRec (p := fun l => Std lt (srt lt l)) List.Pairwise.nil (fun l x ih => ?_) l
 rw [srt_snoc]; exact mg_srt h ih (List.pairwise_singleton _ _)
theorem srt_append (h : Wk lt) (l r : List α) : srt lt (l ++ r) = mg lt (srt lt l) (srt lt r) := by
 refine snocRec (p := fun r => srt lt (l ++ r) = mg lt (srt lt l) (srt lt r)) ?_ (fun r x ih => ?_) r
 . rw [List.append_nil]; exact (mg_right _).symm
 . rw [<- List.append_assoc, srt_snoc, ih, srt_snoc, mg_assoc h]
theorem srt_mem {l : List α} {x : α} : x ∈ srt lt l ↔ x ∈ l := by
 refine snocRec (p := fun l => x ∈ srt lt l ↔ x ∈ l) ?_ (fun l y ih => ?_) l
 . simp [srt]
 . rw [srt_snoc, mg_mem, ih, List.mem_append]
theorem mg_back (p : List α) (y x : α) (h : lt x y = true) : mg lt (p ++ [y]) [x] = mg lt p [x] ++ [y] := by
 induction p with
 | nil => rw [List.nil_append, mg_cons, if_pos h, mg_nil, mg_right]; rfl
 | cons z p ih =>
   rw [List.cons_append, mg_cons, mg_cons]
   split
   . rw [mg_right, mg_right]; rfl
   . rw [ih]; rfl
theorem mg_end (p : List α) (x : α) (h : ∀ y ∈ p, lt x y = false) : mg lt p [x] = p ++ [x] := by
 induction p with
 | nil => rw [mg_nil]; rfl
 | cons z p ih =>
   rw [mg_cons, if_neg (by simp [h z (by simp)]), ih fun y hy => h y (by simp [hy])]; rfl
theorem srt_le_last (h : Wk lt) {p : List α} {y x : α} (hp : Std lt (p ++ [y])) (hx : lt x y = false) : ∀ z ∈ p ++ [y], lt x z = false := by
 intro z hz
 rcases List.mem_append.1 hz with hz | hz
 . have := (List.pairwise_append.1 hp).2.2 z hz y (by simp)
   exact h.trans z y x this hx
 . simp at hz; subst hz; exact hx
theorem mg_one (x : α) : ∀ (r1 r2 : List α), (∀ y ∈ r1, lt y x = true) -> (∀ y ∈ r2, lt y x = false) -> mg lt [x] (r1 ++ r2) = r1 ++ x :: r2
 | [], r2, _, h2 => by
   cases r2 with
   | nil => rw [List.nil_append, mg_right]; rfl
   | cons y r2 => rw [List.nil_append, mg_cons, if_neg (by simp [h2 y (by simp)]), mg_nil]; rfl
 | y :: r1, r2, h1, h2 => by
   rw [List.cons_append, mg_cons, if_pos (h1 y (by simp)), mg_one x r1 r2 (fun y hy => h1 y (by simp [hy])) h2]; rfl
theorem mg_last (y : α) : ∀ (l1 l2 : List α), (∀ x ∈ l1, lt y x = false) -> (∀ x ∈ l2, lt y x = true) -> mg lt (l1 ++ l2) [y] = l1 ++ y :: l2
 | [], l2, _, h2 => by
   cases l2 with
   | nil => rw [List.nil_append, mg_nil]; rfl
   | cons x l2 => rw [List.nil_append, mg_cons, if_pos (h2 x (by simp)), mg_right]; rfl
 | x :: l1, l2, h1, h2 => by
   rw [List.cons_append, mg_cons, if_neg (by simp [h1 x (by simp)]), mg_last y l1 l2 (fun x hx => h1 x (by simp [hx])) h2]; rfl
def put (g : Nat -> α) (a : Nat) (l : List α) : Nat -> α := fun k => if a <= k /\ k < a + l.length then l.getD (k - a) default else g k
def seg (g : Nat -> α) (a b : Nat) : List α := (List.range' a (b - a)).map g
theorem seg_length (g : Nat -> α) (a b : Nat) : (seg g a b).length = b - a := by simp [seg]
theorem seg_get {g : Nat -> α} {a b k : Nat} (h : k < b - a) : (seg g a b)[k]? = some (g (a + k)) := by
 simp [seg, List.getElem?_map, h]
theorem seg_getD {g : Nat -> α} {a b k : Nat} (h : k < b - a) : (seg g a b).getD k default = g (a + k) := by
 rw [List.getD_eq_getElem?_getD, seg_get h]; rfl
theorem seg_eq {g g' : Nat -> α} {a b : Nat} (h : ∀ k, a <= k -> k < b -> g k = g' k) : seg g a b = seg g' a b := by
 unfold seg
 refine List.map_congr_left fun k hk => ?_
 simp at hk
 exact h k hk.1 (by omega)
theorem seg_nil (g : Nat -> α) {a b : Nat} (h : b <= a) : seg g a b = [] := by
 apply List.eq_nil_of_length_eq_zero; rw [seg_length]; omega
theorem seg_app (g : Nat -> α) {a m b : Nat} (h1 : a <= m) (h2 : m <= b) : seg g a b = seg g a m ++ seg g m b := by
 apply List.ext_getElem?
 intro k
 by_cases hk : k < m - a
 . rw [seg_get (by omega), List.getElem?_append_left (by rw [seg_length]; exact hk), seg_get hk]
 . rw [List.getElem?_append_right (by rw [seg_length]; omega), seg_length]
   by_cases hb : k < b - a
   . rw [seg_get hb, seg_get (by omega)]; congr 2; omega
   . rw [List.getElem?_eq_none (by rw [seg_length]; omega), List.getElem?_eq_none (by rw [seg_length]; omega)]
theorem seg_one (g : Nat -> α) (a : Nat) : seg g a (a + 1) = [g a] := by simp [seg]
theorem seg_snoc (g : Nat -> α) {a b : Nat} (h : a <= b) : seg g a (b + 1) = seg g a b ++ [g b] := by rw [seg_app g h (Nat.le_succ b), seg_one]
theorem seg_cons (g : Nat -> α) {a b : Nat} (h : a < b) : seg g a b = g a :: seg g (a + 1) b := by rw [seg_app g (Nat.le_succ a) h, seg_one]; rfl
theorem mem_seg {g : Nat -> α} {a b : Nat} {x : α} : x ∈ seg g a b ↔ ∃ k, a <= k /\ k < b /\ g k = x := by
 simp only [seg, List.mem_map, List.mem_range']
 constructor
 . rintro ⟨k, ⟨i, hi, rfl⟩, rfl⟩; exact ⟨a + 1 * i, by omega, by omega, rfl⟩
 . rintro ⟨k, h1, h2, rfl⟩; exact ⟨k, ⟨k - a, by omega, by omega⟩, rfl⟩
theorem putAt {g : Nat -> α} {a : Nat} {l : List α} {k : Nat} (h : k < l.length) : put g a l (a + k) = l.getD k default := by
 unfold put; rw [if_pos (by omega)]; congr 1; omega
theorem put_mid (g : Nat -> α) (a : Nat) (p : List α) (x : α) (q : List α) : put g a (p ++ x :: q) (a + p.length) = x := by
 rw [putAt (by simp)]
 simp [List.getD_eq_getElem?_getD]
theorem put_out {g : Nat -> α} {a : Nat} {l : List α} {k : Nat} (h : k < a \/ a + l.length <= k) : put g a l k = g k := by
 unfold put; rw [if_neg (by omega)]
theorem seg_put (g : Nat -> α) (a b : Nat) (l : List α) (h : l.length = b - a) (hab : a <= b) : seg (put g a l) a b = l := by
 apply List.ext_getElem?
 intro k
 by_cases hk : k < b - a
 . rw [seg_get hk, putAt (by omega), List.getD_eq_getElem?_getD, List.getElem?_eq_getElem (by omega)]; rfl
 . rw [List.getElem?_eq_none (by rw [seg_length]; omega), List.getElem?_eq_none (by omega)]
theorem put_seg (g : Nat -> α) (a b : Nat) : put g a (seg g a b) = g := by
 funext k
 unfold put
 split
 . rename_i h
   rw [seg_length] at h
   rw [seg_getD (by omega)]; congr 1; omega
 . rfl
theorem put_more (g : Nat -> α) (a : Nat) (l : List α) : put g a l = put g a (l ++ [g (a + l.length)]) := by
 funext k
 unfold put
 rw [List.length_append, List.length_singleton]
 by_cases h : a <= k /\ k < a + l.length
 . rw [if_pos h, if_pos (by omega)]
   simp [List.getD_eq_getElem?_getD, List.getElem?_append_left (show k - a < l.length by omega)]
 . rw [if_neg h]
   by_cases h2 : k = a + l.length
   . subst h2
     rw [if_pos (by omega)]
     simp [List.getD_eq_getElem?_getD]
   . rw [if_neg (by omega)]
def swp (g : Nat -> α) (i j : Nat) : Nat -> α := fun k => if k = j then g i else if k = i then g j else g k
theorem put_swp (g : Nat -> α) (a : Nat) (p : List α) (x y : α) (q : List α) : swp (put g a (p ++ x :: y :: q)) (a + p.length) (a + p.length + 1) = put g a (p ++ y :: x :: q) := by
 have e1 := put_mid g a p x (y :: q)
 have e2 := put_mid g a (p ++ [x]) y q
 rw [List.append_assoc, List.length_append, List.length_singleton] at e2
 have e3 := put_mid g a p y (x :: q)
 have e4 := put_mid g a (p ++ [y]) x q
 rw [List.append_assoc, List.length_append, List.length_singleton] at e4
 funext k
 unfold swp
 split
 . rename_i h; subst h; rw [e1]; exact e4.symm
 . split
   . rename_i h; subst h; exact e2.trans e3.symm
   . unfold put
     simp only [List.length_append, List.length_cons]
     split
     . rename_i h1 h2 h3
       simp only [List.getD_eq_getElem?_getD]
       by_cases hk : k - a < p.length
       . rw [List.getElem?_append_left hk, List.getElem?_append_left hk]
       . rw [List.getElem?_append_right (by omega), List.getElem?_append_right (by omega)]
         obtain ⟨d, hd⟩ : ∃ d, k - a - p.length = d + 2 := ⟨k - a - p.length - 2, by omega⟩
         rw [hd]; rfl
     . rfl
theorem swp_comm (g : Nat -> α) (i j : Nat) : swp g i j = swp g j i := by
 funext k
 unfold swp
 split <;> split <;> first | rfl | (subst_vars; rfl)
def swr (g : Nat -> α) (a b n : Nat) : Nat -> α := fun k => if a <= k /\ k < a + n then g (b + (k - a)) else if b <= k /\ k < b + n then g (a + (k - b)) else g k
theorem swr_zero (g : Nat -> α) (a b : Nat) : swr g a b 0 = g := by
 funext k; unfold swr; rw [if_neg (by omega), if_neg (by omega)]
theorem swr_succ (g : Nat -> α) {a b n : Nat} (h : a + n < b) : swp (swr g a b n) (a + n) (b + n) = swr g a b (n + 1) := by
 funext k
 unfold swp swr
 repeat' split
 all_goals first | rfl | (exfalso; omega) | (congr 1; omega)
def rot (g : Nat -> α) (a m b : Nat) : Nat -> α := fun k => if a <= k /\ k < a + (b - m) then g (m + (k - a)) else if a + (b - m) <= k /\ k < b then g (a + (k - (a + (b - m)))) else g k
theorem rot_eq (g : Nat -> α) {m i : Nat} (h : i <= m) : rot g (m - i) m (m + i) = swr g (m - i) m i := by
 funext k
 unfold rot swr
 repeat' split
 all_goals first | rfl | (exfalso; omega) | (congr 1; omega)
theorem rot_gt (g : Nat -> α) {m i j : Nat} (h : i <= m) (hij : j < i) : rot (swr g (m - i) m j) (m - (i - j)) m (m + j) = rot g (m - i) m (m + j) := by
 funext k
 unfold rot swr
 repeat' split
 all_goals first | rfl | (exfalso; omega) | (congr 1; omega)
theorem rot_lt (g : Nat -> α) {m i j : Nat} (h : i <= m) (hij : i < j) : rot (swr g (m - i) (m + j - i) i) (m - i) m (m + (j - i)) = rot g (m - i) m (m + j) := by
 funext k
 unfold rot swr
 repeat' split
 all_goals first | rfl | (exfalso; omega) | (congr 1; omega)
theorem seg_rot1 (g : Nat -> α) {a m b : Nat} (h1 : a <= m) (h2 : m <= b) : seg (rot g a m b) a (a + (b - m)) = seg g m b := by
 apply List.ext_getElem?
 intro k
 by_cases hk : k < b - m
 . rw [seg_get (by omega), seg_get hk]; congr 1; unfold rot; rw [if_pos (by omega)]; congr 1; omega
 . rw [List.getElem?_eq_none (by rw [seg_length]; omega), List.getElem?_eq_none (by rw [seg_length]; omega)]
theorem seg_rot2 (g : Nat -> α) {a m b : Nat} (h1 : a <= m) (h2 : m <= b) : seg (rot g a m b) (a + (b - m)) b = seg g a m := by
 apply List.ext_getElem?
 intro k
 by_cases hk : k < m - a
 . rw [seg_get (by omega), seg_get hk]; congr 1; unfold rot; rw [if_neg (by omega), if_pos (by omega)]; congr 1; omega
 . rw [List.getElem?_eq_none (by rw [seg_length]; omega), List.getElem?_eq_none (by rw [seg_length]; omega)]
theorem rot_out (g : Nat -> α) {a m b k : Nat} (h1 : a <= m) (h2 : m <= b) (hk : k < a \/ b <= k) : rot g a m b k = g k := by
 unfold rot; rw [if_neg (by omega), if_neg (by omega)]
end
def ltB (a b : Bd) : Bool := decide (cfL a.name.data.toList b.name.data.toList < 0)
theorem wkB : Wk ltB where
 asymm a b h := by
  unfold ltB at *
  rw [decide_eq_true_eq, cfL_lt] at h
  rw [decide_eq_false_iff_not, cfL_lt]
  exact List.lt_asymm h
 trans a b c h1 h2 := by
  unfold ltB at *
  rw [decide_eq_false_iff_not, cfL_lt] at *
  intro h3
  have h1 := List.not_lt.1 h1
  have h2 := List.not_lt.1 h2
  exact List.not_lt.2 (List.le_trans h1 h2) h3
def gF (f : Nat -> List DV) : Nat -> Bd := fun k => gB (f k)
theorem srt_one {α : Type} [Inhabited α] {lt : α -> α -> Bool} (x : α) : srt lt [x] = [x] := mg_nil _
theorem put_one {α : Type} [Inhabited α] {lt : α -> α -> Bool} (g : Nat -> α) (a : Nat) : put g a (srt lt (seg g a (a + 1))) = g := by rw [seg_one, srt_one]; have := put_seg g a (a + 1); rwa [seg_one] at this
theorem put_none {α : Type} [Inhabited α] {lt : α -> α -> Bool} (g : Nat -> α) {a b : Nat} (h : b <= a) : put g a (srt lt (seg g a b)) = g := by
 rw [seg_nil g h]; funext k; unfold put; rw [if_neg (by simp only [srt, List.foldl_nil, List.length_nil]; omega)]
theorem snoc_cases {α : Type} (l : List α) : l = [] \/ ∃ p y, l = p ++ [y] := by
 rcases List.eq_nil_or_concat l with h | ⟨p, y, h⟩
 . exact .inl h
 . exact .inr ⟨p, y, by rw [h, List.concat_eq_append]⟩
theorem ltB_of {a b : Bd} {p : Bool} (h : decide (cfL a.name.data.toList b.name.data.toList < 0) = p) : ltB a b = p := h
theorem setRow_at (f : Nat -> List DV) (i : Nat) (r : List DV) (k : Nat) : setRow f i r k = if k = i then r else f k := by
 unfold setRow
 cases h : Nat.beq k i with
 | true => rw [if_pos (Nat.eq_of_beq_eq_true h)]
 | false => rw [if_neg (Nat.ne_of_beq_eq_false h)]
theorem row_swp {g g' : Nat -> Bd} {i j : Nat} {x y : List DV} (hx : x = bdC (g j)) (hy : y = bdC (g i)) (h : swp g i j = g') (k : Nat) : setRow (setRow (fun k => bdC (g k)) i x) j y k = bdC (g' k) := by
 subst h; subst hx; subst hy
 rw [setRow_at, setRow_at]
 unfold swp
 split
 . rfl
 . split <;> rfl
theorem canonF {n : Nat} {f : Nat -> List DV} (h : ∀ i, i < n -> rowSB (f i)) : icE (.ow 9 n f) (.ow 9 n fun k => bdC (gF f k)) := ⟨rfl, rfl, fun i hi => rowE_gS (h i hi)⟩
theorem gF_bdC (G : Nat -> Bd) : gF (fun k => bdC (G k)) = G := funext fun k => gB_bdC (G k)
theorem fc_calls {P : Program} {f : Nat} {F : List Ar -> Option Rs} (hc : Callable P f) (h : ∀ xs pre r us, F xs = some ⟨pre, r, us⟩ -> pre ->
 ∃ (vs : List Value) (v : Value), xs = vs.map (fun x => Ar.c (.d (.v x))) /\ us = [] /\ (∀ w, Calls P f vs.toArray w fun e w' => e = .returned v /\ w' = w) /\ ∀ S w, RepRt P S w r v []) : FC P f F := by
 intro xs pre r us hF hpre S w vals ls hS hr hsep
 obtain ⟨vs, v, rfl, rfl, hrun, hrep⟩ := h _ _ _ _ hF hpre
 have hrows : ∀ (vs : List Value), arsRows (vs.map fun x => Ar.c (.d (.v x))) = [] := by
  intro vs
  induction vs with
  | nil => rfl
  | cons v vs ih => simp [arsRows, arRows, icRows, ih]
 have e := repArs_rows hr (hrows vs)
 subst e
 have hv : vals = vs := by
  clear hrun hF hrows
  induction vs generalizing vals with
  | nil => cases vals with | nil => rfl | cons _ _ => simp [RepArs] at hr
  | cons x vs ih => cases vals with
    | nil => simp [RepArs] at hr
    | cons u vals =>
      simp only [List.map_cons, RepArs] at hr
      obtain ⟨l1, l2, e, h1, h2⟩ := hr
      obtain ⟨rfl, rfl⟩ := List.append_eq_nil_iff.1 e.symm
      have h1 : RepIcs S w [.d (.v x)] [u] [] := h1
      have h1 : RepD S w (.v x) u := h1.1
      cases h1
      rw [ih _ h2]
 subst hv
 refine .inl ⟨hc, (hrun w).mono ?_⟩
 rintro e w' ⟨rfl, rfl⟩
 refine ⟨v, S, [], rfl, hrep S w', ?_, trivial, ⟨rfl, rfl, rfl, Nat.le_refl _, fun _ _ _ => rfl, Later.refl _ _, fun _ h => .inl h, fun b hb => .inl hb, hS⟩⟩
 rw [hrows]; trivial
def FStrCmp : List Ar -> Option Rs
 | [.c (.d (.v (.string x))), .c (.d (.v (.string y)))] => some ⟨True, .va (.c (.d (it (cfL x.data.toList y.data.toList)))), []⟩
 | _ => none
theorem fcStrCmp : FC Tryz.prog 111 FStrCmp := by
 refine fc_calls (callable_of Tryz.func111 rfl rfl) fun xs pre r us h hp => ?_
 unfold FStrCmp at h
 split at h
 . rename_i x y
   cases h
   exact ⟨[.string x, .string y], _, rfl, rfl, fun w => Tryz.strings_Compare x y w, fun S w => And.intro (.v trivial) trivial⟩
 . cases h
def FLess : List Ar -> Option Rs
 | [.agg [.d (.v (.string x0)), .d (.v (.bool _)), .d (.v (.int .i64 _)), .d (.v (.int .i64 _)), .d (.v (.bool _)), .d (.v (.int .i64 _)), .d (.v (.int .i64 _)), .d (.v (.bool _)), .d (.lst 1 _ _)], .agg [.d (.v (.string x1)), .d (.v (.bool _)), .d (.v (.int .i64 _)), .d (.v (.int .i64 _)), .d (.v (.bool _)), .d (.v (.int .i64 _)), .d (.v (.int .i64 _)), .d (.v (.bool _)), .d (.lst 1 _ _)]] => some ⟨True, .va (.c (.d (it (cfL x0.data.toList x1.data.toList)))), []⟩
 | _ => none
theorem fcLess : FC Tryz.prog 127 FLess := by
 intro xs pre r us h hp
 unfold FLess at h
 split at h
 . rename_i x0 s0 l0 h0 b0 m0 r0 z0 n0 f0 x1 s1 l1 h1 b1 m1 r1 z1 n1 f1
   cases h
   refine fcat tys_ok (l := [(111, ⟨[], FStrCmp⟩)]) ⟨fcStrCmp, trivial⟩ Tryz.func127 rfl (by kernel_rfl) false ?_
   repeat' (first | exact trivial | refine ⟨?_, ?_⟩ | intro _)
   all_goals first | (with_reducible apply qq) | (conv => whnf)
   all_goals grind
 . cases h
abbrev gLess : List Cv -> Option Gs := mkFv (sums [(127, ⟨[], FLess⟩)]) 127 []
def FInsSort : List Ar -> Option Rs
 | [.c (.ow 9 n0 f0), .c (.d (.v (.int .i64 i1))), .c (.d (.v (.int .i64 i2))), .fv g3] => some ⟨(n0 <= 1099511627776 /\ ∀ i, i < n0 -> rowSB (f0 i)) /\ (-9223372036854775808 <= i1 /\ i1 < 9223372036854775808) /\ (-9223372036854775808 <= i2 /\ i2 < 9223372036854775808) /\ ((0 <= i1 /\ i1 <= i2 /\ i2 <= n0) /\ g3 = gLess), .tup [], [some fun k => bdC (put (gF f0) (i1).toNat (srt ltB (seg (gF f0) (i1).toNat (i2).toNat)) k)]⟩
 | _ => none
theorem fcInsSort : FC Tryz.prog 202 FInsSort := by
 intro xs pre r us h hp
 unfold FInsSort at h
 split at h
 . rename_i n0 f0 i1 i2 g3
   cases h
   obtain ⟨hp0, hp1, hp2, hp3⟩ := hp
   refine FCat.deep (ys := [.c (.ow 9 n0 fun k => bdC (gF f0 k)), .c (.d (.v (.int .i64 i1))), .c (.d (.v (.int .i64 i2))), .fv g3]) ?_ ?_
   . repeat' (first | exact trivial | exact rfl | exact DvE.refl _ | refine ⟨?_, ?_⟩ | fail)
     all_goals first | exact (canonF hp0.2).2.2
   refine fcat tys_ok (l := []) trivial Tryz.func202 rfl (by kernel_rfl) false ?_
   obtain ⟨⟨ha, hab, hb⟩, rfl⟩ := hp3
   obtain ⟨a, rfl⟩ := Int.eq_ofNat_of_zero_le ha
   obtain ⟨b, rfl⟩ := Int.eq_ofNat_of_zero_le (Int.le_trans ha hab)
   have hn := hp0.1
   clear hp0
   generalize gF f0 = G
   simp only [Int.toNat_natCast]
   repeat' (first | exact trivial | refine ⟨?_, ?_⟩ | intro _)
   all_goals first | (with_reducible apply qq) | (conv => whnf)
   refine loop_ok tys_ok (l := []) trivial (by kernel_rfl) (X := Nat)
    (fun i => ⟨[(8, vx (.int .i64 i)), (0, .va (.c (.osl 0 9 0 n0))), (1, vx (.int .i64 a)), (2, vx (.int .i64 b)), (3, .va (.c (.fv gLess)))], [(0, .row 9 n0 fun k => bdC (put G a (srt ltB (seg G a i)) k))], 1, 53⟩)
    (fun i => b - i) (fun i => a < i /\ (i <= b \/ i = a + 1)) [] [] (fun i _ _ => i + 1) [0] [0] 0 0 (a + 1) ?_ ?_ ?_
   . exact ⟨by omega, .inr rfl⟩
   . rw [put_one]
     repeat' (first | exact trivial | exact rfl | (intro _ _; exact rfl) | refine ⟨?_, ?_⟩ | fail)
     all_goals (exact congrArg (Value.int .i64) (wI_id _ (by omega) (by omega)))
   . rintro i ⟨k1, k2⟩
     repeat' (first | exact trivial | refine ⟨?_, ?_⟩ | intro _)
     all_goals first | (with_reducible apply qq) | (conv => whnf)
     . have hi : i < b := by have := of_decide_eq_true ‹decide ((i : Int) < (b : Int)) = true›; omega
       have hs := srt_srt wkB (seg G a i)
       have hl : (srt ltB (seg G a i)).length = i - a := by rw [srt_length, seg_length]
       have hG : G (a + (srt ltB (seg G a i)).length) = G i := by rw [hl]; congr 1; omega
       refine loop_ok tys_ok (l := []) trivial (by kernel_rfl) (X := List Bd × List Bd)
        (fun x => ⟨[(9, vx (.int .i64 (a + x.1.length : Nat))), (8, vx (.int .i64 i)), (0, .va (.c (.osl 0 9 0 n0))), (1, vx (.int .i64 a)), (2, vx (.int .i64 b)), (3, .va (.c (.fv gLess)))], [(0, .row 9 n0 fun k => bdC (put G a (x.1 ++ G i :: x.2) k))], 1, 53⟩)
        (fun x => x.1.length) (fun x => mg ltB (srt ltB (seg G a i)) [G i] = mg ltB x.1 [G i] ++ x.2 /\ Std ltB x.1 /\ x.1.length + x.2.length = i - a) [] [] (fun x _ _ => (x.1.dropLast, x.1.getLastD default :: x.2)) [0] [0] 0 0 (srt ltB (seg G a i), []) ?_ ?_ ?_
       . exact ⟨by simp, hs, by dsimp only; rw [hl]; rfl⟩
       . have hp := put_more G a (srt ltB (seg G a i))
         rw [hG] at hp
         rw [hp]
         repeat' (first | exact trivial | exact rfl | (intro _ _; exact rfl) | refine ⟨?_, ?_⟩ | fail)
         all_goals (exact congrArg (Value.int .i64) (by dsimp only; omega))
       . rintro ⟨p, q⟩ ⟨k3, k4, k5⟩
         dsimp only at k3 k4 k5
         rcases snoc_cases p with rfl | ⟨p, y, rfl⟩
         . have hno : decide (((a + ([] : List Bd).length : Nat) : Int) > (a : Int)) = false := by simp
           have hE : put G a ([] ++ G i :: q) = put G a (srt ltB (seg G a (i + 1))) := by rw [seg_snoc G (by omega), srt_snoc, k3, mg_nil]; rfl
           repeat' (first | exact trivial | refine ⟨?_, ?_⟩ | intro _)
           all_goals first | (with_reducible apply qq) | (conv => whnf)
           all_goals first | (exact absurd (hno.symm.trans ‹_ = true›) (by decide)) | skip
           all_goals first | rfl | omega | (dsimp only; omega) | (exact congrArg bdC (congrFun hE _)) | (exact congrArg (Value.int .i64) (wI_id _ (by omega) (by omega)))
         . have hln : (p ++ [y]).length = p.length + 1 := by simp
           have hyes : decide (((a + (p ++ [y]).length : Nat) : Int) > (a : Int)) = true := by rw [hln]; exact decide_eq_true (by omega)
           have hw : IntKind.wrap .i64 (((a + (p ++ [y]).length : Nat) : Int) - 1) = ((a + p.length : Nat) : Int) := by rw [hln, wI_id _ (by omega) (by omega)]; omega
           have hL : (p ++ [y]) ++ G i :: q = p ++ y :: G i :: q := by simp
           have e1 : put G a ((p ++ [y]) ++ G i :: q) (a + p.length) = y := by rw [hL]; exact put_mid _ _ _ _ _
           have e2 : put G a ((p ++ [y]) ++ G i :: q) (a + (p ++ [y]).length) = G i := put_mid _ _ _ _ _
           have hsw : swp (put G a ((p ++ [y]) ++ G i :: q)) (a + (p ++ [y]).length) (a + p.length) = put G a (p ++ G i :: y :: q) := by rw [hL, swp_comm, hln]; exact put_swp _ _ _ _ _ _
           have hE : ltB (G i) y = false -> put G a ((p ++ [y]) ++ G i :: q) = put G a (srt ltB (seg G a (i + 1))) := by
            intro h
            rw [seg_snoc G (by omega), srt_snoc, k3, mg_end _ _ (srt_le_last wkB k4 h)]; simp
           have hN : ltB (G i) y = true -> mg ltB (srt ltB (seg G a i)) [G i] = mg ltB p [G i] ++ y :: q := by
            intro h
            rw [k3, mg_back _ _ _ h, List.append_assoc]; rfl
           repeat' (first | exact trivial | refine ⟨?_, ?_⟩ | intro _)
           all_goals first | (with_reducible apply qq) | (conv => whnf)
           all_goals first | (exact absurd (hyes.symm.trans ‹_ = false›) (by decide)) | skip
           all_goals first | ((with_reducible show ASat _ _ _ _ _); refine draw_plan tys_ok (l := []) trivial (by kernel_rfl) (.take 0 (.take 1 (.take 2 (.take 3 (.take 4 (.take 5 (.take 6 (.take 7 (.take 8 (.take 10 (.take 11 (.take 12 (.all [(9, .all [(13, .take 14 (.all [(15, .take 16 (.all [(17, .done)]))]))]), (13, .all [(9, .take 14 (.all [(15, .take 16 (.all [(17, .done)]))]))])]))))))))))))) (by kernel_rfl) ?_) | skip
           all_goals repeat' (first | exact trivial | refine ⟨?_, ?_⟩ | intro _)
           all_goals first | (with_reducible apply qq) | (conv => whnf)
           all_goals (try simp only [hw, Int.toNat_natCast, Nat.zero_add, e1, e2, List.dropLast_concat, List.getLastD_concat])
           all_goals (try rw [setRow_at, if_neg (by rw [hln]; omega)])
           all_goals repeat' (first | exact trivial | refine ⟨?_, ?_⟩ | intro _)
           all_goals first | (with_reducible apply qq) | (conv => whnf)
           all_goals (try simp only [hw, Int.toNat_natCast, Nat.zero_add, e1, e2, List.dropLast_concat, List.getLastD_concat])
           all_goals first | rfl | omega | (dsimp only; omega) | (simp only [hln] at k5; simp only [List.length_cons]; omega) | (exact (List.pairwise_append.1 k4).1) | (have hd := ‹decide (cfL _ _ < 0) = _›; simp only [hw, Int.toNat_natCast, Nat.zero_add, e1, e2] at hd; first | (exact hN (ltB_of hd)) | (exact congrArg bdC (congrFun (hE (ltB_of hd)) _))) | (exact congrArg (Value.int .i64) (wI_id _ (by omega) (by omega))) | (exact row_swp (by rw [e1]) (by rw [e2]) hsw _)
     . exact Nat.le_refl _
     . have h2 := of_decide_eq_false ‹decide ((i : Int) < (b : Int)) = false›
       rcases (by omega : i = b \/ (i = a + 1 /\ b = a)) with k2 | ⟨k2, k3⟩
       . subst k2; rfl
       . subst k2; subst k3
         exact congrArg bdC (congrFun ((put_one G b).trans (put_none G (Nat.le_refl b)).symm) _)
 . cases h
def FSwapR : List Ar -> Option Rs
 | [.c (.ow 9 n0 f0), .c (.d (.v (.int .i64 i1))), .c (.d (.v (.int .i64 i2))), .c (.d (.v (.int .i64 i3))), .fv _] => some ⟨(n0 <= 1099511627776 /\ ∀ i, i < n0 -> rowSB (f0 i)) /\ (-9223372036854775808 <= i1 /\ i1 < 9223372036854775808) /\ (-9223372036854775808 <= i2 /\ i2 < 9223372036854775808) /\ (-9223372036854775808 <= i3 /\ i3 < 9223372036854775808) /\ (0 <= i1 /\ 0 <= i3 /\ i1 + i3 <= i2 /\ i2 + i3 <= n0), .tup [], [some fun k => bdC (swr (gF f0) (i1).toNat (i2).toNat (i3).toNat k)]⟩
 | _ => none
theorem fcSwapR : FC Tryz.prog 214 FSwapR := by
 intro xs pre r us h hp
 unfold FSwapR at h
 split at h
 . rename_i n0 f0 i1 i2 i3 g4
   cases h
   obtain ⟨hp0, hp1, hp2, hp3, hp4⟩ := hp
   refine FCat.deep (ys := [.c (.ow 9 n0 fun k => bdC (gF f0 k)), .c (.d (.v (.int .i64 i1))), .c (.d (.v (.int .i64 i2))), .c (.d (.v (.int .i64 i3))), .fv g4]) ?_ ?_
   . repeat' (first | exact trivial | exact rfl | exact DvE.refl _ | refine ⟨?_, ?_⟩ | fail)
     all_goals first | exact (canonF hp0.2).2.2
   refine fcat tys_ok (l := []) trivial Tryz.func214 rfl (by kernel_rfl) false ?_
   obtain ⟨ha, hl, hab, hb⟩ := hp4
   obtain ⟨a, rfl⟩ := Int.eq_ofNat_of_zero_le ha
   obtain ⟨l, rfl⟩ := Int.eq_ofNat_of_zero_le hl
   obtain ⟨b, rfl⟩ := Int.eq_ofNat_of_zero_le (Int.le_trans (by omega : (0 : Int) <= (a : Int) + l) hab)
   have hn := hp0.1
   clear hp0
   generalize gF f0 = G
   simp only [Int.toNat_natCast]
   repeat' (first | exact trivial | refine ⟨?_, ?_⟩ | intro _)
   all_goals first | (with_reducible apply qq) | (conv => whnf)
   refine loop_ok tys_ok (l := []) trivial (by kernel_rfl) (X := Nat)
    (fun i => ⟨[(10, vx (.int .i64 i)), (0, .va (.c (.osl 0 9 0 n0))), (1, vx (.int .i64 a)), (2, vx (.int .i64 b)), (3, vx (.int .i64 l)), (4, .va (.c (.fv g4)))], [(0, .row 9 n0 fun k => bdC (swr G a b i k))], 1, 38⟩)
    (fun i => l - i) (fun i => i <= l) [] [] (fun i _ _ => i + 1) [0] [0] 0 0 0 ?_ ?_ ?_
   . exact Nat.zero_le _
   . rw [swr_zero]
     repeat' (first | exact trivial | exact rfl | (intro _ _; exact rfl) | refine ⟨?_, ?_⟩ | fail)
   . rintro i k1
     have hw1 : IntKind.wrap .i64 ((a : Int) + (i : Int)) = ((a + i : Nat) : Int) := by rw [wI_id _ (by omega) (by omega)]; omega
     have hw2 : IntKind.wrap .i64 ((b : Int) + (i : Int)) = ((b + i : Nat) : Int) := by rw [wI_id _ (by omega) (by omega)]; omega
     repeat' (first | exact trivial | refine ⟨?_, ?_⟩ | intro _)
     all_goals first | (with_reducible apply qq) | (conv => whnf)
     . have hi : i < l := by have := of_decide_eq_true ‹decide ((i : Int) < (l : Int)) = true›; omega
       repeat' (first | exact trivial | refine ⟨?_, ?_⟩ | intro _)
       all_goals first | (with_reducible apply qq) | (conv => whnf)
       all_goals first | ((with_reducible show ASat _ _ _ _ _); refine draw_plan tys_ok (l := []) trivial (by kernel_rfl) (.take 0 (.take 1 (.take 2 (.take 3 (.take 4 (.take 5 (.take 6 (.take 7 (.take 8 (.take 9 (.take 10 (.take 11 (.take 12 (.take 14 (.take 15 (.take 16 (.take 17 (.take 18 (.all [(13, .all [(19, .take 20 (.all [(21, .take 22 (.all [(23, .done)]))]))]), (19, .all [(13, .take 20 (.all [(21, .take 22 (.all [(23, .done)]))]))])]))))))))))))))))))) (by kernel_rfl) ?_) | skip
       all_goals repeat' (first | exact trivial | refine ⟨?_, ?_⟩ | intro _)
       all_goals first | (with_reducible apply qq) | (conv => whnf)
       all_goals (try simp only [hw1, hw2, Int.toNat_natCast, Nat.zero_add])
       all_goals (try rw [setRow_at, if_neg (by omega)])
       all_goals repeat' (first | exact trivial | refine ⟨?_, ?_⟩ | intro _)
       all_goals first | (with_reducible apply qq) | (conv => whnf)
       all_goals (try simp only [hw1, hw2, Int.toNat_natCast, Nat.zero_add])
       all_goals first | rfl | omega | (dsimp only; omega) | (exact row_swp rfl rfl (swr_succ G (by omega)) _) | (exact congrArg (Value.int .i64) (by first | (rw [wI_id _ (by omega) (by omega)]; omega) | omega | (dsimp only; omega)))
     . exact Nat.le_refl _
     . have h2 := of_decide_eq_false ‹decide ((i : Int) < (l : Int)) = false›
       have : i = l := by omega
       subst this; rfl
 . cases h
def FRot : List Ar -> Option Rs
 | [.c (.ow 9 n0 f0), .c (.d (.v (.int .i64 i1))), .c (.d (.v (.int .i64 i2))), .c (.d (.v (.int .i64 i3))), .fv _] => some ⟨(n0 <= 1099511627776 /\ ∀ i, i < n0 -> rowSB (f0 i)) /\ (-9223372036854775808 <= i1 /\ i1 < 9223372036854775808) /\ (-9223372036854775808 <= i2 /\ i2 < 9223372036854775808) /\ (-9223372036854775808 <= i3 /\ i3 < 9223372036854775808) /\ (0 <= i1 /\ i1 < i2 /\ i2 < i3 /\ i3 <= n0), .tup [], [some fun k => bdC (rot (gF f0) (i1).toNat (i2).toNat (i3).toNat k)]⟩
 | _ => none
theorem fcRot : FC Tryz.prog 212 FRot := by
 intro xs pre r us h hp
 unfold FRot at h
 split at h
 . rename_i n0 f0 i1 i2 i3 g4
   cases h
   obtain ⟨hp0, hp1, hp2, hp3, hp4⟩ := hp
   refine FCat.deep (ys := [.c (.ow 9 n0 fun k => bdC (gF f0 k)), .c (.d (.v (.int .i64 i1))), .c (.d (.v (.int .i64 i2))), .c (.d (.v (.int .i64 i3))), .fv g4]) ?_ ?_
   . repeat' (first | exact trivial | exact rfl | exact DvE.refl _ | refine ⟨?_, ?_⟩ | fail)
     all_goals first | exact (canonF hp0.2).2.2
   refine fcat tys_ok (l := [(214, ⟨[true], FSwapR⟩)]) ⟨fcSwapR, trivial⟩ Tryz.func212 rfl (by kernel_rfl) false ?_
   obtain ⟨ha, ham, hmb, hb⟩ := hp4
   obtain ⟨a, rfl⟩ := Int.eq_ofNat_of_zero_le ha
   obtain ⟨m, rfl⟩ := Int.eq_ofNat_of_zero_le (Int.le_trans ha (Int.le_of_lt ham))
   obtain ⟨b, rfl⟩ := Int.eq_ofNat_of_zero_le (Int.le_trans (Int.natCast_nonneg m) (Int.le_of_lt hmb))
   have hn := hp0.1
   clear hp0
   generalize gF f0 = G
   simp only [Int.toNat_natCast]
   repeat' (first | exact trivial | refine ⟨?_, ?_⟩ | intro _)
   all_goals first | (with_reducible apply qq) | (conv => whnf)
   refine loop_ok tys_ok (l := [(214, ⟨[true], FSwapR⟩)]) ⟨fcSwapR, trivial⟩ (by kernel_rfl) (X := Nat × Nat × (Nat -> Bd))
    (fun x => ⟨[(10, vx (.int .i64 x.1)), (11, vx (.int .i64 x.2.1)), (0, .va (.c (.osl 0 9 0 n0))), (1, vx (.int .i64 a)), (2, vx (.int .i64 m)), (3, vx (.int .i64 b)), (4, .va (.c (.fv g4)))], [(0, .row 9 n0 fun k => bdC (x.2.2 k))], 1, 58⟩)
    (fun x => x.1 + x.2.1) (fun x => 0 < x.1 /\ 0 < x.2.1 /\ x.1 <= m - a /\ x.2.1 <= b - m /\ rot x.2.2 (m - x.1) m (m + x.2.1) = rot G a m b) [] []
    (fun x _ _ => if x.2.1 < x.1 then (x.1 - x.2.1, x.2.1, swr x.2.2 (m - x.1) m x.2.1) else (x.1, x.2.1 - x.1, swr x.2.2 (m - x.1) (m + x.2.1 - x.1) x.1)) [0] [0] 0 0 (m - a, b - m, G) ?_ ?_ ?_
   . refine ⟨by show 0 < m - a; omega, by show 0 < b - m; omega, Nat.le_refl _, Nat.le_refl _, ?_⟩
     have e1 : m - (m - a) = a := by omega
     have e2 : m + (b - m) = b := by omega
     dsimp only; rw [e1, e2]
   . repeat' (first | exact trivial | exact rfl | (intro _ _; exact rfl) | refine ⟨?_, ?_⟩ | fail)
     all_goals exact congrArg (Value.int .i64) (by rw [wI_id _ (by omega) (by omega)]; dsimp only; omega)
   . rintro ⟨i, j, H⟩ ⟨k1, k2, k3, k4, k5⟩
     dsimp only at k1 k2 k3 k4 k5
     have hok : ∀ i, i < n0 -> rowSB (bdC (H i)) := fun i _ => rowSB_bdC _
     have hgF : gF (fun k => bdC (H k)) = H := gF_bdC H
     have hw1 : IntKind.wrap .i64 ((m : Int) - (i : Int)) = ((m - i : Nat) : Int) := by rw [wI_id _ (by omega) (by omega)]; omega
     have hw2 : IntKind.wrap .i64 ((m : Int) + (j : Int)) = ((m + j : Nat) : Int) := by rw [wI_id _ (by omega) (by omega)]; omega
     have hw3 : IntKind.wrap .i64 (((m + j : Nat) : Int) - (i : Int)) = ((m + j : Nat) : Int) - i := by rw [wI_id _ (by omega) (by omega)]
     rcases Nat.lt_trichotomy i j with hij | hij | hij
     . have hq : j - i < j /\ ¬ j < i := by omega
       have hE : ∀ k, bdC (swr H (m - i) ((((m + j : Nat) : Int) - (i : Int)).toNat) i k) = bdC (swr H (m - i) (m + j - i) i k) := by
        intro k; congr 2; omega
       have hR := (rot_lt H (m := m) (i := i) (j := j) (by omega) hij).trans k5
       have hne : ((i : Int) != (j : Int)) = true := bne_iff_ne.2 (by omega)
       have hgt : decide ((i : Int) > (j : Int)) = false := decide_eq_false (by omega)
       repeat' (first | exact trivial | (with_reducible exact hok) | refine ⟨?_, ?_⟩ | intro _)
       all_goals first | (with_reducible apply qq) | (conv => whnf)
       all_goals first | (exact absurd (hne.symm.trans ‹_ = false›) (by decide)) | (exact absurd (hgt.symm.trans ‹_ = true›) (by decide)) | skip
       all_goals (try simp only [hw1, hw2, hw3, Int.toNat_natCast, hgF, if_neg hq.2])
       all_goals first | rfl | omega | (dsimp only; omega) | (exact hR) | (exact hE _) | (exact congrArg (Value.int .i64) (by first | (rw [wI_id _ (by omega) (by omega)]; omega) | omega | (dsimp only; omega)))
     . subst hij
       have hne : ((i : Int) != (i : Int)) = false := by simp
       repeat' (first | exact trivial | (with_reducible exact hok) | refine ⟨?_, ?_⟩ | intro _)
       all_goals first | (with_reducible apply qq) | (conv => whnf)
       all_goals first | (exact absurd (hne.symm.trans ‹_ = true›) (by decide)) | skip
       all_goals (try simp only [hw1, hw2, hw3, hgF, Int.toNat_natCast])
       all_goals first | rfl | omega | (dsimp only; omega) | (exact congrArg bdC (congrFun ((rot_eq H (by omega)).symm.trans k5) _)) | (exact congrArg (Value.int .i64) (by first | (rw [wI_id _ (by omega) (by omega)]; omega) | omega | (dsimp only; omega)))
     . have hq : j < i := hij
       have hR := (rot_gt H (m := m) (i := i) (j := j) (by omega) hij).trans k5
       have hne : ((i : Int) != (j : Int)) = true := bne_iff_ne.2 (by omega)
       have hgt : decide ((i : Int) > (j : Int)) = true := decide_eq_true (by omega)
       repeat' (first | exact trivial | (with_reducible exact hok) | refine ⟨?_, ?_⟩ | intro _)
       all_goals first | (with_reducible apply qq) | (conv => whnf)
       all_goals first | (exact absurd (hne.symm.trans ‹_ = false›) (by decide)) | (exact absurd (hgt.symm.trans ‹_ = false›) (by decide)) | skip
       all_goals (try simp only [hw1, hw2, hw3, Int.toNat_natCast, hgF, if_pos hq])
       all_goals first | rfl | omega | (dsimp only; omega) | (exact hR) | (exact congrArg (Value.int .i64) (by first | (rw [wI_id _ (by omega) (by omega)]; omega) | omega | (dsimp only; omega)))
 . cases h
section
variable {α : Type} [Inhabited α] {lt : α → α → Bool}
theorem std_iff {g : Nat -> α} {a b : Nat} : Std lt (seg g a b) ↔ ∀ i j, a <= i -> i < j -> j < b -> lt (g j) (g i) = false := by
 unfold Std
 rw [List.pairwise_iff_getElem]
 constructor
 . intro h i j h1 h2 h3
   have := h (i - a) (j - a) (by rw [seg_length]; omega) (by rw [seg_length]; omega) (by omega)
   have e1 : (seg g a b)[i - a]? = some (g i) := by rw [seg_get (by omega)]; congr 2; omega
   have e2 : (seg g a b)[j - a]? = some (g j) := by rw [seg_get (by omega)]; congr 2; omega
   rw [List.getElem_of_getElem? e1 |>.2, List.getElem_of_getElem? e2 |>.2] at this
   exact this
 . intro h i j hi hj hij
   rw [seg_length] at hi hj
   have e1 : (seg g a b)[i]? = some (g (a + i)) := seg_get hi
   have e2 : (seg g a b)[j]? = some (g (a + j)) := seg_get hj
   rw [List.getElem_of_getElem? e1 |>.2, List.getElem_of_getElem? e2 |>.2]
   exact h _ _ (by omega) (by omega) (by omega)
theorem std_sub {g : Nat -> α} {a b a' b' : Nat} (h : Std lt (seg g a b)) (h1 : a <= a') (h2 : b' <= b) : Std lt (seg g a' b') :=
 std_iff.2 fun i j x y z => std_iff.1 h i j (by omega) y (by omega)
theorem Wk.irr (h : Wk lt) (x : α) : lt x x = false := by
 cases hx : lt x x with
 | false => rfl
 | true => have := h.asymm _ _ hx; rw [hx] at this; exact this
theorem std_le (h : Wk lt) {g : Nat -> α} {a b i j : Nat} (hs : Std lt (seg g a b)) (h1 : a <= i) (h2 : i <= j) (h3 : j < b) : lt (g j) (g i) = false := by
 rcases Nat.lt_or_ge i j with h4 | h4
 . exact std_iff.1 hs i j h1 h4 h3
 . have : i = j := by omega
   subst this; exact h.irr _
theorem Wk.lt1 (h : Wk lt) {x y z : α} (h1 : lt y x = false) (h2 : lt y z = true) : lt x z = true := by
 cases hx : lt x z with
 | true => rfl
 | false => rw [h.trans z x y hx h1] at h2; cases h2
theorem Wk.lt2 (h : Wk lt) {x y z : α} (h1 : lt z y = false) (h2 : lt x y = true) : lt x z = true := by
 cases hx : lt x z with
 | true => rfl
 | false => rw [h.trans y z x h1 hx] at h2; cases h2
theorem Wk.le1 (h : Wk lt) {x y z : α} (h1 : lt z y = false) (h2 : lt y x = false) : lt z x = false := h.trans x y z h2 h1
theorem one_fin {g : Nat -> α} {a i b : Nat} (h1 : a + 1 <= i) (h2 : i <= b) (h3 : ∀ k, a + 1 <= k -> k < i -> lt (g k) (g a) = true) (h4 : ∀ k, i <= k -> k < b -> lt (g k) (g a) = false) :
 mg lt (seg g a (a + 1)) (seg g (a + 1) b) = seg g (a + 1) i ++ g a :: seg g i b := by
 rw [seg_one, seg_app g h1 h2]
 refine mg_one _ _ _ ?_ ?_
 . intro y hy
   obtain ⟨k, k1, k2, rfl⟩ := mem_seg.1 hy
   exact h3 k k1 k2
 . intro y hy
   obtain ⟨k, k1, k2, rfl⟩ := mem_seg.1 hy
   exact h4 k k1 k2
theorem one_start (g : Nat -> α) {a b : Nat} (h : a < b) : put g a (seg g (a + 1) (a + 1) ++ g a :: seg g (a + 1) b) = g := by
 rw [seg_nil g (Nat.le_refl _), List.nil_append, <- seg_cons g h, put_seg]
theorem one_step (g : Nat -> α) {a k b : Nat} (h : a <= k) (hk : k + 1 < b) : swp (put g a (seg g (a + 1) (k + 1) ++ g a :: seg g (k + 1) b)) k (k + 1) = put g a (seg g (a + 1) (k + 1 + 1) ++ g a :: seg g (k + 1 + 1) b) := by
 have hl : a + (seg g (a + 1) (k + 1)).length = k := by rw [seg_length]; omega
 have := put_swp g a (seg g (a + 1) (k + 1)) (g a) (g (k + 1)) (seg g (k + 1 + 1) b)
 rw [hl] at this
 rw [seg_cons g hk, this, seg_snoc g (by omega : a + 1 <= k + 1), List.append_assoc]; rfl
theorem last_fin {g : Nat -> α} {a i m : Nat} (h1 : a <= i) (h2 : i <= m) (h3 : ∀ k, a <= k -> k < i -> lt (g m) (g k) = false) (h4 : ∀ k, i <= k -> k < m -> lt (g m) (g k) = true) :
 mg lt (seg g a m) (seg g m (m + 1)) = seg g a i ++ g m :: seg g i m := by
 rw [seg_one, seg_app g h1 h2]
 refine mg_last _ _ _ ?_ ?_
 . intro y hy
   obtain ⟨k, k1, k2, rfl⟩ := mem_seg.1 hy
   exact h3 k k1 k2
 . intro y hy
   obtain ⟨k, k1, k2, rfl⟩ := mem_seg.1 hy
   exact h4 k k1 k2
theorem last_start (g : Nat -> α) {a m : Nat} (h : a <= m) : put g a (seg g a m ++ g m :: seg g m m) = g := by
 rw [seg_nil g (Nat.le_refl _), <- seg_snoc g h, put_seg]
theorem last_step (g : Nat -> α) {a k m : Nat} (h : a <= k) (hk : k + 1 <= m) : swp (put g a (seg g a (k + 1) ++ g m :: seg g (k + 1) m)) (k + 1) k = put g a (seg g a k ++ g m :: seg g k m) := by
 have hl : a + (seg g a k).length = k := by rw [seg_length]; omega
 have := put_swp g a (seg g a k) (g k) (g m) (seg g (k + 1) m)
 rw [hl] at this
 rw [swp_comm, seg_snoc g h, List.append_assoc]
 show swp (put g a (seg g a k ++ g k :: g m :: seg g (k + 1) m)) k (k + 1) = _
 rw [this, <- seg_cons g (by omega : k < m)]
theorem put2 {g H : Nat -> α} {a mid b : Nat} {u v : List α} (hH : ∀ k, k < a \/ b <= k -> H k = g k) (hu : u.length = mid - a) (hv : v.length = b - mid) (h1 : a <= mid) (h2 : mid <= b) : put (put H a u) mid v = put g a (u ++ v) := by
 funext k
 unfold put
 rw [List.length_append]
 by_cases c1 : mid <= k /\ k < mid + v.length
 . rw [if_pos c1, if_pos (by omega), List.getD_eq_getElem?_getD, List.getD_eq_getElem?_getD, List.getElem?_append_right (by omega)]
   congr 2; omega
 . rw [if_neg c1]
   by_cases c2 : a <= k /\ k < a + u.length
   . rw [if_pos c2, if_pos (by omega), List.getD_eq_getElem?_getD, List.getD_eq_getElem?_getD, List.getElem?_append_left (by omega)]
   . rw [if_neg c2, if_neg (by omega), hH k (by omega)]
theorem rot_id (g : Nat -> α) {s m e : Nat} (h1 : s <= m) (h2 : m <= e) (h : ¬ (s < m /\ m < e)) : rot g s m e = g := by
 funext k; unfold rot
 split
 . congr 1; omega
 . split
   . congr 1; omega
   . rfl
theorem put_id (g : Nat -> α) {a s m : Nat} (h1 : a <= s) (h2 : s <= m) (h : ¬ (a < s /\ s < m)) : put g a (mg lt (seg g a s) (seg g s m)) = g := by
 have : mg lt (seg g a s) (seg g s m) = seg g a m := by
  rw [seg_app g h1 h2]
  rcases (by omega : s = a \/ s = m) with rfl | rfl
  . rw [seg_nil g (Nat.le_refl _), mg_nil]; rfl
  . rw [seg_nil g (Nat.le_refl s), mg_right, List.append_nil]
 rw [this, put_seg]
theorem sym_segs (g : Nat -> α) {a m b s e mid : Nat} (h1 : a <= s) (h2 : s <= m) (h3 : m <= e) (h4 : e <= b) (he : e + s = mid + m) :
 seg (rot g s m e) a s = seg g a s /\ seg (rot g s m e) s mid = seg g m e /\ seg (rot g s m e) mid e = seg g s m /\ seg (rot g s m e) e b = seg g e b := by
 have hm : s + (e - m) = mid := by omega
 refine ⟨?_, ?_, ?_, ?_⟩
 . exact seg_eq fun k _ hk => rot_out g h2 h3 (.inl hk)
 . have := seg_rot1 g h2 h3; rw [hm] at this; exact this
 . have := seg_rot2 g h2 h3; rw [hm] at this; exact this
 . exact seg_eq fun k hk _ => rot_out g h2 h3 (.inr hk)
theorem sym_mg (h : Wk lt) (g : Nat -> α) {a m b s e : Nat} (h1 : a <= s) (h2 : s <= m) (h3 : m <= e) (h4 : e <= b) (k1 : Std lt (seg g a m)) (k2 : Std lt (seg g m b))
 (hs : a < s -> e < b -> lt (g e) (g (s - 1)) = false) (ht : s < m -> m < e -> lt (g (e - 1)) (g s) = true) :
 mg lt (seg g a m) (seg g m b) = mg lt (seg g a s) (seg g m e) ++ mg lt (seg g s m) (seg g e b) := by
 rw [seg_app g h1 h2, seg_app g h3 h4]
 refine mg_split _ _ _ _ ?_ ?_
 . intro x hx y hy
   obtain ⟨i, i1, i2, rfl⟩ := mem_seg.1 hx
   obtain ⟨j, j1, j2, rfl⟩ := mem_seg.1 hy
   have e1 := std_le h k1 i1 (by omega : i <= s - 1) (by omega)
   have e2 := std_le h k2 h3 j1 j2
   exact h.le1 e2 (h.le1 (hs (by omega) (by omega)) e1)
 . intro y hy x hx
   obtain ⟨i, i1, i2, rfl⟩ := mem_seg.1 hx
   obtain ⟨j, j1, j2, rfl⟩ := mem_seg.1 hy
   have e1 := std_le h k1 h1 i1 i2
   have e2 := std_le h k2 j1 (by omega : j <= e - 1) (by omega)
   exact h.lt2 e1 (h.lt1 e2 (ht (by omega) (by omega)))
theorem sym_fin (h : Wk lt) (g : Nat -> α) {a m b s e mid : Nat} (h1 : a <= s) (h2 : s <= m) (h3 : m <= e) (h4 : e <= b) (he : e + s = mid + m) (k1 : Std lt (seg g a m)) (k2 : Std lt (seg g m b))
 (hs : a < s -> e < b -> lt (g e) (g (s - 1)) = false) (ht : s < m -> m < e -> lt (g (e - 1)) (g s) = true) :
 ∀ H1 H2 H3, H1 = rot g s m e -> H2 = put H1 a (mg lt (seg H1 a s) (seg H1 s mid)) -> H3 = put H2 mid (mg lt (seg H2 mid e) (seg H2 e b)) -> H3 = put g a (mg lt (seg g a m) (seg g m b)) := by
 rintro H1 H2 H3 rfl rfl rfl
 obtain ⟨q1, q2, q3, q4⟩ := sym_segs g h1 h2 h3 h4 he
 rw [q1, q2]
 have hl : (mg lt (seg g a s) (seg g m e)).length = mid - a := by rw [mg_length, seg_length, seg_length]; omega
 have r3 : seg (put (rot g s m e) a (mg lt (seg g a s) (seg g m e))) mid e = seg g s m := by
  rw [<- q3]; exact seg_eq fun k hk _ => put_out (.inr (by omega))
 have r4 : seg (put (rot g s m e) a (mg lt (seg g a s) (seg g m e))) e b = seg g e b := by
  rw [<- q4]; exact seg_eq fun k hk _ => put_out (.inr (by omega))
 rw [r3, r4, sym_mg h g h1 h2 h3 h4 k1 k2 hs ht]
 refine put2 (b := b) (fun k hk => rot_out g h2 h3 (by omega)) hl (by rw [mg_length, seg_length, seg_length]; omega) (by omega) (by omega)
theorem std_rot1 (g : Nat -> α) {a m b s e mid : Nat} (h1 : a <= s) (h2 : s <= m) (h3 : m <= e) (h4 : e <= b) (he : e + s = mid + m) (k1 : Std lt (seg g a m)) (k2 : Std lt (seg g m b)) :
 ∀ H1, H1 = rot g s m e -> Std lt (seg H1 a s) /\ Std lt (seg H1 s mid) /\ ∀ u : List α, u.length = mid - a -> Std lt (seg (put H1 a u) mid e) /\ Std lt (seg (put H1 a u) e b) := by
 rintro H1 rfl
 obtain ⟨q1, q2, q3, q4⟩ := sym_segs g h1 h2 h3 h4 he
 refine ⟨q1 ▸ std_sub k1 (Nat.le_refl _) h2, q2 ▸ std_sub k2 (Nat.le_refl _) h4, fun u hu => ⟨?_, ?_⟩⟩
 . have : seg (put (rot g s m e) a u) mid e = seg g s m := by rw [<- q3]; exact seg_eq fun k hk _ => put_out (.inr (by omega))
   rw [this]; exact std_sub k1 h1 (Nat.le_refl _)
 . have : seg (put (rot g s m e) a u) e b = seg g e b := by rw [<- q4]; exact seg_eq fun k hk _ => put_out (.inr (by omega))
   rw [this]; exact std_sub k2 h3 (Nat.le_refl _)
end
theorem hlf {x y : Nat} (h : x + y < 9223372036854775808) : IntKind.wrap .i64 ((IntKind.wrap .u64 (IntKind.wrap .i64 ((x : Int) + (y : Int)))).fdiv (2 ^ min (Int.toNat 1) (IntKind.bits .u64))) = (((x + y) / 2 : Nat) : Int) := by
 have e1 : IntKind.wrap .i64 ((x : Int) + (y : Int)) = ((x + y : Nat) : Int) := by rw [wI_id _ (by omega) (by omega)]; omega
 have e2 : IntKind.wrap .u64 ((x + y : Nat) : Int) = ((x + y : Nat) : Int) := by
  simp [IntKind.wrap, IntKind.signed, IntKind.bits]
  omega
 have e3 : (2 : Int) ^ min (Int.toNat 1) (IntKind.bits .u64) = 2 := by decide
 rw [e1, e2, e3]
 have e4 : (((x + y : Nat) : Int)).fdiv 2 = (((x + y) / 2 : Nat) : Int) := by
  rw [Int.fdiv_eq_ediv_of_nonneg _ (by omega)]; omega
 rw [e4, wI_id _ (by omega) (by omega)]
def FSym (M : Nat) : List Ar -> Option Rs
 | [.c (.ow 9 n0 f0), .c (.d (.v (.int .i64 i1))), .c (.d (.v (.int .i64 i2))), .c (.d (.v (.int .i64 i3))), .fv g4] => some ⟨(n0 <= 1099511627776 /\ ∀ i, i < n0 -> rowSB (f0 i)) /\ (-9223372036854775808 <= i1 /\ i1 < 9223372036854775808) /\ (-9223372036854775808 <= i2 /\ i2 < 9223372036854775808) /\ (-9223372036854775808 <= i3 /\ i3 < 9223372036854775808) /\ ((0 <= i1 /\ i1 < i2 /\ i2 < i3 /\ i3 <= n0) /\ g4 = gLess /\ Std ltB (seg (gF f0) (i1).toNat (i2).toNat) /\ Std ltB (seg (gF f0) (i2).toNat (i3).toNat) /\ (i3).toNat - (i1).toNat < M), .tup [], [some fun k => bdC (put (gF f0) (i1).toNat (mg ltB (seg (gF f0) (i1).toNat (i2).toNat) (seg (gF f0) (i2).toNat (i3).toNat)) k)]⟩
 | _ => none
abbrev pl1P : Plan := .take 0 (.take 1 (.take 2 (.take 3 (.take 4 (.take 5 (.take 6 (.take 7 (.take 8 (.take 10 (.take 11 (.take 12 (.all [(9, .all [(13, .take 14 (.all [(15, .take 16 (.all [(17, .done)]))]))]), (13, .all [(9, .take 14 (.all [(15, .take 16 (.all [(17, .done)]))]))])]))))))))))))
theorem fcSym : ∀ M, FC Tryz.prog 203 (FSym M) := by
 intro M
 induction M with
 | zero =>
   intro xs pre r us h hp
   unfold FSym at h
   split at h
   . cases h; exact absurd hp.2.2.2.2.2.2.2.2 (Nat.not_lt_zero _)
   . cases h
 | succ M ih =>
   intro xs pre r us h hp
   unfold FSym at h
   split at h
   . rename_i n0 f0 i1 i2 i3 g4
     cases h
     obtain ⟨hp0, hp1, hp2, hp3, hp4⟩ := hp
     refine FCat.deep (ys := [.c (.ow 9 n0 fun k => bdC (gF f0 k)), .c (.d (.v (.int .i64 i1))), .c (.d (.v (.int .i64 i2))), .c (.d (.v (.int .i64 i3))), .fv g4]) ?_ ?_
     . repeat' (first | exact trivial | exact rfl | exact DvE.refl _ | refine ⟨?_, ?_⟩ | fail)
       all_goals first | exact (canonF hp0.2).2.2
     refine fcat tys_ok (l := [(212, ⟨[true], FRot⟩), (203, ⟨[true], (FSym M)⟩)]) ⟨fcRot, ih, trivial⟩ Tryz.func203 rfl (by kernel_rfl) false ?_
     obtain ⟨⟨ha, ham, hmb, hb⟩, rfl, hs1, hs2, hM⟩ := hp4
     obtain ⟨a, rfl⟩ := Int.eq_ofNat_of_zero_le ha
     obtain ⟨m, rfl⟩ := Int.eq_ofNat_of_zero_le (Int.le_trans ha (Int.le_of_lt ham))
     obtain ⟨b, rfl⟩ := Int.eq_ofNat_of_zero_le (Int.le_trans (Int.natCast_nonneg m) (Int.le_of_lt hmb))
     have hn := hp0.1
     clear hp0
     generalize gF f0 = G at *
     simp only [Int.toNat_natCast] at *
     repeat' (first | exact trivial | refine ⟨?_, ?_⟩ | intro _)
     all_goals first | (with_reducible apply qq) | (conv => whnf)
     . obtain rfl : m = a + 1 := by have := eq_of_beq ‹(_ == (1 : Int)) = true›; rw [wI_id _ (by omega) (by omega)] at this; omega
       refine loop_ok tys_ok (l := [(212, ⟨[true], FRot⟩), (203, ⟨[true], (FSym M)⟩)]) ⟨fcRot, ih, trivial⟩ (by kernel_rfl) (X := Nat × Nat)
        (fun x => ⟨[(10, vx (.int .i64 x.1)), (11, vx (.int .i64 x.2)), (0, .va (.c (.osl 0 9 0 n0))), (1, vx (.int .i64 a)), (2, vx (.int .i64 (a + 1 : Nat))), (3, vx (.int .i64 b)), (4, .va (.c (.fv gLess)))], [(0, .row 9 n0 fun k => bdC (G k))], 1, 220⟩)
        (fun x => x.2 - x.1) (fun x => a + 1 <= x.1 /\ x.1 <= x.2 /\ x.2 <= b /\ (∀ k, a + 1 <= k -> k < x.1 -> ltB (G k) (G a) = true) /\ (∀ k, x.2 <= k -> k < b -> ltB (G k) (G a) = false)) [] []
        (fun x _ _ => if ltB (G ((x.1 + x.2) / 2)) (G a) = true then ((x.1 + x.2) / 2 + 1, x.2) else (x.1, (x.1 + x.2) / 2)) [0] [0] 0 0 (a + 1, b) ?_ ?_ ?_
       . exact ⟨Nat.le_refl _, by show a + 1 <= b; omega, Nat.le_refl _, fun k h1 h2 => absurd h1 (Nat.not_le_of_lt h2), fun k h1 h2 => absurd h1 (Nat.not_le_of_lt h2)⟩
       . repeat' (first | exact trivial | exact rfl | (intro _ _; exact rfl) | refine ⟨?_, ?_⟩ | fail)
       . rintro ⟨i, j⟩ ⟨k1, k2, k3, k4, k5⟩
         dsimp only at k1 k2 k3 k4 k5
         rcases Nat.lt_or_ge i j with hij | hij
         . have hne : decide ((i : Int) < (j : Int)) = true := decide_eq_true (by omega)
           have hh : IntKind.wrap .i64 ((IntKind.wrap .u64 (IntKind.wrap .i64 ((i : Int) + (j : Int)))).fdiv (2 ^ min (Int.toNat 1) (IntKind.bits .u64))) = (((i + j) / 2 : Nat) : Int) := hlf (by omega)
           have hq1 : i <= (i + j) / 2 := by omega
           have hq2 : (i + j) / 2 < j := by omega
           generalize hq : (i + j) / 2 = q at *
           cases hc : ltB (G q) (G a) with
           | true =>
             repeat' (first | exact trivial | refine ⟨?_, ?_⟩ | intro _)
             all_goals first | (with_reducible apply qq) | (conv => whnf)
             all_goals first | (exact absurd (hne.symm.trans ‹_ = false›) (by decide)) | skip
             all_goals first | (have hd := ‹decide (cfL _ _ < 0) = false›; simp only [hh, Int.toNat_natCast, Nat.zero_add] at hd; exact absurd (hc.symm.trans hd) (by decide)) | skip
             all_goals (try simp only [hh, hq, hc, if_true, Int.toNat_natCast, Nat.zero_add])
             all_goals first | rfl | omega | (dsimp only; omega) | (exact congrArg (Value.int .i64) (by first | (rw [wI_id _ (by omega) (by omega)]; omega) | omega | (dsimp only; omega))) | (rename_i kk h1 h2; simp only [hq, hc, if_true] at h1 h2; first | exact k4 _ h1 h2 | exact k5 _ h1 h2 | exact wkB.lt1 (std_le wkB hs2 (by omega) (by omega) (by omega)) hc)
           | false =>
             repeat' (first | exact trivial | refine ⟨?_, ?_⟩ | intro _)
             all_goals first | (with_reducible apply qq) | (conv => whnf)
             all_goals first | (exact absurd (hne.symm.trans ‹_ = false›) (by decide)) | skip
             all_goals first | (have hd := ‹decide (cfL _ _ < 0) = true›; simp only [hh, Int.toNat_natCast, Nat.zero_add] at hd; exact absurd (hc.symm.trans hd) (by decide)) | skip
             all_goals (try simp only [hh, hq, hc, if_false, Bool.false_eq_true, Int.toNat_natCast, Nat.zero_add])
             all_goals first | rfl | omega | (dsimp only; omega) | (exact congrArg (Value.int .i64) (by first | (rw [wI_id _ (by omega) (by omega)]; omega) | omega | (dsimp only; omega))) | (rename_i kk h1 h2; simp only [hq, hc, if_false, Bool.false_eq_true] at h1 h2; first | exact k4 _ h1 h2 | exact k5 _ h1 h2 | exact wkB.le1 (std_le wkB hs2 (by omega) (by omega) (by omega)) hc)
         . have hne : decide ((i : Int) < (j : Int)) = false := decide_eq_false (by omega)
           obtain rfl : i = j := by omega
           repeat' (first | exact trivial | refine ⟨?_, ?_⟩ | intro _)
           all_goals first | (with_reducible apply qq) | (conv => whnf)
           all_goals first | (exact absurd (hne.symm.trans ‹_ = true›) (by decide)) | skip
           refine loop_ok tys_ok (l := [(212, ⟨[true], FRot⟩), (203, ⟨[true], (FSym M)⟩)]) ⟨fcRot, ih, trivial⟩ (by kernel_rfl) (X := Nat)
            (fun k => ⟨[(13, vx (.int .i64 k)), (10, vx (.int .i64 i)), (0, .va (.c (.osl 0 9 0 n0))), (1, vx (.int .i64 a)), (2, vx (.int .i64 (a + 1 : Nat))), (3, vx (.int .i64 b)), (4, .va (.c (.fv gLess)))], [(0, .row 9 n0 fun x => bdC (put G a (seg G (a + 1) (k + 1) ++ G a :: seg G (k + 1) b) x))], 1, 220⟩)
            (fun k => i - k) (fun k => a <= k /\ k + 1 <= i) [] [] (fun k _ _ => k + 1) [0] [0] 0 0 a ?_ ?_ ?_
           . exact ⟨Nat.le_refl _, k1⟩
           . rw [one_start G (by omega : a < b)]
             repeat' (first | exact trivial | exact rfl | (intro _ _; exact rfl) | refine ⟨?_, ?_⟩ | fail)
           . rintro k ⟨q1, q2⟩
             have hw : IntKind.wrap .i64 ((i : Int) - 1) = ((i - 1 : Nat) : Int) := by rw [wI_id _ (by omega) (by omega)]; omega
             have hw2 : IntKind.wrap .i64 ((k : Int) + 1) = ((k + 1 : Nat) : Int) := by rw [wI_id _ (by omega) (by omega)]; omega
             rcases Nat.lt_or_ge k (i - 1) with hki | hki
             . have hne : decide ((k : Int) < IntKind.wrap .i64 ((i : Int) - 1)) = true := by rw [hw]; exact decide_eq_true (by omega)
               repeat' (first | exact trivial | refine ⟨?_, ?_⟩ | intro _)
               all_goals first | (with_reducible apply qq) | (conv => whnf)
               all_goals first | (exact absurd (hne.symm.trans ‹_ = false›) (by decide)) | skip
               all_goals first | ((with_reducible show ASat _ _ _ _ _); refine draw_plan tys_ok (l := [(212, ⟨[true], FRot⟩), (203, ⟨[true], (FSym M)⟩)]) ⟨fcRot, ih, trivial⟩ (by kernel_rfl) pl1P (by kernel_rfl) ?_) | skip
               all_goals repeat' (first | exact trivial | refine ⟨?_, ?_⟩ | intro _)
               all_goals first | (with_reducible apply qq) | (conv => whnf)
               all_goals (try simp only [hw, hw2, Int.toNat_natCast, Nat.zero_add])
               all_goals (try rw [setRow_at, if_neg (by omega)])
               all_goals repeat' (first | exact trivial | refine ⟨?_, ?_⟩ | intro _)
               all_goals first | (with_reducible apply qq) | (conv => whnf)
               all_goals (try simp only [hw, hw2, Int.toNat_natCast, Nat.zero_add])
               all_goals first | rfl | omega | (dsimp only; omega) | (exact congrArg (Value.int .i64) (by first | (rw [wI_id _ (by omega) (by omega)]; omega) | omega | (dsimp only; omega))) | (exact row_swp rfl rfl (one_step G (by omega) (by omega)) _)
             . have hne : decide ((k : Int) < IntKind.wrap .i64 ((i : Int) - 1)) = false := by rw [hw]; exact decide_eq_false (by omega)
               obtain rfl : i = k + 1 := by omega
               repeat' (first | exact trivial | refine ⟨?_, ?_⟩ | intro _)
               all_goals first | (with_reducible apply qq) | (conv => whnf)
               all_goals first | (exact absurd (hne.symm.trans ‹_ = true›) (by decide)) | skip
               all_goals first | exact Nat.le_refl _ | (rw [one_fin k1 k3 k4 k5])
     . obtain rfl : b = m + 1 := by have := eq_of_beq ‹(IntKind.wrap .i64 ((b : Int) - (m : Int)) == (1 : Int)) = true›; rw [wI_id _ (by omega) (by omega)] at this; omega
       refine loop_ok tys_ok (l := [(212, ⟨[true], FRot⟩), (203, ⟨[true], (FSym M)⟩)]) ⟨fcRot, ih, trivial⟩ (by kernel_rfl) (X := Nat × Nat)
        (fun x => ⟨[(14, vx (.int .i64 x.1)), (15, vx (.int .i64 x.2)), (0, .va (.c (.osl 0 9 0 n0))), (1, vx (.int .i64 a)), (2, vx (.int .i64 m)), (3, vx (.int .i64 (m + 1 : Nat))), (4, .va (.c (.fv gLess)))], [(0, .row 9 n0 fun k => bdC (G k))], 1, 220⟩)
        (fun x => x.2 - x.1) (fun x => a <= x.1 /\ x.1 <= x.2 /\ x.2 <= m /\ (∀ k, a <= k -> k < x.1 -> ltB (G m) (G k) = false) /\ (∀ k, x.2 <= k -> k < m -> ltB (G m) (G k) = true)) [] []
        (fun x _ _ => if ltB (G m) (G ((x.1 + x.2) / 2)) = true then (x.1, (x.1 + x.2) / 2) else ((x.1 + x.2) / 2 + 1, x.2)) [0] [0] 0 0 (a, m) ?_ ?_ ?_
       . exact ⟨Nat.le_refl _, by show a <= m; omega, Nat.le_refl _, fun k h1 h2 => absurd h1 (Nat.not_le_of_lt h2), fun k h1 h2 => absurd h1 (Nat.not_le_of_lt h2)⟩
       . repeat' (first | exact trivial | exact rfl | (intro _ _; exact rfl) | refine ⟨?_, ?_⟩ | fail)
       . rintro ⟨i, j⟩ ⟨k1, k2, k3, k4, k5⟩
         dsimp only at k1 k2 k3 k4 k5
         rcases Nat.lt_or_ge i j with hij | hij
         . have hne : decide ((i : Int) < (j : Int)) = true := decide_eq_true (by omega)
           have hh : IntKind.wrap .i64 ((IntKind.wrap .u64 (IntKind.wrap .i64 ((i : Int) + (j : Int)))).fdiv (2 ^ min (Int.toNat 1) (IntKind.bits .u64))) = (((i + j) / 2 : Nat) : Int) := hlf (by omega)
           have hq1 : i <= (i + j) / 2 := by omega
           have hq2 : (i + j) / 2 < j := by omega
           generalize hq : (i + j) / 2 = q at *
           cases hc : ltB (G m) (G q) with
           | true =>
             repeat' (first | exact trivial | refine ⟨?_, ?_⟩ | intro _)
             all_goals first | (with_reducible apply qq) | (conv => whnf)
             all_goals first | (exact absurd (hne.symm.trans ‹_ = false›) (by decide)) | skip
             all_goals first | (have hd := ‹(!decide (cfL _ _ < 0)) = true›; simp only [hh, Int.toNat_natCast, Nat.zero_add] at hd; exact absurd ((congrArg not hc).symm.trans hd) (by decide)) | skip
             all_goals (try simp only [hh, hq, hc, if_true, Int.toNat_natCast, Nat.zero_add])
             all_goals first | rfl | omega | (dsimp only; omega) | (exact congrArg (Value.int .i64) (by first | (rw [wI_id _ (by omega) (by omega)]; omega) | omega | (dsimp only; omega))) | (rename_i kk h1 h2; simp only [hq, hc, if_true] at h1 h2; first | exact k4 _ h1 h2 | exact k5 _ h1 h2 | exact wkB.lt2 (std_le wkB hs1 (by omega) (by omega) (by omega)) hc)
           | false =>
             repeat' (first | exact trivial | refine ⟨?_, ?_⟩ | intro _)
             all_goals first | (with_reducible apply qq) | (conv => whnf)
             all_goals first | (exact absurd (hne.symm.trans ‹_ = false›) (by decide)) | skip
             all_goals first | (have hd := ‹(!decide (cfL _ _ < 0)) = false›; simp only [hh, Int.toNat_natCast, Nat.zero_add] at hd; exact absurd ((congrArg not hc).symm.trans hd) (by decide)) | skip
             all_goals (try simp only [hh, hq, hc, if_false, Bool.false_eq_true, Int.toNat_natCast, Nat.zero_add])
             all_goals first | rfl | omega | (dsimp only; omega) | (exact congrArg (Value.int .i64) (by first | (rw [wI_id _ (by omega) (by omega)]; omega) | omega | (dsimp only; omega))) | (rename_i kk h1 h2; simp only [hq, hc, if_false, Bool.false_eq_true] at h1 h2; first | exact k4 _ h1 h2 | exact k5 _ h1 h2 | exact wkB.le1 hc (std_le wkB hs1 (by omega) (by omega) (by omega)))
         . have hne : decide ((i : Int) < (j : Int)) = false := decide_eq_false (by omega)
           obtain rfl : i = j := by omega
           repeat' (first | exact trivial | refine ⟨?_, ?_⟩ | intro _)
           all_goals first | (with_reducible apply qq) | (conv => whnf)
           all_goals first | (exact absurd (hne.symm.trans ‹_ = true›) (by decide)) | skip
           refine loop_ok tys_ok (l := [(212, ⟨[true], FRot⟩), (203, ⟨[true], (FSym M)⟩)]) ⟨fcRot, ih, trivial⟩ (by kernel_rfl) (X := Nat)
            (fun k => ⟨[(17, vx (.int .i64 k)), (14, vx (.int .i64 i)), (0, .va (.c (.osl 0 9 0 n0))), (1, vx (.int .i64 a)), (2, vx (.int .i64 m)), (3, vx (.int .i64 (m + 1 : Nat))), (4, .va (.c (.fv gLess)))], [(0, .row 9 n0 fun x => bdC (put G a (seg G a k ++ G m :: seg G k m) x))], 1, 220⟩)
            (fun k => k - i) (fun k => i <= k /\ k <= m) [] [] (fun k _ _ => k - 1) [0] [0] 0 0 m ?_ ?_ ?_
           . exact ⟨k3, Nat.le_refl _⟩
           . rw [last_start G (by omega : a <= m)]
             repeat' (first | exact trivial | exact rfl | (intro _ _; exact rfl) | refine ⟨?_, ?_⟩ | fail)
           . rintro k ⟨q1, q2⟩
             rcases Nat.lt_or_ge i k with hki | hki
             . obtain ⟨p, rfl⟩ : ∃ p, k = p + 1 := ⟨k - 1, by omega⟩
               have hw : IntKind.wrap .i64 (((p + 1 : Nat) : Int) - 1) = (p : Int) := by rw [wI_id _ (by omega) (by omega)]; omega
               have hne : decide (((p + 1 : Nat) : Int) > (i : Int)) = true := decide_eq_true (by omega)
               repeat' (first | exact trivial | refine ⟨?_, ?_⟩ | intro _)
               all_goals first | (with_reducible apply qq) | (conv => whnf)
               all_goals first | (exact absurd (hne.symm.trans ‹_ = false›) (by decide)) | skip
               all_goals first | ((with_reducible show ASat _ _ _ _ _); refine draw_plan tys_ok (l := [(212, ⟨[true], FRot⟩), (203, ⟨[true], (FSym M)⟩)]) ⟨fcRot, ih, trivial⟩ (by kernel_rfl) pl1P (by kernel_rfl) ?_) | skip
               all_goals repeat' (first | exact trivial | refine ⟨?_, ?_⟩ | intro _)
               all_goals first | (with_reducible apply qq) | (conv => whnf)
               all_goals (try simp only [hw, Int.toNat_natCast, Nat.zero_add])
               all_goals (try rw [setRow_at, if_neg (by omega)])
               all_goals repeat' (first | exact trivial | refine ⟨?_, ?_⟩ | intro _)
               all_goals first | (with_reducible apply qq) | (conv => whnf)
               all_goals (try simp only [hw, Int.toNat_natCast, Nat.zero_add, Nat.add_sub_cancel])
               all_goals first | rfl | omega | (dsimp only; omega) | (exact congrArg (Value.int .i64) (by first | (rw [wI_id _ (by omega) (by omega)]; omega) | omega | (dsimp only; omega))) | (exact row_swp rfl rfl (last_step G (by omega) (by omega)) _)
             . obtain rfl : i = k := by omega
               have hne : decide ((i : Int) > (i : Int)) = false := decide_eq_false (by omega)
               repeat' (first | exact trivial | refine ⟨?_, ?_⟩ | intro _)
               all_goals first | (with_reducible apply qq) | (conv => whnf)
               all_goals first | (exact absurd (hne.symm.trans ‹_ = true›) (by decide)) | skip
               all_goals first | exact Nat.le_refl _ | (rw [last_fin k1 k3 k4 k5])
     . obtain ⟨mid, hmid0⟩ : ∃ mid, mid = (a + b) / 2 := ⟨_, rfl⟩
       have hmid : IntKind.wrap .i64 ((IntKind.wrap .u64 (IntKind.wrap .i64 ((a : Int) + (b : Int)))).fdiv (2 ^ min (Int.toNat 1) (IntKind.bits .u64))) = (mid : Int) := by rw [hlf (by omega), hmid0]
       have hm2 : a + 2 <= m /\ m + 2 <= b := by
        have h1 := ne_of_beq_false ‹(IntKind.wrap .i64 ((m : Int) - (a : Int)) == (1 : Int)) = false›
        have h2 := ne_of_beq_false ‹(IntKind.wrap .i64 ((b : Int) - (m : Int)) == (1 : Int)) = false›
        rw [wI_id _ (by omega) (by omega)] at h1 h2
        omega
       have hm1 : a < mid /\ mid < b /\ 2 * mid <= a + b /\ a + b <= 2 * mid + 1 := by omega
       clear hmid0
       have hwn : IntKind.wrap .i64 ((mid : Int) + (m : Int)) = ((mid + m : Nat) : Int) := by rw [wI_id _ (by omega) (by omega)]; omega
       have hwp : IntKind.wrap .i64 (((mid + m : Nat) : Int) - 1) = ((mid + m - 1 : Nat) : Int) := by rw [wI_id _ (by omega) (by omega)]; omega
       have hwl : IntKind.wrap .i64 (((mid + m : Nat) : Int) - (b : Int)) = ((mid + m : Nat) : Int) - (b : Int) := by rw [wI_id _ (by omega) (by omega)]
       have hx := of_decide_eq_true ‹decide ((m : Int) > _) = true›
       rw [hmid] at hx
       have hlh : a <= (mid + m - b) /\ (mid + m - b) <= mid /\ mid <= mid /\ mid <= m /\ mid + m - (mid + m - b) <= b /\ ((mid + m - b) = a \/ mid + m - (mid + m - b) = b) /\ (mid = mid \/ mid = m) := by
        omega
       refine loop_ok tys_ok (l := [(212, ⟨[true], FRot⟩), (203, ⟨[true], (FSym M)⟩)]) ⟨fcRot, ih, trivial⟩ (by kernel_rfl) (X := Nat × Nat)
        (fun x => ⟨[(20, vx (.int .i64 x.1)), (21, vx (.int .i64 x.2)), (22, vx (.int .i64 (mid + m - 1 : Nat))), (18, vx (.int .i64 mid)), (19, vx (.int .i64 (mid + m : Nat))), (0, .va (.c (.osl 0 9 0 n0))), (1, vx (.int .i64 a)), (2, vx (.int .i64 m)), (3, vx (.int .i64 b)), (4, .va (.c (.fv gLess)))], [(0, .row 9 n0 fun k => bdC (G k))], 1, 220⟩)
        (fun x => x.2 - x.1) (fun x => (mid + m - b) <= x.1 /\ x.1 <= x.2 /\ x.2 <= mid /\ (∀ k, (mid + m - b) <= k -> k < x.1 -> ltB (G (mid + m - 1 - k)) (G k) = false) /\ (∀ k, x.2 <= k -> k < mid -> ltB (G (mid + m - 1 - k)) (G k) = true)) [] []
        (fun x _ _ => if ltB (G (mid + m - 1 - (x.1 + x.2) / 2)) (G ((x.1 + x.2) / 2)) = true then (x.1, (x.1 + x.2) / 2) else ((x.1 + x.2) / 2 + 1, x.2)) [0] [0] 0 0 ((mid + m - b), mid) ?_ ?_ ?_
       . exact ⟨Nat.le_refl _, hlh.2.1, Nat.le_refl _, fun k h1 h2 => absurd h1 (Nat.not_le_of_lt h2), fun k h1 h2 => absurd h1 (Nat.not_le_of_lt h2)⟩
       . repeat' (first | exact trivial | exact rfl | (intro _ _; exact rfl) | refine ⟨?_, ?_⟩ | fail)
         all_goals (refine congrArg (Value.int .i64) ?_; simp only [hmid, hwn, hwp, hwl] <;> omega)
       . rintro ⟨i, j⟩ ⟨k1, k2, k3, k4, k5⟩
         dsimp only at k1 k2 k3 k4 k5
         rcases Nat.lt_or_ge i j with hij | hij
         . have hne : decide ((i : Int) < (j : Int)) = true := decide_eq_true (by omega)
           have hh : IntKind.wrap .i64 ((IntKind.wrap .u64 (IntKind.wrap .i64 ((i : Int) + (j : Int)))).fdiv (2 ^ min (Int.toNat 1) (IntKind.bits .u64))) = (((i + j) / 2 : Nat) : Int) := hlf (by omega)
           have hq1 : i <= (i + j) / 2 := by omega
           have hq2 : (i + j) / 2 < j := by omega
           generalize hq : (i + j) / 2 = q at *
           have hwc : IntKind.wrap .i64 (((mid + m - 1 : Nat) : Int) - (q : Int)) = ((mid + m - 1 - q : Nat) : Int) := by rw [wI_id _ (by omega) (by omega)]; omega
           cases hc : ltB (G (mid + m - 1 - q)) (G q) with
           | true =>
             repeat' (first | exact trivial | refine ⟨?_, ?_⟩ | intro _)
             all_goals first | (with_reducible apply qq) | (conv => whnf)
             all_goals first | (exact absurd (hne.symm.trans ‹_ = false›) (by decide)) | skip
             all_goals first | (have hd := ‹(!decide (cfL _ _ < 0)) = true›; simp only [hh, hwc, Int.toNat_natCast, Nat.zero_add] at hd; exact absurd ((congrArg not hc).symm.trans hd) (by decide)) | skip
             all_goals (try simp only [hh, hq, hc, hwc, if_true, Int.toNat_natCast, Nat.zero_add])
             all_goals first | rfl | omega | (dsimp only; omega) | (exact congrArg (Value.int .i64) (by first | (rw [wI_id _ (by omega) (by omega)]; omega) | omega | (dsimp only; omega))) | (rename_i kk h1 h2; simp only [hq, hc, if_true] at h1 h2; first | exact k4 _ h1 h2 | exact k5 _ h1 h2 | exact wkB.lt2 (std_le wkB hs1 (by omega) h1 (by omega)) (wkB.lt1 (std_le wkB hs2 (by omega) (by omega) (by omega)) hc))
           | false =>
             repeat' (first | exact trivial | refine ⟨?_, ?_⟩ | intro _)
             all_goals first | (with_reducible apply qq) | (conv => whnf)
             all_goals first | (exact absurd (hne.symm.trans ‹_ = false›) (by decide)) | skip
             all_goals first | (have hd := ‹(!decide (cfL _ _ < 0)) = false›; simp only [hh, hwc, Int.toNat_natCast, Nat.zero_add] at hd; exact absurd ((congrArg not hc).symm.trans hd) (by decide)) | skip
             all_goals (try simp only [hh, hq, hc, hwc, if_false, Bool.false_eq_true, Int.toNat_natCast, Nat.zero_add])
             all_goals first | rfl | omega | (dsimp only; omega) | (exact congrArg (Value.int .i64) (by first | (rw [wI_id _ (by omega) (by omega)]; omega) | omega | (dsimp only; omega))) | (rename_i kk h1 h2; simp only [hq, hc, if_false, Bool.false_eq_true] at h1 h2; first | exact k4 _ h1 h2 | exact k5 _ h1 h2 | exact wkB.le1 (std_le wkB hs2 (by omega) (by omega) (by omega)) (wkB.le1 hc (std_le wkB hs1 (by omega) (by omega) (by omega))))
         . have hne : decide ((i : Int) < (j : Int)) = false := decide_eq_false (by omega)
           obtain rfl : i = j := by omega
           obtain ⟨e, he0⟩ : ∃ e, e = mid + m - i := ⟨_, rfl⟩
           have he : e + i = mid + m := by omega
           have hwe : IntKind.wrap .i64 (((mid + m : Nat) : Int) - (i : Int)) = (e : Int) := by rw [wI_id _ (by omega) (by omega)]; omega
           have hb1 : a <= i /\ i <= m /\ m <= e /\ e <= b /\ i <= mid /\ mid <= e := by omega
           have hx1 : a < i -> e < b -> ltB (G e) (G (i - 1)) = false := by
            intro h1 h2
            have := k4 (i - 1) (by omega) (by omega)
            rw [show mid + m - 1 - (i - 1) = e by omega] at this
            exact this
           have hx2 : i < m -> m < e -> ltB (G (e - 1)) (G i) = true := by
            intro h1 h2
            have := k5 i (Nat.le_refl _) (by omega)
            rw [show mid + m - 1 - i = e - 1 by omega] at this
            exact this
           have hfin := sym_fin wkB G hb1.1 hb1.2.1 hb1.2.2.1 hb1.2.2.2.1 he hs1 hs2 hx1 hx2
           have hst1 := std_rot1 G hb1.1 hb1.2.1 hb1.2.2.1 hb1.2.2.2.1 he hs1 hs2
           have hst2 : ∀ H1 H2, H1 = rot G i m e -> H2 = put H1 a (mg ltB (seg H1 a i) (seg H1 i mid)) -> Std ltB (seg H2 mid e) /\ Std ltB (seg H2 e b) := by
            rintro H1 H2 h1 rfl
            exact (hst1 H1 h1).2.2 _ (by rw [mg_length, seg_length, seg_length]; omega)
           have hok : ∀ (H : Nat -> Bd) (i : Nat), i < n0 -> rowSB (bdC (H i)) := fun H i _ => rowSB_bdC _
           clear hx1 hx2 k4 k5 hlh hwl hwn hwp hmid he0
           repeat' (first | exact trivial | (with_reducible first | exact (hok _) | exact (fun h => absurd (hne.symm.trans h) Bool.false_ne_true)) | refine ⟨?_, ?_⟩ | (intro h; (first | have h1 := of_decide_eq_true h | have h1 := of_decide_eq_false h); clear h; (try simp only [hwe] at h1); (try dsimp only at h1); try (exfalso; omega)) | intro _)
           all_goals first | (with_reducible apply qq) | (conv => whnf)
           all_goals (try dsimp only)
           all_goals first | rfl | omega | skip
           all_goals (try simp only [hwe, gF_bdC, Int.toNat_natCast])
           all_goals first | rfl | omega | (exact congrArg bdC (congrFun (hfin _ _ _ rfl rfl rfl) _)) | (exact congrArg bdC (congrFun (hfin _ _ _ rfl rfl (put_id _ hb1.2.2.2.2.2 hb1.2.2.2.1 (by omega)).symm) _)) | (exact congrArg bdC (congrFun (hfin _ _ _ rfl (put_id _ hb1.1 hb1.2.2.2.2.1 (by omega)).symm rfl) _)) | (exact congrArg bdC (congrFun (hfin _ _ _ rfl (put_id _ hb1.1 hb1.2.2.2.2.1 (by omega)).symm (put_id _ hb1.2.2.2.2.2 hb1.2.2.2.1 (by omega)).symm) _)) | (exact congrArg bdC (congrFun (hfin _ _ _ (rot_id G hb1.2.1 hb1.2.2.1 (by omega)).symm rfl rfl) _)) | (exact congrArg bdC (congrFun (hfin _ _ _ (rot_id G hb1.2.1 hb1.2.2.1 (by omega)).symm rfl (put_id _ hb1.2.2.2.2.2 hb1.2.2.2.1 (by omega)).symm) _)) | (exact congrArg bdC (congrFun (hfin _ _ _ (rot_id G hb1.2.1 hb1.2.2.1 (by omega)).symm (put_id _ hb1.1 hb1.2.2.2.2.1 (by omega)).symm rfl) _)) | (exact congrArg bdC (congrFun (hfin _ _ _ (rot_id G hb1.2.1 hb1.2.2.1 (by omega)).symm (put_id _ hb1.1 hb1.2.2.2.2.1 (by omega)).symm (put_id _ hb1.2.2.2.2.2 hb1.2.2.2.1 (by omega)).symm) _)) | exact (hst1 _ rfl).1 | exact (hst1 _ rfl).2.1 | exact (hst1 _ (rot_id G hb1.2.1 hb1.2.2.1 (by omega)).symm).1 | exact (hst1 _ (rot_id G hb1.2.1 hb1.2.2.1 (by omega)).symm).2.1 | exact (hst2 _ _ rfl rfl).1 | exact (hst2 _ _ rfl rfl).2 | exact (hst2 _ _ rfl (put_id _ hb1.1 hb1.2.2.2.2.1 (by omega)).symm).1 | exact (hst2 _ _ rfl (put_id _ hb1.1 hb1.2.2.2.2.1 (by omega)).symm).2 | exact (hst2 _ _ (rot_id G hb1.2.1 hb1.2.2.1 (by omega)).symm rfl).1 | exact (hst2 _ _ (rot_id G hb1.2.1 hb1.2.2.1 (by omega)).symm rfl).2 | exact (hst2 _ _ (rot_id G hb1.2.1 hb1.2.2.1 (by omega)).symm (put_id _ hb1.1 hb1.2.2.2.2.1 (by omega)).symm).1 | exact (hst2 _ _ (rot_id G hb1.2.1 hb1.2.2.1 (by omega)).symm (put_id _ hb1.1 hb1.2.2.2.2.1 (by omega)).symm).2 | skip
           all_goals trace_state
     . obtain ⟨mid, hmid0⟩ : ∃ mid, mid = (a + b) / 2 := ⟨_, rfl⟩
       have hmid : IntKind.wrap .i64 ((IntKind.wrap .u64 (IntKind.wrap .i64 ((a : Int) + (b : Int)))).fdiv (2 ^ min (Int.toNat 1) (IntKind.bits .u64))) = (mid : Int) := by rw [hlf (by omega), hmid0]
       have hm2 : a + 2 <= m /\ m + 2 <= b := by
        have h1 := ne_of_beq_false ‹(IntKind.wrap .i64 ((m : Int) - (a : Int)) == (1 : Int)) = false›
        have h2 := ne_of_beq_false ‹(IntKind.wrap .i64 ((b : Int) - (m : Int)) == (1 : Int)) = false›
        rw [wI_id _ (by omega) (by omega)] at h1 h2
        omega
       have hm1 : a < mid /\ mid < b /\ 2 * mid <= a + b /\ a + b <= 2 * mid + 1 := by omega
       clear hmid0
       have hwn : IntKind.wrap .i64 ((mid : Int) + (m : Int)) = ((mid + m : Nat) : Int) := by rw [wI_id _ (by omega) (by omega)]; omega
       have hwp : IntKind.wrap .i64 (((mid + m : Nat) : Int) - 1) = ((mid + m - 1 : Nat) : Int) := by rw [wI_id _ (by omega) (by omega)]; omega
       have hwl : IntKind.wrap .i64 (((mid + m : Nat) : Int) - (b : Int)) = ((mid + m : Nat) : Int) - (b : Int) := by rw [wI_id _ (by omega) (by omega)]
       have hx := of_decide_eq_false ‹decide ((m : Int) > _) = false›
       rw [hmid] at hx
       have hlh : a <= a /\ a <= m /\ m <= mid /\ m <= m /\ mid + m - a <= b /\ (a = a \/ mid + m - a = b) /\ (m = mid \/ m = m) := by
        omega
       refine loop_ok tys_ok (l := [(212, ⟨[true], FRot⟩), (203, ⟨[true], (FSym M)⟩)]) ⟨fcRot, ih, trivial⟩ (by kernel_rfl) (X := Nat × Nat)
        (fun x => ⟨[(20, vx (.int .i64 x.1)), (21, vx (.int .i64 x.2)), (22, vx (.int .i64 (mid + m - 1 : Nat))), (18, vx (.int .i64 mid)), (19, vx (.int .i64 (mid + m : Nat))), (0, .va (.c (.osl 0 9 0 n0))), (1, vx (.int .i64 a)), (2, vx (.int .i64 m)), (3, vx (.int .i64 b)), (4, .va (.c (.fv gLess)))], [(0, .row 9 n0 fun k => bdC (G k))], 1, 220⟩)
        (fun x => x.2 - x.1) (fun x => a <= x.1 /\ x.1 <= x.2 /\ x.2 <= m /\ (∀ k, a <= k -> k < x.1 -> ltB (G (mid + m - 1 - k)) (G k) = false) /\ (∀ k, x.2 <= k -> k < m -> ltB (G (mid + m - 1 - k)) (G k) = true)) [] []
        (fun x _ _ => if ltB (G (mid + m - 1 - (x.1 + x.2) / 2)) (G ((x.1 + x.2) / 2)) = true then (x.1, (x.1 + x.2) / 2) else ((x.1 + x.2) / 2 + 1, x.2)) [0] [0] 0 0 (a, m) ?_ ?_ ?_
       . exact ⟨Nat.le_refl _, hlh.2.1, Nat.le_refl _, fun k h1 h2 => absurd h1 (Nat.not_le_of_lt h2), fun k h1 h2 => absurd h1 (Nat.not_le_of_lt h2)⟩
       . repeat' (first | exact trivial | exact rfl | (intro _ _; exact rfl) | refine ⟨?_, ?_⟩ | fail)
         all_goals (refine congrArg (Value.int .i64) ?_; simp only [hmid, hwn, hwp, hwl] <;> omega)
       . rintro ⟨i, j⟩ ⟨k1, k2, k3, k4, k5⟩
         dsimp only at k1 k2 k3 k4 k5
         rcases Nat.lt_or_ge i j with hij | hij
         . have hne : decide ((i : Int) < (j : Int)) = true := decide_eq_true (by omega)
           have hh : IntKind.wrap .i64 ((IntKind.wrap .u64 (IntKind.wrap .i64 ((i : Int) + (j : Int)))).fdiv (2 ^ min (Int.toNat 1) (IntKind.bits .u64))) = (((i + j) / 2 : Nat) : Int) := hlf (by omega)
           have hq1 : i <= (i + j) / 2 := by omega
           have hq2 : (i + j) / 2 < j := by omega
           generalize hq : (i + j) / 2 = q at *
           have hwc : IntKind.wrap .i64 (((mid + m - 1 : Nat) : Int) - (q : Int)) = ((mid + m - 1 - q : Nat) : Int) := by rw [wI_id _ (by omega) (by omega)]; omega
           cases hc : ltB (G (mid + m - 1 - q)) (G q) with
           | true =>
             repeat' (first | exact trivial | refine ⟨?_, ?_⟩ | intro _)
             all_goals first | (with_reducible apply qq) | (conv => whnf)
             all_goals first | (exact absurd (hne.symm.trans ‹_ = false›) (by decide)) | skip
             all_goals first | (have hd := ‹(!decide (cfL _ _ < 0)) = true›; simp only [hh, hwc, Int.toNat_natCast, Nat.zero_add] at hd; exact absurd ((congrArg not hc).symm.trans hd) (by decide)) | skip
             all_goals (try simp only [hh, hq, hc, hwc, if_true, Int.toNat_natCast, Nat.zero_add])
             all_goals first | rfl | omega | (dsimp only; omega) | (exact congrArg (Value.int .i64) (by first | (rw [wI_id _ (by omega) (by omega)]; omega) | omega | (dsimp only; omega))) | (rename_i kk h1 h2; simp only [hq, hc, if_true] at h1 h2; first | exact k4 _ h1 h2 | exact k5 _ h1 h2 | exact wkB.lt2 (std_le wkB hs1 (by omega) h1 (by omega)) (wkB.lt1 (std_le wkB hs2 (by omega) (by omega) (by omega)) hc))
           | false =>
             repeat' (first | exact trivial | refine ⟨?_, ?_⟩ | intro _)
             all_goals first | (with_reducible apply qq) | (conv => whnf)
             all_goals first | (exact absurd (hne.symm.trans ‹_ = false›) (by decide)) | skip
             all_goals first | (have hd := ‹(!decide (cfL _ _ < 0)) = false›; simp only [hh, hwc, Int.toNat_natCast, Nat.zero_add] at hd; exact absurd ((congrArg not hc).symm.trans hd) (by decide)) | skip
             all_goals (try simp only [hh, hq, hc, hwc, if_false, Bool.false_eq_true, Int.toNat_natCast, Nat.zero_add])
             all_goals first | rfl | omega | (dsimp only; omega) | (exact congrArg (Value.int .i64) (by first | (rw [wI_id _ (by omega) (by omega)]; omega) | omega | (dsimp only; omega))) | (rename_i kk h1 h2; simp only [hq, hc, if_false, Bool.false_eq_true] at h1 h2; first | exact k4 _ h1 h2 | exact k5 _ h1 h2 | exact wkB.le1 (std_le wkB hs2 (by omega) (by omega) (by omega)) (wkB.le1 hc (std_le wkB hs1 (by omega) (by omega) (by omega))))
         . have hne : decide ((i : Int) < (j : Int)) = false := decide_eq_false (by omega)
           obtain rfl : i = j := by omega
           obtain ⟨e, he0⟩ : ∃ e, e = mid + m - i := ⟨_, rfl⟩
           have he : e + i = mid + m := by omega
           have hwe : IntKind.wrap .i64 (((mid + m : Nat) : Int) - (i : Int)) = (e : Int) := by rw [wI_id _ (by omega) (by omega)]; omega
           have hb1 : a <= i /\ i <= m /\ m <= e /\ e <= b /\ i <= mid /\ mid <= e := by omega
           have hx1 : a < i -> e < b -> ltB (G e) (G (i - 1)) = false := by
            intro h1 h2
            have := k4 (i - 1) (by omega) (by omega)
            rw [show mid + m - 1 - (i - 1) = e by omega] at this
            exact this
           have hx2 : i < m -> m < e -> ltB (G (e - 1)) (G i) = true := by
            intro h1 h2
            have := k5 i (Nat.le_refl _) (by omega)
            rw [show mid + m - 1 - i = e - 1 by omega] at this
            exact this
           have hfin := sym_fin wkB G hb1.1 hb1.2.1 hb1.2.2.1 hb1.2.2.2.1 he hs1 hs2 hx1 hx2
           have hst1 := std_rot1 G hb1.1 hb1.2.1 hb1.2.2.1 hb1.2.2.2.1 he hs1 hs2
           have hst2 : ∀ H1 H2, H1 = rot G i m e -> H2 = put H1 a (mg ltB (seg H1 a i) (seg H1 i mid)) -> Std ltB (seg H2 mid e) /\ Std ltB (seg H2 e b) := by
            rintro H1 H2 h1 rfl
            exact (hst1 H1 h1).2.2 _ (by rw [mg_length, seg_length, seg_length]; omega)
           have hok : ∀ (H : Nat -> Bd) (i : Nat), i < n0 -> rowSB (bdC (H i)) := fun H i _ => rowSB_bdC _
           clear hx1 hx2 k4 k5 hlh hwl hwn hwp hmid he0
           repeat' (first | exact trivial | (with_reducible first | exact (hok _) | exact (fun h => absurd (hne.symm.trans h) Bool.false_ne_true)) | refine ⟨?_, ?_⟩ | (intro h; (first | have h1 := of_decide_eq_true h | have h1 := of_decide_eq_false h); clear h; (try simp only [hwe] at h1); (try dsimp only at h1); try (exfalso; omega)) | intro _)
           all_goals first | (with_reducible apply qq) | (conv => whnf)
           all_goals (try dsimp only)
           all_goals first | rfl | omega | skip
           all_goals (try simp only [hwe, gF_bdC, Int.toNat_natCast])
           all_goals first | rfl | omega | (exact congrArg bdC (congrFun (hfin _ _ _ rfl rfl rfl) _)) | (exact congrArg bdC (congrFun (hfin _ _ _ rfl rfl (put_id _ hb1.2.2.2.2.2 hb1.2.2.2.1 (by omega)).symm) _)) | (exact congrArg bdC (congrFun (hfin _ _ _ rfl (put_id _ hb1.1 hb1.2.2.2.2.1 (by omega)).symm rfl) _)) | (exact congrArg bdC (congrFun (hfin _ _ _ rfl (put_id _ hb1.1 hb1.2.2.2.2.1 (by omega)).symm (put_id _ hb1.2.2.2.2.2 hb1.2.2.2.1 (by omega)).symm) _)) | (exact congrArg bdC (congrFun (hfin _ _ _ (rot_id G hb1.2.1 hb1.2.2.1 (by omega)).symm rfl rfl) _)) | (exact congrArg bdC (congrFun (hfin _ _ _ (rot_id G hb1.2.1 hb1.2.2.1 (by omega)).symm rfl (put_id _ hb1.2.2.2.2.2 hb1.2.2.2.1 (by omega)).symm) _)) | (exact congrArg bdC (congrFun (hfin _ _ _ (rot_id G hb1.2.1 hb1.2.2.1 (by omega)).symm (put_id _ hb1.1 hb1.2.2.2.2.1 (by omega)).symm rfl) _)) | (exact congrArg bdC (congrFun (hfin _ _ _ (rot_id G hb1.2.1 hb1.2.2.1 (by omega)).symm (put_id _ hb1.1 hb1.2.2.2.2.1 (by omega)).symm (put_id _ hb1.2.2.2.2.2 hb1.2.2.2.1 (by omega)).symm) _)) | exact (hst1 _ rfl).1 | exact (hst1 _ rfl).2.1 | exact (hst1 _ (rot_id G hb1.2.1 hb1.2.2.1 (by omega)).symm).1 | exact (hst1 _ (rot_id G hb1.2.1 hb1.2.2.1 (by omega)).symm).2.1 | exact (hst2 _ _ rfl rfl).1 | exact (hst2 _ _ rfl rfl).2 | exact (hst2 _ _ rfl (put_id _ hb1.1 hb1.2.2.2.2.1 (by omega)).symm).1 | exact (hst2 _ _ rfl (put_id _ hb1.1 hb1.2.2.2.2.1 (by omega)).symm).2 | exact (hst2 _ _ (rot_id G hb1.2.1 hb1.2.2.1 (by omega)).symm rfl).1 | exact (hst2 _ _ (rot_id G hb1.2.1 hb1.2.2.1 (by omega)).symm rfl).2 | exact (hst2 _ _ (rot_id G hb1.2.1 hb1.2.2.1 (by omega)).symm (put_id _ hb1.1 hb1.2.2.2.2.1 (by omega)).symm).1 | exact (hst2 _ _ (rot_id G hb1.2.1 hb1.2.2.1 (by omega)).symm (put_id _ hb1.1 hb1.2.2.2.2.1 (by omega)).symm).2 | skip
           all_goals trace_state
   . cases h
end Go.Proofs.YtokjghkehojenaaGreat
