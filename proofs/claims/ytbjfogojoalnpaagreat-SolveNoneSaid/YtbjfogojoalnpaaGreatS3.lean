/- A symbolic executor for function bodies of the model, and that it is right: whatever it computes of a body is so of every call: part 3 of 3. No condition. -/
import Derived.Test.YtbjfogojoalnpaaGreatS2
import Derived.KernelRfl
import Derived.Orders
import Derived.ScopeJumps
import Derived.ProofKit
import Derived.JoinedCond
set_option linter.all false
set_option maxHeartbeats 8000000
set_option maxRecDepth 100000
namespace Go.Sx
inductive Cl (ops : Array Oper) : Nat -> Nat -> Prop
 | one {i : Nat} {o : Oper} {e : Edge} : ops[i]? = some o -> e ∈ o.after.toList -> Region.binds .any e = true -> Cl ops i e.on
 | more {i j : Nat} {o : Oper} {e : Edge} : ops[i]? = some o -> e ∈ o.after.toList -> Region.binds .any e = true -> Cl ops e.on j -> Cl ops i j
theorem mask_spec {acc : List Nat} (Pj : Nat -> Nat -> Prop) (hacc : ∀ i j, (acc.getD i 0).testBit j = true -> Pj i j) : ∀ (l : List Edge) (s j : Nat),
 (l.foldl (fun s e => if Region.binds .any e then s ||| 2 ^ e.on ||| acc.getD e.on 0 else s) s).testBit j = true -> s.testBit j = true \/ ∃ e ∈ l, Region.binds .any e = true /\ (e.on = j \/ Pj e.on j)
 | [], s, j, h => .inl h
 | e :: l, s, j, h => by
   simp only [List.foldl_cons] at h
   rcases mask_spec Pj hacc l _ j h with h1 | ⟨e', h2, h3, h4⟩
   . split at h1
     . rename_i hb
       rw [Nat.testBit_or, Nat.testBit_or, Bool.or_eq_true, Bool.or_eq_true] at h1
       rcases h1 with (h1 | h1) | h1
       . exact .inl h1
       . rw [Nat.testBit_two_pow] at h1
         exact .inr ⟨e, by simp, hb, .inl (by simpa using h1)⟩
       . exact .inr ⟨e, by simp, hb, .inr (hacc _ _ h1)⟩
     . exact .inl h1
   . exact .inr ⟨e', by simp [h2], h3, h4⟩
theorem cloGo_spec (ops : Array Oper) : ∀ (rest : List Oper) (acc : List Nat), (∀ i o, rest[i]? = some o -> ops[acc.length + i]? = some o) -> (∀ i j, (acc.getD i 0).testBit j = true -> Cl ops i j) ->
 ∀ i j, ((cloGo rest acc).getD i 0).testBit j = true -> Cl ops i j
 | [], acc, _, hacc, i, j, h => hacc i j h
 | o :: rest, acc, hall, hacc, i, j, h => by
   simp only [cloGo] at h
   refine cloGo_spec ops rest _ ?_ ?_ i j h
   . intro i o' ho
     have := hall (i + 1) o' (by simpa using ho)
     simp only [List.length_append, List.length_cons, List.length_nil]
     rwa [show acc.length + (0 + 1) + i = acc.length + (i + 1) by omega]
   . intro i j hij
     by_cases h1 : i < acc.length
     . simp only [List.getD, List.getElem?_append_left h1] at hij
       exact hacc i j hij
     . by_cases h2 : i = acc.length
       . subst h2
         simp only [List.getD, List.getElem?_append_right (Nat.le_refl _), Nat.sub_self, List.getElem?_cons_zero, Option.getD_some] at hij
         have ho : ops[acc.length]? = some o := by simpa using hall 0 o (by simp)
         rcases mask_spec (fun i j => Cl ops i j) hacc _ _ _ hij with h3 | ⟨e, h3, h4, h5⟩
         . simp at h3
         . rcases h5 with h5 | h5
           . subst h5; exact .one ho h3 h4
           . exact .more ho h3 h4 h5
       . have : (acc ++ [o.after.toList.foldl (fun s e => if Region.binds .any e then s ||| 2 ^ e.on ||| acc.getD e.on 0 else s) 0]).getD i 0 = 0 := by
          simp only [List.getD]
          rw [List.getElem?_eq_none (by simp; omega)]; rfl
         rw [this] at hij; simp at hij
def Down (ops : Array Oper) (D : Nat -> Bool) : Prop := ∀ i o, ops[i]? = some o -> D i = true -> ∀ e ∈ o.after.toList, Region.binds .any e = true -> D e.on = true
theorem Cl.down {ops : Array Oper} {D : Nat -> Bool} (hd : Down ops D) {i j : Nat} (h : Cl ops i j) : (∀ o, ops[i]? = some o -> ∀ e ∈ o.after.toList, Region.binds .any e = true -> D e.on = true) -> D j = true := by
 induction h with
 | one ho he hb => intro h; exact h _ ho _ he hb
 | more ho he hb _ ih => intro h; exact ih fun o' ho' => hd _ o' ho' (h _ ho _ he hb)
theorem drawOk_spec {ops : Array Oper} {m : Nat} (h : drawOk ops.toList m = true) :
 (∀ i o, ops[i]? = some o -> ∀ e ∈ o.after.toList, Region.binds .any e = true -> e.on < i) /\
 ∀ i j x o, ops[i]? = some o -> ops[j]? = some x -> j < i -> Cl ops i j \/ (i < m /\ clash ops.toList x o = false) := by
 simp only [drawOk, List.all_eq_true, List.mem_range, Array.length_toList] at h
 have hcl := cloGo_spec ops ops.toList [] (fun i o ho => by simpa using ho) (fun i j h => by simp at h)
 refine ⟨?_, ?_⟩
 . intro i o ho e he hb
   have hi : i < ops.size := (Array.getElem?_eq_some_iff.1 ho).1
   have := h i hi
   simp only [Array.getElem?_toList, ho, Bool.and_eq_true, List.all_eq_true] at this
   have := this.1 e he
   simpa [hb] using this
 . intro i j x o ho hx hj
   have hi : i < ops.size := (Array.getElem?_eq_some_iff.1 ho).1
   have := h i hi
   simp only [Array.getElem?_toList, ho, Bool.and_eq_true, List.all_eq_true] at this
   have := this.2 j (by simpa using hj)
   simp only [hx, Bool.or_eq_true, Bool.and_eq_true, decide_eq_true_eq, Bool.not_eq_true'] at this
   rcases this with h1 | h1
   . exact .inl (hcl i j h1)
   . exact .inr h1
theorem clash_spec {all : List Oper} {x y : Oper} (h : clash all x y = false) :
 (∀ t, x.dst = some t -> t ∉ readsOf all y /\ y.dst ≠ some t) /\ ∀ t, y.dst = some t -> t ∉ readsOf all x := by
 simp only [clash, Bool.or_eq_false_iff] at h
 refine ⟨fun t ht => ?_, fun t ht => ?_⟩
 . have := h.1
   rw [ht] at this
   simp only [Bool.or_eq_false_iff] at this
   refine ⟨by simpa using this.1, fun e => ?_⟩
   rw [e] at this; simp at this
 . have := h.2
   rw [ht] at this
   simpa using this
section
variable {P : Program} {τ : Tys} {Γ : Sums} {base : Nat} {ψ ψ' : Psi} {S S' : Nat → Prop} {w w' : World} {a : Act}
def Known (x y : Tm) : Prop := y = x \/ ∃ b c, x = .va (.c (.d (.v (.bool b)))) /\ b = c /\ y = .va (.c (.kb c))
theorem Known.rep {x y : Tm} {v : Value} (h : Known x y) (hx : RepT P ψ S w x v) : RepT P ψ S w y v := by
 rcases h with rfl | ⟨b, c, rfl, rfl, rfl⟩
 . exact hx
 . cases hx; rfl
theorem dPut_ok {i : Nat} {gs : List Nat} {x : Tm} {k : Tm -> Prop} (h : dPut i gs x k) : ∃ y, Known x y /\ k y := by
 unfold dPut at h
 split at h
 . rename_i b _
   cases hb : b with
   | true => exact ⟨_, .inr ⟨true, true, by rw [], rfl, rfl⟩, h.1 hb⟩
   | false => exact ⟨_, .inr ⟨false, false, by rw [], rfl, rfl⟩, h.2 hb⟩
 . exact ⟨_, .inl rfl, h⟩
def DStep (P : Program) (τ : Tys) (Γ : Sums) (n0 : Nat) (all : List Oper) (i : Nat) (o : Oper) (y : Tm) (blk : Option (List Cell)) (st st' : St) : Prop :=
 inLim o.dst st.lim = true /\ st' = ⟨putT o.dst y st.tmps, (match blk with | some cs => [(n0 + i, Blk.cells cs)] | none => []) ++ st.heap, st.next, st.lim⟩ /\
  ((dWant all st o (fun w => w = false) /\ y = undT /\ blk = none) \/
    ∃ x, dWant all st o (fun w => w = true) /\ dOp P τ Γ (n0 + i) o st (fun x' b' => x' = x /\ b' = blk.map Blk.cells) /\ Known x y)
theorem dWant_lin (all : List Oper) (st : St) (o : Oper) : Lin (dWant all st o) := by
 intro K hk
 unfold dWant at hk ⊢
 split at hk
 . exact ⟨_, hk, rfl⟩
 . split at hk
   . exact hk.elim
   . split at hk
     . exact ⟨_, hk, rfl⟩
     . exact ⟨_, hk, rfl⟩
     . exact ⟨_, hk, rfl⟩
     . exact hk.elim
theorem dGo_way {n0 : Nat} {gs : List Nat} {all : List Oper} : ∀ (rest : List Oper) (i : Nat) (st : St) (K : St -> Prop), dGo P τ Γ n0 gs all i rest st K ->
 ∃ (f : Nat -> St) (y : Nat -> Tm) (B : Nat -> Option (List Cell)), f 0 = st /\ K (f rest.length) /\ ∀ j o, rest[j]? = some o -> DStep P τ Γ n0 all (i + j) o (y j) (B j) (f j) (f (j + 1))
 | [], i, st, K, hk => ⟨fun _ => st, fun _ => undT, fun _ => none, rfl, hk, fun j o h => by simp at h⟩
 | o :: rest, i, ⟨ts, h, n, m⟩, K, hk => by
   rw [dGo_cons] at hk
   split at hk
   . exact hk.elim
   . rename_i hlim
     have cons : ∀ y0 B0 st1, DStep P τ Γ n0 all i o y0 B0 ⟨ts, h, n, m⟩ st1 -> dGo P τ Γ n0 gs all (i + 1) rest st1 K -> ∃ (f : Nat -> St) (y : Nat -> Tm) (B : Nat -> Option (List Cell)), f 0 = ⟨ts, h, n, m⟩ /\ K (f (o :: rest).length) /\
      ∀ j o', (o :: rest)[j]? = some o' -> DStep P τ Γ n0 all (i + j) o' (y j) (B j) (f j) (f (j + 1)) := by
      intro y0 B0 st1 hs hk
      obtain ⟨f, y, B, g1, g2, g3⟩ := dGo_way rest (i + 1) st1 K hk
      refine ⟨fun j => match j with | 0 => ⟨ts, h, n, m⟩ | j + 1 => f j, fun j => match j with | 0 => y0 | j + 1 => y j, fun j => match j with | 0 => B0 | j + 1 => B j, rfl, g2, ?_⟩
      intro j o' ho
      cases j with
      | zero => simp at ho; subst ho; simp only [g1]; exact hs
      | succ j => have := g3 j o' (by simpa using ho); rw [show i + (j + 1) = i + 1 + j by omega]; exact this
     obtain ⟨wt, g1, g2⟩ := dWant_lin _ _ _ _ hk
     cases wt with
     | false => exact cons undT none _ ⟨hlim, rfl, .inl ⟨g2, rfl, rfl⟩⟩ g1
     | true =>
       obtain ⟨x, b, g3, g4⟩ := dOp_lin _ _ _ _ g1
       simp only [fT_eq] at g3
       cases b with
       | none =>
         obtain ⟨y0, k1, k2⟩ := dPut_ok g3
         exact cons y0 none _ ⟨hlim, rfl, .inr ⟨x, g2, g4, k1⟩⟩ k2
       | some b =>
         cases b with
         | cells cs =>
           simp only [fCs_eq] at g3
           obtain ⟨y0, k1, k2⟩ := dPut_ok g3
           exact cons y0 (some cs) _ ⟨hlim, rfl, .inr ⟨x, g2, g4, k1⟩⟩ k2
         | _ => exact g3.elim
theorem Rel.allocAt {ts : List (Nat × Tm)} {h : List (Nat × Blk)} {n m id : Nat} {cs : List Cell} {arr : Array Value} {e : TypeId}
 (hr : Rel P base ψ S w ⟨ts, h, n, m⟩ a) (hid : ψ id = none) (hb : base <= id) (hlt : id < n) (hlook : lookB h id = .cells cs) (hcs : All2 (RepM P ψ S w) cs arr.toList) :
 Rel P base (ψ.set id (.at w.heap.size arr.size)) S (w.alloc (.cells arr e)) ⟨ts, h, n, m⟩ a /\ Ext base ψ S w (ψ.set id (.at w.heap.size arr.size)) S (w.alloc (.cells arr e)) := by
 have hl := later_alloc hr.sim.sdom (Obj.cells arr e)
 have hp : PsiSub ψ (ψ.set id (.at w.heap.size arr.size)) := Psi.sub_set hid
 have get : ∀ k l', (ψ.set id (.at w.heap.size arr.size)) k = some l' -> (k = id /\ l' = .at w.heap.size arr.size) \/ (k ≠ id /\ ψ k = some l') := by
  intro k l' hk
  simp only [Psi.set] at hk
  by_cases e : k = id
  . rw [if_pos e] at hk; simp at hk; exact .inl ⟨e, hk.symm⟩
  . rw [if_neg e] at hk; exact .inr ⟨e, hk⟩
 refine ⟨⟨hr.bas, ⟨?_, ?_, ?_, ?_, ?_, ?_⟩, hr.lim, hr.defers, fun t => (hr.tmps t).later hp hl⟩, ⟨rfl, rfl, rfl, by simp, fun b hb _ => heap_alloc_lt _ hb, hl, fun _ h => .inl h, ?_, ?_⟩⟩
 . intro k hk
   have : k ≠ id := by simp at hk; omega
   simp [Psi.set, this, hr.sim.dom k hk]
 . intro k l hk
   rcases get k l hk with ⟨rfl, rfl⟩ | ⟨h1, h2⟩
   . show BlkRep _ _ _ _ (lookB h k) _
     rw [hlook]; exact ⟨arr, e, heap_alloc_new _, hcs.mono fun _ _ h => h.later hp hl⟩
   . refine (hr.sim.blk k l h2).later hp hl fun b m' e' => ?_
     subst e'
     exact heap_alloc_lt _ (hr.sim.pdom k b m' h2)
 . intro k k' b m1 m2 hk hk' l1 l2
   rcases get k _ hk with ⟨rfl, e1⟩ | ⟨g1, g2⟩
   . rcases get k' _ hk' with ⟨rfl, _⟩ | ⟨g3, g4⟩
     . rfl
     . simp at e1; have := hr.sim.pdom k' b m2 g4; omega
   . rcases get k' _ hk' with ⟨rfl, e1⟩ | ⟨g3, g4⟩
     . simp at e1; have := hr.sim.pdom k b m1 g2; omega
     . exact hr.sim.inj k k' b m1 m2 g2 g4 l1 l2
 . intro k b m1 hk l1 hS
   rcases get k _ hk with ⟨rfl, e1⟩ | ⟨g1, g2⟩
   . simp at e1; have := hr.sim.sdom b hS; omega
   . exact hr.sim.dis k b m1 g2 l1 hS
 . intro k b m1 hk
   rcases get k _ hk with ⟨rfl, e1⟩ | ⟨g1, g2⟩
   . simp at e1; simp [e1.1]
   . have := hr.sim.pdom k b m1 g2; simp; omega
 . exact hr.sim.sdom.later hl fun b hb => by have := hr.sim.sdom b hb; simp; omega
 . intro k b m1 hk
   rcases get k _ hk with ⟨rfl, e1⟩ | ⟨g1, g2⟩
   . simp at e1; right; omega
   . exact .inl ⟨k, m1, g2⟩
 . intro k hk
   have : k ≠ id := by omega
   simp [Psi.set, this]
theorem dOp_blk (hτ : TysOk P τ) (hz : ∀ t i, τ t = some i -> zeroOk i.zero) {id : Nat} {o : Oper} {ts : List (Nat × Tm)} {h : List (Nat × Blk)} {n m : Nat} {x : Tm} {cs : List Cell} (hrel : Rel P base ψ S w ⟨ts, h, n, m⟩ a)
 (hid : ψ id = none) (hb : base <= id) (hlt : id < n) (hlook : lookB h id = .cells cs)
 (hl : inLim o.dst m = true) (hk : dOp P τ Γ id o ⟨ts, h, n, m⟩ fun x' b => x' = x /\ b = some (.cells cs)) :
 ∀ (next : Act -> World -> Prop) (Q : Exit -> Act -> World -> Prop), (∀ ψ' S' w' a', Rel P base ψ' S' w' ⟨putT o.dst x ts, h, n, m⟩ a' -> Ext base ψ S w ψ' S' w' -> (∀ k, k ≠ id -> ψ' k = ψ k) -> next a' w') -> o.wp P a w next Q := by
 have fin : ∀ (arr : Array Value) (e : TypeId), All2 (RepM P ψ S w) cs arr.toList -> (execOp a.eval o).run P w = .ok (.value (.pointer (some ⟨w.heap.size, 0, none⟩))) (w.alloc (.cells arr e)) -> x = .va (.c (.own id 0)) ->
  ∀ (next : Act -> World -> Prop) (Q : Exit -> Act -> World -> Prop), (∀ ψ' S' w' a', Rel P base ψ' S' w' ⟨putT o.dst x ts, h, n, m⟩ a' -> Ext base ψ S w ψ' S' w' -> (∀ k, k ≠ id -> ψ' k = ψ k) -> next a' w') -> o.wp P a w next Q := by
  intro arr e hcs hrun hx next Q hn
  subst hx
  obtain ⟨g1, g2⟩ := hrel.allocAt (e := e) hid hb hlt hlook hcs
  have hrep : RepT P (ψ.set id (.at w.heap.size arr.size)) S (w.alloc (.cells arr e)) (.va (.c (.own id 0))) (.pointer (some ⟨w.heap.size, 0, none⟩)) := ⟨w.heap.size, arr.size, by simp [Psi.set], rfl⟩
  obtain ⟨st', k1, k2⟩ := putK_rel (putK_put (x := .va (.c (.own id 0))) hl) g1 hrep
  simp only [Oper.wp, hrun, Oper.upon]
  subst k1
  exact hn _ _ _ _ k2 g2 fun k hk => by simp [Psi.set, hk]
 unfold dOp at hk
 split at hk
 . rename_i e hop
   split at hk
   . rename_i d s b z ht
     obtain ⟨hx, hcs⟩ := hk
     simp at hcs
     refine fin z.cells e (hcs ▸ zero_cells (hz _ _ ht)) ?_ hx.symm
     simp only [execOp, hop, Instr.alloc, Sem.run_bind, run_zeroV hτ ht, Result.andThen_ok, newVar, newRow, run_newObj]
     rfl
   . exact hk.elim
 . rename_i e xo hop
   split at hk
   . rename_i y hy
     split at hk
     . rename_i hlay
       obtain ⟨hx, hcs⟩ := hk
       simp at hcs
       have hxr := ev_rep hrel xo
       rw [hy] at hxr
       refine fin (a.eval xo).cells e (hcs ▸ RepVa.cells hxr hlay) ?_ hx.symm
       simp only [execOp, hop, Instr.box, Sem.run_bind, Result.andThen_ok, newVar, newRow, run_newObj]
       rfl
     . exact hk.elim
   . exact hk.elim
 . rename_i c hop
   split at hk
   . split at hk
     . rw [fVas_eq] at hk
       obtain ⟨r, g1, _⟩ := dCall_lin _ _ _ _ hk
       exact absurd g1.2 (by simp)
     . obtain ⟨r, g1, _⟩ := dFv_lin _ _ _ _ hk
       exact absurd g1.2 (by simp)
     . exact hk.elim
   . obtain ⟨r, g1, _⟩ := vOp_lin _ _ _ _ _ hk
     exact absurd g1.2 (by simp)
 . obtain ⟨r, g1, _⟩ := oBuildFr_lin _ _ _ _ _ _ hk
   exact absurd g1.2 (by simp)
 . obtain ⟨r, g1, _⟩ := vOp_lin _ _ _ _ _ hk
   exact absurd g1.2 (by simp)
end
def tsOf (y : Nat -> Tm) (dst : Nat -> Option Tmp) (ts0 : List (Nat × Tm)) (D : Nat -> Bool) : Nat -> List (Nat × Tm)
 | 0 => ts0
 | j + 1 => match D j with
   | true => putT (dst j) (y j) (tsOf y dst ts0 D j)
   | false => tsOf y dst ts0 D j
theorem lookT_putT {dst : Option Tmp} {x : Tm} {ts : List (Nat × Tm)} {t : Nat} : lookT (putT dst x ts) t = if dst = some t then x else lookT ts t := by
 cases dst with
 | none => simp [putT]
 | some u =>
   simp only [putT, lookT]
   cases hb : Nat.beq u t with
   | true => simp [Nat.eq_of_beq_eq_true hb]
   | false => simp [Nat.ne_of_beq_eq_false hb]
section
variable {y : Nat → Tm} {dst : Nat → Option Tmp} {ts0 : List (Nat × Tm)} {D D' : Nat → Bool}
theorem tsOf_same {t : Nat} : ∀ (m : Nat), (∀ j, j < m -> dst j = some t -> D j = D' j) -> lookT (tsOf y dst ts0 D m) t = lookT (tsOf y dst ts0 D' m) t
 | 0, _ => rfl
 | m + 1, h => by
   have ih := tsOf_same m fun j hj => h j (by omega)
   simp only [tsOf]
   by_cases hd : dst m = some t
   . rw [h m (by omega) hd]
     cases D' m with
     | true => simp only [lookT_putT, if_pos hd]
     | false => exact ih
   . cases D m <;> cases D' m <;> simp only [lookT_putT, if_neg hd] <;> exact ih
theorem tsOf_cut {t : Nat} {i : Nat} : ∀ (m : Nat), i <= m -> (∀ j, i <= j -> j < m -> dst j = some t -> D j = false) -> lookT (tsOf y dst ts0 D m) t = lookT (tsOf y dst ts0 D i) t
 | 0, hi, _ => by have : i = 0 := by omega
                  subst this; rfl
 | m + 1, hi, h => by
   by_cases he : i = m + 1
   . rw [he]
   . have ih := tsOf_cut m (by omega) fun j h1 h2 => h j h1 (by omega)
     simp only [tsOf]
     cases hD : D m with
     | false => exact ih
     | true =>
       simp only [lookT_putT]
       rw [if_neg fun hd => by have := h m (by omega) (by omega) hd; rw [hD] at this; cases this]
       exact ih
theorem tsOf_add {i m t : Nat} (hi : i < m) (_ : D i = false) (hD' : ∀ j, D' j = (D j || j == i)) (h : ∀ j, i < j -> j < m -> dst j = some t -> dst i = some t -> D j = false) :
 lookT (tsOf y dst ts0 D' m) t = if dst i = some t then y i else lookT (tsOf y dst ts0 D m) t := by
 by_cases hd : dst i = some t
 . rw [if_pos hd, tsOf_cut (i := i + 1) m (by omega) (fun j h1 h2 h3 => by
    have := h j (by omega) h2 h3 hd
    rw [hD' j, this]; simp; omega)]
   simp only [tsOf]
   have : D' i = true := by rw [hD' i]; simp
   simp only [this, lookT_putT, if_pos hd]
 . rw [if_neg hd]
   refine tsOf_same m fun j hj hdj => ?_
   rw [hD' j]
   have : j ≠ i := fun e => hd (e ▸ hdj)
   simp [this]
end
def idsBelow (h : List (Nat × Blk)) (n : Nat) : Bool := h.all fun p => Nat.blt p.1 n
theorem idsBelow_look : ∀ {h : List (Nat × Blk)} {n k : Nat}, idsBelow h n = true -> n <= k -> lookB h k = .gone
 | [], _, _, _, _ => rfl
 | (i, b) :: h, n, k, hh, hk => by
   simp only [idsBelow, List.all_cons, Bool.and_eq_true] at hh
   rw [lookB_cons, if_neg, idsBelow_look hh.2 hk]
   have : i < n := by simpa [Nat.blt_eq] using hh.1
   omega
section
variable {P : Program} {τ : Tys} {Γ : Sums} {base : Nat} {ψ ψ' : Psi} {S S' : Nat → Prop} {w w' : World} {a : Act}
theorem dWant_real {ops : Array Oper} {st : St} {o : Oper} {b : Bool} (h : dWant ops.toList st o (fun w => w = b))
 (hr : ∀ j want s, o.guard = some (j, want) -> dstOf ops.toList j = some s -> RepT P ψ S w (lookT st.tmps s) (a.tmps.getD s undef)) : Region.wanted o (yielded ops a.tmps) = b := by
 unfold dWant at h
 split at h
 . rename_i hg; subst h; simp [Region.wanted, hg]
 . rename_i j want hg
   split at h
   . exact h.elim
   . rename_i s hs
     have hrep := hr j want s hg hs
     have hd : (ops[j]?).bind (·.dst) = some s := by
      unfold dstOf at hs
      rw [Array.getElem?_toList] at hs
      split at hs
      . rename_i hj; rw [hj]; exact hs
      . simp at hs
     have get : ∀ v, v ≠ undef -> a.tmps.getD s undef = v -> a.tmps[s]? = some v := by
      intro v hv h
      rw [Array.getD_eq_getD_getElem?] at h
      cases hg : a.tmps[s]? with
      | none => rw [hg] at h; exact absurd h.symm hv
      | some x => rw [hg] at h; simp at h; rw [h]
     simp only [Region.wanted, hg, yielded, hd, Option.bind_some]
     split at h
     . rename_i e; rw [e] at hrep; rw [get _ (by simp [undef]) hrep]; subst h; cases want <;> rfl
     . rename_i e; rw [e] at hrep; rw [get _ (by simp [undef]) hrep]; subst h; cases want <;> rfl
     . rename_i e; rw [e] at hrep
       have hrep : a.tmps.getD s undef = undef := hrep
       rw [Array.getD_eq_getD_getElem?] at hrep
       subst h
       cases hg : a.tmps[s]? with
       | none => rfl
       | some x => rw [hg] at hrep; simp at hrep; subst hrep; rfl
     . exact h.elim
theorem mem_tmpsL {t : Tmp} : ∀ {xs : List Operand}, Operand.tmp t ∈ xs -> t ∈ tmpsL xs
 | .tmp u :: xs, h => by
   simp only [tmpsL, List.mem_cons] at h ⊢
   rcases h with h | h
   . cases h; exact .inl rfl
   . exact .inr (mem_tmpsL h)
 | .const _ :: xs, h => by
   simp only [tmpsL, List.mem_cons] at h ⊢
   rcases h with h | h
   . cases h
   . exact mem_tmpsL h
 | .global _ :: xs, h => by
   simp only [tmpsL, List.mem_cons] at h ⊢
   rcases h with h | h
   . cases h
   . exact mem_tmpsL h
 | .func _ :: xs, h => by
   simp only [tmpsL, List.mem_cons] at h ⊢
   rcases h with h | h
   . cases h
   . exact mem_tmpsL h
theorem operand_reads {all : List Oper} {o : Oper} {t : Tmp} (h : Operand.tmp t ∈ o.op.operands.toList) : t ∈ readsOf all o := by
 simp only [readsOf, List.mem_append]
 left
 unfold opTmps
 split
 . rename_i c hc
   rw [hc] at h
   simp only [Op.operands, Call.operands] at h
   split <;> rename_i hcal <;> rw [hcal] at h <;> exact mem_tmpsL (by simpa using h)
 . exact mem_tmpsL h
theorem vcOps_step (hτ : TysOk P τ) (hz : ∀ t i, τ t = some i -> zeroOk i.zero) {calls : Nat -> List Va -> St -> (Tm -> St -> Prop) -> Prop} (hcalls : CallsOk P base calls)
 {ops : Array Oper} {Q : Exit -> Act -> World -> Prop} {o : Oper} {rest : List Oper} {k : Nat} {st : St} {K : St -> Prop} {N : Act -> World -> Prop}
 (ho : ops[k]? = some o) (hrel : Rel P base ψ S w st a) (hk : vcOps P τ calls ops.toList (o :: rest) st K)
 (hn : ∀ st' ψ' S' w' a', vcOps P τ calls ops.toList rest st' K -> Rel P base ψ' S' w' st' a' -> Ext base ψ S w ψ' S' w' -> N a' w') : wpOp P ops Q k N a w := by
 unfold wpOp
 rw [ho]
 simp only
 have go : ∀ st, Rel P base ψ S w st a -> vcOp P τ calls o st (fun st => vcOps P τ calls ops.toList rest st K) -> o.wp P a w N Q := by
  intro st hrel h
  exact vcOp_ok hτ hz hcalls hrel h _ _ hn
 rw [vcOps_cons] at hk
 split at hk
 . rename_i hg
   have : Region.wanted o (yielded ops a.tmps) = true := by simp [Region.wanted, hg]
   rw [if_pos this]
   exact .inl (go st hrel hk)
 . rename_i j want hg
   split at hk
   . exact hk.elim
   . rename_i s hs
     obtain ⟨st', b, hk, hrel', hb, _⟩ := onBool_ok hrel hk
     have hy : yielded ops a.tmps j = b := by
      have hd : (ops[j]?).bind (·.dst) = some s := by
       unfold dstOf at hs
       rw [Array.getElem?_toList] at hs
       split at hs
       . rename_i hj; rw [hj]; exact hs
       . simp at hs
      simp only [yielded, hd, Option.bind_some]
      rw [<- hb]
      split <;> simp_all
     split at hk
     . rename_i he
       have : Region.wanted o (yielded ops a.tmps) = true := by simp only [Region.wanted, hg, hy]; exact he
       rw [if_pos this]
       exact .inl (go st' hrel' hk)
     . rename_i he
       have : ¬ Region.wanted o (yielded ops a.tmps) = true := by simp only [Region.wanted, hg, hy]; simpa using he
       rw [if_neg this]
       obtain ⟨st2, h1, h2⟩ := putK_rel (v := undef) hk hrel' rfl
       exact hn _ _ _ _ _ h1 h2 (Ext.refl _ _ _ _)
theorem mildLen_le (Γ : Sums) (bs : Bool) : ∀ (l : List Oper), mildLen Γ bs l <= l.length
 | [] => by simp [mildLen]
 | o :: l => by
   simp only [mildLen]
   split
   . have := mildLen_le Γ bs l; simp; omega
   . simp
theorem draw_tail (hτ : TysOk P τ) (hz : ∀ t i, τ t = some i -> zeroOk i.zero) {calls : Nat -> List Va -> St -> (Tm -> St -> Prop) -> Prop} (hcalls : CallsOk P base calls)
 {ops : Array Oper} {Q : Exit -> Act -> World -> Prop} {m : Nat} (hord : ∀ i j x o, ops[i]? = some o -> ops[j]? = some x -> j < i -> m <= i -> Cl ops i j) (hback : ∀ i o, ops[i]? = some o -> ∀ e ∈ o.after.toList, Region.binds .any e = true -> e.on < i)
 {K : St -> Prop} : ∀ (fuel k : Nat) (listed : Array Bool) (ψ : Psi) (S : Nat -> Prop) (w : World) (st : St) (a : Act), m <= k -> k + fuel = ops.size -> listed.size = ops.size -> (∀ j, listed.getD j false = decide (j < k)) ->
 Rel P base ψ S w st a -> vcOps P τ calls ops.toList (ops.toList.drop k) st K -> (∀ st' ψ' S' w' a', K st' -> Rel P base ψ' S' w' st' a' -> Ext base ψ S w ψ' S' w' -> Q .normal a' w') ->
 wpAny P .any ops Q fuel listed a w := by
 intro fuel
 induction fuel with
 | zero =>
   intro k listed ψ S w st a hmk hkf hsz hl hrel hk hq
   have hkn : k = ops.size := by omega
   have hr : Region.ready .any ops listed = [] := by
    cases hr : Region.ready .any ops listed with
    | nil => rfl
    | cons j _ =>
      have hj : j ∈ Region.ready .any ops listed := by rw [hr]; simp
      obtain ⟨h1, o, ho, _⟩ := mem_ready.1 hj
      have hjn : j < ops.size := (Array.getElem?_eq_some_iff.1 ho).1
      have := hl j
      have h2 : listed.getD j false = listed.getD j true := by simp [Array.getD, hsz, hjn]
      rw [h2, h1] at this; simp at this; omega
   refine ⟨hr, ?_⟩
   rw [hkn, List.drop_eq_nil_of_le (by simp)] at hk
   exact hq st ψ S w a hk hrel (Ext.refl _ _ _ _)
 | succ fuel ih =>
   intro k listed ψ S w st a hmk hkf hsz hl hrel hk hq
   have hkn : k < ops.size := by omega
   have getD : ∀ j, j < ops.size -> listed.getD j true = decide (j < k) := by
    intro j hj
    rw [<- hl j]; simp [Array.getD, hsz, hj]
   have hko : ops[k]? = some ops[k] := by simp [hkn]
   have only : ∀ j, j ∈ Region.ready .any ops listed -> j = k := by
    intro j hj
    obtain ⟨h1, o, ho, hd⟩ := mem_ready.1 hj
    have hjn : j < ops.size := (Array.getElem?_eq_some_iff.1 ho).1
    rw [getD j hjn] at h1
    simp at h1
    rcases Nat.lt_or_eq_of_le h1 with h2 | h2
    . have hcl := hord j k ops[k] o ho hko h2 (by omega)
      have hdown : Down ops (fun j => listed.getD j false) := by
       intro i oi hoi hi e he hb
       have h3 := hback i oi hoi e he hb
       simp only [hl, decide_eq_true_eq] at hi ⊢
       omega
      have := hcl.down hdown (by intro o' ho' e he hb; rw [ho] at ho'; cases ho'; exact hd e (by simpa using he) hb)
      simp only [hl, decide_eq_true_eq] at this
      omega
    . exact h2.symm
   have hready : k ∈ Region.ready .any ops listed := by
    refine mem_ready.2 ⟨by rw [getD k hkn]; simp, ops[k], hko, fun e he hb => ?_⟩
    rw [hl]; simpa using hback k _ hko e (by simpa using he) hb
   refine ⟨fun h => by rw [h] at hready; simp at hready, ?_⟩
   intro i hi
   have := only i hi
   subst this
   have hdrop : ops.toList.drop i = ops[i] :: ops.toList.drop (i + 1) := by
    rw [List.drop_eq_getElem_cons (by simpa using hkn)]; simp
   rw [hdrop] at hk
   refine vcOps_step hτ hz hcalls hko hrel hk ?_
   intro st' ψ' S' w' a' h1 h2 h3
   refine ih (i + 1) _ ψ' S' w' st' a' (by omega) (by omega) (by simp [hsz]) ?_ h2 h1 fun st2 ψ2 S2 w2 a2 q1 q2 q3 => hq _ _ _ _ _ q1 q2 (h3.trans q3)
   intro j
   by_cases hij : i = j
   . subst hij; simp [Array.getD, hsz, hkn]
   . rw [getD_set_ne _ hij, hl]
     simp only [decide_eq_decide]
     omega
end
def cntD (D : Nat -> Bool) : Nat -> Nat
 | 0 => 0
 | m + 1 => cntD D m + (match D m with | true => 1 | false => 0)
theorem cntD_le {D : Nat -> Bool} : ∀ (m : Nat), cntD D m <= m
 | 0 => Nat.le_refl _
 | m + 1 => by have := cntD_le (D := D) m; simp only [cntD]; split <;> omega
theorem cntD_full {D : Nat -> Bool} : ∀ (m : Nat), cntD D m = m -> ∀ j, j < m -> D j = true
 | 0, _, j, hj => by omega
 | m + 1, h, j, hj => by
   have hle := cntD_le (D := D) m
   simp only [cntD] at h
   cases hm : D m with
   | true =>
     rw [hm] at h
     rcases Nat.lt_succ_iff_lt_or_eq.1 hj with h1 | rfl
     . exact cntD_full m (by simp at h; omega) j h1
     . exact hm
   | false => rw [hm] at h; simp at h; omega
theorem cntD_lt {D : Nat -> Bool} : ∀ (m : Nat), cntD D m < m -> ∃ j, j < m /\ D j = false /\ ∀ j', j' < j -> D j' = true
 | 0, h => by omega
 | m + 1, h => by
   have hle := cntD_le (D := D) m
   rcases Nat.lt_or_eq_of_le hle with h1 | h1
   . obtain ⟨j, g1, g2⟩ := cntD_lt m h1; exact ⟨j, by omega, g2⟩
   . refine ⟨m, by omega, ?_, cntD_full m h1⟩
     simp only [cntD] at h
     cases hm : D m with
     | true => rw [hm] at h; simp at h; omega
     | false => rfl
theorem cntD_same {D D' : Nat -> Bool} : ∀ (m : Nat), (∀ j, j < m -> D j = D' j) -> cntD D m = cntD D' m
 | 0, _ => rfl
 | m + 1, h => by simp only [cntD, h m (by omega), cntD_same m fun j hj => h j (by omega)]
theorem cntD_add {D D' : Nat -> Bool} {i : Nat} (hD : D i = false) (hD' : ∀ j, D' j = (D j || j == i)) : ∀ (m : Nat), i < m -> cntD D' m = cntD D m + 1
 | 0, h => by omega
 | m + 1, h => by
   simp only [cntD]
   rcases Nat.lt_succ_iff_lt_or_eq.1 h with h1 | rfl
   . have : D' m = D m := by rw [hD' m]; have : (m == i) = false := by simp <;> omega
                             simp [this]
     rw [this, cntD_add hD hD' m h1]; omega
   . have : cntD D' i = cntD D i := cntD_same i fun j hj => by rw [hD' j]; have : (j == i) = false := by simp <;> omega
                                                               simp [this]
     rw [this, hD, hD' i]; simp
theorem Ext.weaken {base base' : Nat} {ψ ψ' : Psi} {S S' : Nat -> Prop} {w w' : World} (hb : base <= base') (h : Ext base' ψ S w ψ' S' w') : Ext base ψ S w ψ' S' w' :=
 ⟨h.os, h.tape, h.output, h.grow, h.old, h.later, h.newS, h.newP, fun k hk => h.agr k (by omega)⟩
section
variable {P : Program} {τ : Tys} {Γ : Sums} {base : Nat} {ψ ψ' : Psi} {S S' : Nat → Prop} {w w' : World} {a : Act}
theorem way_heap {n0 : Nat} {ops : List Oper} {f : Nat -> St} {y : Nat -> Tm} {B : Nat -> Option (List Cell)} {m : Nat}
 (hw : ∀ j o, j < m -> ops[j]? = some o -> DStep P τ Γ n0 ops j o (y j) (B j) (f j) (f (j + 1))) (hops : m <= ops.length) (hid : idsBelow (f 0).heap n0 = true) :
 ∀ i, i <= m -> (∀ k, n0 + i <= k -> lookB (f i).heap k = .gone) /\ (∀ k, k < n0 -> lookB (f i).heap k = lookB (f 0).heap k) /\ (∀ i', i' <= i -> Sup (f i').heap (f i).heap) /\
  (∀ j cs, j < i -> B j = some cs -> lookB (f i).heap (n0 + j) = .cells cs) /\ (f i).next = (f 0).next /\ (f i).lim = (f 0).lim := by
 intro i
 induction i with
 | zero => 
   intro _
   exact ⟨fun k hk => idsBelow_look hid hk, fun _ _ => rfl, fun i' hi' => by have : i' = 0 := by omega
                                                                             subst this; exact fun _ _ h _ => h, fun j cs hj => by omega, rfl, rfl⟩
 | succ i ih =>
   intro hi
   obtain ⟨h1, h2, h3, h4, h5, h6⟩ := ih (by omega)
   have ho : ops[i]? = some (ops[i]'(by omega)) := by simp
   obtain ⟨_, e, _⟩ := hw i _ (by omega) ho
   have look : ∀ k, lookB (f (i + 1)).heap k = match B i with | some cs => if n0 + i = k then .cells cs else lookB (f i).heap k | none => lookB (f i).heap k := by
    intro k
    rw [e]
    cases B i with
    | none => rfl
    | some cs => show lookB ((n0 + i, Blk.cells cs) :: (f i).heap) k = _; rw [lookB_cons]
   have hn : (f (i + 1)).next = (f i).next := by rw [e]
   have hl : (f (i + 1)).lim = (f i).lim := by rw [e]
   have ne : ∀ k, k ≠ n0 + i -> lookB (f (i + 1)).heap k = lookB (f i).heap k := by
    intro k hk
    rw [look]
    cases B i with
    | none => rfl
    | some cs => simp only; rw [if_neg (by omega)]
   have sup : Sup (f i).heap (f (i + 1)).heap := by
    intro k b hb hg
    by_cases hk : k = n0 + i
    . rw [h1 k (by omega)] at hb; exact (hg hb.symm).elim
    . rw [ne k hk]; exact hb
   refine ⟨?_, ?_, ?_, ?_, by rw [hn, h5], by rw [hl, h6]⟩
   . intro k hk; rw [ne k (by omega)]; exact h1 k (by omega)
   . intro k hk; rw [ne k (by omega)]; exact h2 k hk
   . intro i' hi'
     rcases Nat.lt_or_eq_of_le hi' with h | rfl
     . intro k b hb hg
       have := h3 i' (by omega) k b hb hg
       exact sup k b this hg
     . exact fun _ _ h _ => h
   . intro j cs hj hB
     rcases Nat.lt_succ_iff_lt_or_eq.1 hj with h | rfl
     . rw [ne _ (by omega)]; exact h4 j cs h hB
     . rw [look, hB]; simp
theorem way_tmps {n0 : Nat} {ops : List Oper} {f : Nat -> St} {y : Nat -> Tm} {B : Nat -> Option (List Cell)} {m : Nat} {dst : Nat -> Option Tmp} (hdst : ∀ j o, ops[j]? = some o -> dst j = o.dst)
 (hw : ∀ j o, j < m -> ops[j]? = some o -> DStep P τ Γ n0 ops j o (y j) (B j) (f j) (f (j + 1))) (hops : m <= ops.length) :
 ∀ i, i <= m -> (f i).tmps = tsOf y dst (f 0).tmps (fun _ => true) i := by
 intro i
 induction i with
 | zero => intro _; rfl
 | succ i ih =>
   intro hi
   have ho : ops[i]? = some (ops[i]'(by omega)) := by simp
   obtain ⟨_, e, _⟩ := hw i _ (by omega) ho
   rw [e]
   simp only [tsOf, hdst i _ ho, ih (by omega)]
theorem draw_head (hτ : TysOk P τ) (hz : ∀ t i, τ t = some i -> zeroOk i.zero) (hΓ : SumsOk P Γ) {calls : Nat -> List Va -> St -> (Tm -> St -> Prop) -> Prop} (hcalls : CallsOk P base calls)
 {ops : Array Oper} {Q : Exit -> Act -> World -> Prop} {n0 m : Nat} {f : Nat -> St} {y : Nat -> Tm} {B : Nat -> Option (List Cell)} {dst : Nat -> Option Tmp}
 (hm : m <= ops.size) (hdraw : drawOk ops.toList m = true) (hdst : ∀ j o, ops[j]? = some o -> dst j = o.dst)
 (hw : ∀ j o, j < m -> ops.toList[j]? = some o -> DStep P τ Γ n0 ops.toList j o (y j) (B j) (f j) (f (j + 1))) (hid : idsBelow (f 0).heap n0 = true) (hb : base <= n0) {K : St -> Prop}
 (hk : vcOps P τ calls ops.toList (ops.toList.drop m) ⟨(f m).tmps, (f m).heap, n0 + m, (f m).lim⟩ K) :
 ∀ (fuel : Nat) (listed : Array Bool) (ψ : Psi) (S : Nat -> Prop) (w : World) (a : Act), listed.size = ops.size -> cntD (fun j => listed.getD j false) m + fuel = ops.size ->
 (∀ j, listed.getD j false = true -> j < m) -> Down ops (fun j => listed.getD j false) -> (∀ j, j < m -> listed.getD j false = false -> ψ (n0 + j) = none) ->
 Rel P base ψ S w ⟨tsOf y dst (f 0).tmps (fun j => listed.getD j false) m, (f m).heap, n0 + m, (f m).lim⟩ a ->
 (∀ st' ψ' S' w' a', K st' -> Rel P base ψ' S' w' st' a' -> Ext base ψ S w ψ' S' w' -> Q .normal a' w') -> wpAny P .any ops Q fuel listed a w := by
 obtain ⟨hback, hord⟩ := drawOk_spec hdraw
 have hheap := way_heap hw (by simpa using hm) hid
 have htmps := way_tmps (dst := dst) (fun j o ho => hdst j o (by simpa using ho)) hw (by simpa using hm)
 intro fuel
 induction fuel with
 | zero =>
   intro listed ψ S w a hsz hcnt hsup hdown hun hrel hq
   have hle := cntD_le (D := fun j => listed.getD j false) m
   have hfull := cntD_full (D := fun j => listed.getD j false) m (by omega)
   refine draw_tail hτ hz hcalls (m := m) (fun i j x o ho hx hj hmi => by
    rcases hord i j x o ho hx hj with h | h
    . exact h
    . omega) hback 0 m listed ψ S w _ a (Nat.le_refl _) (by omega) hsz ?_ ?_ hk hq
   . intro j
     by_cases hj : j < m
     . simp only [hj, decide_true]; exact hfull j hj
     . simp only [hj, decide_false]
       cases h : listed.getD j false with
       | false => rfl
       | true => exact absurd (hsup j h) hj
   . refine ⟨hrel.bas, hrel.sim, hrel.lim, hrel.defers, fun t => ?_⟩
     have := hrel.tmps t
     rw [htmps m (Nat.le_refl _)]
     rwa [tsOf_same (D' := fun _ => true) m fun j hj _ => hfull j hj] at this
 | succ fuel ih =>
   intro listed ψ S w a hsz hcnt hsup hdown hun hrel hq
   have hle := cntD_le (D := fun j => listed.getD j false) m
   rcases Nat.lt_or_eq_of_le hle with hlt | heq
   . obtain ⟨j0, hj0, hj1, hj2⟩ := cntD_lt (D := fun j => listed.getD j false) m hlt
     have getD : ∀ j, j < ops.size -> listed.getD j true = listed.getD j false := by
      intro j hj; simp [Array.getD, hsz, hj]
     have hjo : ops[j0]? = some (ops[j0]'(by omega)) := by simp <;> omega
     have hready : j0 ∈ Region.ready .any ops listed := by
      refine mem_ready.2 ⟨by rw [getD j0 (by omega)]; exact hj1, _, hjo, fun e he hbi => ?_⟩
      exact hj2 e.on (hback j0 _ hjo e (by simpa using he) hbi)
     refine ⟨fun h => by rw [h] at hready; simp at hready, ?_⟩
     intro i hi
     obtain ⟨hi1, o, ho, hi2⟩ := mem_ready.1 hi
     have hin : i < ops.size := (Array.getElem?_eq_some_iff.1 ho).1
     rw [getD i hin] at hi1
     have hcl : ∀ j, Cl ops i j -> listed.getD j false = true := fun j h => h.down hdown fun o' ho' e he hbi => by
      rw [ho] at ho'; cases ho'; exact hi2 e (by simpa using he) hbi
     have him : i < m := by
      rcases Nat.lt_or_ge i m with h | h
      . exact h
      . rcases hord i j0 _ o ho hjo (by omega) with h1 | h1
        . have := hcl _ h1; simp only [this] at hj1; cases hj1
        . exact h1.1
     have hol : ops.toList[i]? = some o := by simpa using ho
     -- the slots that it reads are as in the text's order
     have reads : ∀ t, t ∈ readsOf ops.toList o -> lookT (tsOf y dst (f 0).tmps (fun j => listed.getD j false) m) t = lookT (f i).tmps t := by
      intro t ht
      rw [htmps i (by omega), tsOf_cut (i := i) m (by omega), tsOf_same (D' := fun _ => true) i]
      . intro j hj hd
        have hjo' : ops[j]? = some (ops[j]'(by omega)) := by simp <;> omega
        rcases hord i j _ o ho hjo' hj with h1 | h1
        . exact hcl j h1
        . rw [hdst j _ hjo'] at hd
          exact absurd ht ((clash_spec h1.2).1 t hd).1
      . intro j h1 h2 hd
        rcases Nat.lt_or_eq_of_le h1 with h3 | rfl
        . have hjo' : ops[j]? = some (ops[j]'(by omega)) := by simp <;> omega
          rcases hord j i o _ hjo' ho h3 with h4 | h4
          . cases hD : listed.getD j false with
            | false => rfl
            | true =>
              have : listed.getD i false = true := h4.down hdown fun o' ho' e he hbi => hdown j o' ho' hD e he hbi
              rw [this] at hi1; cases hi1
          . rw [hdst j _ hjo'] at hd
            exact absurd ht ((clash_spec h4.2).2 t hd)
        . exact hi1
     have hD' : ∀ j, (listed.setIfInBounds i true).getD j false = (listed.getD j false || j == i) := by
      intro j
      by_cases hij : i = j
      . subst hij; simp [Array.getD, hsz, hin]
      . rw [getD_set_ne _ hij]
        have : (j == i) = false := by simp <;> omega
        simp [this]
     have adds : ∀ t, lookT (tsOf y dst (f 0).tmps (fun j => (listed.setIfInBounds i true).getD j false) m) t = if dst i = some t then y i else lookT (tsOf y dst (f 0).tmps (fun j => listed.getD j false) m) t := by
      intro t
      refine tsOf_add him hi1 hD' fun j h1 h2 hd hd' => ?_
      have hjo' : ops[j]? = some (ops[j]'(by omega)) := by simp <;> omega
      rcases hord j i o _ hjo' ho h1 with h4 | h4
      . cases hD : listed.getD j false with
        | false => rfl
        | true =>
          have : listed.getD i false = true := h4.down hdown fun o' ho' e he hbi => hdown j o' ho' hD e he hbi
          rw [this] at hi1; cases hi1
      . rw [hdst j _ hjo'] at hd
        rw [hdst i _ ho] at hd'
        exact absurd hd ((clash_spec h4.2).1 t hd').2
     obtain ⟨hlim, hst, hstep⟩ := hw i o him hol
     have hlim' : inLim o.dst (f m).lim = true := by
      rw [(hheap m (Nat.le_refl _)).2.2.2.2.2, <- (hheap i (by omega)).2.2.2.2.2]; exact hlim
     -- on with the next ones
     have next : ∀ x, Known x (y i) -> ∀ ψ' S' w' a', Rel P base ψ' S' w' ⟨putT o.dst x (tsOf y dst (f 0).tmps (fun j => listed.getD j false) m), (f m).heap, n0 + m, (f m).lim⟩ a' -> Ext base ψ S w ψ' S' w' ->
      (∀ k, n0 <= k -> k < n0 + m -> k ≠ n0 + i -> ψ' k = ψ k) -> wpAny P .any ops Q fuel (listed.setIfInBounds i true) a' w' := by
      intro x hkn ψ' S' w' a' hr he hp
      refine ih _ ψ' S' w' a' (by simp [hsz]) ?_ ?_ ?_ ?_ ?_ fun st2 ψ2 S2 w2 a2 q1 q2 q3 => hq _ _ _ _ _ q1 q2 (he.trans q3)
      . have := cntD_add (D := fun j => listed.getD j false) (D' := fun j => (listed.setIfInBounds i true).getD j false) (i := i) hi1 hD' m him
        omega
      . intro j hj
        have hj := (hD' j).symm.trans hj
        simp only [Bool.or_eq_true, beq_iff_eq] at hj
        rcases hj with hj | rfl
        . exact hsup j hj
        . exact him
      . intro j oj hoj hj e he' hbi
        have hj := (hD' j).symm.trans hj
        refine (hD' e.on).trans ?_
        simp only [Bool.or_eq_true, beq_iff_eq] at hj ⊢
        rcases hj with hj | rfl
        . exact .inl (hdown j oj hoj hj e he' hbi)
        . rw [ho] at hoj; cases hoj
          exact .inl (hi2 e (by simpa using he') hbi)
      . intro j hj hDj
        have hDj := (hD' j).symm.trans hDj
        simp only [Bool.or_eq_false_iff, beq_eq_false_iff_ne] at hDj
        rw [hp (n0 + j) (by omega) (by omega) (by omega)]
        exact hun j hj hDj.1
      . refine ⟨hr.bas, hr.sim, hr.lim, hr.defers, fun t => ?_⟩
        have := hr.tmps t
        rw [adds]
        rw [lookT_putT] at this
        rw [<- hdst i o ho] at this
        by_cases hd : dst i = some t
        . rw [if_pos hd] at this ⊢; exact hkn.rep this
        . rw [if_neg hd] at this ⊢; exact this
     have guard : ∀ b, dWant ops.toList (f i) o (fun w => w = b) -> Region.wanted o (yielded ops a.tmps) = b := by
      intro b hb
      refine dWant_real (P := P) (ψ := ψ) (S := S) (w := w) hb fun j want s hg hs => ?_
      rw [<- reads s (by simp only [readsOf, hg, hs]; simp)]
      exact hrel.tmps s
     unfold wpOp
     rw [ho]
     simp only
     rcases hstep with ⟨h1, h2, h3⟩ | ⟨x, h1, h2, h3⟩
     . rw [if_neg (by rw [guard _ h1]; simp)]
       obtain ⟨st2, g1, g2⟩ := putK_rel (v := undef) (putK_put (x := undT) hlim') hrel rfl
       subst g1
       exact next undT (.inl h2) ψ S w _ g2 (Ext.refl _ _ _ _) fun _ _ _ _ => rfl
     . rw [if_pos (guard _ h1)]
       left
       have hev : ∀ z ∈ o.op.operands.toList, ev (f i) z = ev ⟨tsOf y dst (f 0).tmps (fun j => listed.getD j false) m, (f m).heap, n0 + m, (f m).lim⟩ z := by
        intro z hz
        cases z with
        | tmp t => exact (reads t (operand_reads hz)).symm
        | _ => rfl
       have hop := dOp_congr (st' := ⟨tsOf y dst (f 0).tmps (fun j => listed.getD j false) m, (f m).heap, n0 + m, (f m).lim⟩) hev ((hheap m (Nat.le_refl _)).2.2.1 i (by omega)) h2
       have hrel2 : Rel P (n0 + m) ψ S w ⟨tsOf y dst (f 0).tmps (fun j => listed.getD j false) m, (f m).heap, n0 + m, (f m).lim⟩ a := ⟨Nat.le_refl _, hrel.sim, hrel.lim, hrel.defers, hrel.tmps⟩
       cases hB : B i with
       | none =>
         rw [hB] at hop
         refine dOp_ok hτ hz hΓ hrel2 hlim' hop _ _ ?_
         rintro st' ψ' S' w' a' rfl g1 g2
         exact next x h3 ψ' S' w' a' ⟨by have := hb; show base <= n0 + m; omega, g1.sim, g1.lim, g1.defers, g1.tmps⟩ (g2.weaken (by omega)) fun k _ hk _ => g2.agr k hk
       | some cs =>
         rw [hB] at hop
         refine dOp_blk (base := base) hτ hz hrel (hun i him hi1) (by omega) (by omega) ((hheap m (Nat.le_refl _)).2.2.2.1 i cs him hB) hlim' hop _ _ ?_
         intro ψ' S' w' a' g1 g2 g3
         exact next x h3 ψ' S' w' a' g1 g2 fun k _ _ hk => g3 k hk
   . have hfull := cntD_full (D := fun j => listed.getD j false) m heq
     refine draw_tail hτ hz hcalls (m := m) (fun i j x o ho hx hj hmi => by
      rcases hord i j x o ho hx hj with h | h
      . exact h
      . omega) hback (fuel + 1) m listed ψ S w _ a (Nat.le_refl _) (by omega) hsz ?_ ?_ hk hq
     . intro j
       by_cases hj : j < m
       . simp only [hj, decide_true]; exact hfull j hj
       . simp only [hj, decide_false]
         cases h : listed.getD j false with
         | false => rfl
         | true => exact absurd (hsup j h) hj
     . refine ⟨hrel.bas, hrel.sim, hrel.lim, hrel.defers, fun t => ?_⟩
       have := hrel.tmps t
       rw [htmps m (Nat.le_refl _)]
       rwa [tsOf_same (D' := fun _ => true) m fun j hj _ => hfull j hj] at this
theorem draw_any_at (hτ : TysOk P τ) (hz : ∀ t i, τ t = some i -> zeroOk i.zero) (hΓ : SumsOk P Γ) {calls : Nat -> List Va -> St -> (Tm -> St -> Prop) -> Prop} (hcalls : CallsOk P base calls)
 {ops : Array Oper} {Q : Exit -> Act -> World -> Prop} {st : St} {K : St -> Prop} (hrel : Rel P base ψ S w st a) (hid : idsBelow st.heap st.next = true) {mm : Nat} (hm : mm <= ops.size) (hdraw : drawOk ops.toList mm = true) (hk : vcDrawAt P τ Γ calls mm ops.toList st K)
 (hq : ∀ st' ψ' S' w' a', K st' -> Rel P base ψ' S' w' st' a' -> Ext base ψ S w ψ' S' w' -> Q .normal a' w') : wpAny P .any ops Q ops.size (Array.replicate ops.size false) a { w with drawn := w.drawn + 1 } := by
 unfold vcDrawAt at hk
 obtain ⟨f, y, B, h1, h2, h3⟩ := dGo_way _ _ _ _ hk
 have hlen : (ops.toList.take (mm)).length = mm := by simp <;> omega
 rw [hlen] at h2
 have hw : ∀ j o, j < mm -> ops.toList[j]? = some o -> DStep P τ Γ st.next ops.toList j o (y j) (B j) (f j) (f (j + 1)) := by
  intro j o hj ho
  have := h3 j o (by rw [List.getElem?_take]; simp [hj]; simpa using ho)
  simpa using this
 have hheap := way_heap hw (by simpa using hm) (by rw [h1]; exact hid) _ (Nat.le_refl _)
 obtain ⟨g1, g2, g3, g4, g5, g6⟩ := hheap
 obtain ⟨hrel1, hext1⟩ : Rel P base ψ S { w with drawn := w.drawn + 1 } st a /\ Ext base ψ S w ψ S { w with drawn := w.drawn + 1 } :=
  hrel.ext0 ⟨rfl, rfl, rfl, Nat.le_refl _, fun _ _ => rfl, fun _ h => h, fun _ h => .inl h, hrel.sim.sdom⟩
 refine draw_head hτ hz hΓ hcalls hm hdraw (dst := fun j => (ops[j]?).bind (·.dst)) (fun j o ho => by simp [ho]) hw (by rw [h1]; exact hid) hrel.bas (K := K) ?_ ops.size _ ψ S _ a (by simp) ?_ ?_ ?_ ?_ ?_ ?_
 . have e : (f (mm)).next = st.next := by rw [g5, h1]
   rw [<- e]; exact h2
 . have : ∀ m, cntD (fun j => (Array.replicate ops.size false).getD j false) m = 0 := by
    intro m
    induction m with
    | zero => rfl
    | succ m ih =>
      simp only [cntD, ih]
      have : (Array.replicate ops.size false)[m]?.getD false = false := by by_cases h : m < ops.size <;> simp [h]
      simp [this]
   rw [this]; simp
 . intro j hj; simp [Array.getD] at hj
 . intro i o _ hi; simp [Array.getD] at hi
 . intro j _ _; exact hrel.sim.dom _ (by omega)
 . have hts : tsOf y (fun j => (ops[j]?).bind (·.dst)) (f 0).tmps (fun j => (Array.replicate ops.size false).getD j false) (mm) = st.tmps := by
    rw [h1]
    clear hk h2 h3 hw g1 g2 g3 g4 g5 g6
    clear hm hdraw hlen
    generalize mm = m
    induction m with
    | zero => rfl
    | succ m ih => simp only [tsOf]; have : (Array.replicate ops.size false).getD m false = false := by simp [Array.getD]
                   rw [this]; exact ih
   rw [hts, g6, h1]
   have hlook : ∀ k l, ψ k = some l -> lookB (f (mm)).heap k = lookB st.heap k := by
    intro k l hk
    have : k < st.next := by
     rcases Nat.lt_or_ge k st.next with h | h
     . exact h
     . rw [hrel.sim.dom k h] at hk; cases hk
    rw [g2 k this, h1]
   have hs := hrel1.sim
   refine ⟨by have := hrel.bas; show base <= st.next + _; omega, ⟨fun k hk => hs.dom k (by have hk : st.next + mm <= k := hk; omega), fun k l hk => by rw [hlook k l hk]; exact hs.blk k l hk, fun k k' b m1 m2 e1 e2 l1 l2 => ?_, fun k b m1 e1 l1 => ?_, hs.pdom, hs.sdom⟩, hrel1.lim, hrel1.defers, hrel1.tmps⟩
   . rw [hlook _ _ e1] at l1; rw [hlook _ _ e2] at l2; exact hs.inj k k' b m1 m2 e1 e2 l1 l2
   . rw [hlook _ _ e1] at l1; exact hs.dis k b m1 e1 l1
 . intro st' ψ' S' w' a' q1 q2 q3
   exact hq _ _ _ _ _ q1 q2 (hext1.trans q3)
theorem draw_ok_at (hτ : TysOk P τ) (hz : ∀ t i, τ t = some i -> zeroOk i.zero) (hΓ : SumsOk P Γ) {calls : Nat -> List Va -> St -> (Tm -> St -> Prop) -> Prop} (hcalls : CallsOk P base calls) (hmix : P.follows .mixedOrders = true)
 {ops : Array Oper} {id : Nat} {Q : Exit -> Act -> World -> Prop} {st : St} {K : St -> Prop} (hrel : Rel P base ψ S w st a) (hid : idsBelow st.heap st.next = true) {mm : Nat} (hm : mm <= ops.size) (hdraw : drawOk ops.toList mm = true) (hk : vcDrawAt P τ Γ calls mm ops.toList st K)
 (hq : ∀ st' ψ' S' w' a', K st' -> Rel P base ψ' S' w' st' a' -> Ext base ψ S w ψ' S' w' -> Q .normal a' w') : (Code.region id ops true).wp P Q a w :=
 wp_region_any hmix (draw_any_at hτ hz hΓ hcalls hrel hid hm hdraw hk hq)
theorem draw_ok (hτ : TysOk P τ) (hz : ∀ t i, τ t = some i -> zeroOk i.zero) (hΓ : SumsOk P Γ) {calls : Nat -> List Va -> St -> (Tm -> St -> Prop) -> Prop} (hcalls : CallsOk P base calls) (hmix : P.follows .mixedOrders = true)
 {ops : Array Oper} {id : Nat} {Q : Exit -> Act -> World -> Prop} {st : St} {K : St -> Prop} (hrel : Rel P base ψ S w st a) (hid : idsBelow st.heap st.next = true) {other : Prop} (ho : other -> (Code.region id ops true).wp P Q a w) (hk : vcDraw P τ Γ calls ops.toList st K other)
 (hq : ∀ st' ψ' S' w' a', K st' -> Rel P base ψ' S' w' st' a' -> Ext base ψ S w ψ' S' w' -> Q .normal a' w') : (Code.region id ops true).wp P Q a w := by
 have hm : ∀ bs, mildLen Γ bs ops.toList <= ops.size := fun bs => by have := mildLen_le Γ bs ops.toList; simpa using this
 unfold vcDraw at hk
 split at hk
 . rename_i hd; exact draw_ok_at hτ hz hΓ hcalls hmix hrel hid (hm _) hd hk hq
 . split at hk
   . rename_i hd; exact draw_ok_at hτ hz hΓ hcalls hmix hrel hid (hm _) hd hk hq
   . exact ho hk
theorem draw_any (hτ : TysOk P τ) (hz : ∀ t i, τ t = some i -> zeroOk i.zero) (hΓ : SumsOk P Γ) {calls : Nat -> List Va -> St -> (Tm -> St -> Prop) -> Prop} (hcalls : CallsOk P base calls)
 {ops : Array Oper} {Q : Exit -> Act -> World -> Prop} {st : St} {K : St -> Prop} (hrel : Rel P base ψ S w st a) (hid : idsBelow st.heap st.next = true) (hk : vcDraw P τ Γ calls ops.toList st K False)
 (hq : ∀ st' ψ' S' w' a', K st' -> Rel P base ψ' S' w' st' a' -> Ext base ψ S w ψ' S' w' -> Q .normal a' w') : wpAny P .any ops Q ops.size (Array.replicate ops.size false) a { w with drawn := w.drawn + 1 } := by
 have hm : ∀ bs, mildLen Γ bs ops.toList <= ops.size := fun bs => by have := mildLen_le Γ bs ops.toList; simpa using this
 unfold vcDraw at hk
 split at hk
 . rename_i hd; exact draw_any_at hτ hz hΓ hcalls hrel hid (hm _) hd hk hq
 . split at hk
   . rename_i hd; exact draw_any_at hτ hz hΓ hcalls hrel hid (hm _) hd hk hq
   . exact hk.elim
end
section
variable {P : Program} {τ : Tys} {Γ : Sums} {base : Nat} {ψ ψ' : Psi} {S S' : Nat → Prop} {w w' : World} {st st1 : St} {a : Act} {o : Oper} {K : St → Prop}
structure ASat (P : Program) (base : Nat) (c : Code) (st : St) (Q : Exit -> St -> Prop) : Prop where
 run : ∀ ψ S w a, Rel P base ψ S w st a -> c.wp P (fun e a' w' => ∃ st' ψ' S', Q e st' /\ Rel P base ψ' S' w' st' a' /\ Ext base ψ S w ψ' S' w') a w
def condK (c : Operand) (A B : St -> (Exit -> St -> Prop) -> Prop) (st : St) (Q : Exit -> St -> Prop) : Prop := match c with
 | .tmp s => onBool st s fun st t => match t with
   | some true => A st Q
   | some false => B st Q
   | none => False
 | .const (.bool true) => A st Q
 | .const (.bool false) => B st Q
 | _ => False
def vc (P : Program) (τ : Tys) (Γ : Sums) (calls : Nat -> List Va -> St -> (Tm -> St -> Prop) -> Prop) (base : Nat) (c : Code) : St -> (Exit -> St -> Prop) -> Prop :=
 Code.rec (motive := fun _ => St -> (Exit -> St -> Prop) -> Prop)
  (skip := fun st Q => Q .normal st)
  (region := fun id ops draw st Q => match draw with
    | true => match idsBelow st.heap st.next with
      | true => vcDraw P τ Γ calls ops.toList st (Q .normal) (ASat P base (.region id ops true) st Q)
      | false => ASat P base (.region id ops true) st Q
    | false => vcOps P τ calls ops.toList ops.toList st (Q .normal))
  (seq := fun _ _ ha hb st Q => ha st fun e st => match e with
    | .normal => hb st Q
    | .exit id => Q (.exit id) st
    | .goto l => Q (.goto l) st
    | .ret => Q .ret st
    | _ => False)
  (cond := fun c _ _ ha hb st Q => condK c ha hb st Q)
  (block := fun id _ hc st Q => hc st fun e st => match e with
    | .exit id' => match Nat.beq id' id with
      | true => Q .normal st
      | false => Q (.exit id') st
    | .normal => Q .normal st
    | .goto l => Q (.goto l) st
    | .ret => Q .ret st
    | _ => False)
  (exit := fun id st Q => Q (.exit id) st)
  (goto := fun l st Q => Q (.goto l) st)
  (label := fun _ st Q => Q .normal st)
  (ret := fun st Q => Q .ret st)
  (loop := fun c _ st Q => ASat P base (.loop c) st Q)
  (scope := fun c _ st Q => ASat P base (.scope c) st Q)
  (rangeFunc := fun f ps x y _ _ st Q => ASat P base (.rangeFunc f ps x y) st Q)
  (refuse := fun _ _ _ => False) c
theorem vc_ok (hτ : TysOk P τ) (hz : ∀ t i, τ t = some i -> zeroOk i.zero) (hΓ : SumsOk P Γ) (hmix : P.follows .mixedOrders = true) {calls : Nat -> List Va -> St -> (Tm -> St -> Prop) -> Prop} (hcalls : CallsOk P base calls) :
 ∀ (c : Code) (st : St) (Q : Exit -> St -> Prop), vc P τ Γ calls base c st Q -> ASat P base c st Q
 | .skip, st, Q, h => .mk fun ψ S w a hr => wp_skip ⟨st, ψ, S, h, hr, Ext.refl _ _ _ _⟩
 | .region id ops draw, st, Q, h => .mk fun ψ S w a hr => by
   cases draw with
   | true =>
     have h : (match idsBelow st.heap st.next with | true => vcDraw P τ Γ calls ops.toList st (Q .normal) (ASat P base (.region id ops true) st Q) | false => ASat P base (.region id ops true) st Q) := h
     split at h
     . rename_i hid
       exact draw_ok hτ hz hΓ hcalls hmix hr hid (fun h => h.run ψ S w a hr) h fun st' ψ' S' w' a' h1 h2 h3 => ⟨st', ψ', S', h1, h2, h3⟩
     . exact h.run ψ S w a hr
   | false =>
     have h : vcOps P τ calls ops.toList ops.toList st (Q .normal) := h
     refine wp_region ?_
     have := vcOps_ok hτ hz hcalls (ops := ops) (Q := fun e a' w' => ∃ st' ψ' S', Q e st' /\ Rel P base ψ' S' w' st' a' /\ Ext base ψ S w ψ' S' w') ops.toList 0 ψ S w st a (Q .normal) (fun i o ho => by simpa using ho) hr h
      (fun st' ψ' S' w' a' h1 h2 h3 => ⟨st', ψ', S', h1, h2, h3⟩)
     rw [List.range_eq_range']
     simpa using this
 | .seq x y, st, Q, h => .mk fun ψ S w a hr => by
   have h : vc P τ Γ calls base x st (fun e st => match e with
    | .normal => vc P τ Γ calls base y st Q
    | .exit id => Q (.exit id) st
    | .goto l => Q (.goto l) st
    | .ret => Q .ret st
    | _ => False) := h
   refine wp_seq (wp_mono ((vc_ok hτ hz hΓ hmix hcalls x _ _ h).run ψ S w a hr) ?_)
   rintro e a' w' ⟨st', ψ', S', hq, hr', he⟩
   cases e with
   | normal =>
     refine wp_mono ((vc_ok hτ hz hΓ hmix hcalls y _ _ hq).run ψ' S' w' a' hr') ?_
     rintro e a2 w2 ⟨st2, ψ2, S2, hq2, hr2, he2⟩
     exact ⟨st2, ψ2, S2, hq2, hr2, he.trans he2⟩
   | exit id => exact ⟨st', ψ', S', hq, hr', he⟩
   | goto l => exact ⟨st', ψ', S', hq, hr', he⟩
   | ret => exact ⟨st', ψ', S', hq, hr', he⟩
   | panic ch => exact hq.elim
   | outgrown => exact hq.elim
 | .cond c x y, st, Q, h => .mk fun ψ S w a hr => by
   have h : condK c (vc P τ Γ calls base x) (vc P τ Γ calls base y) st Q := h
   unfold condK at h
   split at h
   . rename_i s
     obtain ⟨st', b, hk, hrel', _, hb⟩ := onBool_ok hr h
     split at hk
     . exact wp_cond_true (hb true rfl) ((vc_ok hτ hz hΓ hmix hcalls x _ _ hk).run ψ S w a hrel')
     . exact wp_cond_false (hb false rfl) ((vc_ok hτ hz hΓ hmix hcalls y _ _ hk).run ψ S w a hrel')
     . exact hk.elim
   . exact wp_cond_true rfl ((vc_ok hτ hz hΓ hmix hcalls x _ _ h).run ψ S w a hr)
   . exact wp_cond_false rfl ((vc_ok hτ hz hΓ hmix hcalls y _ _ h).run ψ S w a hr)
   . exact h.elim
 | .block id c, st, Q, h => .mk fun ψ S w a hr => by
   have h : vc P τ Γ calls base c st (fun e st => match e with
    | .exit id' => match Nat.beq id' id with
      | true => Q .normal st
      | false => Q (.exit id') st
    | .normal => Q .normal st
    | .goto l => Q (.goto l) st
    | .ret => Q .ret st
    | _ => False) := h
   refine wp_block (wp_mono ((vc_ok hτ hz hΓ hmix hcalls c _ _ h).run ψ S w a hr) ?_)
   rintro e a' w' ⟨st', ψ', S', hq, hr', he⟩
   cases e with
   | normal => exact ⟨st', ψ', S', hq, hr', he⟩
   | exit id' =>
     simp only at hq
     simp only [Exit.inBlock]
     cases hb : Nat.beq id' id with
     | true =>
       rw [hb] at hq
       rw [if_pos (Nat.eq_of_beq_eq_true hb)]
       exact ⟨st', ψ', S', hq, hr', he⟩
     | false =>
       rw [hb] at hq
       rw [if_neg (Nat.ne_of_beq_eq_false hb)]
       exact ⟨st', ψ', S', hq, hr', he⟩
   | goto l => exact ⟨st', ψ', S', hq, hr', he⟩
   | ret => exact ⟨st', ψ', S', hq, hr', he⟩
   | panic ch => exact hq.elim
   | outgrown => exact hq.elim
 | .exit id, st, Q, h => .mk fun ψ S w a hr => wp_exit ⟨st, ψ, S, h, hr, Ext.refl _ _ _ _⟩
 | .goto l, st, Q, h => .mk fun ψ S w a hr => wp_goto ⟨st, ψ, S, h, hr, Ext.refl _ _ _ _⟩
 | .label l, st, Q, h => .mk fun ψ S w a hr => wp_label ⟨st, ψ, S, h, hr, Ext.refl _ _ _ _⟩
 | .ret, st, Q, h => .mk fun ψ S w a hr => wp_ret ⟨st, ψ, S, h, hr, Ext.refl _ _ _ _⟩
 | .loop c, st, Q, h => h
 | .scope c, st, Q, h => h
 | .rangeFunc f ps x y, st, Q, h => h
 | .refuse _, _, _, h => h.elim
end
section
variable {P : Program} {τ : Tys} {base : Nat} {ψ ψ' : Psi} {S S' : Nat → Prop} {w w' : World} {a : Act}
def zipN {α : Type} : Nat -> List α -> List (Nat × α)
 | _, [] => []
 | i, x :: xs => (i, x) :: zipN (i + 1) xs
def capVas (c : Nat) : List Va -> List Va
 | .c (.osl k z o len) :: xs => .c (.osc k z o len c) :: xs
 | xs => xs
def capLe (c : Nat) : List Va -> Prop
 | .c (.osl _ _ _ len) :: _ => len <= c
 | _ => True
theorem capVas_rep {xs : List Va} {vs : List Value} (h : All2 (RepVa P ψ S w) xs vs) : ∃ c, capLe c xs /\ All2 (RepVa P ψ S w) (capVas c xs) vs := by
 unfold capVas capLe
 split
 . rename_i k z o len xs
   cases vs with
   | nil => exact h.elim
   | cons v vs =>
     rcases h.1 with ⟨h1, rfl, a0, h2⟩ | ⟨b, m, c, off, h1, h2, h3, h4⟩
     . exact ⟨0, Nat.le_refl _, .inl ⟨h1, rfl, rfl, a0, h2⟩, h.2⟩
     . exact ⟨c, h3, .inr ⟨b, m, off, h1, h2, h3, h4⟩, h.2⟩
 . exact ⟨0, trivial, h⟩
def vcF (P : Program) (τ : Tys) (Γ : Sums) (calls : Nat -> Nat -> List Va -> St -> (Tm -> St -> Prop) -> Prop) (fr : Bool) (fn : Func) (as : List Ar) (K : Rt -> List (Option (Nat -> List DV)) -> Prop) : Prop :=
 match fn, arsVa 0 as with
 | ⟨_, _, _, _, _, _, ntmps, results, some c, _, _, _, _, _, _, _⟩, (vas, h, n) => match Nat.ble as.length ntmps with
   | true => vc P τ Γ (calls n) n c ⟨zipN 0 (vas.map .va), h, n, ntmps⟩ (finQ τ fr (arsRows as) results.toList K)
   | false => False
 | _, _ => False
def vcFc (P : Program) (τ : Tys) (Γ : Sums) (calls : Nat -> Nat -> List Va -> St -> (Tm -> St -> Prop) -> Prop) (fr : Bool) (fn : Func) (as : List Ar) (K : Rt -> List (Option (Nat -> List DV)) -> Prop) : Prop :=
 match fn, arsVa 0 as with
 | ⟨_, _, _, _, _, _, ntmps, results, some c, _, _, _, _, _, _, _⟩, (vas, h, n) => match Nat.ble as.length ntmps with
   | true => ∀ cap, capLe cap vas -> vc P τ Γ (calls n) n c ⟨zipN 0 ((capVas cap vas).map .va), h, n, ntmps⟩ (finQ τ fr (arsRows as) results.toList K)
   | false => False
 | _, _ => False
def vcFx (P : Program) (τ : Tys) (Γ : Sums) (calls : Nat -> Nat -> List Va -> St -> (Tm -> St -> Prop) -> Prop) (fr : Bool) (fn : Func) (as : List Ar) (K : Rt -> List (Option (Nat -> List DV)) -> Prop) : Prop :=
 match fn, arsVa 0 as with
 | ⟨_, _, _, _, _, _, ntmps, results, some c, _, _, _, _, _, _, _⟩, (vas, h, n) => as.length <= ntmps /\ ∀ ψ S w vals, All2 (RepVa P ψ S w) vas vals -> ∃ vas', vas'.length = vas.length /\ All2 (RepVa P ψ S w) vas' vals /\
     vc P τ Γ (calls n) n c ⟨zipN 0 (vas'.map .va), h, n, ntmps⟩ (finQ τ fr (arsRows as) results.toList K)
 | _, _ => False
theorem lookT_zipN : ∀ (xs : List Tm) (i t : Nat), lookT (zipN i xs) t = if i <= t /\ t < i + xs.length then xs.getD (t - i) topT else topT
 | [], i, t => by simp [zipN, lookT]
 | x :: xs, i, t => by
   simp only [zipN, lookT]
   cases hb : Nat.beq i t with
   | true =>
     have := Nat.eq_of_beq_eq_true hb
     subst this
     simp
   | false =>
     have := Nat.ne_of_beq_eq_false hb
     simp only [lookT_zipN xs (i + 1) t, List.length_cons]
     by_cases h : i + 1 <= t /\ t < i + 1 + xs.length
     . rw [if_pos h, if_pos (by omega)]
       obtain ⟨q, rfl⟩ : ∃ q, t = i + (q + 1) := ⟨t - i - 1, by omega⟩
       rw [show i + (q + 1) - (i + 1) = q by omega, show i + (q + 1) - i = q + 1 by omega]; simp
     . rw [if_neg h, if_neg (by omega)]
theorem start_tmps {xs : List Va} {vals : List Value} (h : All2 (RepVa P ψ S w) xs vals) (n : Nat) (t : Nat) :
 RepT P ψ S w (lookT (zipN 0 (xs.map .va)) t) ((vals.toArray ++ Array.replicate (n - vals.toArray.size) undef).getD t undef) := by
 rw [lookT_zipN]
 have hl := h.length
 by_cases ht : t < xs.length
 . rw [if_pos (by simp; omega)]
   obtain ⟨y, h1, h2⟩ := h.get t (xs[t]) (by simp [ht])
   have e1 : (xs.map Tm.va).getD (t - 0) topT = .va xs[t] := by simp [List.getD, ht]
   have e2 : (vals.toArray ++ Array.replicate (n - vals.toArray.size) undef).getD t undef = y := by
    rw [Array.getD_eq_getD_getElem?, Array.getElem?_append_left (by simp; omega)]
    simp [h1]
   rw [e1, e2]; exact h2
 . rw [if_neg (by simp; omega)]; trivial
theorem FCat_core (hτ : TysOk P τ) (hz : ∀ t i, τ t = some i -> zeroOk i.zero) {Γ : Sums} (hΓ : SumsOk P Γ) (hmix : P.follows .mixedOrders = true) {calls : Nat -> Nat -> List Va -> St -> (Tm -> St -> Prop) -> Prop} (hcalls : ∀ base, CallsOk P base (calls base))
 {f : Nat} {fn : Func} (hf : P.funcs[f]? = some fn) (hname : (fn.name == "runtime.NumGoroutine") = false) {fr : Bool} {as : List Ar} {r : Rt} {us : List (Option (Nat -> List DV))}
 (hk : vcFx P τ Γ calls fr fn as fun r' us' => rtEq r' r /\ usEq (arsRows as) us' us) : FCat P f as r us := by
 unfold vcFx at hk
 split at hk
 . rename_i nm orig targs params rts nfree ntmps rs c nr ours file el ln met tn vas h n hars
   . obtain ⟨hlen, hk⟩ := hk
     intro S w vals ls hS hargs hsep
     obtain ⟨g1, g2, g3⟩ := ars_rep (ψ := psiFrom 0 ls) as vals ls 0 hargs (fun j l hj => by simpa [psiFrom] using hj)
     have hnx := arsVa_next as 0
     rw [hars] at g1 g2 hnx
     simp only [Nat.zero_add] at g1 g2 hnx
     have hsim := start_sim (P := P) hS g2 hsep
     rw [g3, <- hnx] at hsim
     have hvl : vals.length = as.length := by
      have h1 := g1.length
      have : ∀ (xs : List Ar) (i : Nat), (arsVa i xs).1.length = xs.length := by
       intro xs
       induction xs with
       | nil => intro i; rfl
       | cons x xs ih => intro i; simp [arsVa, ih]
      have h2 := this as 0
      rw [hars] at h2
      simp only at h2
      omega
     obtain ⟨vas', hvl2, g1', hk⟩ := hk _ _ _ _ g1
     refine .inl ⟨⟨_, c, hf, rfl, hname⟩, calls_of_wp hf rfl ?_⟩
     have hrel : Rel P n (psiFrom 0 ls) S w ⟨zipN 0 (vas'.map .va), h, n, ntmps⟩ { tmps := vals.toArray ++ Array.replicate (ntmps - vals.toArray.size) undef, defers := [] } :=
      ⟨Nat.le_refl _, hsim, by simp; omega, rfl, fun t => start_tmps g1' ntmps t⟩
     refine wp_mono ((vc_ok hτ hz hΓ hmix (hcalls n) c _ _ hk).run _ S w _ hrel) ?_
     rintro e a' w' ⟨st', ψ', S', hq, hr', he⟩
     have main : fin τ fr (arsRows as) rs.toList (fun r' us' => rtEq r' r /\ usEq (arsRows as) us' us) st' ->
      a'.defers = [] /\ ∃ v, (results ⟨nm, orig, targs, params, rts, nfree, ntmps, rs, some c, nr, ours, file, el, ln, met, tn⟩ a'.tmps).run P w' = .ok v w' /\
       ∃ v2 S' ls', Ending.returned v = .returned v2 /\ RepRt P S' w' r v2 ls' /\ RepUs S' w' (arsRows as) us ls /\ Sep S' w' (keptLocs us ls ++ ls') /\ ExtA S w ls S' w' ls' := by
      intro hq
      refine ⟨hr'.defers, ?_⟩
      unfold fin at hq
      obtain ⟨xs, vs, k1, k2, k3⟩ := resVars_ok hτ hr' hq
      refine ⟨_, results_run k3, ?_⟩
      -- one state, frozen or not
      have go : ∀ (S2 : Nat -> Prop) (h2 : List (Nat × Blk)), Rel P n ψ' S2 w' ⟨st'.tmps, h2, st'.next, st'.lim⟩ a' -> Ext n (psiFrom 0 ls) S w ψ' S2 w' -> All2 (RepVa P ψ' S2 w') xs vs ->
       (resVas h2 [] xs fun xs used => restRows h2 used 0 (arsRows as) fun us' => rtEq (rtOf xs) r /\ usEq (arsRows as) us' us) ->
       ∃ v2 S' ls', Ending.returned (valOf vs) = .returned v2 /\ RepRt P S' w' r v2 ls' /\ RepUs S' w' (arsRows as) us ls /\ Sep S' w' (keptLocs us ls ++ ls') /\ ExtA S w ls S' w' ls' := by
       intro S2 h2 hr2 he2 hxs hres
       obtain ⟨ars, ids, ls2, p1, p2, p3, p4⟩ := resVas_ok hr2.sim (used := []) ⟨by simp, by simp⟩ hxs hres
       simp only [List.append_nil] at p3 p4
       obtain ⟨us2, ids2, q1, q2, q3, q4, q5, q6⟩ := restRows_ok hr2.sim (i := 0) (ls := ls) (by simpa using g3.symm) (fun j l hj => by
        rw [he2.agr (0 + j) (by rw [hnx, <- g3]; simpa using (List.getElem?_eq_some_iff.1 hj).1)]
        simpa [psiFrom] using hj) p3 p4
       have hsepA : Sep S2 w' (keptLocs us2 ls ++ ls2) := by
        refine sep_of_ids (h := h2) hr2.sim (ids := ids2 ++ ids) (q2.append p2) ⟨?_, ?_⟩
        . have := q3.1
          rw [List.nodup_append] at this ⊢
          refine ⟨this.1, (List.Perm.nodup_iff (List.reverse_perm ids)).1 this.2.1, fun a ha b hb => this.2.2 a ha b (by simpa using hb)⟩
        . intro k hk; exact q3.2 k (by simpa using hk)
       have hrt : RepRt P S2 w' (rtOf ars) (valOf vs) ls2 := by
        cases ars with
        | nil => cases vs with
          | nil => exact ⟨#[], rfl, p1⟩
          | cons _ _ => exact p1.elim
        | cons x ars => cases vs with
          | nil => exact p1.elim
          | cons v vs => cases ars with
            | nil => cases vs with
              | nil =>
                obtain ⟨l1, l2, e, p5, p6⟩ := p1
                have : l2 = [] := p6
                subst this
                simp at e; subst e
                exact p5
              | cons _ _ => obtain ⟨l1, l2, e, p5, p6⟩ := p1; exact p6.elim
            | cons y ars => cases vs with
              | nil => obtain ⟨l1, l2, e, p5, p6⟩ := p1; exact p6.elim
              | cons u vs => exact ⟨(v :: u :: vs).toArray, rfl, p1⟩
       obtain ⟨ls3, r1, r2⟩ := q5.rep hrt
       obtain ⟨r3, r4⟩ := q6.rep q1
       refine ⟨_, S2, ls3, rfl, r1, r3, ?_, ?_⟩
       . exact ((Ins.refl _).append r2).sep (sep_sub (r4.append (List.Sublist.refl _)) hsepA)
       . have himg : ∀ k m b, psiFrom 0 ls k = some (.at b m) -> blkIn ls b := fun k m b hk => ⟨m, List.mem_of_getElem? (by simpa [psiFrom] using hk)⟩
         refine ⟨he2.os, he2.tape, he2.output, he2.grow, fun b hb hno => he2.old b hb fun k m hk => hno (himg k m b hk), he2.later, ?_, ?_, hr2.sim.sdom⟩
         . intro b hb
           rcases he2.newS b hb with h1 | ⟨k, m, h1⟩ | h1
           . exact .inl h1
           . exact .inr (.inl (himg k m b h1))
           . exact .inr (.inr h1)
         . intro b hb
           obtain ⟨m, hm⟩ := r2.blkIn hb
           obtain ⟨j, hj, e⟩ := List.mem_iff_getElem.1 hm
           have hlen2 := p2.length
           obtain ⟨y, e1, e2⟩ := p2.get j (ids[j]'(by omega)) (by simp)
           have e3 : ls2[j]? = some (.at b m) := by rw [List.getElem?_eq_getElem hj, e]
           rw [e3] at e1; cases e1
           rcases he2.newP _ b m e2 with ⟨k, m', h1⟩ | h1
           . exact .inl (himg k m' b h1)
           . exact .inr h1
      cases fr with
      | false => exact go S' st'.heap hr' he k1 k2
      | true =>
        obtain ⟨h2, S2, p1, p2, p3⟩ := frVas_ok (ts := st'.tmps) (n := st'.next) (m := st'.lim) xs vs st'.heap S' hr' k1 k2
        exact go S2 h2 p2 (he.trans p3) (k1.mono fun _ _ h => h.later (PsiSub.refl _) p3.later) p1
     cases e with
     | normal => exact main hq
     | ret => exact main hq
     | exit id => exact hq.elim
     | goto l => exact hq.elim
     | panic ch => exact hq.elim
     | outgrown => exact hq.elim
 . exact hk.elim
theorem FCat_of_vcF (hτ : TysOk P τ) (hz : ∀ t i, τ t = some i -> zeroOk i.zero) {Γ : Sums} (hΓ : SumsOk P Γ) (hmix : P.follows .mixedOrders = true) {calls : Nat -> Nat -> List Va -> St -> (Tm -> St -> Prop) -> Prop} (hcalls : ∀ base, CallsOk P base (calls base))
 {f : Nat} {fn : Func} (hf : P.funcs[f]? = some fn) (hname : (fn.name == "runtime.NumGoroutine") = false) {fr : Bool} {as : List Ar} {r : Rt} {us : List (Option (Nat -> List DV))}
 (hk : vcF P τ Γ calls fr fn as fun r' us' => rtEq r' r /\ usEq (arsRows as) us' us) : FCat P f as r us := by
 refine FCat_core hτ hz hΓ hmix hcalls hf hname (fr := fr) ?_
 unfold vcF at hk
 unfold vcFx
 obtain ⟨nm, orig, targs, params, rts, nfree, ntmps, rs, body, nr, ours, file, el, ln, met, tn⟩ := fn
 generalize arsVa 0 as = A at hk ⊢
 obtain ⟨vas, h, n⟩ := A
 cases body with
 | none => exact hk
 | some c =>
   simp only at hk ⊢
   split at hk
   . rename_i hlen
     exact ⟨Nat.le_of_ble_eq_true hlen, fun ψ S w vals hv => ⟨_, rfl, hv, hk⟩⟩
   . exact hk.elim
theorem capVas_length (c : Nat) (xs : List Va) : (capVas c xs).length = xs.length := by
 unfold capVas
 split <;> rfl
theorem FCat_of_vcFc (hτ : TysOk P τ) (hz : ∀ t i, τ t = some i -> zeroOk i.zero) {Γ : Sums} (hΓ : SumsOk P Γ) (hmix : P.follows .mixedOrders = true) {calls : Nat -> Nat -> List Va -> St -> (Tm -> St -> Prop) -> Prop} (hcalls : ∀ base, CallsOk P base (calls base))
 {f : Nat} {fn : Func} (hf : P.funcs[f]? = some fn) (hname : (fn.name == "runtime.NumGoroutine") = false) {fr : Bool} {as : List Ar} {r : Rt} {us : List (Option (Nat -> List DV))}
 (hk : vcFc P τ Γ calls fr fn as fun r' us' => rtEq r' r /\ usEq (arsRows as) us' us) : FCat P f as r us := by
 refine FCat_core hτ hz hΓ hmix hcalls hf hname (fr := fr) ?_
 unfold vcFc at hk
 unfold vcFx
 obtain ⟨nm, orig, targs, params, rts, nfree, ntmps, rs, body, nr, ours, file, el, ln, met, tn⟩ := fn
 generalize arsVa 0 as = A at hk ⊢
 obtain ⟨vas, h, n⟩ := A
 cases body with
 | none => exact hk
 | some c =>
   simp only at hk ⊢
   split at hk
   . rename_i hlen
     refine ⟨Nat.le_of_ble_eq_true hlen, fun ψ S w vals hv => ?_⟩
     obtain ⟨c, h1, h2⟩ := capVas_rep hv
     exact ⟨_, capVas_length _ _, h2, hk c h1⟩
   . exact hk.elim
end
def capsLe (ids : List Nat) : List (Nat × Nat) -> List (Nat × Nat) -> Prop
 | [], [] => True
 | (k, o) :: xs, (j, o') :: ys => (ids[j]? = some k /\ o = o') /\ capsLe ids xs ys
 | _, _ => False
def cellLe (ids : List Nat) (nv : Nat) : Cell -> Cell -> Prop
 | _, .top => True
 | .und, .und => True
 | .kb b, .kb b' => b = b'
 | .kb b, .d (.v x) => x = .bool b
 | .d x, .d y => dvEq x y
 | .d (.v x), .osl j _ _ len => x = .slice none 0 0 /\ len = 0 /\ ids.length <= j /\ j < ids.length + nv
 | .own k off, .own j off' => ids[j]? = some k /\ off = off'
 | .osl k sz o len, .osl j sz' o' len' => ids[j]? = some k /\ sz = sz' /\ o = o' /\ len = len'
 | .ep k sz i off, .ep j sz' i' off' => ids[j]? = some k /\ sz = sz' /\ i = i' /\ off = off'
 | .rp cs, .rp cs' => cs = cs'
 | .fn f caps, .fn f' caps' => f = f' /\ capsLe ids caps caps'
 | .fv g, .fv g' => g = g'
 | .mp k, .mp j => ids[j]? = some k
 | .fb f k off, .fb f' j off' => ids[j]? = some k /\ f = f' /\ off = off'
 | _, _ => False
def cellsLe (ids : List Nat) (nv : Nat) : List Cell -> List Cell -> Prop
 | [], [] => True
 | x :: xs, y :: ys => cellLe ids nv x y /\ cellsLe ids nv xs ys
 | _, _ => False
def vaLe (ids : List Nat) (nv : Nat) : Va -> Va -> Prop
 | _, .c .top => True
 | .c x, .c y => cellLe ids nv x y
 | .agg xs, .agg ys => cellsLe ids nv xs ys
 | _, _ => False
def tmLe (ids : List Nat) (nv : Nat) : Tm -> Tm -> Prop
 | _, .va (.c .top) => True
 | .va x, .va y => vaLe ids nv x y
 | _, _ => False
def entsLe (ids : List Nat) (nv : Nat) : List (List Value × Va) -> List (List Value × Va) -> Prop
 | [], [] => True
 | p :: xs, q :: ys => (p.1 = q.1 /\ vaLe ids nv p.2 q.2) /\ entsLe ids nv xs ys
 | _, _ => False
def blkLe (ids : List Nat) (nv : Nat) : Blk -> Blk -> Prop
 | _, .gone => True
 | .cells xs, .cells ys => cellsLe ids nv xs ys
 | .row sz n f, .row sz' n' f' => sz = sz' /\ n = n' /\ ∀ i, i < n -> f i = f' i
 | .fzr sz n f, .fzr sz' n' f' => sz = sz' /\ n = n' /\ ∀ i, i < n -> f i = f' i
 | .fz cs, .fz cs' => cs = cs'
 | .it s p, .it s' p' => s = s' /\ p = p'
 | .map es bc, .map es' bc' => bc = bc' /\ entsLe ids nv es es'
 | _, _ => False
def tmpsLe (ids : List Nat) (nv : Nat) (ts : List (Nat × Tm)) : List (Nat × Tm) -> Prop
 | [] => True
 | (t, x) :: l => tmLe ids nv (lookT ts t) x /\ tmpsLe ids nv ts l
def heapLe (ids : List Nat) (nv : Nat) (h : List (Nat × Blk)) : List (Nat × Blk) -> Prop
 | [] => True
 | (j, b) :: l => (match ids[j]? with
   | some k => blkLe ids nv (lookB h k) b
   | none => (match b with | .row _ n _ => n = 0 | .gone => True | _ => False)) /\ heapLe ids nv h l
def idsOk (base : Nat) (ids : List Nat) : Bool := Nat.ble base ids.length && (List.range base).all (fun j => ids[j]? == some j) && (List.range ids.length).all fun i => (List.range i).all fun j => ids[i]? != ids[j]?
def leSt (base : Nat) (ids : List Nat) (nv : Nat) (st st' : St) : Prop :=
 st'.lim = st.lim /\ st'.next = ids.length + nv /\ idsOk base ids = true /\ tmpsLe ids nv st.tmps st'.tmps /\ heapLe ids nv st.heap st'.heap
section
variable {P : Program} {τ : Tys} {base : Nat} {ψ ψ' : Psi} {S S' : Nat → Prop} {w w' : World} {a : Act} {ids : List Nat} {nv : Nat}
def psiRen (ψ : Psi) (ids : List Nat) (nv : Nat) : Psi := fun j => match ids[j]? with
 | some k => ψ k
 | none => if j < ids.length + nv then some .virt else none
theorem psiRen_some {j k : Nat} (h : ids[j]? = some k) : psiRen ψ ids nv j = ψ k := by simp [psiRen, h]
theorem capsLe_rep {w : World} : ∀ {xs ys : List (Nat × Nat)} {l : List Value}, capsLe ids xs ys -> All2 (fun (p : Nat × Nat) y => ∃ b m, ψ p.1 = some (.at b m) /\ y = .pointer (some ⟨b, p.2, none⟩)) xs l -> All2 (fun (p : Nat × Nat) y => ∃ b m, psiRen ψ ids nv p.1 = some (.at b m) /\ y = .pointer (some ⟨b, p.2, none⟩)) ys l
 | [], [], [], _, _ => trivial
 | [], [], _ :: _, _, h => h.elim
 | [], _ :: _, _, h, _ => h.elim
 | _ :: _, [], _, h, _ => h.elim
 | _ :: _, _ :: _, [], _, h => h.elim
 | (k, o) :: _, (j, o') :: _, _ :: _, ⟨⟨h1, h2⟩, h3⟩, ⟨⟨b, m, g1, g2⟩, g3⟩ => ⟨⟨b, m, by rw [psiRen_some h1]; exact g1, by rw [g2, h2]⟩, capsLe_rep (w := w) h3 g3⟩
theorem cellLe_rep {x y : Cell} {v : Value} (h : cellLe ids nv x y) (hx : RepC P ψ S w x v) : RepC P (psiRen ψ ids nv) S w y v := by
 unfold cellLe at h
 split at h
 . trivial
 . exact hx
 . subst h; exact hx
 . subst h; rw [show v = _ from hx]; exact .v trivial
 . exact dvEq.rep h hx
 . rename_i j sz o len
   obtain ⟨rfl, rfl, hj, hlt⟩ := h
   cases hx
   refine .inl ⟨?_, rfl, none, rfl⟩
   have : ids[j]? = none := by simp [hj]
   simp [psiRen, this, hlt]
 . obtain ⟨h1, rfl⟩ := h; obtain ⟨b, m, h2, h3⟩ := hx; exact ⟨b, m, by rw [psiRen_some h1]; exact h2, h3⟩
 . obtain ⟨h1, rfl, rfl, rfl⟩ := h
   rcases hx with ⟨h2, h3⟩ | ⟨b, m, c, off, h2, h3⟩
   . exact .inl ⟨by rw [psiRen_some h1]; exact h2, h3⟩
   . exact .inr ⟨b, m, c, off, by rw [psiRen_some h1]; exact h2, h3⟩
 . obtain ⟨h1, rfl, rfl, rfl⟩ := h; obtain ⟨b, m, h2, h3⟩ := hx; exact ⟨b, m, by rw [psiRen_some h1]; exact h2, h3⟩
 . subst h; exact hx
 . obtain ⟨rfl, hc⟩ := h; obtain ⟨vs, h1, h2⟩ := hx; exact ⟨vs, h1, capsLe_rep (w := w) hc h2⟩
 . subst h; exact hx
 . obtain ⟨b, m, h2, h3⟩ := hx; exact ⟨b, m, by rw [psiRen_some h]; exact h2, h3⟩
 . obtain ⟨h1, rfl, rfl⟩ := h; obtain ⟨b, m, h2, h3⟩ := hx; exact ⟨b, m, by rw [psiRen_some h1]; exact h2, h3⟩
 . exact h.elim
theorem cellsLe_rep : ∀ {xs ys : List Cell} {vs : List Value}, cellsLe ids nv xs ys -> All2 (RepM P ψ S w) xs vs -> All2 (RepM P (psiRen ψ ids nv) S w) ys vs
 | [], [], [], _, _ => trivial
 | [], [], _ :: _, _, h => h.elim
 | [], _ :: _, _, h, _ => h.elim
 | _ :: _, [], _, h, _ => h.elim
 | _ :: _, _ :: _, [], _, h => h.elim
 | _ :: _, _ :: _, _ :: _, ⟨h1, h2⟩, ⟨g1, g2⟩ => ⟨⟨cellLe_rep h1 g1.1, g1.2⟩, cellsLe_rep h2 g2⟩
theorem vaLe_rep {x y : Va} {v : Value} (h : vaLe ids nv x y) (hx : RepVa P ψ S w x v) : RepVa P (psiRen ψ ids nv) S w y v := by
 unfold vaLe at h
 split at h
 . trivial
 . exact cellLe_rep h hx
 . obtain ⟨arr, rfl, hx⟩ := hx; exact ⟨arr, rfl, cellsLe_rep h hx⟩
 . exact h.elim
theorem tmLe_rep {x y : Tm} {v : Value} (h : tmLe ids nv x y) (hx : RepT P ψ S w x v) : RepT P (psiRen ψ ids nv) S w y v := by
 unfold tmLe at h
 split at h
 . trivial
 . exact vaLe_rep h hx
 . exact h.elim
theorem entsLe_rep : ∀ {xs ys : List (List Value × Va)} {vs : List MapEntry}, entsLe ids nv xs ys -> All2 (fun p (e : MapEntry) => e.key = kVal p.1 /\ RepVa P ψ S w p.2 e.val) xs vs -> All2 (fun p (e : MapEntry) => e.key = kVal p.1 /\ RepVa P (psiRen ψ ids nv) S w p.2 e.val) ys vs
 | [], [], [], _, _ => trivial
 | [], [], _ :: _, _, h => h.elim
 | [], _ :: _, _, h, _ => h.elim
 | _ :: _, [], _, h, _ => h.elim
 | _ :: _, _ :: _, [], _, h => h.elim
 | _ :: _, _ :: _, _ :: _, ⟨h1, h2⟩, ⟨g1, g2⟩ => ⟨⟨by rw [g1.1, h1.1], vaLe_rep h1.2 g1.2⟩, entsLe_rep h2 g2⟩
theorem blkLe_rep {x y : Blk} {l : Loc} (h : blkLe ids nv x y) (hx : BlkRep P ψ S w x l) : BlkRep P (psiRen ψ ids nv) S w y l := by
 unfold blkLe at h
 split at h
 . cases l <;> trivial
 . cases l with
   | virt => exact hx.elim
   | «at» b m => obtain ⟨arr, e, h1, h2⟩ := hx; exact ⟨arr, e, h1, cellsLe_rep h h2⟩
 . obtain ⟨rfl, rfl, h⟩ := h; exact RowRep.blk.1 ((RowRep.blk.2 hx).congr h)
 . obtain ⟨rfl, rfl, h⟩ := h
   cases l with
   | virt => exact hx
   | «at» b m => obtain ⟨h0, arr, e, fr, h1, h2, h3, h4, h5⟩ := hx; exact ⟨h0, arr, e, fr, h1, h2, h3, fun i hi => by rw [<- h i hi]; exact h4 i hi, fun i j hi hj => by rw [<- h i hi]; exact h5 i j hi hj⟩
 . subst h
   cases l with
   | virt => exact hx
   | «at» b m => exact hx
 . obtain ⟨rfl, rfl⟩ := h
   cases l with
   | virt => exact hx
   | «at» b m => exact hx
 . cases l with
   | virt => exact hx.elim
   | «at» b m => obtain ⟨arr, c, h1, h0, h2⟩ := hx; exact ⟨arr, c, h1, by rw [<- h.1]; exact h0, entsLe_rep h.2 h2⟩
 . exact h.elim
theorem blkLe_live {x y : Blk} (h : blkLe ids nv x y) (hy : y.live) : x.live := by
 unfold blkLe at h
 split at h
 . exact hy.elim
 . trivial
 . trivial
 . exact hy.elim
 . exact hy.elim
 . trivial
 . trivial
 . exact h.elim
theorem tmpsLe_get {ts : List (Nat × Tm)} : ∀ {ts' : List (Nat × Tm)}, tmpsLe ids nv ts ts' -> ∀ t, tmLe ids nv (lookT ts t) (lookT ts' t)
 | [], _, t => by simp [lookT, tmLe]
 | (i, x) :: l, h, t => by
   simp only [lookT]
   cases hb : Nat.beq i t with
   | true => have := Nat.eq_of_beq_eq_true hb; subst this; exact h.1
   | false => exact tmpsLe_get h.2 t
theorem heapLe_get {h : List (Nat × Blk)} : ∀ {h' : List (Nat × Blk)}, heapLe ids nv h h' -> ∀ j, (match ids[j]? with
 | some k => blkLe ids nv (lookB h k) (lookB h' j)
 | none => (match lookB h' j with | .row _ n _ => n = 0 | .gone => True | _ => False))
 | [], _, j => by
   cases ids[j]? with
   | none => trivial
   | some k => simp only [lookB]; cases lookB h k <;> trivial
 | (i, b) :: l, hh, j => by
   simp only [lookB]
   cases hb : Nat.beq i j with
   | true => have := Nat.eq_of_beq_eq_true hb; subst this; exact hh.1
   | false => exact heapLe_get hh.2 j
theorem idsOk_spec (h : idsOk base ids = true) : base <= ids.length /\ (∀ j, j < base -> ids[j]? = some j) /\ ∀ (i j k : Nat), ids[i]? = some k -> ids[j]? = some k -> i = j := by
 simp only [idsOk, Bool.and_eq_true, List.all_eq_true, List.mem_range] at h
 obtain ⟨⟨h1, h2⟩, h3⟩ := h
 have h1 := Nat.le_of_ble_eq_true h1
 refine ⟨h1, fun j hj => by simpa using h2 j hj, ?_⟩
 intro i j k hi hj
 have li := (List.getElem?_eq_some_iff.1 hi).1
 have lj := (List.getElem?_eq_some_iff.1 hj).1
 rcases Nat.lt_trichotomy i j with h | h | h
 . have := h3 j lj i h; rw [hi, hj] at this; simp at this
 . exact h
 . have := h3 i li j h; rw [hi, hj] at this; simp at this
theorem Rel.le {st st' : St} (h : leSt base ids nv st st') (hr : Rel P base ψ S w st a) :
 Rel P base (psiRen ψ ids nv) S w st' a /\ Ext base ψ S w (psiRen ψ ids nv) S w := by
 obtain ⟨h1, h2, h3, h4, h5⟩ := h
 obtain ⟨i1, i2, i3⟩ := idsOk_spec h3
 have get : ∀ j l, psiRen ψ ids nv j = some l -> (∃ k, ids[j]? = some k /\ ψ k = some l) \/ (ids[j]? = none /\ l = .virt) := by
  intro j l hj
  simp only [psiRen] at hj
  cases hk : ids[j]? with
  | some k => rw [hk] at hj; exact .inl ⟨k, rfl, hj⟩
  | none =>
    rw [hk] at hj
    simp only at hj
    split at hj
    . simp at hj; exact .inr ⟨rfl, hj.symm⟩
    . simp at hj
 have live : ∀ j k, ids[j]? = some k -> (lookB st'.heap j).live -> (lookB st.heap k).live := by
  intro j k hj hl
  have := heapLe_get h5 j
  rw [hj] at this
  exact blkLe_live this hl
 refine ⟨⟨by omega, ⟨?_, ?_, ?_, ?_, ?_, hr.sim.sdom⟩, by rw [h1]; exact hr.lim, hr.defers, fun t => tmLe_rep (tmpsLe_get h4 t) (hr.tmps t)⟩,
  ⟨rfl, rfl, rfl, Nat.le_refl _, fun _ _ _ => rfl, Later.refl _ _, fun _ h => .inl h, ?_, ?_⟩⟩
 . intro k hk
   rw [h2] at hk
   have : ids[k]? = none := by simp; omega
   simp only [psiRen, this]
   rw [if_neg (by omega)]
 . intro j l hj
   have hg := heapLe_get h5 j
   rcases get j l hj with ⟨k, e1, e2⟩ | ⟨e1, rfl⟩
   . rw [e1] at hg
     exact blkLe_rep hg (hr.sim.blk k l e2)
   . rw [e1] at hg
     simp only at hg
     cases hb : lookB st'.heap j with
     | row sz n f => rw [hb] at hg; exact hg
     | gone => trivial
     | cells _ => rw [hb] at hg; exact hg.elim
     | it _ _ => rw [hb] at hg; exact hg.elim
     | map _ _ => rw [hb] at hg; exact hg.elim
     | fz _ => rw [hb] at hg; exact hg.elim
     | fzr _ _ _ => rw [hb] at hg; exact hg.elim
 . intro j j' b m m' e1 e2 l1 l2
   rcases get j _ e1 with ⟨k, g1, g2⟩ | ⟨_, g⟩
   . rcases get j' _ e2 with ⟨k', g3, g4⟩ | ⟨_, g⟩
     . have := hr.sim.inj k k' b m m' g2 g4 (live j k g1 l1) (live j' k' g3 l2)
       subst this
       exact i3 j j' k g1 g3
     . cases g
   . cases g
 . intro j b m e1 l1
   rcases get j _ e1 with ⟨k, g1, g2⟩ | ⟨_, g⟩
   . exact hr.sim.dis k b m g2 (live j k g1 l1)
   . cases g
 . intro j b m e1
   rcases get j _ e1 with ⟨k, g1, g2⟩ | ⟨_, g⟩
   . exact hr.sim.pdom k b m g2
   . cases g
 . intro j b m e1
   rcases get j _ e1 with ⟨k, g1, g2⟩ | ⟨_, g⟩
   . exact .inl ⟨k, m, g2⟩
   . cases g
 . intro k hk; exact psiRen_some (i2 k hk)
theorem ASat.le {c : Code} {st st' : St} {Q : Exit -> St -> Prop} (ids : List Nat) (nv : Nat) (h : leSt base ids nv st st') (hs : ASat P base c st' Q) : ASat P base c st Q := by
 refine ⟨fun ψ S w a hr => ?_⟩
 obtain ⟨h1, h2⟩ := hr.le h
 refine wp_mono (hs.run _ _ _ _ h1) ?_
 rintro e a' w' ⟨st2, ψ2, S2, q, r, x⟩
 exact ⟨st2, ψ2, S2, q, r, h2.trans x⟩
theorem ASat.mono {c : Code} {st : St} {Q Q' : Exit -> St -> Prop} (hs : ASat P base c st Q) (h : ∀ e st, Q e st -> Q' e st) : ASat P base c st Q' := by
 refine ⟨fun ψ S w a hr => ?_⟩
 refine wp_mono (hs.run _ _ _ _ hr) ?_
 rintro e a' w' ⟨st2, ψ2, S2, q, r, x⟩
 exact ⟨st2, ψ2, S2, h _ _ q, r, x⟩
theorem wp_loop_by {c : Code} {Q : Exit -> Act -> World -> Prop} (I : Nat -> Act -> World -> Prop)
 (round : ∀ n a w, I n a w -> c.wp P (Exit.then (fun a' w' => ∃ n', n' < n /\ I n' a' w') Q) a w) {n : Nat} {a : Act} {w : World} (h₀ : I n a w) : (Code.loop c).wp P Q a w := by
 intro b k cs
 have key : ∀ n a w, I n a w -> ∃ e a' w', Q e a' w' /\ Arrives P (lone (b.at a (.code c :: .inLoop c :: k)) cs w) b k cs e a' w' := by
  intro n
  induction n using Nat.strongRecOn with
  | _ n ih =>
    intro a w hI
    obtain ⟨e, a₁, w₁, hq, harr⟩ := round n a w hI b (.inLoop c :: k) cs
    cases e with
    | normal =>
      obtain ⟨n', hlt, hI₁⟩ := hq
      obtain ⟨e₂, a₂, w₂, hq₂, harr₂⟩ := ih n' hlt a₁ w₁ hI₁
      exact ⟨e₂, a₂, w₂, hq₂, .of_steps (Steps.trans harr (.one step_inLoop)) harr₂⟩
    | exit id => exact ⟨_, a₁, w₁, hq, .pass (x := .inLoop c) rfl (fun _ _ => .inl (by simp)) harr⟩
    | goto l => exact ⟨_, a₁, w₁, hq, .pass (x := .inLoop c) rfl (fun _ _ => .inl (by simp)) harr⟩
    | ret => exact ⟨_, a₁, w₁, hq, .pass (x := .inLoop c) rfl (fun _ _ => .inl (by simp)) harr⟩
    | panic ch => exact ⟨_, a₁, w₁, hq, .pass (x := .inLoop c) rfl (fun _ _ => .inl (by simp)) harr⟩
    | outgrown => exact ⟨_, a₁, w₁, hq, .pass (x := .inLoop c) rfl (fun _ _ => .inl (by simp)) harr⟩
 obtain ⟨e, a', w', hq, harr⟩ := key n a w h₀
 exact ⟨e, a', w', hq, .of_steps (.one step_loop) harr⟩
def LoopQ {X : Type} (base : Nat) (I : X -> St) (μ : X -> Nat) (Inv : X -> Prop) (Q : Exit -> St -> Prop) (x : X) : Exit -> St -> Prop
 | .normal, st => ∃ x', Inv x' /\ μ x' < μ x /\ ∃ ids nv, leSt base ids nv st (I x')
 | e, st => Q e st
theorem ASat.loop {c : Code} {Q : Exit -> St -> Prop} {X : Type} (I : X -> St) (μ : X -> Nat) (Inv : X -> Prop) (round : ∀ x, Inv x -> ASat P base c (I x) (LoopQ base I μ Inv Q x)) (x : X) (hx : Inv x) :
 ASat P base (.loop c) (I x) Q := by
 refine ⟨fun ψ S w a hr => ?_⟩
 refine wp_loop_by (P := P) (fun n a' w' => ∃ x ψ' S', Inv x /\ μ x = n /\ Rel P base ψ' S' w' (I x) a' /\ Ext base ψ S w ψ' S' w') ?_ ⟨x, ψ, S, hx, rfl, hr, Ext.refl _ _ _ _⟩
 rintro n a1 w1 ⟨x, ψ1, S1, hx, rfl, hr1, he1⟩
 refine wp_mono ((round x hx).run ψ1 S1 w1 a1 hr1) ?_
 rintro e a2 w2 ⟨st, ψ2, S2, hq, hr2, he2⟩
 cases e with
 | normal =>
   obtain ⟨x', hx', hlt, ids, nv, hle⟩ := hq
   obtain ⟨g1, g2⟩ := hr2.le hle
   exact ⟨μ x', hlt, x', _, _, hx', rfl, g1, (he1.trans he2).trans g2⟩
 | exit id => exact ⟨st, ψ2, S2, hq, hr2, he1.trans he2⟩
 | goto l => exact ⟨st, ψ2, S2, hq, hr2, he1.trans he2⟩
 | ret => exact ⟨st, ψ2, S2, hq, hr2, he1.trans he2⟩
 | panic ch => exact ⟨st, ψ2, S2, hq, hr2, he1.trans he2⟩
 | outgrown => exact ⟨st, ψ2, S2, hq, hr2, he1.trans he2⟩
end
inductive TT where
 | nil
 | leaf (k : Nat) (i u : TypeInfo) (cmp : Bool)
 | node (l r : TT)
def tiOf (i u : TypeInfo) (cmp : Bool) : Option TI := match i, u with
 | ⟨_, _, size, bytes, _, _, _, some z, _, _⟩, ⟨desc, _, _, _, _, _, _, _, _, _⟩ => some ⟨desc, size, ⟨bytes, cmp⟩, z⟩
 | _, _ => none
def TT.find : TT -> Nat -> Nat -> Option TI
 | .nil, _, _ => none
 | .leaf k i u cmp, _, t => match Nat.beq k t with
   | true => tiOf i u cmp
   | false => none
 | .node l r, d, t => match Nat.beq (d % 2) 0 with
   | true => l.find (d / 2) t
   | false => r.find (d / 2) t
def TT.get (x : TT) : Tys := fun t => x.find t t
def zeroB : Value -> Bool
 | .agg cs => cs.toList.all fun | .agg _ => false | .tuple _ => false | _ => true
 | .tuple _ => false
 | _ => true
def tyB (P : Program) (k : Nat) (i u : TypeInfo) : Prop := P.info? k = some i /\ P.underlying k = some u.desc /\ (match i.zero with | some z => zeroB z | none => true) = true
def noBlank : TypeDesc -> Bool
 | .struct fs => fs.toList.all fun f => f.name != "_"
 | _ => true
def cmpB (P : Program) (k : Nat) (u : TypeInfo) : Prop := P.stoodInHeld k = false /\ P.eqGuardType P.depth k = false /\ noBlank u.desc = true
def TT.ok (P : Program) : TT -> Prop
 | .nil => True
 | .leaf k i u cmp => tyB P k i u /\ match cmp with
   | true => cmpB P k u
   | false => True
 | .node l r => l.ok P /\ r.ok P
theorem zeroB_ok {z : Value} (h : zeroB z = true) : zeroOk z := by
 cases z with
 | agg cs =>
   intro x hx
   have := (List.all_eq_true.1 h) x hx
   cases x <;> first | trivial | simp at this
 | tuple _ => simp [zeroB] at h
 | _ => trivial
theorem TT.find_ok {P : Program} : ∀ {x : TT} {d t : Nat} {ti : TI}, x.ok P -> x.find d t = some ti ->
 (∃ info, P.info? t = some info /\ P.underlying t = some ti.desc /\ info.size = ti.size /\ info.bytes = ti.bytes.n /\ info.zero = some ti.zero) /\ zeroOk ti.zero /\
   (ti.bytes.cmp = true -> P.stoodInHeld t = false /\ P.eqGuardType P.depth t = false /\ ∀ fs, ti.desc = .struct fs -> ∀ f ∈ fs.toList, f.name ≠ "_")
 | .nil, _, _, _, _, h => by simp [TT.find] at h
 | .leaf k i u cmp, d, t, ti, hok, h => by
   simp only [TT.find] at h
   split at h
   . rename_i hk
     have hk := Nat.eq_of_beq_eq_true hk
     subst hk
     obtain ⟨⟨h1, h2, h3⟩, h4⟩ := hok
     obtain ⟨a, b, size, bytes, c, al, fa, zero, cmp0, ms⟩ := i
     obtain ⟨desc, b2, c2, d2, e2, f2, g2, i2, j2, k2⟩ := u
     cases zero with
     | none => simp [tiOf] at h
     | some z =>
       simp only [tiOf, Option.some.injEq] at h
       subst h
       refine ⟨⟨_, h1, h2, rfl, rfl, rfl⟩, zeroB_ok h3, fun hc => ?_⟩
       have hc : cmp = true := hc
       subst hc
       obtain ⟨g1, g2, g3⟩ := h4
       refine ⟨g1, g2, fun fs hfs f hf => ?_⟩
       have hfs : desc = .struct fs := hfs
       subst hfs
       simpa using (List.all_eq_true.1 g3) f hf
   . simp at h
 | .node l r, d, t, ti, hok, h => by
   simp only [TT.find] at h
   split at h
   . exact TT.find_ok hok.1 h
   . exact TT.find_ok hok.2 h
theorem TT.tysOk {P : Program} {x : TT} (h : x.ok P) : TysOk P x.get := ⟨fun _ _ ht => (TT.find_ok h ht).1, fun _ _ ht => (TT.find_ok h ht).2.2⟩
theorem TT.zeros {P : Program} {x : TT} (h : x.ok P) : ∀ t i, x.get t = some i -> zeroOk i.zero := fun _ _ ht => (TT.find_ok h ht).2.1
def sums : List (Nat × Sm) -> Sums
 | [], _ => none
 | (k, s) :: l, t => match Nat.beq k t with
   | true => some s
   | false => sums l t
def sumsOk (P : Program) : List (Nat × Sm) -> Prop
 | [] => True
 | (k, s) :: l => FC P k s.F /\ sumsOk P l
theorem sums_ok {P : Program} : ∀ {l : List (Nat × Sm)}, sumsOk P l -> SumsOk P (sums l)
 | [], _, f, sm, h => by simp [sums] at h
 | (k, s) :: l, hok, f, sm, h => by
   simp only [sums] at h
   split at h
   . rename_i hk
     have := Nat.eq_of_beq_eq_true hk
     subst this
     simp at h; subst h
     exact hok.1
   . exact sums_ok hok.2 f sm h
theorem callable_of {P : Program} {f : Nat} {fn : Func} (hf : P.funcs[f]? = some fn) (hb : fn.body.isSome = true) (hn : (fn.name == "runtime.NumGoroutine") = false) : Callable P f := by
 cases hc : fn.body with
 | none => rw [hc] at hb; simp at hb
 | some c => exact ⟨fn, c, hf, hc, hn⟩
theorem fcat {P : Program} {x : TT} (hx : x.ok P) {l : List (Nat × Sm)} (hl : sumsOk P l) {f : Nat} {fn : Func} (hf : P.funcs[f]? = some fn) (hname : (fn.name == "runtime.NumGoroutine") = false)
 (hmix : P.follows .mixedOrders = true) (fr : Bool) {as : List Ar} {r : Rt} {us : List (Option (Nat -> List DV))}
 (hk : vcF P x.get (sums l) (fun base => vcCall P (sums l) base) fr fn as fun r' us' => rtEq r' r /\ usEq (arsRows as) us' us) : FCat P f as r us :=
 FCat_of_vcF (TT.tysOk hx) (TT.zeros hx) (sums_ok hl) hmix (fun base => vcCall_ok (sums_ok hl) base) hf hname hk
theorem fcatc {P : Program} {x : TT} (hx : x.ok P) {l : List (Nat × Sm)} (hl : sumsOk P l) {f : Nat} {fn : Func} (hf : P.funcs[f]? = some fn) (hname : (fn.name == "runtime.NumGoroutine") = false)
 (hmix : P.follows .mixedOrders = true) (fr : Bool) {as : List Ar} {r : Rt} {us : List (Option (Nat -> List DV))}
 (hk : vcFc P x.get (sums l) (fun base => vcCall P (sums l) base) fr fn as fun r' us' => rtEq r' r /\ usEq (arsRows as) us' us) : FCat P f as r us :=
 FCat_of_vcFc (TT.tysOk hx) (TT.zeros hx) (sums_ok hl) hmix (fun base => vcCall_ok (sums_ok hl) base) hf hname hk
def tmOf : List Va -> Tm
 | [x] => .va x
 | xs => .tup xs
def inlQ (τ : Tys) (rs : List ResultVar) (ts : List (Nat × Tm)) (m : Nat) (K : Tm -> St -> Prop) : Exit -> St -> Prop
 | .ret, ⟨ts', h, n, m'⟩ => resVars τ ⟨ts', h, n, m'⟩ rs fun xs => K (tmOf xs) ⟨ts, h, n, m⟩
 | .normal, ⟨ts', h, n, m'⟩ => resVars τ ⟨ts', h, n, m'⟩ rs fun xs => K (tmOf xs) ⟨ts, h, n, m⟩
 | _, _ => False
section
variable {P : Program} {τ : Tys} {base : Nat}
theorem tmOf_rep {ψ : Psi} {S : Nat -> Prop} {w : World} {xs : List Va} {vs : List Value} (h : All2 (RepVa P ψ S w) xs vs) : RepT P ψ S w (tmOf xs) (valOf vs) := by
 match xs, vs, h with
 | [], [], h => exact ⟨#[], rfl, h⟩
 | [x], [v], h => exact h.1
 | x :: y :: xs, v :: u :: vs, h => exact ⟨(v :: u :: vs).toArray, rfl, h⟩
theorem acall_of_sat (hτ : TysOk P τ)
 {f : Nat} {fn : Func} {c : Code} (hf : P.funcs[f]? = some fn) (hb : fn.body = some c) (hname : (fn.name == "runtime.NumGoroutine") = false) {vas : List Va} {ts : List (Nat × Tm)} {h : List (Nat × Blk)} {n m : Nat} {K : Tm -> St -> Prop} (hlen : vas.length <= fn.ntmps)
 (hk : ASat P n c ⟨zipN 0 (vas.map .va), h, n, fn.ntmps⟩ (inlQ τ fn.results.toList ts m K)) : ACall P base f vas ⟨ts, h, n, m⟩ K := by
 refine ⟨fun ψ S w a vals hrel hvals => ?_⟩
 obtain ⟨nm, orig, targs, params, rts, nfree, ntmps, rs, body, nr, ours, file, el, ln, met, tn⟩ := fn
 have hb : body = some c := hb
 subst hb
 have hvl := hvals.length
 have hlen : vas.length <= ntmps := hlen
 refine .inl ⟨⟨_, c, hf, rfl, hname⟩, calls_of_wp hf rfl ?_⟩
 have hrel2 : Rel P n ψ S w ⟨zipN 0 (vas.map .va), h, n, ntmps⟩ { tmps := vals.toArray ++ Array.replicate (ntmps - vals.toArray.size) undef, defers := [] } :=
  ⟨Nat.le_refl _, hrel.sim, by simp; omega, rfl, fun t => start_tmps hvals ntmps t⟩
 refine wp_mono (hk.run _ S w _ hrel2) ?_
 rintro e a' w' ⟨⟨ts', h', n', m'⟩, ψ', S', hq, hr', he⟩
 have hdom : ∀ k l, ψ k = some l -> k < n := fun k l hk => by
  rcases Nat.lt_or_ge k n with h1 | h1
  . exact h1
  . have := hrel.sim.dom k h1
    rw [hk] at this; cases this
 have hsub : PsiSub ψ ψ' := fun k l hk => by rw [he.agr k (hdom k l hk)]; exact hk
 have main : resVars τ ⟨ts', h', n', m'⟩ rs.toList (fun xs => K (tmOf xs) ⟨ts, h', n', m⟩) ->
  a'.defers = [] /\ ∃ v, (results ⟨nm, orig, targs, params, rts, nfree, ntmps, rs, some c, nr, ours, file, el, ln, met, tn⟩ a'.tmps).run P w' = .ok v w' /\
   ∃ r st' v' ψ' S', Ending.returned v = .returned v' /\ K r st' /\ Rel P base ψ' S' w' st' a /\ RepT P ψ' S' w' r v' /\ Ext base ψ S w ψ' S' w' := by
  intro hq
  refine ⟨hr'.defers, ?_⟩
  obtain ⟨xs, vs, k1, k2, k3⟩ := resVars_ok hτ hr' hq
  refine ⟨_, results_run k3, _, _, _, ψ', S', rfl, k2, ⟨Nat.le_trans hrel.bas hr'.bas, hr'.sim, hrel.lim, hrel.defers, fun t => (hrel.tmps t).later hsub he.later⟩, tmOf_rep k1, ?_⟩
  exact ⟨he.os, he.tape, he.output, he.grow, he.old, he.later, he.newS, he.newP, fun k hk => he.agr k (Nat.lt_of_lt_of_le hk hrel.bas)⟩
 cases e with
 | normal => exact main hq
 | ret => exact main hq
 | exit id => exact hq.elim
 | goto l => exact hq.elim
 | panic ch => exact hq.elim
 | outgrown => exact hq.elim
theorem acall_of_vc (hτ : TysOk P τ) (hz : ∀ t i, τ t = some i -> zeroOk i.zero) {Γ : Sums} (hΓ : SumsOk P Γ) (hmix : P.follows .mixedOrders = true) {calls : Nat -> Nat -> List Va -> St -> (Tm -> St -> Prop) -> Prop} (hcalls : ∀ base, CallsOk P base (calls base))
 {f : Nat} {fn : Func} {c : Code} (hf : P.funcs[f]? = some fn) (hb : fn.body = some c) (hname : (fn.name == "runtime.NumGoroutine") = false) {vas : List Va} {ts : List (Nat × Tm)} {h : List (Nat × Blk)} {n m : Nat} {K : Tm -> St -> Prop} (hlen : vas.length <= fn.ntmps)
 (hk : vc P τ Γ (calls n) n c ⟨zipN 0 (vas.map .va), h, n, fn.ntmps⟩ (inlQ τ fn.results.toList ts m K)) : ACall P base f vas ⟨ts, h, n, m⟩ K := by
 exact acall_of_sat hτ hf hb hname hlen (vc_ok hτ hz hΓ hmix (hcalls n) c _ _ hk)
end
theorem inl {P : Program} {x : TT} (hx : x.ok P) {l : List (Nat × Sm)} (hl : sumsOk P l) {base f : Nat} {fn : Func} {c : Code} (hf : P.funcs[f]? = some fn) (hb : fn.body = some c) (hname : (fn.name == "runtime.NumGoroutine") = false)
 (hmix : P.follows .mixedOrders = true) {vas : List Va} {ts : List (Nat × Tm)} {h : List (Nat × Blk)} {n m : Nat} {K : Tm -> St -> Prop} (hlen : Nat.ble vas.length fn.ntmps = true)
 (hk : vc P x.get (sums l) (vcCall P (sums l) n) n c ⟨zipN 0 (vas.map .va), h, n, fn.ntmps⟩ (inlQ x.get fn.results.toList ts m K)) : ACall P base f vas ⟨ts, h, n, m⟩ K :=
 acall_of_vc (TT.tysOk hx) (TT.zeros hx) (sums_ok hl) hmix (calls := fun base => vcCall P (sums l) base) (fun base => vcCall_ok (sums_ok hl) base) hf hb hname (Nat.le_of_ble_eq_true hlen) hk
def opAt (P : Program) (τ : Tys) (calls : Nat -> List Va -> St -> (Tm -> St -> Prop) -> Prop) (ops : List Oper) (i : Nat) (st : St) (K : St -> Prop) : Prop :=
 match ops[i]? with
 | none => False
 | some o => match o.guard with
   | none => vcOp P τ calls o st K
   | some (j, want) => match dstOf ops j with
     | none => False
     | some s => onBool st s fun st b => match b == some want with
       | true => vcOp P τ calls o st K
       | false => putK st o.dst undT K
section
variable {P : Program} {τ : Tys} {Γ : Sums} {base : Nat} {ψ ψ' : Psi} {S S' : Nat → Prop} {w w' : World} {st st1 : St} {a : Act} {o : Oper} {K : St → Prop}
theorem opAt_ok (hτ : TysOk P τ) (hz : ∀ t i, τ t = some i -> zeroOk i.zero) {calls : Nat -> List Va -> St -> (Tm -> St -> Prop) -> Prop} (hcalls : CallsOk P base calls) {ops : Array Oper} {i : Nat}
 (hrel : Rel P base ψ S w st a) (hk : opAt P τ calls ops.toList i st K) {Q : Exit -> Act -> World -> Prop} {next : Act -> World -> Prop}
 (hn : ∀ st' ψ' S' w' a', K st' -> Rel P base ψ' S' w' st' a' -> Ext base ψ S w ψ' S' w' -> next a' w') : wpOp P ops Q i next a w := by
 unfold opAt at hk
 unfold wpOp
 rw [<- Array.getElem?_toList]
 split at hk
 . exact hk.elim
 . rename_i o ho
   rw [ho]
   simp only
   split at hk
   . rename_i hg
     have : Region.wanted o (yielded ops a.tmps) = true := by simp [Region.wanted, hg]
     rw [if_pos this]
     exact .inl (vcOp_ok hτ hz hcalls hrel hk _ _ hn)
   . rename_i j want hg
     split at hk
     . exact hk.elim
     . rename_i s hs
       obtain ⟨st', b, hk, hrel', hb, _⟩ := onBool_ok hrel hk
       have hy : yielded ops a.tmps j = b := by
        have hd : (ops[j]?).bind (·.dst) = some s := by
         unfold dstOf at hs
         rw [Array.getElem?_toList] at hs
         split at hs
         . rename_i hj; rw [hj]; exact hs
         . simp at hs
        simp only [yielded, hd, Option.bind_some]
        rw [<- hb]
        split <;> simp_all
       split at hk
       . rename_i he
         have : Region.wanted o (yielded ops a.tmps) = true := by simp only [Region.wanted, hg, hy]; exact he
         rw [if_pos this]
         exact .inl (vcOp_ok hτ hz hcalls hrel' hk _ _ hn)
       . rename_i he
         have : ¬ Region.wanted o (yielded ops a.tmps) = true := by simp only [Region.wanted, hg, hy]; simpa using he
         rw [if_neg this]
         obtain ⟨st2, h1, h2⟩ := putK_rel (v := undef) hk hrel' rfl
         exact hn _ _ _ _ _ h1 h2 (Ext.refl _ _ _ _)
end
def fB {α : Type} (b : Blk) (K : Blk -> α) : α := match b with
 | .cells cs => fCs cs fun cs => K (.cells cs)
 | .row a n f => K (.row a n f)
 | .fz ds => fDs ds fun ds => K (.fz ds)
 | .fzr a n f => K (.fzr a n f)
 | .it s p => K (.it s p)
 | .map es bc => fEs es fun es => K (.map es bc)
 | .gone => K .gone
theorem fB_eq {α : Type} (b : Blk) (K : Blk -> α) : fB b K = K b := by
 cases b <;> simp only [fB, fCs_eq, fDs_eq, fEs_eq]
def rdTs (st : St) : List Nat -> (List Tm -> Prop) -> Prop
 | [], K => K []
 | t :: l, K => fT (lookT st.tmps t) fun x => rdTs st l fun xs => K (x :: xs)
def rdBs (st : St) : List Nat -> (List Blk -> Prop) -> Prop
 | [], K => K []
 | t :: l, K => fB (lookB st.heap t) fun x => rdBs st l fun xs => K (x :: xs)
theorem rdTs_eq (st : St) : ∀ (l : List Nat) (K : List Tm -> Prop), rdTs st l K = K (l.map (lookT st.tmps))
 | [], _ => rfl
 | t :: l, K => by simp only [rdTs, fT_eq, rdTs_eq st l, List.map_cons]
theorem rdBs_eq (st : St) : ∀ (l : List Nat) (K : List Blk -> Prop), rdBs st l K = K (l.map (lookB st.heap))
 | [], _ => rfl
 | t :: l, K => by simp only [rdBs, fB_eq, rdBs_eq st l, List.map_cons]
def LoopR {X : Type} (base : Nat) (I : X -> St) (μ : X -> Nat) (Inv : X -> Prop) (ts hs : List Nat) (nx : X -> List Tm -> List Blk -> X) (ids : List Nat) (nv : Nat) (Q : Exit -> St -> Prop) (x : X) : Exit -> St -> Prop
 | .normal, st => rdTs st ts fun xs => rdBs st hs fun bs => Inv (nx x xs bs) /\ μ (nx x xs bs) < μ x /\ leSt base ids nv st (I (nx x xs bs))
 | .exit i, st => Q (.exit i) st
 | .goto i, st => Q (.goto i) st
 | .ret, st => Q .ret st
 | _, _ => False
theorem loop_ok {P : Program} {t : TT} (ht : t.ok P) {l : List (Nat × Sm)} (hl : sumsOk P l) (hmix : P.follows .mixedOrders = true) {base : Nat} {c : Code} {Q : Exit -> St -> Prop} {st : St} {X : Type}
 (I : X -> St) (μ : X -> Nat) (Inv : X -> Prop) (ts hs : List Nat) (nx : X -> List Tm -> List Blk -> X) (ids ids' : List Nat) (nv nv' : Nat) (x0 : X) (h0 : Inv x0) (hst : leSt base ids' nv' st (I x0))
 (round : ∀ x, Inv x -> vc P t.get (sums l) (vcCall P (sums l) base) base c (I x) (LoopR base I μ Inv ts hs nx ids nv Q x)) : ASat P base (.loop c) st Q := by
 refine ASat.le ids' nv' hst (ASat.loop I μ Inv (fun x hx => ?_) x0 h0)
 refine (vc_ok (TT.tysOk ht) (TT.zeros ht) (sums_ok hl) hmix (vcCall_ok (sums_ok hl) base) c _ _ (round x hx)).mono ?_
 intro e st' h
 cases e with
 | normal =>
   simp only [LoopR, rdTs_eq, rdBs_eq] at h
   exact ⟨_, h.1, h.2.1, ids, nv, h.2.2⟩
 | exit i => exact h
 | goto i => exact h
 | ret => exact h
 | panic _ => exact h.elim
 | outgrown => exact h.elim
theorem wrap64 {n : Int} (h0 : -9223372036854775808 <= n) (h1 : n <= 9223372036854775807) : IntKind.wrap .i64 n = n := by
 simp [IntKind.wrap, IntKind.signed, IntKind.bits]
 omega
theorem repArs_rows {P : Program} {S : Nat -> Prop} {w : World} {as : List Ar} {vs : List Value} {ls : List Loc} (h : RepArs P S w as vs ls) (h0 : arsRows as = []) : ls = [] := by
 have := (ars_rep (ψ := psiFrom 0 ls) as vs ls 0 h (fun j l hj => by simpa [psiFrom] using hj)).2.2
 rw [h0] at this
 exact List.eq_nil_of_length_eq_zero this
theorem FCat.of_eq {P : Program} {f : Nat} {as as' : List Ar} {r : Rt} (he : arsEq as as') (h0 : arsRows as = []) (h1 : arsRows as' = []) (h : FCat P f as' r []) : FCat P f as r [] := by
 intro S w vals ls hS hr hsep
 have e := repArs_rows hr h0
 subst e
 obtain ⟨ls', g1, _⟩ := arsEq.rep he hr
 have e := repArs_rows g1 h1
 subst e
 refine (h S w vals [] hS g1 trivial).mono ?_
 rintro e w' ⟨v, S', ls', k1, k2, k3, k4, k5⟩
 exact ⟨v, S', ls', k1, k2, by rw [h0]; rw [h1] at k3; exact k3, k4, k5⟩
section
variable {P : Program} {base : Nat} {a : Act} {w : World}
theorem wp_scope_by {c rest : Code} {Q : Exit -> Act -> World -> Prop} (l : Nat) (J : Nat -> Act -> World -> Prop) (hf : findLabel c l = some rest)
 (first : c.wp P (Exit.jump l (fun a w => ∃ n, J n a w) Q) a w)
 (pass : ∀ n a w, J n a w -> rest.wp P (Exit.jump l (fun a' w' => ∃ n', n' < n /\ J n' a' w') Q) a w) : (Code.scope c).wp P Q a w := by
 intro b k cs
 have hg : gotoIn l (.inScope c :: k) = some (.code rest :: .inScope c :: k) := by simp [gotoIn, hf]
 have key : ∀ n a w, J n a w -> ∃ e a' w', Q e a' w' /\ Arrives P (lone (b.at a (.code rest :: .inScope c :: k)) cs w) b k cs e a' w' := by
  intro n
  induction n using Nat.strongRecOn with
  | _ n ih =>
    intro a w hJ
    obtain ⟨e, a₁, w₁, hq, harr⟩ := pass n a w hJ b (.inScope c :: k) cs
    cases e with
    | normal => exact ⟨.normal, a₁, w₁, hq, Steps.trans harr (.one step_inScope)⟩
    | exit id => exact ⟨.exit id, a₁, w₁, hq, fun k' hk => harr k' (by simp [exitTo, hk])⟩
    | goto l' =>
      obtain ⟨rfl, n', hlt, hJ'⟩ := hq
      obtain ⟨e₂, a₂, w₂, hq₂, harr₂⟩ := ih n' hlt a₁ w₁ hJ'
      exact ⟨e₂, a₂, w₂, hq₂, .of_steps (harr _ hg) harr₂⟩
    | ret => exact ⟨_, a₁, w₁, hq, harr⟩
    | panic ch => exact ⟨_, a₁, w₁, hq, harr⟩
    | outgrown => exact ⟨_, a₁, w₁, hq, harr⟩
 obtain ⟨e, a₁, w₁, hq, harr⟩ := first b (.inScope c :: k) cs
 cases e with
 | normal => exact ⟨.normal, a₁, w₁, hq, .head step_scope (Steps.trans harr (.one step_inScope))⟩
 | exit id => exact ⟨.exit id, a₁, w₁, hq, fun k' hk => .head step_scope (harr k' (by simp [exitTo, hk]))⟩
 | goto l' =>
   obtain ⟨rfl, n', hJ'⟩ := hq
   obtain ⟨e₂, a₂, w₂, hq₂, harr₂⟩ := key n' a₁ w₁ hJ'
   exact ⟨e₂, a₂, w₂, hq₂, .of_steps (.head step_scope (harr _ hg)) harr₂⟩
 | ret => exact ⟨_, a₁, w₁, hq, .of_steps (.one step_scope) harr⟩
 | panic ch => exact ⟨_, a₁, w₁, hq, .of_steps (.one step_scope) harr⟩
 | outgrown => exact ⟨_, a₁, w₁, hq, .of_steps (.one step_scope) harr⟩
end
open Go.ChangeShapes Go.WideShapes Go.RowKit
def RdFs {H : Type} (R : TypeId -> List DV -> DataW H -> Prop) : List Field -> List DV -> List (DataW H) -> Prop
 | [], cs, xs => cs = [] /\ xs = []
 | f :: fs, cs, xs => ∃ c1 c2 x xs', cs = c1 ++ c2 /\ xs = x :: xs' /\ R f.type c1 x /\ RdFs R fs c2 xs'
def Rd {H : Type} (τ : Tys) : Nat -> TypeId -> List DV -> DataW H -> Prop
 | 0, _, _, _ => False
 | n + 1, t, cs, d => match τ t with
   | none => False
   | some ⟨desc, _, _, _⟩ => match desc with
     | .bool => ∃ b, cs = [.v (.bool b)] /\ d = .lit (.bool b)
     | .int k => ∃ i, cs = [.v (.int k i)] /\ (Lit.int k i).wf = true /\ d = .lit (.int k i)
     | .float k => ∃ i, cs = [.v (.float k i)] /\ (Lit.float k i).wf = true /\ d = .lit (.float k i)
     | .string => ∃ s, cs = [.v (.string s)] /\ s.size <= maxLen /\ d = .lit (.string s.data.toList)
     | .slice e => ∃ sz m f, cs = [.lst sz m f] /\ (match τ e with | some ⟨_, sz', _, _⟩ => sz = sz' | none => False) /\ m <= maxLen /\
        ((m = 0 /\ d = .nil) \/ ∃ xs spare, d = .slice xs spare /\ xs.length = m /\ ∀ (i : Nat) (x : DataW H), xs[i]? = some x -> Rd τ n e (f i) x)
     | .struct fs => ∃ xs, d = .agg xs /\ RdFs (Rd τ n) fs.toList cs xs
     | _ => False
def RdAr {H : Type} (τ : Tys) (n : Nat) (t : TypeId) (a : Ar) (d : DataW H) : Prop := match τ t with
 | none => False
 | some ⟨desc, _, _, _⟩ => match wantAgg desc with
   | true => ∃ ds : List DV, a = .agg (ds.map .d) /\ Rd τ n t ds d
   | false => ∃ x, a = .c (.d x) /\ Rd τ n t [x] d
def RdArs {H : Type} (τ : Tys) (n : Nat) : List TypeId -> List Ar -> List (DataW H) -> Prop
 | [], as, ds => as = [] /\ ds = []
 | t :: ts, as, ds => ∃ a as' d ds', as = a :: as' /\ ds = d :: ds' /\ RdAr τ n t a d /\ RdArs τ n ts as' ds'
def packed (τ : Tys) (ok : TypeId -> Bool) : Nat -> List Field -> Nat -> Bool
 | o, [], total => Nat.beq o total
 | o, f :: fs, total => match τ f.type with
   | some ⟨_, sz, _, _⟩ => Nat.beq f.offset o && ok f.type && packed τ ok (o + sz) fs total
   | none => false
def closedTs (τ : Tys) (ts : List TypeId) : Bool := ts.all fun t => match τ t with
 | some ⟨.bool, sz, _, _⟩ => Nat.beq sz 1
 | some ⟨.int _, sz, _, _⟩ => Nat.beq sz 1
 | some ⟨.float _, sz, _, _⟩ => Nat.beq sz 1
 | some ⟨.string, sz, _, _⟩ => Nat.beq sz 1
 | some ⟨.slice e, sz, _, _⟩ => Nat.beq sz 1 && ts.contains e && (match τ e with | some ⟨_, sz', _, _⟩ => Nat.blt 0 sz' | none => false)
 | some ⟨.struct fs, sz, _, _⟩ => packed τ ts.contains 0 fs.toList sz
 | _ => false
section
variable {P : Program} {τ : Tys} {H : Type} {enc : TypeId × Value → H} {w : World} {sp : Nat → Bool}
theorem rd_up : ∀ {n : Nat} {t : TypeId} {cs : List DV} {d : DataW H}, Rd τ n t cs d -> Rd τ (n + 1) t cs d
 | 0, _, _, _, h => h.elim
 | n + 1, t, cs, d, h => by
   have fsup : ∀ (fs : List Field) (cs : List DV) (xs : List (DataW H)), RdFs (Rd τ n) fs cs xs -> RdFs (Rd τ (n + 1)) fs cs xs := by
    intro fs
    induction fs with
    | nil => intro cs xs h; exact h
    | cons f fs ih =>
      rintro cs xs ⟨c1, c2, x, xs', h1, h2, h3, h4⟩
      exact ⟨c1, c2, x, xs', h1, h2, rd_up h3, ih _ _ h4⟩
   rw [Rd] at h ⊢
   cases ht : τ t with
   | none => rw [ht] at h; exact h.elim
   | some ti =>
     rw [ht] at h
     obtain ⟨desc, size, bytes, z⟩ := ti
     simp only at h ⊢
     cases desc with
     | slice e =>
       obtain ⟨sz, m, f, h1, h2, h3, h4⟩ := h
       refine ⟨sz, m, f, h1, h2, h3, ?_⟩
       rcases h4 with h4 | ⟨xs, spare, h5, h6, h7⟩
       . exact .inl h4
       . exact .inr ⟨xs, spare, h5, h6, fun i x hx => rd_up (h7 i x hx)⟩
     | struct fs => obtain ⟨xs, h1, h2⟩ := h; exact ⟨xs, h1, fsup _ _ _ h2⟩
     | _ => exact h
theorem rd_le {n m : Nat} (hnm : n <= m) {t : TypeId} {cs : List DV} {d : DataW H} (h : Rd τ n t cs d) : Rd τ m t cs d := by
 induction m with
 | zero => have : n = 0 := by omega
           subst this; exact h
 | succ m ih =>
   rcases Nat.lt_or_eq_of_le hnm with h1 | rfl
   . exact rd_up (ih (by omega))
   . exact h
theorem rdArs_le {n m : Nat} (hnm : n <= m) : ∀ {ts : List TypeId} {as : List Ar} {ds : List (DataW H)}, RdArs τ n ts as ds -> RdArs τ m ts as ds
 | [], _, _, h => h
 | t :: ts, as, ds, h => by
   obtain ⟨a, as', d, ds', h1, h2, h3, h4⟩ := h
   refine ⟨a, as', d, ds', h1, h2, ?_, rdArs_le hnm h4⟩
   unfold RdAr at h3 ⊢
   split
   . rename_i ht; rw [ht] at h3; exact h3
   . rename_i desc _ _ _ ht
     rw [ht] at h3
     simp only at h3
     split
     . rename_i hw; rw [hw] at h3; obtain ⟨ds, e, h⟩ := h3; exact ⟨ds, e, rd_le hnm h⟩
     . rename_i hw; rw [hw] at h3; obtain ⟨x, e, h⟩ := h3; exact ⟨x, e, rd_le hnm h⟩
theorem trod_rd (hτ : TysOk P τ) {ts : List TypeId} (hts : closedTs τ ts = true) : ∀ (n : Nat) (t : TypeId) (cs : List Value) (x : DataW H × List MemPlace), t ∈ ts -> DataW.trod enc P w 0 sp true n t cs = some x ->
 ∃ ds, All2 (RepD (fun b => b < w.heap.size) w) ds cs /\ Rd τ n t ds x.1
 | 0, t, cs, x, _, h => by simp [DataW.trod] at h
 | n + 1, t, cs, x, ht, h => by
   have hc := (List.all_eq_true.1 hts) t ht
   cases hti : τ t with
   | none => rw [hti] at hc; simp at hc
   | some ti =>
     obtain ⟨info, hi1, hu, hsz, hby, hz⟩ := hτ.ok t _ hti
     obtain ⟨desc, size, bytes, z⟩ := ti
     rw [hti] at hc
     simp only at hc hu hsz
     have hcells : P.cellsOf t = size := by simp [Program.cellsOf, hi1, hsz]
     simp only [Rd, hti]
     unfold DataW.trod at h
     rw [hu] at h
     cases desc with
     | bool =>
       rcases cs with _ | ⟨c, _ | ⟨c2, rest⟩⟩
       . simp at h
       . cases c with
         | bool b =>
           simp only [Option.some.injEq] at h
           exact ⟨[.v (.bool b)], ⟨.v trivial, trivial⟩, b, rfl, by rw [<- h]⟩
         | _ => simp at h
       . simp at h
     | int k =>
       rcases cs with _ | ⟨c, _ | ⟨c2, rest⟩⟩
       . simp at h
       . cases c with
         | int k' i =>
           simp only [Option.ite_none_right_eq_some, Option.some.injEq] at h
           obtain ⟨⟨rfl, hw⟩, h⟩ := h
           exact ⟨[.v (.int _ i)], ⟨.v trivial, trivial⟩, i, rfl, hw, by rw [<- h]⟩
         | _ => simp at h
       . simp at h
     | float k =>
       rcases cs with _ | ⟨c, _ | ⟨c2, rest⟩⟩
       . simp at h
       . cases c with
         | float k' i =>
           simp only [Option.ite_none_right_eq_some, Option.some.injEq] at h
           obtain ⟨⟨rfl, hw⟩, h⟩ := h
           exact ⟨[.v (.float _ i)], ⟨.v trivial, trivial⟩, i, rfl, hw, by rw [<- h]⟩
         | _ => simp at h
       . simp at h
     | string =>
       rcases cs with _ | ⟨c, _ | ⟨c2, rest⟩⟩
       . simp at h
       . cases c with
         | string s =>
           simp only [Option.ite_none_right_eq_some, Option.some.injEq] at h
           obtain ⟨hs, h⟩ := h
           exact ⟨[.v (.string s)], ⟨.v trivial, trivial⟩, s, rfl, hs, by rw [<- h]⟩
         | _ => simp at h
       . simp at h
     | slice e =>
       simp only [Bool.and_eq_true, List.contains_iff_mem] at hc
       obtain ⟨⟨_, he⟩, hpos⟩ := hc
       cases hte : τ e with
       | none => rw [hte] at hpos; simp at hpos
       | some te =>
         rw [hte] at hpos
         obtain ⟨infe, he1, _, hesz, _⟩ := hτ.ok e _ hte
         obtain ⟨desce, sze, bytese, ze⟩ := te
         simp only at hpos hesz
         have hpos : 0 < sze := by simpa [Nat.blt_eq] using hpos
         have hcellse : P.cellsOf e = sze := by simp [Program.cellsOf, he1, hesz]
         have main : ∀ (a : Addr) (len cap : Nat), cs = [.slice (some a) len cap] -> ∃ ds, All2 (RepD (fun b => b < w.heap.size) w) ds cs /\ ∃ sz m f, ds = [.lst sz m f] /\ (match τ e with | some ⟨_, sz', _, _⟩ => sz = sz' | none => False) /\ m <= maxLen /\
          ((m = 0 /\ x.1 = .nil) \/ ∃ xs spare, x.1 = .slice xs spare /\ xs.length = m /\ ∀ (i : Nat) (x : DataW H), xs[i]? = some x -> Rd τ n e (f i) x) := by
          intro a len cap hcs
          subst hcs
          simp only [hcellse] at h
          split at h
          . rename_i hb
            obtain ⟨hb0, hb1, hb2⟩ := hb
            cases hel : (List.range len).mapM (fun i => (w.cells? 0 (a.add (i * sze)) sze).bind (DataW.trod enc P w 0 sp true n e)) with
            | none => rw [hel] at h; simp at h
            | some elems =>
              rw [hel] at h
              simp only [Option.bind_some] at h
              have hlen : elems.length = len := by have := mapM_some_length hel; simpa using this
              have hget : ∀ i, i < len -> ∃ y, elems[i]? = some y /\ (w.cells? 0 (a.add (i * sze)) sze).bind (DataW.trod enc P w 0 sp true n e) = some y := by
               intro i hi
               have h1 := mapM_some_get hel i i (by simp [hi])
               have h2 : elems[i]? = some (elems[i]'(by omega)) := by simp
               exact ⟨_, h2, by rw [h1, h2]⟩
              have hx1 : ∃ spare, x.1 = .slice (elems.map (·.1)) spare := by
               split at h
               all_goals
                obtain ⟨rest, _, h⟩ := Option.map_eq_some_iff.1 h
                exact ⟨_, by rw [<- h]⟩
              obtain ⟨spare, hx1⟩ := hx1
              rcases Nat.eq_zero_or_pos len with h0 | hlpos
              . subst h0
                have : elems = [] := List.eq_nil_of_length_eq_zero hlen
                subst this
                exact ⟨[.lst sze 0 fun _ => []], ⟨.nil, trivial⟩, sze, 0, _, rfl, by rw [hte], Nat.zero_le _, .inr ⟨[], spare, hx1, rfl, by simp⟩⟩
              . -- the rows
                have hrow : ∀ i, i < len -> ∃ (row : List Value) (ds : List DV) (y : DataW H × List MemPlace), elems[i]? = some y /\ row.length = sze /\ (∀ j, j < sze -> w.cell? ((a.add (i * sze)).add j) = row[j]?) /\
                 All2 (RepD (fun b => b < w.heap.size) w) ds row /\ Rd τ n e ds y.1 := by
                 intro i hi
                 obtain ⟨y, h1, h2⟩ := hget i hi
                 obtain ⟨row, h3, h4⟩ := Option.bind_eq_some_iff.1 h2
                 unfold World.cells? at h3
                 rw [if_pos (Nat.zero_le _)] at h3
                 have h5 : row.length = sze := by have := mapM_some_length h3; simpa using this
                 obtain ⟨ds, h6, h7⟩ := trod_rd hτ hts n e row y he h4
                 exact ⟨row, ds, y, h1, h5, fun j hj => mapM_some_get h3 j j (by simp [hj]), h6, h7⟩
                have hspot : a.spot = none /\ a.block < w.heap.size := by
                 obtain ⟨row, ds, y, _, h2, h3, _⟩ := hrow 0 hlpos
                 have h4 := h3 0 hpos
                 have h5 : row[0]? = some (row[0]'(by omega)) := by simp
                 rw [h5] at h4
                 simp only [Nat.zero_mul, Addr.add, if_true] at h4
                 unfold World.cell? at h4
                 split at h4
                 . rename_i hh
                   refine ⟨?_, (Array.getElem?_eq_some_iff.1 hh).1⟩
                   cases hsp : a.spot with
                   | none => rfl
                   | some _ => rw [hsp] at h4; simp at h4
                 . simp at h4
                obtain ⟨b, off, spot⟩ := a
                obtain ⟨rfl, hblk⟩ := hspot
                have hadd : ∀ i j, ((Addr.mk b off none).add (i * sze)).add j = ⟨b, off + i * sze + j, none⟩ := by
                 intro i j
                 by_cases h1 : i * sze = 0 <;> by_cases h2 : j = 0 <;> simp [Addr.add, h1, h2]
                have rowOf : ∃ (g : Nat -> List Value) (f : Nat -> List DV), ∀ i, i < len -> ∃ y, elems[i]? = some y /\ (g i).length = sze /\ (∀ j, j < sze -> w.cell? ⟨b, off + i * sze + j, none⟩ = (g i)[j]?) /\
                 All2 (RepD (fun b => b < w.heap.size) w) (f i) (g i) /\ Rd τ n e (f i) y.1 := by
                 refine ⟨fun i => if h : i < len then (hrow i h).choose else [], fun i => if h : i < len then (hrow i h).choose_spec.choose else [], fun i hi => ?_⟩
                 simp only [dif_pos hi]
                 obtain ⟨y, h1, h2, h3, h4, h5⟩ := (hrow i hi).choose_spec.choose_spec
                 exact ⟨y, h1, h2, fun j hj => by rw [<- hadd]; exact h3 j hj, h4, h5⟩
                obtain ⟨g, f, hgf⟩ := rowOf
                refine ⟨[.lst sze len f], ⟨.lst (fun i j => (g i).getD j undef) hblk ?_ ?_ ?_ hb1, trivial⟩, sze, len, f, rfl, by rw [hte], by omega, .inr ⟨_, spare, hx1, by simp [hlen], ?_⟩⟩
                . intro i hi; obtain ⟨y, _, h2, _, h4, _⟩ := hgf i hi; rw [h4.length, h2]
                . intro i j hi hj
                  obtain ⟨y, _, h2, h3, _⟩ := hgf i hi
                  rw [h3 j hj]
                  have : j < (g i).length := by omega
                  simp [List.getD, this]
                . intro i j hi hj
                  obtain ⟨y, _, h2, _, h4, _⟩ := hgf i hi
                  have hl := h4.length
                  have hjf : j < (f i).length := by omega
                  obtain ⟨v, h5, h6⟩ := h4.get j ((f i)[j]) (by simp [hjf])
                  have hjg : j < (g i).length := by omega
                  simpa [List.getD, hjf, h5] using h6
                . intro i x' hx'
                  have hi : i < len := by
                   have := (List.getElem?_eq_some_iff.1 hx').1
                   simpa [hlen] using this
                  obtain ⟨y, h1, _, _, _, h5⟩ := hgf i hi
                  have : x' = y.1 := by
                   rw [List.getElem?_map, h1] at hx'
                   simpa using hx'.symm
                  rw [this]; exact h5
          . simp at h
         rcases cs with _ | ⟨c, _ | ⟨c2, rest⟩⟩
         . simp at h
         . cases c with
           | slice a len cap =>
             cases a with
             | some a => exact main a len cap rfl
             | none => cases len with
               | zero => cases cap with
                 | zero =>
                   simp only [Option.some.injEq] at h
                   exact ⟨[.lst sze 0 fun _ => []], ⟨.nil, trivial⟩, sze, 0, _, rfl, by rw [hte], Nat.zero_le _, .inl ⟨rfl, by rw [<- h]⟩⟩
                 | succ _ => simp at h
               | succ _ => simp at h
           | _ => simp at h
         . simp at h
     | struct fs =>
       simp only at hc
       simp only at h
       rw [hcells] at h
       split at h
       . rename_i hlen
         obtain ⟨xs, hxs, hx⟩ := Option.map_eq_some_iff.1 h
         have go : ∀ (l : List Field) (o : Nat) (ys : List (DataW H × List MemPlace)), packed τ ts.contains o l size = true -> l.mapM (fun f => DataW.trod enc P w 0 sp true n f.type ((cs.drop f.offset).take (P.cellsOf f.type))) = some ys ->
          ∃ ds, All2 (RepD (fun b => b < w.heap.size) w) ds (cs.drop o) /\ RdFs (Rd τ n) l ds (ys.map (·.1)) := by
          intro l
          induction l with
          | nil =>
            intro o ys hp hm
            simp only [packed] at hp
            have := Nat.eq_of_beq_eq_true hp
            simp at hm
            subst hm
            exact ⟨[], by rw [List.drop_eq_nil_of_le (by omega)]; trivial, rfl, rfl⟩
          | cons f l ih =>
            intro o ys hp hm
            simp only [packed] at hp
            split at hp
            . rename_i d' sz' _ _ htf
              simp only [Bool.and_eq_true, List.contains_iff_mem] at hp
              obtain ⟨⟨h1, h2⟩, h3⟩ := hp
              have h1 := Nat.eq_of_beq_eq_true h1
              rw [List.mapM_cons] at hm
              obtain ⟨y, hy, hm⟩ := Option.bind_eq_some_iff.1 hm
              obtain ⟨ys', hys, hm⟩ := Option.bind_eq_some_iff.1 hm
              simp only [Option.pure_def, Option.some.injEq] at hm
              subst hm
              obtain ⟨inff, hf1, _, hfsz, _⟩ := hτ.ok _ _ htf
              have hcf : P.cellsOf f.type = sz' := by simp [Program.cellsOf, hf1, hfsz]
              rw [h1, hcf] at hy
              obtain ⟨ds1, g1, g2⟩ := trod_rd hτ hts n f.type _ y h2 hy
              obtain ⟨ds2, g3, g4⟩ := ih (o + sz') ys' h3 hys
              refine ⟨ds1 ++ ds2, ?_, ds1, ds2, y.1, ys'.map (·.1), rfl, by simp, g2, g4⟩
              have := g1.append g3
              rwa [<- List.drop_drop, List.take_append_drop] at this
            . simp at hp
         obtain ⟨ds, g1, g2⟩ := go fs.toList 0 xs hc hxs
         refine ⟨ds, by simpa using g1, xs.map (·.1), ?_, g2⟩
         rw [<- hx]
       . simp at h
     | _ => simp at hc
theorem repIcs_ds : ∀ {ds : List DV} {vs : List Value} {S : Nat -> Prop}, All2 (RepD S w) ds vs -> RepIcs S w (ds.map Ic.d) vs []
 | [], [], _, _ => trivial
 | _ :: _, _ :: _, _, ⟨h1, h2⟩ => And.intro h1 (repIcs_ds h2)
theorem trodAll_rd (hτ : TysOk P τ) {ts0 : List TypeId} (hts : closedTs τ ts0 = true) {base : Nat} : ∀ {ts : List TypeId} {vs : List Value} {ds : List (DataW H)} {ps : List MemPlace}, (∀ t ∈ ts, t ∈ ts0) -> DataW.TrodAll enc P w 0 sp true ts vs ds ps ->
 (∀ (j : Nat) t v, ts[j]? = some t -> vs[j]? = some v -> Value.okWide P w .any base t v) -> ∃ n as, RepArs P (fun b => b < w.heap.size) w as vs [] /\ RdArs τ n ts as ds
 | [], [], [], _, _, _, _ => ⟨0, [], rfl, rfl, rfl⟩
 | [], [], _ :: _, _, _, h, _ => h.elim
 | [], _ :: _, _, _, _, h, _ => h.elim
 | _ :: _, [], _, _, _, h, _ => h.elim
 | _ :: _, _ :: _, [], _, _, h, _ => h.elim
 | t :: ts, v :: vs, d :: ds, ps, hin, h, hok => by
   obtain ⟨p, q, ⟨m, h1⟩, h2, rfl⟩ := h
   obtain ⟨n, as, g1, g2⟩ := trodAll_rd hτ hts (base := base) (fun t ht => hin t (by simp [ht])) h2 (fun j t v a b => hok (j + 1) t v (by simpa using a) (by simpa using b))
   obtain ⟨cs, g3, g4⟩ := trod_rd hτ hts m t _ _ (hin t (by simp)) h1
   have hv := hok 0 t v (by simp) (by simp)
   have hc := (List.all_eq_true.1 hts) t (hin t (by simp))
   have g4 := rd_le (Nat.le_max_left m n) g4
   have g2 := rdArs_le (Nat.le_max_right m n) g2
   have : ∃ a, RepAr P (fun b => b < w.heap.size) w a v [] /\ RdAr τ (max m n) t a d := by
    unfold RdAr
    cases hti : τ t with
    | none => rw [hti] at hc; simp at hc
    | some ti =>
      obtain ⟨info, hi1, hu, hsz, hby, hz⟩ := hτ.ok t _ hti
      obtain ⟨desc, size, bytes, z⟩ := ti
      simp only at hu ⊢
      rw [hti] at hc
      unfold Value.okWide at hv
      rw [hu] at hv
      have one : (∀ arr, v ≠ .agg arr) -> ∃ x, RepAr P (fun b => b < w.heap.size) w (.c (.d x)) v [] /\ Rd τ (max m n) t [x] d := by
       intro hne
       have hcl : v.cells.toList = [v] := by cases v <;> first | rfl | exact absurd rfl (hne _)
       rw [hcl] at g3
       cases cs with
       | nil => exact g3.elim
       | cons x xs => cases xs with
         | cons _ _ => exact g3.2.elim
         | nil => exact ⟨x, And.intro g3.1 trivial, g4⟩
      cases desc with
      | struct fs =>
        simp only at hv
        obtain ⟨arr, rfl, _⟩ := hv
        exact ⟨.agg (cs.map .d), ⟨arr, rfl, repIcs_ds g3⟩, cs, rfl, g4⟩
      | bool => obtain ⟨x, a, b⟩ := one (by rintro arr rfl; simp [Cell.okWide, Cell.ok, hu] at hv); exact ⟨_, a, x, rfl, b⟩
      | int k => obtain ⟨x, a, b⟩ := one (by rintro arr rfl; simp [Cell.okWide, Cell.ok, hu] at hv); exact ⟨_, a, x, rfl, b⟩
      | float k => obtain ⟨x, a, b⟩ := one (by rintro arr rfl; simp [Cell.okWide, Cell.ok, hu] at hv); exact ⟨_, a, x, rfl, b⟩
      | string => obtain ⟨x, a, b⟩ := one (by rintro arr rfl; simp [Cell.okWide, Cell.ok, hu] at hv); exact ⟨_, a, x, rfl, b⟩
      | slice e => obtain ⟨x, a, b⟩ := one (by rintro arr rfl; simp [Cell.okWide, Cell.ok, hu] at hv); exact ⟨_, a, x, rfl, b⟩
      | _ => simp at hc
   obtain ⟨a, g5, g6⟩ := this
   exact ⟨_, a :: as, ⟨[], [], rfl, g5, g1⟩, a, as, d, ds, rfl, rfl, g6, g2⟩
theorem trodAll_stays {W W' : World} (hl : laidOutB P = true) (hb : Below W.heap.size W W') {sp' : Nat -> Bool} : ∀ {ts : List TypeId} {vs : List Value} {ds : List (DataW H)} {ps : List MemPlace},
 (∀ t ∈ ts, P.readableRec t = true /\ t < P.types.size) -> (∀ p ∈ ps, p.block < W.heap.size) -> (∀ p ∈ ps, sp' p.block = true) -> DataW.TrodAll enc P W 0 (fun _ => true) true ts vs ds ps -> DataW.TrodAll enc P W' 0 sp' true ts vs ds ps
 | [], [], [], _, _, _, _, h => h
 | [], [], _ :: _, _, _, _, _, h => h.elim
 | [], _ :: _, _, _, _, _, _, h => h.elim
 | _ :: _, [], _, _, _, _, _, h => h.elim
 | _ :: _, _ :: _, [], _, _, _, _, h => h.elim
 | t :: ts, v :: vs, d :: ds, ps, hr, hlt, hs, h => by
   obtain ⟨p, q, h1, h2, rfl⟩ := h
   refine ⟨p, q, ?_, trodAll_stays hl hb (fun t ht => hr t (by simp [ht])) (fun x hx => hlt x (by simp [hx])) (fun x hx => hs x (by simp [hx])) h2, rfl⟩
   exact WideElems.Trod_stays hl (hr t (by simp)).1 (hr t (by simp)).2 h1 (fun x hx => hb.same (hlt x (by simp [hx]))) (fun x hx => hs x (by simp [hx]))
theorem law_post (hτ : TysOk P τ) (hl : laidOutB P = true) {f : Nat} {fn : Func} {s : ChangeSpec} {ts0 : List TypeId} (hts : closedTs τ ts0 = true) {tb : TypeId}
 (hin : fn.params.toList.all (fun t => ts0.contains t) = true) (hrd : fn.params.toList.all (fun t => P.readableRec t && decide (t < P.types.size)) = true) (hres : fn.resultTypes = #[tb]) (htb : P.underlying tb = some .bool) (hvars : s.vars = [])
 (hspec : ∀ (H : Type) (ds : List (DataW H)), ds.length = fn.params.size -> (s.fn H (ds ++ [])).results = [.lit (.bool true)] /\ (s.fn H (ds ++ [])).args = ds /\ (s.fn H (ds ++ [])).vars = [])
 {W : World} {base : Nat} {args : Array Value} {ds gs : List (DataW H)} {before : List MemPlace}
 (hG : GInv P (fun b => b < W.heap.size) W) (hcb : Callable P f) (hfc : ∀ n as, RdArs τ n fn.params.toList as ds -> FCat P f as (.va (.c (.d (.v (.bool true))))) [])
 (hval : ∀ (j : Nat) t v, fn.params[j]? = some t -> args[j]? = some v -> Value.okWide P W .any base t v)
 (hW : DataW.Whole enc P fn.params.toList s.vars false W args.toList ds gs before) :
 Calls P f args W fun e W' => ∃ v, e = .returned v /\ s.post enc P fn false true false false W args v W' := by
 have hW' := hW
 obtain ⟨p, q, hA, hV, rfl, hfz, hnd⟩ := hW
 rw [hvars] at hV
 have hgs : gs = [] /\ q = [] := by
  cases gs with
  | nil => exact ⟨rfl, hV⟩
  | cons _ _ => exact hV.elim
 obtain ⟨rfl, rfl⟩ := hgs
 simp only [List.append_nil] at hW' hfz
 have hlt : ∀ x ∈ p, x.block < W.heap.size := fun x hx => hW'.lt x hx
 have hrd : ∀ t ∈ fn.params.toList, P.readableRec t = true /\ t < P.types.size := by
  simp only [List.all_eq_true, Bool.and_eq_true, decide_eq_true_eq] at hrd; exact hrd
 obtain ⟨n, as, h1, h2⟩ := trodAll_rd hτ hts (base := base) (by simp only [List.all_eq_true, List.contains_iff_mem] at hin; exact hin) hA (fun j t v a b => hval j t v (by simpa using a) (by simpa using b))
 have hlen : ds.length = fn.params.size := by
  have : ∀ (ts : List TypeId) (vs : List Value) (ds : List (DataW H)) (ps : List MemPlace), DataW.TrodAll enc P W 0 (fun _ => true) true ts vs ds ps -> ds.length = ts.length := by
   intro ts
   induction ts with
   | nil => intro vs ds ps h; cases vs <;> cases ds <;> first | rfl | exact h.elim
   | cons t ts ih => intro vs ds ps h; cases vs <;> cases ds <;> first | exact h.elim | (obtain ⟨_, _, _, h, _⟩ := h; simp [ih _ _ _ h])
  simpa using this _ _ _ _ hA
 obtain ⟨e1, e2, e3⟩ := hspec H ds hlen
 have hcall := (hfc n as h2 (fun b => b < W.heap.size) W args.toList [] ⟨fun _ h => h, hG⟩ h1 trivial).calls hcb
 simp only [Array.toArray_toList] at hcall
 refine hcall.mono ?_
 rintro e W' ⟨v, S', ls', rfl, hr, _, _, hx⟩
 have hb : Below W.heap.size W W' := ⟨hx.os, hx.tape, hx.output, hx.grow, fun b hb => hx.old b hb (by rintro ⟨m, hm⟩; simp at hm)⟩
 have hv : v = .bool true := by
  have hr : RepIcs S' W' [.d (.v (.bool true))] [v] ls' := hr
  have := hr.1
  cases this; rfl
 subst hv
 have hargs : ∀ sp' : Nat -> Bool, (∀ x ∈ p, sp' x.block = true) -> DataW.TrodAll enc P W' 0 sp' true fn.params.toList args.toList ds p := fun sp' hs => trodAll_stays hl hb hrd hlt hs hA
 have hresT : ∀ (b : Nat) (sp' : Nat -> Bool) (hd : Bool), DataW.TrodAll enc P W' b sp' hd fn.resultTypes.toList ((Value.bool true).resultList fn.resultTypes.size) [.lit (.bool true)] [] := by
  intro b sp' hd
  rw [hres]
  exact ⟨[], [], ⟨1, by simp [DataW.trod, htb, Value.cells]⟩, rfl, rfl⟩
 have hold : ∀ x ∈ p, (fun b => decide (b < W.heap.size)) x.block = true := fun x hx => by simpa using hlt x hx
 refine ⟨_, rfl, ds, [], p, [], p, [], hW', ?_, ?_, ?_, World.keptBut_mono (fun x hx => hx) (hb.frame _), fun h => by cases h⟩
 . rw [e1]; exact hresT _ _ _
 . rw [e2]; exact hargs _ hold
 . rw [e3, hvars]; rfl
end
end Go.Sx
