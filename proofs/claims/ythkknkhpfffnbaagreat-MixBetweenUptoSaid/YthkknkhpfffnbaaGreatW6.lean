/- What the law of merged envs computes. No condition. -/
import Derived.Test.YthkknkhpfffnbaaGreatW5
set_option linter.all false
set_option maxHeartbeats 8000000
set_option maxRecDepth 100000
namespace Go.Proofs.YthkknkhpfffnbaaGreat
open Go.Sx
theorem mrg_mem {op : Vl -> Vl -> Vl} : ∀ {A B : List Bd} {b : Bd}, b ∈ mrg op A B -> (∃ x ∈ A, b.v = op x.v Vl.zero) \/ (∃ y ∈ B, b.v = op Vl.zero y.v) \/ ∃ x ∈ A, ∃ y ∈ B, b.v = op x.v y.v
  | [], [], b, h => by rw [mrg] at h; cases h
  | [], y :: r, b, h => by
    rw [mrg] at h
    rcases List.mem_cons.1 h with rfl | h
    . exact .inr (.inl ⟨y, List.mem_cons_self, rfl⟩)
    . rcases mrg_mem h with ⟨x, hx, _⟩ | ⟨z, hz, e⟩ | ⟨x, hx, _⟩
      . cases hx
      . exact .inr (.inl ⟨z, List.mem_cons_of_mem _ hz, e⟩)
      . cases hx
  | x :: r, [], b, h => by
    rw [mrg] at h
    rcases List.mem_cons.1 h with rfl | h
    . exact .inl ⟨x, List.mem_cons_self, rfl⟩
    . rcases mrg_mem h with ⟨z, hz, e⟩ | ⟨z, hz, _⟩ | ⟨_, _, z, hz, _⟩
      . exact .inl ⟨z, List.mem_cons_of_mem _ hz, e⟩
      . cases hz
      . cases hz
  | x :: r, y :: q, b, h => by
    rw [mrg] at h
    split at h
    . rcases List.mem_cons.1 h with rfl | h
      . exact .inl ⟨x, List.mem_cons_self, rfl⟩
      . rcases mrg_mem h with ⟨z, hz, e⟩ | h | ⟨z, hz, w, hw, e⟩
        . exact .inl ⟨z, List.mem_cons_of_mem _ hz, e⟩
        . exact .inr (.inl h)
        . exact .inr (.inr ⟨z, List.mem_cons_of_mem _ hz, w, hw, e⟩)
    . split at h
      . rcases List.mem_cons.1 h with rfl | h
        . exact .inr (.inl ⟨y, List.mem_cons_self, rfl⟩)
        . rcases mrg_mem h with h | ⟨z, hz, e⟩ | ⟨z, hz, w, hw, e⟩
          . exact .inl h
          . exact .inr (.inl ⟨z, List.mem_cons_of_mem _ hz, e⟩)
          . exact .inr (.inr ⟨z, hz, w, List.mem_cons_of_mem _ hw, e⟩)
      . rcases List.mem_cons.1 h with rfl | h
        . exact .inr (.inr ⟨x, List.mem_cons_self, y, List.mem_cons_self, rfl⟩)
        . rcases mrg_mem h with ⟨z, hz, e⟩ | ⟨z, hz, e⟩ | ⟨z, hz, w, hw, e⟩
          . exact .inl ⟨z, List.mem_cons_of_mem _ hz, e⟩
          . exact .inr (.inl ⟨z, List.mem_cons_of_mem _ hz, e⟩)
          . exact .inr (.inr ⟨z, List.mem_cons_of_mem _ hz, w, List.mem_cons_of_mem _ hw, e⟩)
termination_by A B => A.length + B.length
theorem okL_mrg {op : Vl -> Vl -> Vl} {Q : Vl -> Vl -> Prop} {A B : List Bd} (hA : okL A) (hB : okL B) (hq : QOk Q A B) (h : ∀ x y, okV x -> okV y -> Q x y -> okV (op x y)) : okL (mrg op A B) := by
  intro b hb
  show okV b.v
  rcases mrg_mem hb with ⟨x, hx, e⟩ | ⟨y, hy, e⟩ | ⟨x, hx, y, hy, e⟩
  . rw [e]; exact h _ _ (hA x hx) okV_zero (hq.left x hx)
  . rw [e]; exact h _ _ okV_zero (hB y hy) (hq.right y hy)
  . rw [e]; exact h _ _ (hA x hx) (hB y hy) (hq.both x hx y hy)
theorem join_okL {a b : En} (ha : okL a.binds) (hb : okL b.binds) (hr : Room a.binds b.binds) : okL (En.join a b).binds := by
  unfold En.join
  split
  . split
    . exact okL_mrg (clean_ok ha) (clean_ok hb) (room_clean hr) fun x y hx hy hq => by rw [Vl.join_eq]; exact okV_rj hx hy hq
    . exact clean_ok ha
  . exact clean_ok hb
theorem widen_okL {a b : En} {l : List Int} (ha : okL a.binds) (hb : okL b.binds) (hr : Room a.binds b.binds) (hl : ∀ z, z ∈ l -> rI z) : okL (En.widen a b l).binds := by
  unfold En.widen
  split
  . split
    . exact okL_mrg (clean_ok ha) (clean_ok hb) (room_clean hr) fun x y hx hy hq => by rw [widen_eq]; exact okV_rw hx hy hq hl
    . exact clean_ok ha
  . exact clean_ok hb
theorem narrow_okL {a b : En} (ha : okL a.binds) (hb : okL b.binds) : okL (En.narrow a b).binds := by
  unfold En.narrow
  split
  . split
    . split
      . exact okL_mrg (Q := QT) (clean_ok ha) (clean_ok hb) (qt_ok _ _) fun x y hx hy _ => by rw [narrow_eq]; exact okV_rn hx hy
      . exact clean_ok ha
    . intro x hx; cases hx
  . exact clean_ok hb
theorem join_len (a b : En) : (En.join a b).binds.length <= a.binds.length + b.binds.length := by
  have h1 := clean_len a
  have h2 := clean_len b
  unfold En.join
  split
  . split
    . have := mrg_len (op := Vl.join) a.clean.binds b.clean.binds
      show (mrg _ _ _).length <= _; omega
    . omega
  . omega
theorem widen_len (a b : En) (l : List Int) : (En.widen a b l).binds.length <= a.binds.length + b.binds.length := by
  have h1 := clean_len a
  have h2 := clean_len b
  unfold En.widen
  split
  . split
    . have := mrg_len (op := fun x y => Vl.widen x y l) a.clean.binds b.clean.binds
      show (mrg _ _ _).length <= _; omega
    . omega
  . omega
theorem narrow_len (a b : En) : (En.narrow a b).binds.length <= a.binds.length + b.binds.length := by
  have h1 := clean_len a
  have h2 := clean_len b
  unfold En.narrow
  split
  . split
    . split
      . have := mrg_len (op := Vl.narrow) a.clean.binds b.clean.binds
        show (mrg _ _ _).length <= _; omega
      . omega
    . exact Nat.zero_le _
  . omega
theorem inRE_of {e : En} (h : okL e.binds) : inRE e := fun x hx => by have := (h x hx).2; exact this
end Go.Proofs.YthkknkhpfffnbaaGreat
namespace Go.Sx
def stoOf : List (Nat × Nat) -> Nat -> Option Nat
  | [], _ => none
  | (j, ia) :: l, i => match Nat.beq j i with
    | true => some ia
    | false => stoOf l i
def hidOf (sto : List (Nat × Nat)) (i : Nat) : Bool := sto.any fun p => Nat.beq p.2 i
def visB (sto : List (Nat × Nat)) (i : Nat) : Bool := !hidOf sto i && (stoOf sto i).isNone
def dSto (τ : Tys) (n0 : Nat) (all : List Oper) (ia : Nat) (o : Oper) (st : St) (K : List Cell -> Prop) : Prop :=
  match o.op, o.guard, all[ia]? with
  | .store t ad x, none, some oa => match oa.op, oa.guard with
    | .alloc e, none => match ev st ad, ev st x, τ t, τ e with
      | .va (.c (.own k 0)), .va y, some ⟨_, size, _, _⟩, some ⟨_, _, _, z⟩ => match Nat.beq k (n0 + ia), y.lays, Nat.beq y.cells.length size, Nat.beq (zeroCells' z).length size with
        | true, true, true, true => K y.cells
        | _, _, _, _ => False
      | _, _, _, _ => False
    | _, _ => False
  | _, _, _ => False
def dGo3 (P : Program) (τ : Tys) (Γ : Sums) (n0 : Nat) (gs : List Nat) (all : List Oper) (sto : List (Nat × Nat)) (i : Nat) (l : List Oper) : St -> List (Nat × Blk) -> (St -> List (Nat × Blk) -> Prop) -> Prop :=
  List.rec (motive := fun _ => Nat -> St -> List (Nat × Blk) -> (St -> List (Nat × Blk) -> Prop) -> Prop) (fun _ st sp K => K st sp) (fun o _ ih i st sp K => match st with
    | ⟨ts, h, n, m⟩ => match inLim o.dst m with
      | false => False
      | true => match stoOf sto i with
        | some ia => dSto τ n0 all ia o ⟨ts, h, n, m⟩ fun cs => fCs cs fun cs => ih (i + 1) ⟨putT o.dst undT ts, h, n, m⟩ ((n0 + ia, .cells cs) :: sp) K
        | none => dWant all ⟨ts, h, n, m⟩ o fun w => match w with
          | false => ih (i + 1) ⟨putT o.dst undT ts, h, n, m⟩ sp K
          | true => dOp P τ Γ (n0 + i) o ⟨ts, h, n, m⟩ fun x b => fT x fun x => match b with
            | some (.cells cs) => fCs cs fun cs => dPut i gs x fun x => match hidOf sto i with
              | true => ih (i + 1) ⟨putT o.dst x ts, h, n, m⟩ sp K
              | false => ih (i + 1) ⟨putT o.dst x ts, (n0 + i, .cells cs) :: h, n, m⟩ sp K
            | some _ => False
            | none => dPut i gs x fun x => ih (i + 1) ⟨putT o.dst x ts, h, n, m⟩ sp K) l i
theorem dGo3_cons (P : Program) (τ : Tys) (Γ : Sums) (n0 : Nat) (gs : List Nat) (all : List Oper) (sto : List (Nat × Nat)) (i : Nat) (o : Oper) (rest : List Oper) (ts : List (Nat × Tm)) (h : List (Nat × Blk)) (n m : Nat) (sp : List (Nat × Blk)) (K : St -> List (Nat × Blk) -> Prop) :
    dGo3 P τ Γ n0 gs all sto i (o :: rest) ⟨ts, h, n, m⟩ sp K = (match inLim o.dst m with
      | false => False
      | true => match stoOf sto i with
        | some ia => dSto τ n0 all ia o ⟨ts, h, n, m⟩ fun cs => fCs cs fun cs => dGo3 P τ Γ n0 gs all sto (i + 1) rest ⟨putT o.dst undT ts, h, n, m⟩ ((n0 + ia, .cells cs) :: sp) K
        | none => dWant all ⟨ts, h, n, m⟩ o fun w => match w with
          | false => dGo3 P τ Γ n0 gs all sto (i + 1) rest ⟨putT o.dst undT ts, h, n, m⟩ sp K
          | true => dOp P τ Γ (n0 + i) o ⟨ts, h, n, m⟩ fun x b => fT x fun x => match b with
            | some (.cells cs) => fCs cs fun cs => dPut i gs x fun x => match hidOf sto i with
              | true => dGo3 P τ Γ n0 gs all sto (i + 1) rest ⟨putT o.dst x ts, h, n, m⟩ sp K
              | false => dGo3 P τ Γ n0 gs all sto (i + 1) rest ⟨putT o.dst x ts, (n0 + i, .cells cs) :: h, n, m⟩ sp K
            | some _ => False
            | none => dPut i gs x fun x => dGo3 P τ Γ n0 gs all sto (i + 1) rest ⟨putT o.dst x ts, h, n, m⟩ sp K) := rfl
def hfOf (n0 : Nat) (B : Nat -> Option (List Cell)) (sto : List (Nat × Nat)) (D : Nat -> Bool) (h : List (Nat × Blk)) : List (Nat × Blk) :=
  sto.map (fun p => (n0 + p.2, Blk.cells (if D p.1 = true then (B p.1).getD [] else (B p.2).getD []))) ++ h
structure StoOk (ops : Array Oper) (sto : List (Nat × Nat)) (m : Nat) : Prop where
  lt : ∀ p ∈ sto, p.1 < m /\ p.2 < p.1
  nd : sto.Pairwise fun p q => p.1 ≠ q.1 /\ p.2 ≠ q.2
  cl : ∀ p ∈ sto, Cl ops p.1 p.2
  na : ∀ p ∈ sto, stoOf sto p.2 = none
def stoB (all : List Oper) (sto : List (Nat × Nat)) (m : Nat) : Bool :=
  sto.all (fun p => Nat.blt p.1 m && Nat.blt p.2 p.1 && Nat.blt p.1 all.length && ((cloGo all []).getD p.1 0).testBit p.2 && (stoOf sto p.2).isNone) && decide (sto.Pairwise fun p q => p.1 ≠ q.1 /\ p.2 ≠ q.2)
theorem stoB_ok {ops : Array Oper} {sto : List (Nat × Nat)} {m : Nat} (h : stoB ops.toList sto m = true) : StoOk ops sto m := by
  simp only [stoB, Bool.and_eq_true, List.all_eq_true, decide_eq_true_eq] at h
  obtain ⟨h1, h2⟩ := h
  have hcl := cloGo_spec ops ops.toList [] (fun i o ho => by simpa using ho) (fun i j h => by simp at h)
  refine ⟨fun p hp => ?_, h2, fun p hp => ?_, fun p hp => ?_⟩
  . have := h1 p hp; exact ⟨by simpa [Nat.blt_eq] using this.1.1.1.1, by simpa [Nat.blt_eq] using this.1.1.1.2⟩
  . exact hcl _ _ (h1 p hp).1.2
  . simpa using (h1 p hp).2
theorem stoOf_get : ∀ {sto : List (Nat × Nat)} {i ia : Nat}, stoOf sto i = some ia -> (i, ia) ∈ sto
  | [], _, _, h => by cases h
  | (j, ia') :: l, i, ia, h => by
    simp only [stoOf] at h
    split at h
    . rename_i e; cases h; rw [<- Nat.eq_of_beq_eq_true e]; exact List.mem_cons_self
    . exact List.mem_cons_of_mem _ (stoOf_get h)
theorem stoOf_nd : ∀ {sto : List (Nat × Nat)} {p : Nat × Nat}, (sto.Pairwise fun p q => p.1 ≠ q.1 /\ p.2 ≠ q.2) -> p ∈ sto -> stoOf sto p.1 = some p.2
  | (j, ia) :: l, p, hn, hp => by
    rw [List.pairwise_cons] at hn
    simp only [stoOf]
    rcases List.mem_cons.1 hp with rfl | hp
    . simp
    . have h := (hn.1 p hp).1
      cases hb : Nat.beq j p.1 with
      | true => exact absurd (Nat.eq_of_beq_eq_true hb) h
      | false => exact stoOf_nd hn.2 hp
theorem stoOf_mem {ops : Array Oper} {sto : List (Nat × Nat)} {m : Nat} (hs : StoOk ops sto m) {p : Nat × Nat} (hp : p ∈ sto) : stoOf sto p.1 = some p.2 := stoOf_nd hs.nd hp
theorem hidOf_mem {sto : List (Nat × Nat)} {p : Nat × Nat} (hp : p ∈ sto) : hidOf sto p.2 = true := List.any_eq_true.2 ⟨p, hp, by simp⟩
theorem hidOf_get {sto : List (Nat × Nat)} {i : Nat} (h : hidOf sto i = true) : ∃ p ∈ sto, p.2 = i := by
  obtain ⟨p, hp, e⟩ := List.any_eq_true.1 h
  exact ⟨p, hp, Nat.eq_of_beq_eq_true e⟩
theorem hf_congr {n0 : Nat} {B : Nat -> Option (List Cell)} {sto : List (Nat × Nat)} {D D' : Nat -> Bool} {h : List (Nat × Blk)} (hd : ∀ p ∈ sto, D p.1 = D' p.1) : hfOf n0 B sto D h = hfOf n0 B sto D' h := by
  unfold hfOf
  congr 1
  exact List.map_congr_left fun p hp => by rw [hd p hp]
theorem hf_miss {n0 : Nat} {B : Nat -> Option (List Cell)} {D : Nat -> Bool} {h : List (Nat × Blk)} {k : Nat} : ∀ {sto : List (Nat × Nat)}, (∀ p ∈ sto, k ≠ n0 + p.2) -> lookB (hfOf n0 B sto D h) k = lookB h k
  | [], _ => rfl
  | q :: l, hn => by
    show lookB ((n0 + q.2, _) :: hfOf n0 B l D h) k = _
    rw [lookB_cons, if_neg (fun e => hn q List.mem_cons_self e.symm), hf_miss fun p hp => hn p (List.mem_cons_of_mem _ hp)]
theorem hf_hit' {n0 : Nat} {B : Nat -> Option (List Cell)} {D : Nat -> Bool} {h : List (Nat × Blk)} {p : Nat × Nat} : ∀ {sto : List (Nat × Nat)}, (sto.Pairwise fun p q => p.1 ≠ q.1 /\ p.2 ≠ q.2) -> p ∈ sto -> lookB (hfOf n0 B sto D h) (n0 + p.2) = .cells (if D p.1 = true then (B p.1).getD [] else (B p.2).getD [])
  | q :: l, hn, hp => by
    rw [List.pairwise_cons] at hn
    show lookB ((n0 + q.2, _) :: hfOf n0 B l D h) _ = _
    rw [lookB_cons]
    rcases List.mem_cons.1 hp with rfl | hp
    . rw [if_pos rfl]
    . rw [if_neg (fun e => (hn.1 p hp).2 (by omega))]
      exact hf_hit' hn.2 hp
theorem hf_hit {ops : Array Oper} {m n0 : Nat} {B : Nat -> Option (List Cell)} {sto : List (Nat × Nat)} {D : Nat -> Bool} {h : List (Nat × Blk)} (hs : StoOk ops sto m) {p : Nat × Nat} (hp : p ∈ sto) : lookB (hfOf n0 B sto D h) (n0 + p.2) = .cells (if D p.1 = true then (B p.1).getD [] else (B p.2).getD []) := hf_hit' hs.nd hp
theorem setAt_all {α : Type} : ∀ {l r : List α}, l.length = r.length -> setAt l 0 r = some r
  | l, [], h => by
    have : l = [] := List.eq_nil_of_length_eq_zero (by simpa using h)
    subst this; rfl
  | [], y :: ys, h => by cases h
  | x :: l, y :: ys, h => by
    simp only [setAt]
    rw [setAt_all (by simpa using h)]
section
variable {P : Program} {τ : Tys} {Γ : Sums} {base : Nat} {ψ ψ' : Psi} {S S' : Nat → Prop} {w w' : World} {a : Act}
theorem Rel.heapCg {ts : List (Nat × Tm)} {h h' : List (Nat × Blk)} {n m : Nat} (he : ∀ k, lookB h k = lookB h' k) (hr : Rel P base ψ S w ⟨ts, h, n, m⟩ a) : Rel P base ψ S w ⟨ts, h', n, m⟩ a := by
  have hs := hr.sim
  refine ⟨hr.bas, ⟨hs.dom, fun k l hk => ?_, fun k k' b m1 m2 e1 e2 l1 l2 => ?_, fun k b m1 e1 l1 => ?_, hs.pdom, hs.sdom⟩, hr.lim, hr.defers, hr.tmps⟩
  . show BlkRep P ψ S w (lookB h' k) l
    rw [<- he]; exact hs.blk k l hk
  . have l1 : (lookB h' k).live := l1
    have l2 : (lookB h' k').live := l2
    rw [<- he] at l1 l2
    exact hs.inj k k' b m1 m2 e1 e2 l1 l2
  . have l1 : (lookB h' k).live := l1
    rw [<- he] at l1
    exact hs.dis k b m1 e1 l1
theorem dSto_get {n0 ia : Nat} {all : List Oper} {o : Oper} {st : St} {cs : List Cell} (h : dSto τ n0 all ia o st fun c => c = cs) :
    ∃ t ad xo yv, o.op = .store t ad xo /\ o.guard = none /\ ev st ad = .va (.c (.own (n0 + ia) 0)) /\ ev st xo = .va yv /\ ∃ sz0, yv.lays = true /\ yv.cells = cs /\ (∃ desc bt z, Nat.beq yv.cells.length sz0 = true /\ τ t = some ⟨desc, sz0, bt, z⟩) /\
      ∀ oa, all[ia]? = some oa -> ∃ ti e z, oa.op = .alloc e /\ oa.guard = none /\ τ e = some ti /\ ti.zero = z /\ (zeroCells' z).length = cs.length := by
  unfold dSto at h
  split at h
  . rename_i t ad x oa hop hg hall
    split at h
    . rename_i e hoa hga
      split at h
      . rename_i k y desc size bt z dz sz2 bt2 z2 ea ex ht he
        split at h
        . rename_i q1 q2 q3 q4
          refine ⟨t, ad, x, y, hop, hg, by rw [ea, Nat.eq_of_beq_eq_true q1], ex, size, q2, h, ⟨desc, bt, z, q3, ht⟩, fun oa' hoa' => ?_⟩
          rw [hall] at hoa'; cases hoa'
          refine ⟨_, e, _, hoa, hga, he, rfl, ?_⟩
          rw [<- h, Nat.eq_of_beq_eq_true q3]; exact Nat.eq_of_beq_eq_true q4
        . exact h.elim
      . exact h.elim
    . exact h.elim
  . exact h.elim
def DStep3 (P : Program) (τ : Tys) (Γ : Sums) (n0 : Nat) (all : List Oper) (sto : List (Nat × Nat)) (i : Nat) (o : Oper) (y : Tm) (blk : Option (List Cell)) (st st' : St) : Prop :=
  inLim o.dst st.lim = true /\ st' = ⟨putT o.dst y st.tmps, (match blk, visB sto i with | some cs, true => [(n0 + i, Blk.cells cs)] | _, _ => []) ++ st.heap, st.next, st.lim⟩ /\
    ((stoOf sto i = none /\ ((dWant all st o (fun w => w = false) /\ y = undT /\ blk = none) \/
      ∃ x, dWant all st o (fun w => w = true) /\ dOp P τ Γ (n0 + i) o st (fun x' b' => x' = x /\ b' = blk.map Blk.cells) /\ Known x y)) \/
    ∃ ia cs, stoOf sto i = some ia /\ blk = some cs /\ y = undT /\ dSto τ n0 all ia o st fun c => c = cs)
theorem dSto_lin {n0 ia : Nat} {all : List Oper} {o : Oper} {st : St} : Lin (dSto τ n0 all ia o st) := by
  intro K hk
  unfold dSto at hk ⊢
  split at hk
  . split at hk
    . split at hk
      . split at hk
        . exact ⟨_, hk, rfl⟩
        . exact hk.elim
      . exact hk.elim
    . exact hk.elim
  . exact hk.elim
def spOf (n0 : Nat) (B : Nat -> Option (List Cell)) (sto : List (Nat × Nat)) (i : Nat) (sp0 : List (Nat × Blk)) : Nat -> List (Nat × Blk)
  | 0 => sp0
  | j + 1 => match stoOf sto (i + j) with
    | some ia => (n0 + ia, Blk.cells ((B j).getD [])) :: spOf n0 B sto i sp0 j
    | none => spOf n0 B sto i sp0 j
theorem dGo3_way {n0 : Nat} {gs : List Nat} {all : List Oper} {sto : List (Nat × Nat)} : ∀ (rest : List Oper) (i : Nat) (st : St) (sp : List (Nat × Blk)) (K : St -> List (Nat × Blk) -> Prop), dGo3 P τ Γ n0 gs all sto i rest st sp K ->
    ∃ (f : Nat -> St) (y : Nat -> Tm) (B : Nat -> Option (List Cell)) (sp' : List (Nat × Blk)), f 0 = st /\ K (f rest.length) sp' /\ (∀ j o, rest[j]? = some o -> DStep3 P τ Γ n0 all sto (i + j) o (y j) (B j) (f j) (f (j + 1))) /\
      sp' = spOf n0 B sto i sp rest.length
  | [], i, st, sp, K, hk => ⟨fun _ => st, fun _ => undT, fun _ => none, sp, rfl, hk, fun j o h => by simp at h, rfl⟩
  | o :: rest, i, ⟨ts, h, n, m⟩, sp, K, hk => by
    rw [dGo3_cons] at hk
    split at hk
    . exact hk.elim
    . rename_i hlim
      have shift : ∀ (B : Nat -> Option (List Cell)) (B0 : Option (List Cell)) (sp1 : List (Nat × Blk)), sp1 = spOf n0 (fun j => match j with | 0 => B0 | j + 1 => B j) sto i sp 1 -> ∀ q, spOf n0 B sto (i + 1) sp1 q = spOf n0 (fun j => match j with | 0 => B0 | j + 1 => B j) sto i sp (q + 1) := by
        intro B B0 sp1 h1 q
        induction q with
        | zero => exact h1
        | succ q ih =>
          rw [spOf, spOf, ih, show i + 1 + q = i + (q + 1) by omega]
      have cons : ∀ y0 B0 st1 sp1, DStep3 P τ Γ n0 all sto i o y0 B0 ⟨ts, h, n, m⟩ st1 -> (∀ B : Nat -> Option (List Cell), sp1 = spOf n0 (fun j => match j with | 0 => B0 | j + 1 => B j) sto i sp 1) -> dGo3 P τ Γ n0 gs all sto (i + 1) rest st1 sp1 K ->
          ∃ (f : Nat -> St) (y : Nat -> Tm) (B : Nat -> Option (List Cell)) (sp' : List (Nat × Blk)), f 0 = ⟨ts, h, n, m⟩ /\ K (f (o :: rest).length) sp' /\
          (∀ j o', (o :: rest)[j]? = some o' -> DStep3 P τ Γ n0 all sto (i + j) o' (y j) (B j) (f j) (f (j + 1))) /\ sp' = spOf n0 B sto i sp (o :: rest).length := by
        intro y0 B0 st1 sp1 hs hsp hk
        obtain ⟨f, y, B, sp', g1, g2, g3, g4⟩ := dGo3_way rest (i + 1) st1 sp1 K hk
        refine ⟨fun j => match j with | 0 => ⟨ts, h, n, m⟩ | j + 1 => f j, fun j => match j with | 0 => y0 | j + 1 => y j, fun j => match j with | 0 => B0 | j + 1 => B j, sp', rfl, g2, ?_, ?_⟩
        . intro j o' ho
          cases j with
          | zero => simp at ho; subst ho; simp only [g1]; exact hs
          | succ j => have := g3 j o' (by simpa using ho); rw [show i + (j + 1) = i + 1 + j by omega]; exact this
        . rw [g4, shift B B0 sp1 (hsp B)]; rfl
      split at hk
      . rename_i ia hs
        obtain ⟨cs, g1, g2⟩ := dSto_lin _ hk
        rw [fCs_eq] at g1
        refine cons undT (some cs) _ _ ⟨hlim, ?_, .inr ⟨ia, cs, hs, rfl, rfl, g2⟩⟩ (fun B => ?_) g1
        . have : visB sto i = false := by unfold visB; rw [hs]; simp
          rw [this]; rfl
        . simp only [spOf, Nat.add_zero, hs]; rfl
      . rename_i hs
        obtain ⟨wt, g1, g2⟩ := dWant_lin _ _ _ _ hk
        have hsp : ∀ (B0 : Option (List Cell)) (B : Nat -> Option (List Cell)), sp = spOf n0 (fun j => match j with | 0 => B0 | j + 1 => B j) sto i sp 1 := by
          intro B0 B; simp only [spOf, Nat.add_zero, hs]
        cases wt with
        | false => exact cons undT none _ _ ⟨hlim, rfl, .inl ⟨hs, .inl ⟨g2, rfl, rfl⟩⟩⟩ (hsp _) g1
        | true =>
          obtain ⟨x, b, g3, g4⟩ := dOp_lin _ _ _ _ g1
          simp only [fT_eq] at g3
          cases b with
          | none =>
            obtain ⟨y0, k1, k2⟩ := dPut_ok g3
            exact cons y0 none _ _ ⟨hlim, rfl, .inl ⟨hs, .inr ⟨x, g2, g4, k1⟩⟩⟩ (hsp _) k2
          | some b =>
            cases b with
            | cells cs =>
              simp only [fCs_eq] at g3
              obtain ⟨y0, k1, k2⟩ := dPut_ok g3
              cases hh : hidOf sto i with
              | true =>
                rw [hh] at k2
                exact cons y0 (some cs) _ _ ⟨hlim, by have : visB sto i = false := by unfold visB; rw [hh]; rfl
                                                      rw [this]; rfl, .inl ⟨hs, .inr ⟨x, g2, g4, k1⟩⟩⟩ (hsp _) k2
              | false =>
                rw [hh] at k2
                exact cons y0 (some cs) _ _ ⟨hlim, by have : visB sto i = true := by unfold visB; rw [hh, hs]; rfl
                                                      rw [this]; rfl, .inl ⟨hs, .inr ⟨x, g2, g4, k1⟩⟩⟩ (hsp _) k2
            | _ => exact g3.elim
theorem way_heap3 {n0 : Nat} {ops : List Oper} {sto : List (Nat × Nat)} {f : Nat -> St} {y : Nat -> Tm} {B : Nat -> Option (List Cell)} {m : Nat}
    (hw : ∀ j o, j < m -> ops[j]? = some o -> DStep3 P τ Γ n0 ops sto j o (y j) (B j) (f j) (f (j + 1))) (hops : m <= ops.length) (hid : idsBelow (f 0).heap n0 = true) :
    ∀ i, i <= m -> (∀ k, n0 + i <= k -> lookB (f i).heap k = .gone) /\ (∀ k, k < n0 -> lookB (f i).heap k = lookB (f 0).heap k) /\ (∀ i', i' <= i -> Sup (f i').heap (f i).heap) /\
      (∀ j cs, j < i -> visB sto j = true -> B j = some cs -> lookB (f i).heap (n0 + j) = .cells cs) /\ (f i).next = (f 0).next /\ (f i).lim = (f 0).lim /\ (∀ j, j < i -> visB sto j = false -> lookB (f i).heap (n0 + j) = .gone) := by
  intro i
  induction i with
  | zero =>
    intro _
    exact ⟨fun k hk => idsBelow_look hid hk, fun _ _ => rfl, fun i' hi' => by have : i' = 0 := by omega
                                                                              subst this; exact fun _ _ h _ => h, fun j cs hj => by omega, rfl, rfl, fun j hj => by omega⟩
  | succ i ih =>
    intro hi
    obtain ⟨h1, h2, h3, h4, h5, h6, h7⟩ := ih (by omega)
    have ho : ops[i]? = some (ops[i]'(by omega)) := by simp
    obtain ⟨_, e, _⟩ := hw i _ (by omega) ho
    have look : ∀ k, lookB (f (i + 1)).heap k = match B i, visB sto i with | some cs, true => if n0 + i = k then .cells cs else lookB (f i).heap k | _, _ => lookB (f i).heap k := by
      intro k
      rw [e]
      cases B i with
      | none => rfl
      | some cs =>
        cases visB sto i with
        | true => show lookB ((n0 + i, Blk.cells cs) :: (f i).heap) k = _; rw [lookB_cons]
        | false => rfl
    have hn : (f (i + 1)).next = (f i).next := by rw [e]
    have hl : (f (i + 1)).lim = (f i).lim := by rw [e]
    have ne : ∀ k, k ≠ n0 + i -> lookB (f (i + 1)).heap k = lookB (f i).heap k := by
      intro k hk
      rw [look]
      cases B i with
      | none => rfl
      | some cs =>
        cases visB sto i with
        | true => simp only; rw [if_neg (by omega)]
        | false => rfl
    have sup : Sup (f i).heap (f (i + 1)).heap := by
      intro k b hb hg
      by_cases hk : k = n0 + i
      . rw [h1 k (by omega)] at hb; exact (hg hb.symm).elim
      . rw [ne k hk]; exact hb
    refine ⟨?_, ?_, ?_, ?_, by rw [hn, h5], by rw [hl, h6], ?_⟩
    . intro k hk; rw [ne k (by omega)]; exact h1 k (by omega)
    . intro k hk; rw [ne k (by omega)]; exact h2 k hk
    . intro i' hi'
      rcases Nat.lt_or_eq_of_le hi' with h | rfl
      . intro k b hb hg
        have := h3 i' (by omega) k b hb hg
        exact sup k b this hg
      . exact fun _ _ h _ => h
    . intro j cs hj hv hB
      rcases Nat.lt_succ_iff_lt_or_eq.1 hj with h | rfl
      . rw [ne _ (by omega)]; exact h4 j cs h hv hB
      . rw [look, hB, hv]; simp
    . intro j hj hv
      rcases Nat.lt_succ_iff_lt_or_eq.1 hj with h | rfl
      . rw [ne _ (by omega)]; exact h7 j h hv
      . rw [look, hv]
        cases B j <;> exact h1 _ (Nat.le_refl _)
theorem way_tmps3 {n0 : Nat} {ops : List Oper} {sto : List (Nat × Nat)} {f : Nat -> St} {y : Nat -> Tm} {B : Nat -> Option (List Cell)} {m : Nat} {dst : Nat -> Option Tmp} (hdst : ∀ j o, ops[j]? = some o -> dst j = o.dst)
    (hw : ∀ j o, j < m -> ops[j]? = some o -> DStep3 P τ Γ n0 ops sto j o (y j) (B j) (f j) (f (j + 1))) (hops : m <= ops.length) :
    ∀ i, i <= m -> (f i).tmps = tsOf y dst (f 0).tmps (fun _ => true) i := by
  intro i
  induction i with
  | zero => intro _; rfl
  | succ i ih =>
    intro hi
    have ho : ops[i]? = some (ops[i]'(by omega)) := by simp
    obtain ⟨_, e, _⟩ := hw i _ (by omega) ho
    rw [e]
    simp only [tsOf, hdst i _ ho, ih (by omega)]
theorem draw_head3 (hτ : TysOk P τ) (hz : ∀ t i, τ t = some i -> zeroOk i.zero) (hΓ : SumsOk P Γ) {calls : Nat -> List Va -> St -> (Tm -> St -> Prop) -> Prop} (hcalls : CallsOk P base calls)
    {ops : Array Oper} {Q : Exit -> Act -> World -> Prop} {n0 m : Nat} {f : Nat -> St} {y : Nat -> Tm} {B : Nat -> Option (List Cell)} {dst : Nat -> Option Tmp} {sto : List (Nat × Nat)}
    (hm : m <= ops.size) (hdraw : drawOk2 ops.toList m = true) (hdst : ∀ j o, ops[j]? = some o -> dst j = o.dst)
    (hw : ∀ j o, j < m -> ops.toList[j]? = some o -> DStep3 P τ Γ n0 ops.toList sto j o (y j) (B j) (f j) (f (j + 1))) (hid : idsBelow (f 0).heap n0 = true) (hb : base <= n0) (hsto : StoOk ops sto m) {K : St -> Prop}
    (htail : ∀ (listed : Array Bool) (ψ : Psi) (S : Nat -> Prop) (w : World) (a : Act), listed.size = ops.size -> (∀ j, listed.getD j false = decide (j < m)) -> Rel P base ψ S w ⟨(f m).tmps, hfOf n0 B sto (fun _ => true) (f m).heap, n0 + m, (f m).lim⟩ a ->
      (∀ st' ψ' S' w' a', K st' -> Rel P base ψ' S' w' st' a' -> Ext base ψ S w ψ' S' w' -> Q .normal a' w') -> wpAny P .any ops Q (ops.size - m) listed a w) :
    ∀ (fuel : Nat) (listed : Array Bool) (ψ : Psi) (S : Nat -> Prop) (w : World) (a : Act), listed.size = ops.size -> cntD (fun j => listed.getD j false) m + fuel = ops.size ->
    (∀ j, listed.getD j false = true -> j < m) -> Down ops (fun j => listed.getD j false) -> (∀ j, j < m -> listed.getD j false = false -> ψ (n0 + j) = none) ->
    Rel P base ψ S w ⟨tsOf y dst (f 0).tmps (fun j => listed.getD j false) m, hfOf n0 B sto (fun j => listed.getD j false) (f m).heap, n0 + m, (f m).lim⟩ a ->
    (∀ st' ψ' S' w' a', K st' -> Rel P base ψ' S' w' st' a' -> Ext base ψ S w ψ' S' w' -> Q .normal a' w') -> wpAny P .any ops Q fuel listed a w := by
  obtain ⟨hback, hord⟩ := drawOk2_spec hdraw
  have hheap := way_heap3 hw (by simpa using hm) hid
  have htmps := way_tmps3 (dst := dst) (fun j o ho => hdst j o (by simpa using ho)) hw (by simpa using hm)
  intro fuel
  induction fuel with
  | zero =>
    intro listed ψ S w a hsz hcnt hsup hdown hun hrel hq
    have hle := cntD_le (D := fun j => listed.getD j false) m
    have hfull := cntD_full (D := fun j => listed.getD j false) m (by omega)
    rw [show 0 = ops.size - m by omega]
    refine htail listed ψ S w a hsz ?_ ?_ hq
    . intro j
      by_cases hj : j < m
      . simp only [hj, decide_true]; exact hfull j hj
      . simp only [hj, decide_false]
        cases h : listed.getD j false with
        | false => rfl
        | true => exact absurd (hsup j h) hj
    . rw [hf_congr (D' := fun _ => true) fun p hp => hfull p.1 (hsto.lt p hp).1] at hrel
      refine ⟨hrel.bas, hrel.sim, hrel.lim, hrel.defers, fun t => ?_⟩
      have := hrel.tmps t
      rw [htmps m (Nat.le_refl _)]
      rwa [tsOf_same (D' := fun _ => true) m fun j hj _ => hfull j hj] at this
  | succ fuel ih =>
    intro listed ψ S w a hsz hcnt hsup hdown hun hrel hq
    have hle := cntD_le (D := fun j => listed.getD j false) m
    rcases Nat.lt_or_eq_of_le hle with hlt | heq
    . obtain ⟨j0, hj0, hj1, hj2⟩ := cntD_lt (D := fun j => listed.getD j false) m hlt
      have getD : ∀ j, j < ops.size -> listed.getD j true = listed.getD j false := by
        intro j hj; simp [Array.getD, hsz, hj]
      have hjo : ops[j0]? = some (ops[j0]'(by omega)) := by simp <;> omega
      have hready : j0 ∈ Region.ready .any ops listed := by
        refine mem_ready.2 ⟨by rw [getD j0 (by omega)]; exact hj1, _, hjo, fun e he hbi => ?_⟩
        exact hj2 e.on (hback j0 _ hjo e (by simpa using he) hbi)
      refine ⟨fun h => by rw [h] at hready; simp at hready, ?_⟩
      intro i hi
      obtain ⟨hi1, o, ho, hi2⟩ := mem_ready.1 hi
      have hin : i < ops.size := (Array.getElem?_eq_some_iff.1 ho).1
      rw [getD i hin] at hi1
      have hcl : ∀ j, Cl ops i j -> listed.getD j false = true := fun j h => h.down hdown fun o' ho' e he hbi => by
        rw [ho] at ho'; cases ho'; exact hi2 e (by simpa using he) hbi
      have him : i < m := by
        rcases Nat.lt_or_ge i m with h | h
        . exact h
        . rcases hord i j0 _ o ho hjo (by omega) hj0 with h1 | h1
          . have := hcl _ h1; simp only [this] at hj1; cases hj1
          . exact h1.1
      have hol : ops.toList[i]? = some o := by simpa using ho
      -- the slots that it reads are as in the text's order
      have reads : ∀ t, t ∈ readsOf ops.toList o -> lookT (tsOf y dst (f 0).tmps (fun j => listed.getD j false) m) t = lookT (f i).tmps t := by
        intro t ht
        rw [htmps i (by omega), tsOf_cut (i := i) m (by omega), tsOf_same (D' := fun _ => true) i]
        . intro j hj hd
          have hjo' : ops[j]? = some (ops[j]'(by omega)) := by simp <;> omega
          rcases hord i j _ o ho hjo' hj (by omega) with h1 | h1
          . exact hcl j h1
          . rw [hdst j _ hjo'] at hd
            exact absurd ht ((clash_spec h1.2).1 t hd).1
        . intro j h1 h2 hd
          rcases Nat.lt_or_eq_of_le h1 with h3 | rfl
          . have hjo' : ops[j]? = some (ops[j]'(by omega)) := by simp <;> omega
            rcases hord j i o _ hjo' ho h3 him with h4 | h4
            . cases hD : listed.getD j false with
              | false => rfl
              | true =>
                have : listed.getD i false = true := h4.down hdown fun o' ho' e he hbi => hdown j o' ho' hD e he hbi
                rw [this] at hi1; cases hi1
            . rw [hdst j _ hjo'] at hd
              exact absurd ht ((clash_spec h4.2).2 t hd)
          . exact hi1
      have hD' : ∀ j, (listed.setIfInBounds i true).getD j false = (listed.getD j false || j == i) := by
        intro j
        by_cases hij : i = j
        . subst hij; simp [Array.getD, hsz, hin]
        . rw [getD_set_ne _ hij]
          have : (j == i) = false := by simp <;> omega
          simp [this]
      have adds : ∀ t, lookT (tsOf y dst (f 0).tmps (fun j => (listed.setIfInBounds i true).getD j false) m) t = if dst i = some t then y i else lookT (tsOf y dst (f 0).tmps (fun j => listed.getD j false) m) t := by
        intro t
        refine tsOf_add him hi1 hD' fun j h1 h2 hd hd' => ?_
        have hjo' : ops[j]? = some (ops[j]'(by omega)) := by simp <;> omega
        rcases hord j i o _ hjo' ho h1 him with h4 | h4
        . cases hD : listed.getD j false with
          | false => rfl
          | true =>
            have : listed.getD i false = true := h4.down hdown fun o' ho' e he hbi => hdown j o' ho' hD e he hbi
            rw [this] at hi1; cases hi1
        . rw [hdst j _ hjo'] at hd
          rw [hdst i _ ho] at hd'
          exact absurd hd ((clash_spec h4.2).1 t hd').2
      obtain ⟨hlim, hst, hstep⟩ := hw i o him hol
      have hlim' : inLim o.dst (f m).lim = true := by
        rw [(hheap m (Nat.le_refl _)).2.2.2.2.2.1, <- (hheap i (by omega)).2.2.2.2.2.1]; exact hlim
      -- on with the next ones
      have next : ∀ x, Known x (y i) -> ∀ ψ' S' w' a', Rel P base ψ' S' w' ⟨putT o.dst x (tsOf y dst (f 0).tmps (fun j => listed.getD j false) m), hfOf n0 B sto (fun j => (listed.setIfInBounds i true).getD j false) (f m).heap, n0 + m, (f m).lim⟩ a' -> Ext base ψ S w ψ' S' w' ->
          (∀ k, n0 <= k -> k < n0 + m -> k ≠ n0 + i -> ψ' k = ψ k) -> wpAny P .any ops Q fuel (listed.setIfInBounds i true) a' w' := by
        intro x hkn ψ' S' w' a' hr he hp
        refine ih _ ψ' S' w' a' (by simp [hsz]) ?_ ?_ ?_ ?_ ?_ fun st2 ψ2 S2 w2 a2 q1 q2 q3 => hq _ _ _ _ _ q1 q2 (he.trans q3)
        . have := cntD_add (D := fun j => listed.getD j false) (D' := fun j => (listed.setIfInBounds i true).getD j false) (i := i) hi1 hD' m him
          omega
        . intro j hj
          have hj := (hD' j).symm.trans hj
          simp only [Bool.or_eq_true, beq_iff_eq] at hj
          rcases hj with hj | rfl
          . exact hsup j hj
          . exact him
        . intro j oj hoj hj e he' hbi
          have hj := (hD' j).symm.trans hj
          refine (hD' e.on).trans ?_
          simp only [Bool.or_eq_true, beq_iff_eq] at hj ⊢
          rcases hj with hj | rfl
          . exact .inl (hdown j oj hoj hj e he' hbi)
          . rw [ho] at hoj; cases hoj
            exact .inl (hi2 e (by simpa using he') hbi)
        . intro j hj hDj
          have hDj := (hD' j).symm.trans hDj
          simp only [Bool.or_eq_false_iff, beq_eq_false_iff_ne] at hDj
          rw [hp (n0 + j) (by omega) (by omega) (by omega)]
          exact hun j hj hDj.1
        . refine ⟨hr.bas, hr.sim, hr.lim, hr.defers, fun t => ?_⟩
          have := hr.tmps t
          rw [adds]
          rw [lookT_putT] at this
          rw [<- hdst i o ho] at this
          by_cases hd : dst i = some t
          . rw [if_pos hd] at this ⊢; exact hkn.rep this
          . rw [if_neg hd] at this ⊢; exact this
      have guard : ∀ b, dWant ops.toList (f i) o (fun w => w = b) -> Region.wanted o (yielded ops a.tmps) = b := by
        intro b hb
        refine dWant_real (P := P) (ψ := ψ) (S := S) (w := w) hb fun j want s hg hs => ?_
        rw [<- reads s (by simp only [readsOf, hg, hs]; simp)]
        exact hrel.tmps s
      unfold wpOp
      rw [ho]
      simp only
      have hev : ∀ z ∈ o.op.operands.toList, ev (f i) z = ev ⟨tsOf y dst (f 0).tmps (fun j => listed.getD j false) m, hfOf n0 B sto (fun j => listed.getD j false) (f m).heap, n0 + m, (f m).lim⟩ z := by
        intro z hz
        cases z with
        | tmp t => exact (reads t (operand_reads hz)).symm
        | _ => rfl
      have hrel2 : Rel P (n0 + m) ψ S w ⟨tsOf y dst (f 0).tmps (fun j => listed.getD j false) m, hfOf n0 B sto (fun j => listed.getD j false) (f m).heap, n0 + m, (f m).lim⟩ a := ⟨Nat.le_refl _, hrel.sim, hrel.lim, hrel.defers, hrel.tmps⟩
      rcases hstep with ⟨hns, hstep⟩ | ⟨ia, cs, hs, hBi, hyi, hsd⟩
      . have hsame : hfOf n0 B sto (fun j => (listed.setIfInBounds i true).getD j false) (f m).heap = hfOf n0 B sto (fun j => listed.getD j false) (f m).heap := hf_congr fun p hp => by
          show (listed.setIfInBounds i true).getD p.1 false = listed.getD p.1 false
          rw [hD' p.1]
          have : p.1 ≠ i := fun e => by have := stoOf_mem hsto hp; rw [e, hns] at this; cases this
          simp [this]
        rw [hsame] at next
        have hsup : Sup (f i).heap (hfOf n0 B sto (fun j => listed.getD j false) (f m).heap) := by
          intro k b hb hg
          rw [hf_miss, (hheap m (Nat.le_refl _)).2.2.1 i (by omega) k b hb hg]
          intro p hp e
          have hpl := hsto.lt p hp
          have hgone : lookB (f i).heap k = .gone := by
            rw [e]
            rcases Nat.lt_or_ge p.2 i with h | h
            . exact (hheap i (by omega)).2.2.2.2.2.2 p.2 h (by unfold visB; rw [hidOf_mem hp]; rfl)
            . exact (hheap i (by omega)).1 _ (by omega)
          rw [hgone] at hb; exact hg hb.symm
        rcases hstep with ⟨h1, h2, h3⟩ | ⟨x, h1, h2, h3⟩
        . rw [if_neg (by rw [guard _ h1]; simp)]
          obtain ⟨st2, g1, g2⟩ := putK_rel (v := undef) (putK_put (x := undT) hlim') hrel rfl
          subst g1
          exact next undT (.inl h2) ψ S w _ g2 (Ext.refl _ _ _ _) fun _ _ _ _ => rfl
        . rw [if_pos (guard _ h1)]
          left
          have hop := dOp_congr (st' := ⟨tsOf y dst (f 0).tmps (fun j => listed.getD j false) m, hfOf n0 B sto (fun j => listed.getD j false) (f m).heap, n0 + m, (f m).lim⟩) hev hsup h2
          cases hB : B i with
          | none =>
            rw [hB] at hop
            refine dOp_ok hτ hz hΓ hrel2 hlim' hop _ _ ?_
            rintro st' ψ' S' w' a' rfl g1 g2
            exact next x h3 ψ' S' w' a' ⟨by have := hb; show base <= n0 + m; omega, g1.sim, g1.lim, g1.defers, g1.tmps⟩ (g2.weaken (by omega)) fun k _ hk _ => g2.agr k hk
          | some cs =>
            rw [hB] at hop
            have hlk : lookB (hfOf n0 B sto (fun j => listed.getD j false) (f m).heap) (n0 + i) = .cells cs := by
              by_cases hh : hidOf sto i = true
              . obtain ⟨p, hp, e⟩ := hidOf_get hh
                have hpl := hsto.lt p hp
                have hpj : listed.getD p.1 false = false := by
                  cases hc : listed.getD p.1 false with
                  | false => rfl
                  | true =>
                    have hpo : ops[p.1]? = some (ops[p.1]'(by omega)) := by simp <;> omega
                    have := (hsto.cl p hp).down hdown fun o' ho' e he hbi => hdown p.1 o' ho' hc e he hbi
                    rw [e, hi1] at this; cases this
                have := hf_hit (B := B) (n0 := n0) (D := fun j => listed.getD j false) (h := (f m).heap) hsto hp
                rw [e] at this
                rw [this]
                show Blk.cells (if listed.getD p.1 false = true then _ else (B i).getD []) = _
                rw [hpj, hB]; rfl
              . rw [hf_miss (fun p hp e => hh (by have : p.2 = i := by omega
                                                  rw [<- this]; exact hidOf_mem hp))]
                exact (hheap m (Nat.le_refl _)).2.2.2.1 i cs him (by unfold visB; rw [hns]; simpa using hh) hB
            refine dOp_blk (base := base) hτ hz hrel (hun i him hi1) (by omega) (by omega) hlk hlim' hop _ _ ?_
            intro ψ' S' w' a' g1 g2 g3
            exact next x h3 ψ' S' w' a' g1 g2 fun k _ _ hk => g3 k hk
      . obtain ⟨t, ad, xo, yv, hopx, hg, ea, ex, sz0, hlay, hcs, hsz, hZ⟩ := dSto_get hsd
        have hw1 : dWant ops.toList (f i) o (fun w => w = true) := by unfold dWant; rw [hg]
        rw [if_pos (guard _ hw1)]
        left
        have hmem := stoOf_get hs
        have hpl := hsto.lt _ hmem
        have e1 := hev ad (by rw [hopx]; simp [Op.operands])
        have e2 := hev xo (by rw [hopx]; simp [Op.operands])
        have hlook : lookB (hfOf n0 B sto (fun j => listed.getD j false) (f m).heap) (n0 + ia) = .cells ((B ia).getD []) := by
          have := hf_hit (B := B) (n0 := n0) (D := fun j => listed.getD j false) (h := (f m).heap) hsto hmem
          rw [this]
          show Blk.cells (if listed.getD i false = true then _ else _) = _
          rw [hi1]; rfl
        -- the zero cells of the block
        have hia : ops.toList[ia]? = some (ops[ia]'(by omega)) := by simp <;> omega
        have hlen : ((B ia).getD []).length = cs.length := by
          obtain ⟨_, _, hst2⟩ := hw ia _ (by omega) hia
          rcases hst2 with ⟨_, hst2⟩ | ⟨_, _, hq, _⟩
          . obtain ⟨ti, e, z, hoa, hga, hτe, hz0, hzl⟩ := hZ _ hia
            obtain ⟨d1, d2, d3, d4⟩ := ti
            have hz0 : d4 = z := hz0
            subst hz0
            rcases hst2 with ⟨g1, _, _⟩ | ⟨x, _, g2, _⟩
            . unfold dWant at g1; rw [hga] at g1; cases g1
            . unfold dOp at g2
              rw [hoa] at g2
              simp only at g2
              rw [hτe] at g2
              obtain ⟨_, g3⟩ := g2
              cases hBi2 : B ia with
              | none => rw [hBi2] at g3; cases g3
              | some zc =>
                rw [hBi2] at g3
                have : zc = zeroCells' d4 := by simpa using g3.symm
                rw [this, Option.getD_some, hzl]
          . rw [hsto.na _ hmem] at hq; cases hq
        refine oStore_ok (K := fun st' => st' = ⟨putT o.dst undT (tsOf y dst (f 0).tmps (fun j => listed.getD j false) m), (n0 + ia, .cells cs) :: hfOf n0 B sto (fun j => listed.getD j false) (f m).heap, n0 + m, (f m).lim⟩) hτ hrel2 hopx ?_ _ _ ?_
        . rw [<- e1, <- e2, ea, ex]
          obtain ⟨desc, bt, zz, info, hti⟩ := hsz
          unfold oStore
          rw [hti]
          simp only [hlook, hlay, hcs]
          rw [show Nat.beq cs.length sz0 = true by rw [<- hcs]; exact info]
          simp only
          rw [setAt_all hlen]
          simp only [fCs_eq]
          exact putK_put hlim'
        . rintro st' ψ' S' w' a' rfl g1 g2
          refine next undT (.inl (by rw [hyi])) ψ' S' w' a' ?_ (g2.weaken (by omega)) fun k _ hk _ => g2.agr k hk
          refine Rel.heapCg (fun k => ?_) (⟨by have := hb; show base <= n0 + m; omega, g1.sim, g1.lim, g1.defers, g1.tmps⟩ : Rel P base ψ' S' w' _ a')
          rw [lookB_cons]
          by_cases hk : n0 + ia = k
          . rw [if_pos hk, <- hk]
            have := hf_hit (B := B) (n0 := n0) (D := fun j => (listed.setIfInBounds i true).getD j false) (h := (f m).heap) hsto hmem
            rw [this]
            show _ = Blk.cells (if (listed.setIfInBounds i true).getD i false = true then (B i).getD [] else _)
            rw [hD' i, hBi]; simp
          . rw [if_neg hk]
            by_cases hq : ∃ p ∈ sto, k = n0 + p.2
            . obtain ⟨p, hp, e⟩ := hq
              rw [e, hf_hit hsto hp, hf_hit hsto hp]
              congr 1
              have : p.1 ≠ i := fun e3 => by
                have h5 := stoOf_mem hsto hp
                rw [e3, hs] at h5
                have : ia = p.2 := by simpa using h5
                omega
              show (if listed.getD p.1 false = true then _ else _) = (if (listed.setIfInBounds i true).getD p.1 false = true then _ else _)
              rw [hD' p.1]; simp [this]
            . rw [hf_miss (fun p hp e => hq ⟨p, hp, e⟩), hf_miss (fun p hp e => hq ⟨p, hp, e⟩)]
    . have hfull := cntD_full (D := fun j => listed.getD j false) m heq
      rw [show (fuel + 1) = ops.size - m by omega]
      refine htail listed ψ S w a hsz ?_ ?_ hq
      . intro j
        by_cases hj : j < m
        . simp only [hj, decide_true]; exact hfull j hj
        . simp only [hj, decide_false]
          cases h : listed.getD j false with
          | false => rfl
          | true => exact absurd (hsup j h) hj
      . rw [hf_congr (D' := fun _ => true) fun p hp => hfull p.1 (hsto.lt p hp).1] at hrel
        refine ⟨hrel.bas, hrel.sim, hrel.lim, hrel.defers, fun t => ?_⟩
        have := hrel.tmps t
        rw [htmps m (Nat.le_refl _)]
        rwa [tsOf_same (D' := fun _ => true) m fun j hj _ => hfull j hj] at this
theorem pw_ne {sto : List (Nat × Nat)} : (sto.Pairwise fun p q => p.1 ≠ q.1 /\ p.2 ≠ q.2) -> ∀ {p q : Nat × Nat}, p ∈ sto -> q ∈ sto -> p ≠ q -> p.1 ≠ q.1 /\ p.2 ≠ q.2 := by
  intro hn
  induction sto with
  | nil => intro p q hp; cases hp
  | cons x l ih =>
    rw [List.pairwise_cons] at hn
    intro p q hp hq hne
    rcases List.mem_cons.1 hp with e | hp
    . rcases List.mem_cons.1 hq with e' | hq
      . exact absurd (e.trans e'.symm) hne
      . rw [e]; exact hn.1 q hq
    . rcases List.mem_cons.1 hq with e' | hq
      . rw [e']; have := hn.1 p hp; exact ⟨fun e => this.1 e.symm, fun e => this.2 e.symm⟩
      . exact ih hn.2 hp hq hne
theorem lookB_or (h' : List (Nat × Blk)) (k : Nat) : ∀ (h : List (Nat × Blk)), (∀ p ∈ h, p.2 ≠ .gone) -> lookB (h ++ h') k = match lookB h k with | .gone => lookB h' k | b => b
  | [], _ => rfl
  | (i, x) :: l, hg => by
    rw [List.cons_append, lookB_cons, lookB_cons]
    by_cases hi : i = k
    . rw [if_pos hi, if_pos hi]
      have := hg (i, x) List.mem_cons_self
      cases x <;> first | rfl | exact absurd rfl this
    . rw [if_neg hi, if_neg hi]; exact lookB_or h' k l fun p hp => hg p (List.mem_cons_of_mem _ hp)
theorem sp_live {n0 : Nat} {B : Nat -> Option (List Cell)} {sto : List (Nat × Nat)} : ∀ q, ∀ p ∈ spOf n0 B sto 0 [] q, p.2 ≠ .gone
  | 0, p, hp => by cases hp
  | q + 1, p, hp => by
    simp only [spOf] at hp
    split at hp
    . rcases List.mem_cons.1 hp with rfl | hp
      . intro h; cases h
      . exact sp_live q p hp
    . exact sp_live q p hp
theorem sp_miss {n0 k : Nat} {B : Nat -> Option (List Cell)} {sto : List (Nat × Nat)} (hk : ∀ p ∈ sto, k ≠ n0 + p.2) : ∀ q, lookB (spOf n0 B sto 0 [] q) k = .gone
  | 0 => rfl
  | q + 1 => by
    simp only [spOf]
    split
    . rename_i ia hs
      have := hk _ (stoOf_get hs)
      rw [lookB_cons, if_neg (fun e => this e.symm)]; exact sp_miss hk q
    . exact sp_miss hk q
theorem sp_hit {ops : Array Oper} {m n0 : Nat} {B : Nat -> Option (List Cell)} {sto : List (Nat × Nat)} (hs : StoOk ops sto m) {p : Nat × Nat} (hp : p ∈ sto) : ∀ q, p.1 < q -> lookB (spOf n0 B sto 0 [] q) (n0 + p.2) = .cells ((B p.1).getD [])
  | 0, h => by omega
  | q + 1, h => by
    have h1 := stoOf_mem hs hp
    simp only [spOf, Nat.zero_add]
    by_cases e : p.1 = q
    . rw [<- e, h1]; simp only; rw [lookB_cons, if_pos rfl]
    . have ih := sp_hit (n0 := n0) (B := B) hs hp q (by omega)
      split
      . rename_i ia h2
        rw [lookB_cons, if_neg, ih]
        intro e2
        have h3 := stoOf_get h2
        have : (q, ia) = p := by
          have hn := hs.nd
          exact Classical.byContradiction fun hne => by
            have := pw_ne hn h3 hp hne
            have e4 : ia = p.2 := by omega
            exact this.2 e4
        rw [<- this] at e; exact e rfl
      . exact ih
theorem draw_sto_at (hτ : TysOk P τ) (hz : ∀ t i, τ t = some i -> zeroOk i.zero) (hΓ : SumsOk P Γ) {calls : Nat -> List Va -> St -> (Tm -> St -> Prop) -> Prop} (hcalls : CallsOk P base calls) (hmix : P.follows .mixedOrders = true)
    {ops : Array Oper} {id : Nat} {Q : Exit -> Act -> World -> Prop} {st : St} {K : St -> Prop} (hrel : Rel P base ψ S w st a) (hid : idsBelow st.heap st.next = true) {mm : Nat} {sto : List (Nat × Nat)} (hsto : StoOk ops sto mm) (hm : mm <= ops.size) (hdraw : drawOk2 ops.toList mm = true) {K1 : St -> Prop} (hk : dGo3 P τ Γ st.next (guardsOf ops.toList) ops.toList sto 0 (ops.toList.take mm) st [] fun st' sp => match st' with | ⟨ts, h, n, l⟩ => K1 ⟨ts, sp ++ h, n + mm, l⟩)
    (htail : ∀ (listed : Array Bool) (ψ : Psi) (S : Nat -> Prop) (w : World) (st1 : St) (a : Act), K1 st1 -> listed.size = ops.size -> (∀ j, listed.getD j false = decide (j < mm)) -> Rel P base ψ S w st1 a ->
      (∀ st' ψ' S' w' a', K st' -> Rel P base ψ' S' w' st' a' -> Ext base ψ S w ψ' S' w' -> Q .normal a' w') -> wpAny P .any ops Q (ops.size - mm) listed a w)
    (hq : ∀ st' ψ' S' w' a', K st' -> Rel P base ψ' S' w' st' a' -> Ext base ψ S w ψ' S' w' -> Q .normal a' w') : (Code.region id ops true).wp P Q a w := by
  obtain ⟨f, y, B, sp', h1, h2, h3, hsp⟩ := dGo3_way _ _ _ _ _ hk
  have hlen : (ops.toList.take (mm)).length = mm := by simp <;> omega
  rw [hlen] at h2 hsp
  have hw : ∀ j o, j < mm -> ops.toList[j]? = some o -> DStep3 P τ Γ st.next ops.toList sto j o (y j) (B j) (f j) (f (j + 1)) := by
    intro j o hj ho
    have := h3 j o (by rw [List.getElem?_take]; simp [hj]; simpa using ho)
    simpa using this
  have hheap := way_heap3 hw (by simpa using hm) (by rw [h1]; exact hid) _ (Nat.le_refl _)
  obtain ⟨g1, g2, g3, g4, g5, g6, g7⟩ := hheap
  refine wp_region_any hmix ?_
  obtain ⟨hrel1, hext1⟩ : Rel P base ψ S { w with drawn := w.drawn + 1 } st a /\ Ext base ψ S w ψ S { w with drawn := w.drawn + 1 } :=
    hrel.ext0 ⟨rfl, rfl, rfl, Nat.le_refl _, fun _ _ => rfl, fun _ h => h, fun _ h => .inl h, hrel.sim.sdom⟩
  refine draw_head3 (sto := sto) hτ hz hΓ hcalls hm hdraw (dst := fun j => (ops[j]?).bind (·.dst)) (fun j o ho => by simp [ho]) hw (by rw [h1]; exact hid) hrel.bas hsto (K := K) ?_ ops.size _ ψ S _ a (by simp) ?_ ?_ ?_ ?_ ?_ ?_
  . intro listed ψ' S' w' a' q1 q2 q3 q4
    have e : (f (mm)).next = st.next := by rw [g5, h1]
    refine htail listed ψ' S' w' ⟨(f mm).tmps, sp' ++ (f mm).heap, st.next + mm, (f mm).lim⟩ a' ?_ q1 q2 (Rel.heapCg (fun k => ?_) q3) q4
    . rw [<- e]; exact h2
    . rw [hsp, lookB_or _ _ _ (sp_live _)]
      by_cases hq : ∃ p ∈ sto, k = st.next + p.2
      . obtain ⟨p, hp, rfl⟩ := hq
        rw [hf_hit hsto hp, if_pos rfl, sp_hit (n0 := st.next) (B := B) hsto hp mm (hsto.lt p hp).1]
      . rw [hf_miss fun p hp e => hq ⟨p, hp, e⟩, sp_miss (n0 := st.next) (B := B) (sto := sto) (k := k) (fun p hp e => hq ⟨p, hp, e⟩) mm]
  . have : ∀ m, cntD (fun j => (Array.replicate ops.size false).getD j false) m = 0 := by
      intro m
      induction m with
      | zero => rfl
      | succ m ih =>
        simp only [cntD, ih]
        have : (Array.replicate ops.size false)[m]?.getD false = false := by by_cases h : m < ops.size <;> simp [h]
        simp [this]
    rw [this]; simp
  . intro j hj; simp [Array.getD] at hj
  . intro i o _ hi; simp [Array.getD] at hi
  . intro j _ _; exact hrel.sim.dom _ (by omega)
  . have hts : tsOf y (fun j => (ops[j]?).bind (·.dst)) (f 0).tmps (fun j => (Array.replicate ops.size false).getD j false) (mm) = st.tmps := by
      rw [h1]
      clear hk h2 h3 hw g1 g2 g3 g4 g5 g6 g7 hsp hsto
      clear hm hdraw hlen
      generalize mm = m
      induction m with
      | zero => rfl
      | succ m ih => simp only [tsOf]; have : (Array.replicate ops.size false).getD m false = false := by simp [Array.getD]
                     rw [this]; exact ih
    rw [hts, g6, h1]
    have hlook : ∀ k l, ψ k = some l -> lookB (hfOf st.next B sto (fun j => (Array.replicate ops.size false).getD j false) (f (mm)).heap) k = lookB st.heap k := by
      intro k l hk
      have : k < st.next := by
        rcases Nat.lt_or_ge k st.next with h | h
        . exact h
        . rw [hrel.sim.dom k h] at hk; cases hk
      rw [hf_miss (fun p hp e => by omega), g2 k this, h1]
    have hs := hrel1.sim
    refine ⟨by have := hrel.bas; show base <= st.next + _; omega, ⟨fun k hk => hs.dom k (by have hk : st.next + mm <= k := hk; omega), fun k l hk => by rw [hlook k l hk]; exact hs.blk k l hk, fun k k' b m1 m2 e1 e2 l1 l2 => ?_, fun k b m1 e1 l1 => ?_, hs.pdom, hs.sdom⟩, hrel1.lim, hrel1.defers, hrel1.tmps⟩
    . rw [hlook _ _ e1] at l1; rw [hlook _ _ e2] at l2; exact hs.inj k k' b m1 m2 e1 e2 l1 l2
    . rw [hlook _ _ e1] at l1; exact hs.dis k b m1 e1 l1
  . intro st' ψ' S' w' a' q1 q2 q3
    exact hq _ _ _ _ _ q1 q2 (hext1.trans q3)
end
structure Tl (F G : St -> Prop) : Prop where
  run : True -> ∃ s, F s /\ G s
theorem tl_intro {F G : St -> Prop} {s : St} (h1 : F s) (h2 : G s) : Tl F G := ⟨fun _ => ⟨s, h1, h2⟩⟩
theorem draw_sto {P : Program} {t : TT} (ht : t.ok P) {l : List (Nat × Sm)} (hl : sumsOk P l) (hmix : P.follows .mixedOrders = true) {base : Nat} {ops : Array Oper} {id : Nat} {st : St} {Q : Exit -> St -> Prop} (m : Nat) (sto : List (Nat × Nat)) (p : Plan) (live : List Nat)
    (hp : (Region.noSelect ops && Nat.ble m ops.size && drawOk2 ops.toList m && stoB ops.toList sto m && planOk ops (ops.size - m) ((List.range ops.size).map fun j => Nat.blt j m).toArray p) = true) (hid : idsBelow st.heap st.next = true)
    (hk : dGo3 P t.get (sums l) st.next (guardsOf ops.toList) ops.toList sto 0 (ops.toList.take m) st [] fun st' sp => match st' with
      | ⟨ts, h, n, lm⟩ => Tl (fun s => vcP P t.get (vcCall P (sums l) base) ops.toList p ⟨ts, sp ++ h, n + m, lm⟩ fun st' => normK live st' fun s' => s' = s) fun s => Q .normal s) : ASat P base (.region id ops true) st Q := by
  simp only [Bool.and_eq_true] at hp
  obtain ⟨⟨⟨⟨hsel, hm⟩, hd⟩, hsb⟩, hpl⟩ := hp
  have hm := Nat.le_of_ble_eq_true hm
  refine ⟨fun ψ S w a hr => ?_⟩
  have h := draw_sto_at (Q := fun e a' w' => e = .normal /\ ∃ st' ψ' S', Q e st' /\ Rel P base ψ' S' w' st' a' /\ Ext base ψ S w ψ' S' w') (TT.tysOk ht) (TT.zeros ht) (sums_ok hl) (vcCall_ok (sums_ok hl) base) hmix hr hid (stoB_ok hsb) hm hd (K := Q .normal) (id := id)
    (K1 := fun st1 => Tl (fun s => vcP P t.get (vcCall P (sums l) base) ops.toList p st1 fun st' => normK live st' fun s' => s' = s) fun s => Q .normal s) hk ?_ ?_
  . exact wp_mono h fun e a' w' h => h.2
  . intro listed ψ1 S1 w1 st1 a1 hk1 hsz hls hrel hq
    obtain ⟨s, hv, hs⟩ := hk1.run trivial
    have e : listed = ((List.range ops.size).map fun j => Nat.blt j m).toArray := by
      apply Array.ext
      . simp [hsz]
      . intro i h1 h2
        have := hls i
        simp only [Array.getD, h1, dite_true] at this
        simp only [List.getElem_toArray, List.getElem_map, List.getElem_range]
        rw [show listed[i] = decide (i < m) from this]
        rw [Bool.eq_iff_iff, decide_eq_true_eq, Nat.blt_eq]
    rw [<- e] at hpl
    refine vcP_ok (TT.tysOk ht) (TT.zeros ht) (vcCall_ok (sums_ok hl) base) hsel (fun c a w h => by simp at h) p _ listed ψ1 S1 w1 st1 a1 _ hpl hrel hv ?_
    intro st' ψ' S' w' a' h1 h2 h3
    have h1 : normK live st' (fun s' => s' = s) := h1
    rw [normK_eq] at h1
    refine hq s ψ' S' w' a' hs ?_ h3
    rw [<- h1]; exact h2.norm live
  . intro st' ψ' S' w' a' h1 h2 h3
    exact ⟨rfl, st', ψ', S', h1, h2, h3⟩
end Go.Sx
namespace Go.Proofs.YthkknkhpfffnbaaGreat
open Go.Sx
structure Sv where
  e : En
  v : Vl
abbrev Sv.ar (s : Sv) : Ar := .agg [.d (bo s.e.live), .d (lstB s.e.binds), .d (bo s.v.i.s.some), .d (it s.v.i.s.lo), .d (it s.v.i.s.hi), .d (bo s.v.i.c.some), .d (it s.v.i.c.m), .d (it s.v.i.c.r), .d (bo s.v.t.null), .d (lst s.v.t.names)]
namespace Sv
def clean (s : Sv) : Sv := ⟨s.e.clean, s.v.of⟩
def leq (a b : Sv) : Bool := En.leq a.e b.e && Vl.leq a.v b.v
end Sv
def FTClean : List Ar -> Option Rs
  | [.agg [.d (.v (.bool e0)), .d (.lst 9 n0 f0), .d (.v (.bool s0)), .d (.v (.int .i64 l0)), .d (.v (.int .i64 h0)), .d (.v (.bool b0)), .d (.v (.int .i64 m0)), .d (.v (.int .i64 r0)), .d (.v (.bool z0)), .d (.lst 1 p0 g0)]] => some ⟨((n0 <= 1099511627776 /\ RowsOk n0 f0) /\ ((p0 * 16 <= 140737488351232 /\ ∀ i, i < p0 -> g0 i = [st (gT (g0 i))]) /\ Sp.inR ⟨s0, l0, h0⟩ /\ Cg.inR ⟨b0, m0, r0⟩)), .va (Sv.ar (Sv.clean (⟨⟨e0, gBs n0 f0⟩, ⟨⟨⟨s0, l0, h0⟩, ⟨b0, m0, r0⟩⟩, ⟨z0, gN p0 g0⟩⟩⟩ : Sv))), []⟩
  | _ => none
theorem fcTClean : FC Tryz.prog 48 FTClean := by
  intro xs pre r us h hp
  unfold FTClean at h
  split at h
  . rename_i e0 n0 f0 s0 l0 h0 b0 m0 r0 z0 p0 g0
    cases h
    have hp0 := hp
    refine FCat.deep (ys := [.agg [.d (.v (.bool e0)), .d (.lst 9 n0 (rwB (gBs n0 f0))), .d (.v (.bool s0)), .d (.v (.int .i64 l0)), .d (.v (.int .i64 h0)), .d (.v (.bool b0)), .d (.v (.int .i64 m0)), .d (.v (.int .i64 r0)), .d (.v (.bool z0)), .d (.lst 1 p0 fun i => [st (gT (g0 i))])]]) ?_ ?_
    . repeat' (first | exact trivial | exact rfl | exact DvE.refl _ | refine ⟨?_, ?_⟩ | fail)
      all_goals first | first | exact canonB hp0.1.2.h | (exact .rows fun i hi => by rw [hp0.2.1.2 i hi]; exact ⟨rfl, fun j a b ha hb => by have hb : [st (gT (g0 i))][j]? = some b := hb; rw [ha] at hb; cases hb; exact .refl _⟩)
    refine fcat tys_ok (l := [(22, ⟨[], FEClean⟩), (62, ⟨[], FVCleanV⟩)]) ⟨fcEClean, fcVCleanV, trivial⟩ Tryz.func48 rfl (by kernel_rfl) true ?_
    have hA0 := hp0.1
    have hV0 := hp0.2
    have hvR0 := hV0.2
    simp only [Sp.inR, Cg.inR] at hvR0
    have hL0 := okL_rows hA0.2
    have hn0 := hA0.1
    have hlen0 := gBs_length n0 f0
    generalize gBs n0 f0 = L at *
    clear hA0 hp0
    subst hlen0
    have hrow0 := okL_row hL0
    have hvok0 : okV (⟨⟨⟨s0, l0, h0⟩, ⟨b0, m0, r0⟩⟩, ⟨z0, gN p0 fun i => [st (gT (g0 i))]⟩⟩ : Vl) := ⟨⟨(by rw [gN_length]; exact hV0.1.1), fun _ _ => rfl⟩, hV0.2⟩
    have hcr0 := okL_row (clean_ok (e := ⟨e0, L⟩) hL0)
    have hcl0 : (En.clean ⟨e0, L⟩).binds.length <= L.length := clean_len ⟨e0, L⟩
    repeat' (first | exact trivial | refine ⟨?_, ?_⟩ | intro _)
    all_goals first | (with_reducible first | apply qa | apply qb | apply qc | apply qd) | (conv => whnf)
    all_goals (try simp only [gBs_row, gN_lst])
    all_goals first | exact hrow0 | exact hn0 | exact hV0.1.1 | exact hvR0.1.1 | exact hvR0.1.2 | exact hvR0.2.1 | exact hvR0.2.2 | exact hcr0 | omega | (intro i hi; rfl) | rfl
  . cases h
def FTLeq : List Ar -> Option Rs
  | [.agg [.d (.v (.bool e0)), .d (.lst 9 n0 f0), .d (.v (.bool s0)), .d (.v (.int .i64 l0)), .d (.v (.int .i64 h0)), .d (.v (.bool b0)), .d (.v (.int .i64 m0)), .d (.v (.int .i64 r0)), .d (.v (.bool z0)), .d (.lst 1 p0 g0)], .agg [.d (.v (.bool e1)), .d (.lst 9 n1 f1), .d (.v (.bool s1)), .d (.v (.int .i64 l1)), .d (.v (.int .i64 h1)), .d (.v (.bool b1)), .d (.v (.int .i64 m1)), .d (.v (.int .i64 r1)), .d (.v (.bool z1)), .d (.lst 1 p1 g1)]] => some ⟨((n0 <= 1099511627776 /\ RowsOk n0 f0) /\ ((p0 * 16 <= 140737488351232 /\ ∀ i, i < p0 -> g0 i = [st (gT (g0 i))]) /\ Sp.inR ⟨s0, l0, h0⟩ /\ Cg.inR ⟨b0, m0, r0⟩)) /\ ((n1 <= 1099511627776 /\ RowsOk n1 f1) /\ ((p1 * 16 <= 140737488351232 /\ ∀ i, i < p1 -> g1 i = [st (gT (g1 i))]) /\ Sp.inR ⟨s1, l1, h1⟩ /\ Cg.inR ⟨b1, m1, r1⟩)), .va (.c (.d (bo (Sv.leq (⟨⟨e0, gBs n0 f0⟩, ⟨⟨⟨s0, l0, h0⟩, ⟨b0, m0, r0⟩⟩, ⟨z0, gN p0 g0⟩⟩⟩ : Sv) (⟨⟨e1, gBs n1 f1⟩, ⟨⟨⟨s1, l1, h1⟩, ⟨b1, m1, r1⟩⟩, ⟨z1, gN p1 g1⟩⟩⟩ : Sv))))), []⟩
  | _ => none
theorem fcTLeq : FC Tryz.prog 40 FTLeq := by
  intro xs pre r us h hp
  unfold FTLeq at h
  split at h
  . rename_i e0 n0 f0 s0 l0 h0 b0 m0 r0 z0 p0 g0 e1 n1 f1 s1 l1 h1 b1 m1 r1 z1 p1 g1
    cases h
    obtain ⟨hp0, hp1⟩ := hp
    refine FCat.deep (ys := [.agg [.d (.v (.bool e0)), .d (.lst 9 n0 (rwB (gBs n0 f0))), .d (.v (.bool s0)), .d (.v (.int .i64 l0)), .d (.v (.int .i64 h0)), .d (.v (.bool b0)), .d (.v (.int .i64 m0)), .d (.v (.int .i64 r0)), .d (.v (.bool z0)), .d (.lst 1 p0 fun i => [st (gT (g0 i))])], .agg [.d (.v (.bool e1)), .d (.lst 9 n1 (rwB (gBs n1 f1))), .d (.v (.bool s1)), .d (.v (.int .i64 l1)), .d (.v (.int .i64 h1)), .d (.v (.bool b1)), .d (.v (.int .i64 m1)), .d (.v (.int .i64 r1)), .d (.v (.bool z1)), .d (.lst 1 p1 fun i => [st (gT (g1 i))])]]) ?_ ?_
    . repeat' (first | exact trivial | exact rfl | exact DvE.refl _ | refine ⟨?_, ?_⟩ | fail)
      all_goals first | first | exact canonB hp0.1.2.h | (exact .rows fun i hi => by rw [hp0.2.1.2 i hi]; exact ⟨rfl, fun j a b ha hb => by have hb : [st (gT (g0 i))][j]? = some b := hb; rw [ha] at hb; cases hb; exact .refl _⟩) | exact canonB hp1.1.2.h | (exact .rows fun i hi => by rw [hp1.2.1.2 i hi]; exact ⟨rfl, fun j a b ha hb => by have hb : [st (gT (g1 i))][j]? = some b := hb; rw [ha] at hb; cases hb; exact .refl _⟩)
    refine fcat tys_ok (l := [(41, ⟨[], FELeq⟩), (91, ⟨[], FVLeq⟩)]) ⟨fcELeq, fcVLeq, trivial⟩ Tryz.func40 rfl (by kernel_rfl) true ?_
    have hA0 := hp0.1
    have hV0 := hp0.2
    have hvR0 := hV0.2
    simp only [Sp.inR, Cg.inR] at hvR0
    have hL0 := okL_rows hA0.2
    have hn0 := hA0.1
    have hlen0 := gBs_length n0 f0
    generalize gBs n0 f0 = L at *
    clear hA0 hp0
    subst hlen0
    have hrow0 := okL_row hL0
    have hvok0 : okV (⟨⟨⟨s0, l0, h0⟩, ⟨b0, m0, r0⟩⟩, ⟨z0, gN p0 fun i => [st (gT (g0 i))]⟩⟩ : Vl) := ⟨⟨(by rw [gN_length]; exact hV0.1.1), fun _ _ => rfl⟩, hV0.2⟩
    have hcr0 := okL_row (clean_ok (e := ⟨e0, L⟩) hL0)
    have hcl0 : (En.clean ⟨e0, L⟩).binds.length <= L.length := clean_len ⟨e0, L⟩
    have hA1 := hp1.1
    have hV1 := hp1.2
    have hvR1 := hV1.2
    simp only [Sp.inR, Cg.inR] at hvR1
    have hL1 := okL_rows hA1.2
    have hn1 := hA1.1
    have hlen1 := gBs_length n1 f1
    generalize gBs n1 f1 = M at *
    clear hA1 hp1
    subst hlen1
    have hrow1 := okL_row hL1
    have hvok1 : okV (⟨⟨⟨s1, l1, h1⟩, ⟨b1, m1, r1⟩⟩, ⟨z1, gN p1 fun i => [st (gT (g1 i))]⟩⟩ : Vl) := ⟨⟨(by rw [gN_length]; exact hV1.1.1), fun _ _ => rfl⟩, hV1.2⟩
    have hcr1 := okL_row (clean_ok (e := ⟨e1, M⟩) hL1)
    have hcl1 : (En.clean ⟨e1, M⟩).binds.length <= M.length := clean_len ⟨e1, M⟩
    repeat' (first | exact trivial | refine ⟨?_, ?_⟩ | intro _)
    all_goals first | (with_reducible first | apply qa | apply qb | apply qc | apply qd) | (conv => whnf)
    all_goals (try simp only [gBs_row, gN_lst] at *)
    all_goals first | exact hrow0 | exact hn0 | exact hV0.1.1 | exact hvR0.1.1 | exact hvR0.1.2 | exact hvR0.2.1 | exact hvR0.2.2 | exact hcr0 | exact hrow1 | exact hn1 | exact hV1.1.1 | exact hvR1.1.1 | exact hvR1.1.2 | exact hvR1.2.1 | exact hvR1.2.2 | exact hcr1 | omega | (intro i hi; rfl) | rfl | (unfold Sv.leq; first | (rw [‹En.leq _ _ = true›]; rfl) | (rw [‹En.leq _ _ = false›]; rfl))
  . cases h
abbrev enC (e : En) : List DV := [bo e.live, lstB e.binds]
def gEq (gz : List Cv -> Option Gs) (a b z : List DV) : Prop := ∃ p : Prop, gz [.agg a, .agg b] = some ⟨p, .va (.agg z)⟩ /\ p
theorem gEq_of {gz : List Cv -> Option Gs} {a b z z' : List DV} {p : Prop} (h : gz [.agg a, .agg b] = some ⟨p, .va (.agg z')⟩) (hz : z' = z) (hp : p) : gEq gz a b z := by subst hz; exact ⟨p, h, hp⟩
abbrev gEJ : List Cv -> Option Gs := mkFv (sums [(44, ⟨[], FEJoin⟩)]) 44 []
abbrev gEN : List Cv -> Option Gs := mkFv (sums [(47, ⟨[], FENarrow⟩)]) 47 []
theorem gEJ_ok {a b : En} (ha : a.binds.length <= 1099511627776 /\ RowsOk a.binds.length (rwB a.binds)) (hb : b.binds.length <= 1099511627776 /\ RowsOk b.binds.length (rwB b.binds)) (hr : Room a.binds b.binds) (hs : a.binds.length + b.binds.length <= 1099511627776) : gEq gEJ (enC a) (enC b) (enC (En.join a b)) :=
  gEq_of (z' := enC (En.join ⟨a.live, gBs a.binds.length (rwB a.binds)⟩ ⟨b.live, gBs b.binds.length (rwB b.binds)⟩)) rfl (by rw [gBs_row, gBs_row]) ⟨ha, hb, by rw [gBs_row, gBs_row]; exact hr, hs⟩
theorem gEN_ok {a b : En} (ha : a.binds.length <= 1099511627776 /\ RowsOk a.binds.length (rwB a.binds)) (hb : b.binds.length <= 1099511627776 /\ RowsOk b.binds.length (rwB b.binds)) (hs : a.binds.length + b.binds.length <= 1099511627776) : gEq gEN (enC a) (enC b) (enC (En.narrow a b)) :=
  gEq_of (z' := enC (En.narrow ⟨a.live, gBs a.binds.length (rwB a.binds)⟩ ⟨b.live, gBs b.binds.length (rwB b.binds)⟩)) rfl (by rw [gBs_row, gBs_row]) ⟨ha, hb, hs⟩
def FTParts (R : En) (W : Vl) (ge : List Cv -> Option Gs) (gv : List Cv -> Option Gs) : List Ar -> Option Rs
  | [.agg [.d (.v (.bool e0)), .d (.lst 9 n0 f0), .d (.v (.bool s0)), .d (.v (.int .i64 l0)), .d (.v (.int .i64 h0)), .d (.v (.bool b0)), .d (.v (.int .i64 m0)), .d (.v (.int .i64 r0)), .d (.v (.bool z0)), .d (.lst 1 p0 g0)], .agg [.d (.v (.bool e1)), .d (.lst 9 n1 f1), .d (.v (.bool s1)), .d (.v (.int .i64 l1)), .d (.v (.int .i64 h1)), .d (.v (.bool b1)), .d (.v (.int .i64 m1)), .d (.v (.int .i64 r1)), .d (.v (.bool z1)), .d (.lst 1 p1 g1)], .fv g2, .fv g3] => some ⟨((n0 <= 1099511627776 /\ RowsOk n0 f0) /\ ((p0 * 16 <= 140737488351232 /\ ∀ i, i < p0 -> g0 i = [st (gT (g0 i))]) /\ Sp.inR ⟨s0, l0, h0⟩ /\ Cg.inR ⟨b0, m0, r0⟩)) /\ ((n1 <= 1099511627776 /\ RowsOk n1 f1) /\ ((p1 * 16 <= 140737488351232 /\ ∀ i, i < p1 -> g1 i = [st (gT (g1 i))]) /\ Sp.inR ⟨s1, l1, h1⟩ /\ Cg.inR ⟨b1, m1, r1⟩)) /\ (g2 = ge /\ g3 = gv /\ gEq ge (enC (Sv.e (⟨⟨e0, gBs n0 f0⟩, ⟨⟨⟨s0, l0, h0⟩, ⟨b0, m0, r0⟩⟩, ⟨z0, gN p0 g0⟩⟩⟩ : Sv))) (enC (Sv.e (⟨⟨e1, gBs n1 f1⟩, ⟨⟨⟨s1, l1, h1⟩, ⟨b1, m1, r1⟩⟩, ⟨z1, gN p1 g1⟩⟩⟩ : Sv))) (enC R) /\ gEq gv [bo s0, it l0, it h0, bo b0, it m0, it r0, bo z0, .lst 1 p0 fun i => [st (gT (g0 i))]] [bo s1, it l1, it h1, bo b1, it m1, it r1, bo z1, .lst 1 p1 fun i => [st (gT (g1 i))]] (vlC W) /\ okL R.binds /\ R.binds.length <= 1099511627776 /\ okV W), .va (Sv.ar (Sv.clean ⟨R, W⟩)), []⟩
  | _ => none
theorem fcTParts (R : En) (W : Vl) (ge : List Cv -> Option Gs) (gv : List Cv -> Option Gs) : FC Tryz.prog 104 (FTParts R W ge gv) := by
  intro xs pre r us h hp
  unfold FTParts at h
  split at h
  . rename_i e0 n0 f0 s0 l0 h0 b0 m0 r0 z0 p0 g0 e1 n1 f1 s1 l1 h1 b1 m1 r1 z1 p1 g1 g2 g3
    cases h
    obtain ⟨hp0, hp1, hp2⟩ := hp
    refine FCat.deep (ys := [.agg [.d (.v (.bool e0)), .d (.lst 9 n0 (rwB (gBs n0 f0))), .d (.v (.bool s0)), .d (.v (.int .i64 l0)), .d (.v (.int .i64 h0)), .d (.v (.bool b0)), .d (.v (.int .i64 m0)), .d (.v (.int .i64 r0)), .d (.v (.bool z0)), .d (.lst 1 p0 fun i => [st (gT (g0 i))])], .agg [.d (.v (.bool e1)), .d (.lst 9 n1 (rwB (gBs n1 f1))), .d (.v (.bool s1)), .d (.v (.int .i64 l1)), .d (.v (.int .i64 h1)), .d (.v (.bool b1)), .d (.v (.int .i64 m1)), .d (.v (.int .i64 r1)), .d (.v (.bool z1)), .d (.lst 1 p1 fun i => [st (gT (g1 i))])], .fv g2, .fv g3]) ?_ ?_
    . repeat' (first | exact trivial | exact rfl | exact DvE.refl _ | refine ⟨?_, ?_⟩ | fail)
      all_goals first | first | exact canonB hp0.1.2.h | (exact .rows fun i hi => by rw [hp0.2.1.2 i hi]; exact ⟨rfl, fun j a b ha hb => by have hb : [st (gT (g0 i))][j]? = some b := hb; rw [ha] at hb; cases hb; exact .refl _⟩) | exact canonB hp1.1.2.h | (exact .rows fun i hi => by rw [hp1.2.1.2 i hi]; exact ⟨rfl, fun j a b ha hb => by have hb : [st (gT (g1 i))][j]? = some b := hb; rw [ha] at hb; cases hb; exact .refl _⟩)
    refine fcat tys_ok (l := [(48, ⟨[], FTClean⟩)]) ⟨fcTClean, trivial⟩ Tryz.func104 rfl (by kernel_rfl) true ?_
    obtain ⟨rfl, rfl, ⟨pe, hge, hpe⟩, ⟨pv, hgv, hpv⟩, hoR, hlR, hoW⟩ := hp2
    have hA0 := hp0.1
    have hV0 := hp0.2
    have hvR0 := hV0.2
    simp only [Sp.inR, Cg.inR] at hvR0
    have hL0 := okL_rows hA0.2
    have hn0 := hA0.1
    have hlen0 := gBs_length n0 f0
    generalize gBs n0 f0 = L at *
    clear hA0 hp0
    subst hlen0
    have hrow0 := okL_row hL0
    have hvok0 : okV (⟨⟨⟨s0, l0, h0⟩, ⟨b0, m0, r0⟩⟩, ⟨z0, gN p0 fun i => [st (gT (g0 i))]⟩⟩ : Vl) := ⟨⟨(by rw [gN_length]; exact hV0.1.1), fun _ _ => rfl⟩, hV0.2⟩
    have hcr0 := okL_row (clean_ok (e := ⟨e0, L⟩) hL0)
    have hcl0 : (En.clean ⟨e0, L⟩).binds.length <= L.length := clean_len ⟨e0, L⟩
    have hA1 := hp1.1
    have hV1 := hp1.2
    have hvR1 := hV1.2
    simp only [Sp.inR, Cg.inR] at hvR1
    have hL1 := okL_rows hA1.2
    have hn1 := hA1.1
    have hlen1 := gBs_length n1 f1
    generalize gBs n1 f1 = M at *
    clear hA1 hp1
    subst hlen1
    have hrow1 := okL_row hL1
    have hvok1 : okV (⟨⟨⟨s1, l1, h1⟩, ⟨b1, m1, r1⟩⟩, ⟨z1, gN p1 fun i => [st (gT (g1 i))]⟩⟩ : Vl) := ⟨⟨(by rw [gN_length]; exact hV1.1.1), fun _ _ => rfl⟩, hV1.2⟩
    have hcr1 := okL_row (clean_ok (e := ⟨e1, M⟩) hL1)
    have hcl1 : (En.clean ⟨e1, M⟩).binds.length <= M.length := clean_len ⟨e1, M⟩
    have hrR := okL_row hoR
    have hoW2 := hoW
    unfold okV at hoW2
    have hoWr := hoW2.2
    simp only [Sp.inR, Cg.inR] at hoWr
    dsimp only at hge hgv
    simp only [enC, vlC, gN_length] at hge hgv
    have hgv2 : ∀ i, [st (atS (gN p0 g0) i)] = [st (atS (gN p0 g0) i)] := fun _ => rfl
    repeat' (first | exact trivial | refine ⟨?_, ?_⟩ | intro _)
    all_goals first | (with_reducible first | apply qa | apply qb | apply qc | apply qd) | (conv => whnf)
    all_goals (try simp only [hge])
    all_goals repeat' (first | exact trivial | (with_reducible exact hpe) | refine ⟨?_, ?_⟩ | intro _)
    all_goals first | (with_reducible first | apply qa | apply qb | apply qc | apply qd) | (conv => whnf)
    all_goals (try simp only [hgv])
    all_goals repeat' (first | exact trivial | (with_reducible exact hpv) | refine ⟨?_, ?_⟩ | intro _)
    all_goals first | (with_reducible first | apply qa | apply qb | apply qc | apply qd) | (conv => whnf)
    all_goals (try simp only [gBs_row, gN_lst])
    all_goals first | exact hrR | exact hlR | exact hoW2.1.1 | exact hoWr.1.1 | exact hoWr.1.2 | exact hoWr.2.1 | exact hoWr.2.2 | omega | (intro i hi; rfl) | rfl
  . cases h
namespace Sv
def join (a b : Sv) : Sv := clean ⟨En.join a.e b.e, Vl.join a.v b.v⟩
def widen (a b : Sv) (l : List Int) : Sv := clean ⟨En.widen a.e b.e l, Vl.widen a.v b.v l⟩
def narrow (a b : Sv) : Sv := clean ⟨En.narrow a.e b.e, Vl.narrow a.v b.v⟩
end Sv
theorem vjoin_ok {x y : Vl} (hx : okV x) (hy : okV y) (hq : QJ x y) : okV (Vl.join x y) := by rw [Vl.join_eq]; exact okV_rj hx hy hq
theorem vwiden_ok {x y : Vl} {l : List Int} (hx : okV x) (hy : okV y) (hq : QJ x y) (hl : ∀ z, z ∈ l -> rI z) : okV (Vl.widen x y l) := by rw [widen_eq]; exact okV_rw hx hy hq hl
theorem vnarrow_ok {x y : Vl} (hx : okV x) (hy : okV y) : okV (Vl.narrow x y) := by rw [narrow_eq]; exact okV_rn hx hy
def FTJoin : List Ar -> Option Rs
  | [.agg [.d (.v (.bool e0)), .d (.lst 9 n0 f0), .d (.v (.bool s0)), .d (.v (.int .i64 l0)), .d (.v (.int .i64 h0)), .d (.v (.bool b0)), .d (.v (.int .i64 m0)), .d (.v (.int .i64 r0)), .d (.v (.bool z0)), .d (.lst 1 p0 g0)], .agg [.d (.v (.bool e1)), .d (.lst 9 n1 f1), .d (.v (.bool s1)), .d (.v (.int .i64 l1)), .d (.v (.int .i64 h1)), .d (.v (.bool b1)), .d (.v (.int .i64 m1)), .d (.v (.int .i64 r1)), .d (.v (.bool z1)), .d (.lst 1 p1 g1)]] => some ⟨((n0 <= 1099511627776 /\ RowsOk n0 f0) /\ ((p0 * 16 <= 140737488351232 /\ ∀ i, i < p0 -> g0 i = [st (gT (g0 i))]) /\ Sp.inR ⟨s0, l0, h0⟩ /\ Cg.inR ⟨b0, m0, r0⟩)) /\ ((n1 <= 1099511627776 /\ RowsOk n1 f1) /\ ((p1 * 16 <= 140737488351232 /\ ∀ i, i < p1 -> g1 i = [st (gT (g1 i))]) /\ Sp.inR ⟨s1, l1, h1⟩ /\ Cg.inR ⟨b1, m1, r1⟩)) /\ (Room (Sv.e (⟨⟨e0, gBs n0 f0⟩, ⟨⟨⟨s0, l0, h0⟩, ⟨b0, m0, r0⟩⟩, ⟨z0, gN p0 g0⟩⟩⟩ : Sv)).binds (Sv.e (⟨⟨e1, gBs n1 f1⟩, ⟨⟨⟨s1, l1, h1⟩, ⟨b1, m1, r1⟩⟩, ⟨z1, gN p1 g1⟩⟩⟩ : Sv)).binds /\ QJ (Sv.v (⟨⟨e0, gBs n0 f0⟩, ⟨⟨⟨s0, l0, h0⟩, ⟨b0, m0, r0⟩⟩, ⟨z0, gN p0 g0⟩⟩⟩ : Sv)) (Sv.v (⟨⟨e1, gBs n1 f1⟩, ⟨⟨⟨s1, l1, h1⟩, ⟨b1, m1, r1⟩⟩, ⟨z1, gN p1 g1⟩⟩⟩ : Sv)) /\ n0 + n1 <= 1099511627776), .va (Sv.ar (Sv.join (⟨⟨e0, gBs n0 f0⟩, ⟨⟨⟨s0, l0, h0⟩, ⟨b0, m0, r0⟩⟩, ⟨z0, gN p0 g0⟩⟩⟩ : Sv) (⟨⟨e1, gBs n1 f1⟩, ⟨⟨⟨s1, l1, h1⟩, ⟨b1, m1, r1⟩⟩, ⟨z1, gN p1 g1⟩⟩⟩ : Sv))), []⟩
  | _ => none
theorem fcTJoin : FC Tryz.prog 52 FTJoin := by
  intro xs pre r us h hp
  unfold FTJoin at h
  split at h
  . rename_i e0 n0 f0 s0 l0 h0 b0 m0 r0 z0 p0 g0 e1 n1 f1 s1 l1 h1 b1 m1 r1 z1 p1 g1
    cases h
    obtain ⟨hp0, hp1, hp2⟩ := hp
    refine FCat.deep (ys := [.agg [.d (.v (.bool e0)), .d (.lst 9 n0 (rwB (gBs n0 f0))), .d (.v (.bool s0)), .d (.v (.int .i64 l0)), .d (.v (.int .i64 h0)), .d (.v (.bool b0)), .d (.v (.int .i64 m0)), .d (.v (.int .i64 r0)), .d (.v (.bool z0)), .d (.lst 1 p0 fun i => [st (gT (g0 i))])], .agg [.d (.v (.bool e1)), .d (.lst 9 n1 (rwB (gBs n1 f1))), .d (.v (.bool s1)), .d (.v (.int .i64 l1)), .d (.v (.int .i64 h1)), .d (.v (.bool b1)), .d (.v (.int .i64 m1)), .d (.v (.int .i64 r1)), .d (.v (.bool z1)), .d (.lst 1 p1 fun i => [st (gT (g1 i))])]]) ?_ ?_
    . repeat' (first | exact trivial | exact rfl | exact DvE.refl _ | refine ⟨?_, ?_⟩ | fail)
      all_goals first | first | exact canonB hp0.1.2.h | (exact .rows fun i hi => by rw [hp0.2.1.2 i hi]; exact ⟨rfl, fun j a b ha hb => by have hb : [st (gT (g0 i))][j]? = some b := hb; rw [ha] at hb; cases hb; exact .refl _⟩) | exact canonB hp1.1.2.h | (exact .rows fun i hi => by rw [hp1.2.1.2 i hi]; exact ⟨rfl, fun j a b ha hb => by have hb : [st (gT (g1 i))][j]? = some b := hb; rw [ha] at hb; cases hb; exact .refl _⟩)
    refine fcat tys_ok (l := [(104, ⟨[], (FTParts (En.join ⟨e0, gBs n0 (rwB (gBs n0 f0))⟩ ⟨e1, gBs n1 (rwB (gBs n1 f1))⟩) (Vl.join (⟨⟨⟨s0, l0, h0⟩, ⟨b0, m0, r0⟩⟩, ⟨z0, gN p0 fun i => [st (gT (g0 i))]⟩⟩ : Vl) (⟨⟨⟨s1, l1, h1⟩, ⟨b1, m1, r1⟩⟩, ⟨z1, gN p1 fun i => [st (gT (g1 i))]⟩⟩ : Vl)) gEJ gJoin)⟩), (44, ⟨[], FEJoin⟩), (95, ⟨[], FN 1 FVJoin⟩)]) ⟨(fcTParts (En.join ⟨e0, gBs n0 (rwB (gBs n0 f0))⟩ ⟨e1, gBs n1 (rwB (gBs n1 f1))⟩) (Vl.join (⟨⟨⟨s0, l0, h0⟩, ⟨b0, m0, r0⟩⟩, ⟨z0, gN p0 fun i => [st (gT (g0 i))]⟩⟩ : Vl) (⟨⟨⟨s1, l1, h1⟩, ⟨b1, m1, r1⟩⟩, ⟨z1, gN p1 fun i => [st (gT (g1 i))]⟩⟩ : Vl)) gEJ gJoin), fcEJoin, fc_nil 1 fcVJoin, trivial⟩ Tryz.func52 rfl (by kernel_rfl) true ?_
    obtain ⟨hroom, hqj, hsum⟩ := hp2
    dsimp only at hroom
    have hA0 := hp0.1
    have hV0 := hp0.2
    have hvR0 := hV0.2
    simp only [Sp.inR, Cg.inR] at hvR0
    have hL0 := okL_rows hA0.2
    have hn0 := hA0.1
    have hlen0 := gBs_length n0 f0
    generalize gBs n0 f0 = L at *
    clear hA0 hp0
    subst hlen0
    have hrow0 := okL_row hL0
    have hvok0 : okV (⟨⟨⟨s0, l0, h0⟩, ⟨b0, m0, r0⟩⟩, ⟨z0, gN p0 fun i => [st (gT (g0 i))]⟩⟩ : Vl) := ⟨⟨(by rw [gN_length]; exact hV0.1.1), fun _ _ => rfl⟩, hV0.2⟩
    have hcr0 := okL_row (clean_ok (e := ⟨e0, L⟩) hL0)
    have hcl0 : (En.clean ⟨e0, L⟩).binds.length <= L.length := clean_len ⟨e0, L⟩
    have hA1 := hp1.1
    have hV1 := hp1.2
    have hvR1 := hV1.2
    simp only [Sp.inR, Cg.inR] at hvR1
    have hL1 := okL_rows hA1.2
    have hn1 := hA1.1
    have hlen1 := gBs_length n1 f1
    generalize gBs n1 f1 = M at *
    clear hA1 hp1
    subst hlen1
    have hrow1 := okL_row hL1
    have hvok1 : okV (⟨⟨⟨s1, l1, h1⟩, ⟨b1, m1, r1⟩⟩, ⟨z1, gN p1 fun i => [st (gT (g1 i))]⟩⟩ : Vl) := ⟨⟨(by rw [gN_length]; exact hV1.1.1), fun _ _ => rfl⟩, hV1.2⟩
    have hcr1 := okL_row (clean_ok (e := ⟨e1, M⟩) hL1)
    have hcl1 : (En.clean ⟨e1, M⟩).binds.length <= M.length := clean_len ⟨e1, M⟩
    have hqj2 : QJ (⟨⟨⟨s0, l0, h0⟩, ⟨b0, m0, r0⟩⟩, ⟨z0, gN p0 fun i => [st (gT (g0 i))]⟩⟩ : Vl) (⟨⟨⟨s1, l1, h1⟩, ⟨b1, m1, r1⟩⟩, ⟨z1, gN p1 fun i => [st (gT (g1 i))]⟩⟩ : Vl) := hqj
    have hsumV : (p0 + p1) * 16 <= 140737488351232 := by have := hqj; unfold QJ at this; simpa [gN_length] using this
    have hge := gEJ_ok (a := ⟨e0, gBs L.length (rwB L)⟩) (b := ⟨e1, gBs M.length (rwB M)⟩) (by rw [gBs_row]; exact ⟨hn0, hrow0⟩) (by rw [gBs_row]; exact ⟨hn1, hrow1⟩) (by rw [gBs_row, gBs_row]; exact hroom) (by rw [gBs_row, gBs_row]; exact hsum)
    have hokR : okL (En.join ⟨e0, gBs L.length (rwB L)⟩ ⟨e1, gBs M.length (rwB M)⟩).binds := join_okL (by rw [gBs_row]; exact hL0) (by rw [gBs_row]; exact hL1) (by rw [gBs_row, gBs_row]; exact hroom)
    have hlR : (En.join ⟨e0, gBs L.length (rwB L)⟩ ⟨e1, gBs M.length (rwB M)⟩).binds.length <= 1099511627776 := Nat.le_trans (join_len _ _) (by rw [gBs_row, gBs_row]; exact hsum)
    have hokW := vjoin_ok hvok0 hvok1 hqj2
    have hgv : gEq gJoin [bo s0, it l0, it h0, bo b0, it m0, it r0, bo z0, .lst 1 p0 fun i => [st (gT [st (gT (g0 i))])]] [bo s1, it l1, it h1, bo b1, it m1, it r1, bo z1, .lst 1 p1 fun i => [st (gT [st (gT (g1 i))])]] (vlC (Vl.join (⟨⟨⟨s0, l0, h0⟩, ⟨b0, m0, r0⟩⟩, ⟨z0, gN p0 fun i => [st (gT (g0 i))]⟩⟩ : Vl) (⟨⟨⟨s1, l1, h1⟩, ⟨b1, m1, r1⟩⟩, ⟨z1, gN p1 fun i => [st (gT (g1 i))]⟩⟩ : Vl))) := gEq_of rfl rfl ⟨⟨⟨hV0.1.1, fun i hi => rfl⟩, hV0.2⟩, ⟨⟨hV1.1.1, fun i hi => rfl⟩, hV1.2⟩, hsumV⟩
    repeat' (first | exact trivial | (with_reducible first | exact hge | exact hgv | exact hokR | exact hokW | exact hlR) | refine ⟨?_, ?_⟩ | intro _)
    all_goals first | (with_reducible first | apply qa | apply qb | apply qc | apply qd) | (conv => whnf)
    all_goals (try simp only [gBs_row, gN_lst])
    all_goals first | exact hlR | (rw [gBs_row, gBs_row] at hlR; exact hlR) | exact hrow0 | exact hn0 | exact hV0.1.1 | exact hvR0.1.1 | exact hvR0.1.2 | exact hvR0.2.1 | exact hvR0.2.2 | exact hcr0 | exact hrow1 | exact hn1 | exact hV1.1.1 | exact hvR1.1.1 | exact hvR1.1.2 | exact hvR1.2.1 | exact hvR1.2.2 | exact hcr1 | omega | (intro i hi; rfl) | rfl
  . cases h
def FTNarrow : List Ar -> Option Rs
  | [.agg [.d (.v (.bool e0)), .d (.lst 9 n0 f0), .d (.v (.bool s0)), .d (.v (.int .i64 l0)), .d (.v (.int .i64 h0)), .d (.v (.bool b0)), .d (.v (.int .i64 m0)), .d (.v (.int .i64 r0)), .d (.v (.bool z0)), .d (.lst 1 p0 g0)], .agg [.d (.v (.bool e1)), .d (.lst 9 n1 f1), .d (.v (.bool s1)), .d (.v (.int .i64 l1)), .d (.v (.int .i64 h1)), .d (.v (.bool b1)), .d (.v (.int .i64 m1)), .d (.v (.int .i64 r1)), .d (.v (.bool z1)), .d (.lst 1 p1 g1)]] => some ⟨((n0 <= 1099511627776 /\ RowsOk n0 f0) /\ ((p0 * 16 <= 140737488351232 /\ ∀ i, i < p0 -> g0 i = [st (gT (g0 i))]) /\ Sp.inR ⟨s0, l0, h0⟩ /\ Cg.inR ⟨b0, m0, r0⟩)) /\ ((n1 <= 1099511627776 /\ RowsOk n1 f1) /\ ((p1 * 16 <= 140737488351232 /\ ∀ i, i < p1 -> g1 i = [st (gT (g1 i))]) /\ Sp.inR ⟨s1, l1, h1⟩ /\ Cg.inR ⟨b1, m1, r1⟩)) /\ (n0 + n1 <= 1099511627776), .va (Sv.ar (Sv.narrow (⟨⟨e0, gBs n0 f0⟩, ⟨⟨⟨s0, l0, h0⟩, ⟨b0, m0, r0⟩⟩, ⟨z0, gN p0 g0⟩⟩⟩ : Sv) (⟨⟨e1, gBs n1 f1⟩, ⟨⟨⟨s1, l1, h1⟩, ⟨b1, m1, r1⟩⟩, ⟨z1, gN p1 g1⟩⟩⟩ : Sv))), []⟩
  | _ => none
theorem fcTNarrow : FC Tryz.prog 55 FTNarrow := by
  intro xs pre r us h hp
  unfold FTNarrow at h
  split at h
  . rename_i e0 n0 f0 s0 l0 h0 b0 m0 r0 z0 p0 g0 e1 n1 f1 s1 l1 h1 b1 m1 r1 z1 p1 g1
    cases h
    obtain ⟨hp0, hp1, hp2⟩ := hp
    refine FCat.deep (ys := [.agg [.d (.v (.bool e0)), .d (.lst 9 n0 (rwB (gBs n0 f0))), .d (.v (.bool s0)), .d (.v (.int .i64 l0)), .d (.v (.int .i64 h0)), .d (.v (.bool b0)), .d (.v (.int .i64 m0)), .d (.v (.int .i64 r0)), .d (.v (.bool z0)), .d (.lst 1 p0 fun i => [st (gT (g0 i))])], .agg [.d (.v (.bool e1)), .d (.lst 9 n1 (rwB (gBs n1 f1))), .d (.v (.bool s1)), .d (.v (.int .i64 l1)), .d (.v (.int .i64 h1)), .d (.v (.bool b1)), .d (.v (.int .i64 m1)), .d (.v (.int .i64 r1)), .d (.v (.bool z1)), .d (.lst 1 p1 fun i => [st (gT (g1 i))])]]) ?_ ?_
    . repeat' (first | exact trivial | exact rfl | exact DvE.refl _ | refine ⟨?_, ?_⟩ | fail)
      all_goals first | first | exact canonB hp0.1.2.h | (exact .rows fun i hi => by rw [hp0.2.1.2 i hi]; exact ⟨rfl, fun j a b ha hb => by have hb : [st (gT (g0 i))][j]? = some b := hb; rw [ha] at hb; cases hb; exact .refl _⟩) | exact canonB hp1.1.2.h | (exact .rows fun i hi => by rw [hp1.2.1.2 i hi]; exact ⟨rfl, fun j a b ha hb => by have hb : [st (gT (g1 i))][j]? = some b := hb; rw [ha] at hb; cases hb; exact .refl _⟩)
    refine fcat tys_ok (l := [(104, ⟨[], (FTParts (En.narrow ⟨e0, gBs n0 (rwB (gBs n0 f0))⟩ ⟨e1, gBs n1 (rwB (gBs n1 f1))⟩) (Vl.narrow (⟨⟨⟨s0, l0, h0⟩, ⟨b0, m0, r0⟩⟩, ⟨z0, gN p0 fun i => [st (gT (g0 i))]⟩⟩ : Vl) (⟨⟨⟨s1, l1, h1⟩, ⟨b1, m1, r1⟩⟩, ⟨z1, gN p1 fun i => [st (gT (g1 i))]⟩⟩ : Vl)) gEN gNarrow)⟩), (47, ⟨[], FENarrow⟩), (102, ⟨[], FN 1 FVNarrow⟩)]) ⟨(fcTParts (En.narrow ⟨e0, gBs n0 (rwB (gBs n0 f0))⟩ ⟨e1, gBs n1 (rwB (gBs n1 f1))⟩) (Vl.narrow (⟨⟨⟨s0, l0, h0⟩, ⟨b0, m0, r0⟩⟩, ⟨z0, gN p0 fun i => [st (gT (g0 i))]⟩⟩ : Vl) (⟨⟨⟨s1, l1, h1⟩, ⟨b1, m1, r1⟩⟩, ⟨z1, gN p1 fun i => [st (gT (g1 i))]⟩⟩ : Vl)) gEN gNarrow), fcENarrow, fc_nil 1 fcVNarrow, trivial⟩ Tryz.func55 rfl (by kernel_rfl) true ?_
    have hsum : n0 + n1 <= 1099511627776 := hp2
    have hA0 := hp0.1
    have hV0 := hp0.2
    have hvR0 := hV0.2
    simp only [Sp.inR, Cg.inR] at hvR0
    have hL0 := okL_rows hA0.2
    have hn0 := hA0.1
    have hlen0 := gBs_length n0 f0
    generalize gBs n0 f0 = L at *
    clear hA0 hp0
    subst hlen0
    have hrow0 := okL_row hL0
    have hvok0 : okV (⟨⟨⟨s0, l0, h0⟩, ⟨b0, m0, r0⟩⟩, ⟨z0, gN p0 fun i => [st (gT (g0 i))]⟩⟩ : Vl) := ⟨⟨(by rw [gN_length]; exact hV0.1.1), fun _ _ => rfl⟩, hV0.2⟩
    have hcr0 := okL_row (clean_ok (e := ⟨e0, L⟩) hL0)
    have hcl0 : (En.clean ⟨e0, L⟩).binds.length <= L.length := clean_len ⟨e0, L⟩
    have hA1 := hp1.1
    have hV1 := hp1.2
    have hvR1 := hV1.2
    simp only [Sp.inR, Cg.inR] at hvR1
    have hL1 := okL_rows hA1.2
    have hn1 := hA1.1
    have hlen1 := gBs_length n1 f1
    generalize gBs n1 f1 = M at *
    clear hA1 hp1
    subst hlen1
    have hrow1 := okL_row hL1
    have hvok1 : okV (⟨⟨⟨s1, l1, h1⟩, ⟨b1, m1, r1⟩⟩, ⟨z1, gN p1 fun i => [st (gT (g1 i))]⟩⟩ : Vl) := ⟨⟨(by rw [gN_length]; exact hV1.1.1), fun _ _ => rfl⟩, hV1.2⟩
    have hcr1 := okL_row (clean_ok (e := ⟨e1, M⟩) hL1)
    have hcl1 : (En.clean ⟨e1, M⟩).binds.length <= M.length := clean_len ⟨e1, M⟩
    have hge := gEN_ok (a := ⟨e0, gBs L.length (rwB L)⟩) (b := ⟨e1, gBs M.length (rwB M)⟩) (by rw [gBs_row]; exact ⟨hn0, hrow0⟩) (by rw [gBs_row]; exact ⟨hn1, hrow1⟩) (by rw [gBs_row, gBs_row]; exact hsum)
    have hokR : okL (En.narrow ⟨e0, gBs L.length (rwB L)⟩ ⟨e1, gBs M.length (rwB M)⟩).binds := narrow_okL (by rw [gBs_row]; exact hL0) (by rw [gBs_row]; exact hL1)
    have hlR : (En.narrow ⟨e0, gBs L.length (rwB L)⟩ ⟨e1, gBs M.length (rwB M)⟩).binds.length <= 1099511627776 := Nat.le_trans (narrow_len _ _) (by rw [gBs_row, gBs_row]; exact hsum)
    have hokW := vnarrow_ok hvok0 hvok1
    have hgv : gEq gNarrow [bo s0, it l0, it h0, bo b0, it m0, it r0, bo z0, .lst 1 p0 fun i => [st (gT [st (gT (g0 i))])]] [bo s1, it l1, it h1, bo b1, it m1, it r1, bo z1, .lst 1 p1 fun i => [st (gT [st (gT (g1 i))])]] (vlC (Vl.narrow (⟨⟨⟨s0, l0, h0⟩, ⟨b0, m0, r0⟩⟩, ⟨z0, gN p0 fun i => [st (gT (g0 i))]⟩⟩ : Vl) (⟨⟨⟨s1, l1, h1⟩, ⟨b1, m1, r1⟩⟩, ⟨z1, gN p1 fun i => [st (gT (g1 i))]⟩⟩ : Vl))) := gEq_of rfl rfl ⟨⟨⟨hV0.1.1, fun i hi => rfl⟩, hV0.2⟩, ⟨⟨hV1.1.1, fun i hi => rfl⟩, hV1.2⟩⟩
    repeat' (first | exact trivial | (with_reducible first | exact hge | exact hgv | exact hokR | exact hokW | exact hlR) | refine ⟨?_, ?_⟩ | intro _)
    all_goals first | (with_reducible first | apply qa | apply qb | apply qc | apply qd) | (conv => whnf)
    all_goals (try simp only [gBs_row, gN_lst])
    all_goals first | exact hlR | (rw [gBs_row, gBs_row] at hlR; exact hlR) | exact hrow0 | exact hn0 | exact hV0.1.1 | exact hvR0.1.1 | exact hvR0.1.2 | exact hvR0.2.1 | exact hvR0.2.2 | exact hcr0 | exact hrow1 | exact hn1 | exact hV1.1.1 | exact hvR1.1.1 | exact hvR1.1.2 | exact hvR1.2.1 | exact hvR1.2.2 | exact hcr1 | omega | (intro i hi; rfl) | rfl
  . cases h
def FWEC : List Ar -> Option Rs
  | [.agg [.d (.v (.bool e0)), .d (.lst 9 n0 f0)], .agg [.d (.v (.bool e1)), .d (.lst 9 n1 f1)], .rp [.lst 1 n2 f2]] => some ⟨(n0 <= 1099511627776 /\ RowsOk n0 f0) /\ (n1 <= 1099511627776 /\ RowsOk n1 f1) /\ (n2 <= 9223372036854775807 /\ ∀ i, i < n2 -> f2 i = [it (gI (f2 i))] /\ rI (gI (f2 i))) /\ (Room (gBs n0 f0) (gBs n1 f1) /\ n0 + n1 <= 1099511627776), .va (En.ar (En.widen (⟨e0, gBs n0 f0⟩ : En) (⟨e1, gBs n1 f1⟩ : En) (gL n2 f2))), []⟩
  | _ => none
theorem fcWEC : FC Tryz.prog 105 FWEC := by
  intro xs pre r us h hp
  unfold FWEC at h
  split at h
  . rename_i e0 n0 f0 e1 n1 f1 n2 f2
    cases h
    obtain ⟨hp0, hp1, hp2, hp3⟩ := hp
    refine FCat.deep (ys := [.agg [.d (.v (.bool e0)), .d (.lst 9 n0 (rwB (gBs n0 f0)))], .agg [.d (.v (.bool e1)), .d (.lst 9 n1 (rwB (gBs n1 f1)))], .rp [.lst 1 n2 f2]]) ?_ ?_
    . repeat' (first | exact trivial | exact rfl | exact DvE.refl _ | refine ⟨?_, ?_⟩ | fail)
      all_goals first | first | exact canonB hp0.2.h | exact canonB hp1.2.h
    refine fcat tys_ok (l := [(46, ⟨[], FEWiden⟩)]) ⟨fcEWiden, trivial⟩ Tryz.func105 rfl (by kernel_rfl) true ?_
    obtain ⟨hroom, hsum⟩ := hp3
    have hn := hp0.1
    have hL := okL_rows hp0.2
    have hlen := gBs_length n0 f0
    generalize gBs n0 f0 = L at *
    clear hp0
    subst hlen
    have hrow := okL_row hL
    have hb := gBs_row L
    have hm := hp1.1
    have hM := okL_rows hp1.2
    have hlen1 := gBs_length n1 f1
    generalize gBs n1 f1 = M at *
    clear hp1
    subst hlen1
    have hrow1 := okL_row hM
    have hb1 := gBs_row M
    repeat' (first | exact trivial | (with_reducible first | exact hroom | exact hp2 | exact hp2.1 | exact hp2.2) | refine ⟨?_, ?_⟩ | intro _)
    all_goals first | (with_reducible first | apply qa | apply qb | apply qc | apply qd) | (conv => whnf)
    all_goals (try simp only [gBs_row])
    all_goals first | exact hn | exact hm | exact hrow | exact hrow1 | exact hroom | exact hsum | rfl | exact (hp2.2 _ ‹_›).2.1 | exact (hp2.2 _ ‹_›).2.2 | exact (hp2.2 _ ‹_›).1
  . cases h
def FWVC : List Ar -> Option Rs
  | [.agg [.d (.v (.bool s0)), .d (.v (.int .i64 l0)), .d (.v (.int .i64 h0)), .d (.v (.bool b0)), .d (.v (.int .i64 m0)), .d (.v (.int .i64 r0)), .d (.v (.bool z0)), .d (.lst 1 n0 f0)], .agg [.d (.v (.bool s1)), .d (.v (.int .i64 l1)), .d (.v (.int .i64 h1)), .d (.v (.bool b1)), .d (.v (.int .i64 m1)), .d (.v (.int .i64 r1)), .d (.v (.bool z1)), .d (.lst 1 n1 f1)], .rp [.lst 1 n2 f2]] => some ⟨((n0 * 16 <= 140737488351232 /\ ∀ i, i < n0 -> f0 i = [st (gT (f0 i))]) /\ Sp.inR ⟨s0, l0, h0⟩ /\ Cg.inR ⟨b0, m0, r0⟩) /\ ((n1 * 16 <= 140737488351232 /\ ∀ i, i < n1 -> f1 i = [st (gT (f1 i))]) /\ Sp.inR ⟨s1, l1, h1⟩ /\ Cg.inR ⟨b1, m1, r1⟩) /\ (n2 <= 9223372036854775807 /\ ∀ i, i < n2 -> f2 i = [it (gI (f2 i))] /\ rI (gI (f2 i))) /\ ((n0 + n1) * 16 <= 140737488351232), .va (Vl.ar (Vl.widen (⟨⟨⟨s0, l0, h0⟩, ⟨b0, m0, r0⟩⟩, ⟨z0, gN n0 f0⟩⟩ : Vl) (⟨⟨⟨s1, l1, h1⟩, ⟨b1, m1, r1⟩⟩, ⟨z1, gN n1 f1⟩⟩ : Vl) (gL n2 f2))), []⟩
  | _ => none
theorem fcWVC : FC Tryz.prog 106 FWVC := by
  intro xs pre r us h hp
  unfold FWVC at h
  split at h
  . rename_i s0 l0 h0 b0 m0 r0 z0 n0 f0 s1 l1 h1 b1 m1 r1 z1 n1 f1 n2 f2
    cases h
    obtain ⟨hp0, hp1, hp2, hp3⟩ := hp
    refine FCat.of_eq (as' := [.agg [.d (.v (.bool s0)), .d (.v (.int .i64 l0)), .d (.v (.int .i64 h0)), .d (.v (.bool b0)), .d (.v (.int .i64 m0)), .d (.v (.int .i64 r0)), .d (.v (.bool z0)), .d (.lst 1 n0 fun i => [st (gT (f0 i))])], .agg [.d (.v (.bool s1)), .d (.v (.int .i64 l1)), .d (.v (.int .i64 h1)), .d (.v (.bool b1)), .d (.v (.int .i64 m1)), .d (.v (.int .i64 r1)), .d (.v (.bool z1)), .d (.lst 1 n1 fun i => [st (gT (f1 i))])], .rp [.lst 1 n2 f2]]) ?_ rfl rfl ?_
    . repeat' (first | exact trivial | exact rfl | refine ⟨?_, ?_⟩ | fail)
      all_goals first | exact hp0.1.2 | exact hp1.1.2 | exact hp0.2 | exact hp1.2 | exact hp2.2 | (intro i hi; exact (hp0.2 i hi).1) | (intro i hi; exact (hp1.2 i hi).1) | (intro i hi; exact (hp2.2 i hi).1) | grind
    refine fcat tys_ok (l := [(101, ⟨[], FVWiden⟩)]) ⟨fcVWiden, trivial⟩ Tryz.func106 rfl (by kernel_rfl) true ?_
    repeat' (first | exact trivial | (with_reducible first | exact hp0.1 | exact hp1.1 | exact hp0.1.1 | exact hp1.1.1 | exact hp0.2 | exact hp1.2 | exact hp0.2.1 | exact hp0.2.2 | exact hp1.2.1 | exact hp1.2.2 | exact hp2 | exact hp2.1 | exact hp2.2 | exact hp3) | refine ⟨?_, ?_⟩ | intro _)
    all_goals first | (with_reducible first | apply qa | apply qb | apply qc | apply qd) | (conv => whnf)
    all_goals (try simp only [gN_lst])
    all_goals first | rfl
  . cases h
abbrev gEWc (nk : Nat) (fk : Nat -> List DV) : List Cv -> Option Gs := mkFv (sums [(105, ⟨[], FWEC⟩)]) 105 [.rp [.lst 1 nk fk]]
abbrev gVWc (nk : Nat) (fk : Nat -> List DV) : List Cv -> Option Gs := mkFv (sums [(106, ⟨[], FWVC⟩)]) 106 [.rp [.lst 1 nk fk]]
theorem gEWc_ok {nk : Nat} {fk : Nat -> List DV} (hk : nk <= 9223372036854775807 /\ ∀ i, i < nk -> fk i = [it (gI (fk i))] /\ rI (gI (fk i))) {a b : En} (ha : a.binds.length <= 1099511627776 /\ RowsOk a.binds.length (rwB a.binds)) (hb : b.binds.length <= 1099511627776 /\ RowsOk b.binds.length (rwB b.binds)) (hr : Room a.binds b.binds) (hs : a.binds.length + b.binds.length <= 1099511627776) : gEq (gEWc nk fk) (enC a) (enC b) (enC (En.widen a b (gL nk fk))) :=
  gEq_of (z' := enC (En.widen ⟨a.live, gBs a.binds.length (rwB a.binds)⟩ ⟨b.live, gBs b.binds.length (rwB b.binds)⟩ (gL nk fk))) rfl (by rw [gBs_row, gBs_row]) ⟨ha, hb, hk, by rw [gBs_row, gBs_row]; exact hr, hs⟩
def FTWiden : List Ar -> Option Rs
  | [.agg [.d (.v (.bool e0)), .d (.lst 9 n0 f0), .d (.v (.bool s0)), .d (.v (.int .i64 l0)), .d (.v (.int .i64 h0)), .d (.v (.bool b0)), .d (.v (.int .i64 m0)), .d (.v (.int .i64 r0)), .d (.v (.bool z0)), .d (.lst 1 p0 g0)], .agg [.d (.v (.bool e1)), .d (.lst 9 n1 f1), .d (.v (.bool s1)), .d (.v (.int .i64 l1)), .d (.v (.int .i64 h1)), .d (.v (.bool b1)), .d (.v (.int .i64 m1)), .d (.v (.int .i64 r1)), .d (.v (.bool z1)), .d (.lst 1 p1 g1)], .c (.d (.lst 1 n2 f2))] => some ⟨((n0 <= 1099511627776 /\ RowsOk n0 f0) /\ ((p0 * 16 <= 140737488351232 /\ ∀ i, i < p0 -> g0 i = [st (gT (g0 i))]) /\ Sp.inR ⟨s0, l0, h0⟩ /\ Cg.inR ⟨b0, m0, r0⟩)) /\ ((n1 <= 1099511627776 /\ RowsOk n1 f1) /\ ((p1 * 16 <= 140737488351232 /\ ∀ i, i < p1 -> g1 i = [st (gT (g1 i))]) /\ Sp.inR ⟨s1, l1, h1⟩ /\ Cg.inR ⟨b1, m1, r1⟩)) /\ (n2 <= 9223372036854775807 /\ ∀ i, i < n2 -> f2 i = [it (gI (f2 i))] /\ rI (gI (f2 i))) /\ (Room (Sv.e (⟨⟨e0, gBs n0 f0⟩, ⟨⟨⟨s0, l0, h0⟩, ⟨b0, m0, r0⟩⟩, ⟨z0, gN p0 g0⟩⟩⟩ : Sv)).binds (Sv.e (⟨⟨e1, gBs n1 f1⟩, ⟨⟨⟨s1, l1, h1⟩, ⟨b1, m1, r1⟩⟩, ⟨z1, gN p1 g1⟩⟩⟩ : Sv)).binds /\ QJ (Sv.v (⟨⟨e0, gBs n0 f0⟩, ⟨⟨⟨s0, l0, h0⟩, ⟨b0, m0, r0⟩⟩, ⟨z0, gN p0 g0⟩⟩⟩ : Sv)) (Sv.v (⟨⟨e1, gBs n1 f1⟩, ⟨⟨⟨s1, l1, h1⟩, ⟨b1, m1, r1⟩⟩, ⟨z1, gN p1 g1⟩⟩⟩ : Sv)) /\ n0 + n1 <= 1099511627776), .va (Sv.ar (Sv.widen (⟨⟨e0, gBs n0 f0⟩, ⟨⟨⟨s0, l0, h0⟩, ⟨b0, m0, r0⟩⟩, ⟨z0, gN p0 g0⟩⟩⟩ : Sv) (⟨⟨e1, gBs n1 f1⟩, ⟨⟨⟨s1, l1, h1⟩, ⟨b1, m1, r1⟩⟩, ⟨z1, gN p1 g1⟩⟩⟩ : Sv) (gL n2 f2))), []⟩
  | _ => none
theorem fcTWiden : FC Tryz.prog 54 FTWiden := by
  intro xs pre r us h hp
  unfold FTWiden at h
  split at h
  . rename_i e0 n0 f0 s0 l0 h0 b0 m0 r0 z0 p0 g0 e1 n1 f1 s1 l1 h1 b1 m1 r1 z1 p1 g1 n2 f2
    cases h
    obtain ⟨hp0, hp1, hp2, hp3⟩ := hp
    refine FCat.deep (ys := [.agg [.d (.v (.bool e0)), .d (.lst 9 n0 (rwB (gBs n0 f0))), .d (.v (.bool s0)), .d (.v (.int .i64 l0)), .d (.v (.int .i64 h0)), .d (.v (.bool b0)), .d (.v (.int .i64 m0)), .d (.v (.int .i64 r0)), .d (.v (.bool z0)), .d (.lst 1 p0 fun i => [st (gT (g0 i))])], .agg [.d (.v (.bool e1)), .d (.lst 9 n1 (rwB (gBs n1 f1))), .d (.v (.bool s1)), .d (.v (.int .i64 l1)), .d (.v (.int .i64 h1)), .d (.v (.bool b1)), .d (.v (.int .i64 m1)), .d (.v (.int .i64 r1)), .d (.v (.bool z1)), .d (.lst 1 p1 fun i => [st (gT (g1 i))])], .c (.d (.lst 1 n2 fun i => [it (gI (f2 i))]))]) ?_ ?_
    . repeat' (first | exact trivial | exact rfl | exact DvE.refl _ | refine ⟨?_, ?_⟩ | fail)
      all_goals first | first | exact canonB hp0.1.2.h | (exact .rows fun i hi => by rw [hp0.2.1.2 i hi]; exact ⟨rfl, fun j a b ha hb => by have hb : [st (gT (g0 i))][j]? = some b := hb; rw [ha] at hb; cases hb; exact .refl _⟩) | exact canonB hp1.1.2.h | (exact .rows fun i hi => by rw [hp1.2.1.2 i hi]; exact ⟨rfl, fun j a b ha hb => by have hb : [st (gT (g1 i))][j]? = some b := hb; rw [ha] at hb; cases hb; exact .refl _⟩) | (exact .rows fun i hi => by rw [(hp2.2 i hi).1]; exact ⟨rfl, fun j a b ha hb => by have hb : [it (gI (f2 i))][j]? = some b := hb; rw [ha] at hb; cases hb; exact .refl _⟩)
    refine fcat tys_ok (l := [(104, ⟨[], (FTParts (En.widen ⟨e0, gBs n0 (rwB (gBs n0 f0))⟩ ⟨e1, gBs n1 (rwB (gBs n1 f1))⟩ (gL n2 (fun i => [it (gI (f2 i))]))) (Vl.widen (⟨⟨⟨s0, l0, h0⟩, ⟨b0, m0, r0⟩⟩, ⟨z0, gN p0 fun i => [st (gT (g0 i))]⟩⟩ : Vl) (⟨⟨⟨s1, l1, h1⟩, ⟨b1, m1, r1⟩⟩, ⟨z1, gN p1 fun i => [st (gT (g1 i))]⟩⟩ : Vl) (gL n2 (fun i => [it (gI (f2 i))]))) (gEWc n2 (fun i => [it (gI (f2 i))])) (gVWc n2 (fun i => [it (gI (f2 i))])))⟩), (105, ⟨[], FWEC⟩), (106, ⟨[], FWVC⟩)]) ⟨(fcTParts (En.widen ⟨e0, gBs n0 (rwB (gBs n0 f0))⟩ ⟨e1, gBs n1 (rwB (gBs n1 f1))⟩ (gL n2 (fun i => [it (gI (f2 i))]))) (Vl.widen (⟨⟨⟨s0, l0, h0⟩, ⟨b0, m0, r0⟩⟩, ⟨z0, gN p0 fun i => [st (gT (g0 i))]⟩⟩ : Vl) (⟨⟨⟨s1, l1, h1⟩, ⟨b1, m1, r1⟩⟩, ⟨z1, gN p1 fun i => [st (gT (g1 i))]⟩⟩ : Vl) (gL n2 (fun i => [it (gI (f2 i))]))) (gEWc n2 (fun i => [it (gI (f2 i))])) (gVWc n2 (fun i => [it (gI (f2 i))]))), fcWEC, fcWVC, trivial⟩ Tryz.func54 rfl (by kernel_rfl) true ?_
    obtain ⟨hroom, hqj, hsum⟩ := hp3
    dsimp only at hroom
    have hA0 := hp0.1
    have hV0 := hp0.2
    have hvR0 := hV0.2
    simp only [Sp.inR, Cg.inR] at hvR0
    have hL0 := okL_rows hA0.2
    have hn0 := hA0.1
    have hlen0 := gBs_length n0 f0
    generalize gBs n0 f0 = L at *
    clear hA0 hp0
    subst hlen0
    have hrow0 := okL_row hL0
    have hvok0 : okV (⟨⟨⟨s0, l0, h0⟩, ⟨b0, m0, r0⟩⟩, ⟨z0, gN p0 fun i => [st (gT (g0 i))]⟩⟩ : Vl) := ⟨⟨(by rw [gN_length]; exact hV0.1.1), fun _ _ => rfl⟩, hV0.2⟩
    have hcr0 := okL_row (clean_ok (e := ⟨e0, L⟩) hL0)
    have hcl0 : (En.clean ⟨e0, L⟩).binds.length <= L.length := clean_len ⟨e0, L⟩
    have hA1 := hp1.1
    have hV1 := hp1.2
    have hvR1 := hV1.2
    simp only [Sp.inR, Cg.inR] at hvR1
    have hL1 := okL_rows hA1.2
    have hn1 := hA1.1
    have hlen1 := gBs_length n1 f1
    generalize gBs n1 f1 = M at *
    clear hA1 hp1
    subst hlen1
    have hrow1 := okL_row hL1
    have hvok1 : okV (⟨⟨⟨s1, l1, h1⟩, ⟨b1, m1, r1⟩⟩, ⟨z1, gN p1 fun i => [st (gT (g1 i))]⟩⟩ : Vl) := ⟨⟨(by rw [gN_length]; exact hV1.1.1), fun _ _ => rfl⟩, hV1.2⟩
    have hcr1 := okL_row (clean_ok (e := ⟨e1, M⟩) hL1)
    have hcl1 : (En.clean ⟨e1, M⟩).binds.length <= M.length := clean_len ⟨e1, M⟩
    have hqj2 : QJ (⟨⟨⟨s0, l0, h0⟩, ⟨b0, m0, r0⟩⟩, ⟨z0, gN p0 fun i => [st (gT (g0 i))]⟩⟩ : Vl) (⟨⟨⟨s1, l1, h1⟩, ⟨b1, m1, r1⟩⟩, ⟨z1, gN p1 fun i => [st (gT (g1 i))]⟩⟩ : Vl) := hqj
    have hsumV : (p0 + p1) * 16 <= 140737488351232 := by have := hqj; unfold QJ at this; simpa [gN_length] using this
    have hcan : ∀ i, i < n2 -> (fun i => [it (gI (f2 i))]) i = [it (gI ((fun i => [it (gI (f2 i))]) i))] /\ rI (gI ((fun i => [it (gI (f2 i))]) i)) := fun i hi => ⟨rfl, (hp2.2 i hi).2⟩
    have hlad : ∀ z, z ∈ gL n2 (fun i => [it (gI (f2 i))]) -> rI z := fun z hz => gL_r hp2.2 z hz
    have hge := gEWc_ok (nk := n2) (fk := fun i => [it (gI (f2 i))]) ⟨hp2.1, hcan⟩ (a := ⟨e0, gBs L.length (rwB L)⟩) (b := ⟨e1, gBs M.length (rwB M)⟩) (by rw [gBs_row]; exact ⟨hn0, hrow0⟩) (by rw [gBs_row]; exact ⟨hn1, hrow1⟩) (by rw [gBs_row, gBs_row]; exact hroom) (by rw [gBs_row, gBs_row]; exact hsum)
    have hokR : okL (En.widen ⟨e0, gBs L.length (rwB L)⟩ ⟨e1, gBs M.length (rwB M)⟩ (gL n2 (fun i => [it (gI (f2 i))]))).binds := widen_okL (by rw [gBs_row]; exact hL0) (by rw [gBs_row]; exact hL1) (by rw [gBs_row, gBs_row]; exact hroom) hlad
    have hlR : (En.widen ⟨e0, gBs L.length (rwB L)⟩ ⟨e1, gBs M.length (rwB M)⟩ (gL n2 (fun i => [it (gI (f2 i))]))).binds.length <= 1099511627776 := Nat.le_trans (widen_len _ _ _) (by rw [gBs_row, gBs_row]; exact hsum)
    have hokW := vwiden_ok (l := gL n2 (fun i => [it (gI (f2 i))])) hvok0 hvok1 hqj2 hlad
    have hgv : gEq (gVWc n2 (fun i => [it (gI (f2 i))])) [bo s0, it l0, it h0, bo b0, it m0, it r0, bo z0, .lst 1 p0 fun i => [st (gT [st (gT (g0 i))])]] [bo s1, it l1, it h1, bo b1, it m1, it r1, bo z1, .lst 1 p1 fun i => [st (gT [st (gT (g1 i))])]] (vlC (Vl.widen (⟨⟨⟨s0, l0, h0⟩, ⟨b0, m0, r0⟩⟩, ⟨z0, gN p0 fun i => [st (gT (g0 i))]⟩⟩ : Vl) (⟨⟨⟨s1, l1, h1⟩, ⟨b1, m1, r1⟩⟩, ⟨z1, gN p1 fun i => [st (gT (g1 i))]⟩⟩ : Vl) (gL n2 (fun i => [it (gI (f2 i))])))) := gEq_of rfl rfl ⟨⟨⟨hV0.1.1, fun i hi => rfl⟩, hV0.2⟩, ⟨⟨hV1.1.1, fun i hi => rfl⟩, hV1.2⟩, ⟨hp2.1, hcan⟩, hsumV⟩
    repeat' (first | exact trivial | (with_reducible first | exact hge | exact hgv | exact hokR | exact hokW | exact hlR) | refine ⟨?_, ?_⟩ | intro _)
    all_goals first | (with_reducible first | apply qa | apply qb | apply qc | apply qd) | (conv => whnf)
    all_goals (try simp only [gBs_row, gN_lst])
    all_goals first | exact hlR | (rw [gBs_row, gBs_row] at hlR; exact hlR) | exact hrow0 | exact hn0 | exact hV0.1.1 | exact hvR0.1.1 | exact hvR0.1.2 | exact hvR0.2.1 | exact hvR0.2.2 | exact hcr0 | exact hrow1 | exact hn1 | exact hV1.1.1 | exact hvR1.1.1 | exact hvR1.1.2 | exact hvR1.2.1 | exact hvR1.2.2 | exact hcr1 | omega | (intro i hi; rfl) | rfl
  . cases h
namespace Sv
def rclean (s : Sv) : Sv := ⟨s.e.rclean, s.v.rclean⟩
def rleq (a b : Sv) : Bool := En.rleq a.e b.e && Vl.rleq a.v b.v
def rop (op : Int) (a b : Sv) (l : List Int) : Sv := ⟨En.rop op a.e b.e l, En.vop op l a.v b.v⟩
end Sv
theorem narrow_tidyE (a b : En) : (En.narrow a b).tidy := by
  rw [narrow_case]
  split
  . split
    . split
      . exact zip_tidy opN a b
      . exact clean_tidyE a
    . exact ⟨List.Pairwise.nil, fun x h => (by cases h), fun _ => rfl⟩
  . exact clean_tidyE b
theorem widen_tidyE {a b : En} (l : List Int) (hb : inRE b) : (En.widen a b l).tidy := by
  rw [widen_case]
  split
  . split
    . rename_i hb'
      have hs : SS (En.zipE (fun x y => Vl.widen x y l) a b).binds := ss_mrg (clean_ss a) (clean_ss b)
      have hz : Vl.inR Vl.zero := by unfold Vl.inR Vl.zero Ig.zero Sp.inR Cg.inR; decide
      have hbi : ∀ {s w}, b.hold s = some w -> w.of.inR := by
        intro s w hw
        unfold En.hold at hw
        rw [if_pos hb'] at hw
        exact Vl.of_inR (hb _ (lk_mem hw))
      refine ⟨hs, fun x hx => ?_, fun h => (by cases h)⟩
      have := lk_of_mem hs hx
      rw [zip_lk] at this
      cases h1 : (a.hold x.name).map Vl.of with
      | none =>
        rw [h1] at this
        cases h2 : (b.hold x.name).map Vl.of with
        | none => rw [h2] at this; cases this
        | some w =>
          rw [h2] at this
          obtain ⟨w', e, rfl⟩ := Option.map_eq_some_iff.1 h2
          have := Option.some.inj this
          rw [<- this]; exact Vl.widen_tidy (hbi e)
      | some v =>
        rw [h1] at this
        cases h2 : (b.hold x.name).map Vl.of with
        | none =>
          rw [h2] at this
          have := Option.some.inj this
          rw [<- this]; exact Vl.widen_tidy hz
        | some w =>
          rw [h2] at this
          obtain ⟨w', e, rfl⟩ := Option.map_eq_some_iff.1 h2
          have := Option.some.inj this
          rw [<- this]; exact Vl.widen_tidy (hbi e)
    . exact clean_tidyE a
  . exact clean_tidyE b
theorem rleq_leq (a b : Vl) : Vl.leq a b = Vl.rleq a b := by
  rw [leq_eq]; unfold Vl.rleq; rw [rclean2, rclean2]; simp only [Vl.rclean, cleanS_idem]
namespace Sv
theorem clean_fix {e : En} {v : Vl} (he : e.tidy) (hv : v.tidy) : Sv.clean ⟨e, v⟩ = ⟨e, v⟩ := by
  show (⟨e.clean, v.of⟩ : Sv) = _
  rw [clean_fixE he, Vl.of_fix hv]
theorem clean_eq (a : Sv) : a.clean = a.rclean := by
  show (⟨a.e.clean, a.v.of⟩ : Sv) = ⟨a.e.rclean, a.v.rclean⟩
  rw [clean_rclean, of_rclean]
theorem clean2 (a : Sv) : a.clean.clean = a.clean := clean_fix (clean_tidyE _) (Vl.of_tidy _)
theorem leq_eq (a b : Sv) : leq a b = rleq a b := by unfold leq rleq; rw [leq_rleq, rleq_leq]
theorem join_is (a b : Sv) : join a b = ⟨En.join a.e b.e, Vl.join a.v b.v⟩ := clean_fix (join_tidyE _ _) (Vl.jn_tidy _ _)
theorem narrow_is (a b : Sv) : narrow a b = ⟨En.narrow a.e b.e, Vl.narrow a.v b.v⟩ := clean_fix (narrow_tidyE _ _) (Vl.narrow_tidy _ _)
theorem widen_is {a b : Sv} (l : List Int) (he : inRE b.e) (hv : b.v.inR) : widen a b l = ⟨En.widen a.e b.e l, Vl.widen a.v b.v l⟩ := clean_fix (widen_tidyE l he) (Vl.widen_tidy hv)
theorem join_ref (a b : Sv) (l : List Int) : join a b = rop 0 a b l := by
  rw [join_is, join_rop _ _ l, Vl.join_eq]; rfl
theorem widen_ref {a b : Sv} (l : List Int) (he : inRE b.e) (hv : b.v.inR) : widen a b l = rop 1 a b l := by
  rw [widen_is l he hv, widen_rop _ _ l, widen_eq]; rfl
theorem narrow_ref (a b : Sv) (l : List Int) : narrow a b = rop 2 a b l := by
  rw [narrow_is, narrow_rop _ _ l, narrow_eq]; rfl
theorem leq_clean (a b : Sv) : leq a.clean b.clean = leq a b := by
  unfold leq
  have h1 : En.leq a.clean.e b.clean.e = En.leq a.e b.e := by
    show En.leq a.e.clean b.e.clean = _
    unfold En.leq
    rw [clean_fixE (clean_tidyE a.e), clean_fixE (clean_tidyE b.e)]
  rw [h1, show Vl.leq a.clean.v b.clean.v = Vl.leq a.v b.v from Vl.leq_of _ _]
theorem leq_refl (a : Sv) : leq a a = true := by unfold leq; rw [leqE_refl, Vl.l3_refl]; rfl
theorem leq_and {a b : Sv} : leq a b = true ↔ En.leq a.e b.e = true /\ Vl.leq a.v b.v = true := by unfold leq; exact Bool.and_eq_true_iff
theorem leq_trans {a b c : Sv} (h1 : leq a b = true) (h2 : leq b c = true) : leq a c = true :=
  leq_and.2 ⟨leqE_trans (leq_and.1 h1).1 (leq_and.1 h2).1, Vl.l3_trans (leq_and.1 h1).2 (leq_and.1 h2).2⟩
theorem join_comm (a b : Sv) : join a b = join b a := by rw [join_is, join_is, join_commE, Vl.l3_comm]
theorem leq_join1 (a b : Sv) : leq a (join a b) = true := by rw [join_is]; exact leq_and.2 ⟨leqE_join1 _ _, Vl.l3_join1 _ _⟩
theorem leq_join2 (a b : Sv) : leq b (join a b) = true := by rw [join_comm]; exact leq_join1 b a
theorem leq_widen {a b : Sv} {l : List Int} (he : inRE b.e) (hv : b.v.inR) : leq (join a b) (widen a b l) = true := by
  rw [join_is, widen_is l he hv]; exact leq_and.2 ⟨leqE_widen he, Vl.l3_widen hv⟩
end Sv
theorem cat_len (x y : List ByteArray) : (ofS (ofS x ++ ofS y)).length <= x.length + y.length := by
  have a1 := ofS_len (ofS x ++ ofS y)
  have a2 := ofS_len x
  have a3 := ofS_len y
  rw [List.length_append] at a1; omega
theorem vjoin_len (x y : Vl) : (Vl.join x y).t.names.length <= x.t.names.length + y.t.names.length := cat_len _ _
theorem vwiden_len (x y : Vl) (l : List Int) : (Vl.widen x y l).t.names.length <= x.t.names.length + y.t.names.length := cat_len _ _
theorem vof_len (x : Vl) : x.of.t.names.length <= x.t.names.length := by rw [of_names]; exact ofS_len _
theorem vnarrow_len (x y : Vl) : (Vl.narrow x y).t.names.length <= x.t.names.length + y.t.names.length := by
  rw [Vl.narrow_cases]
  split
  . exact Nat.le_trans (vof_len x) (by omega)
  . split
    . exact Nat.zero_le _
    . show x.of.t.names.length <= _
      exact Nat.le_trans (vof_len x) (by omega)
theorem zip_len {op : Vl -> Vl -> Vl} (h : ∀ x y, (op x y).t.names.length <= x.t.names.length + y.t.names.length) {a b : En} {N M : Nat}
    (ha : ∀ x ∈ a.binds, x.v.t.names.length <= N) (hb : ∀ x ∈ b.binds, x.v.t.names.length <= M) : ∀ x ∈ (En.zipE op a b).binds, x.v.t.names.length <= N + M := by
  intro z hz
  have ca : ∀ x ∈ a.clean.binds, x.v.t.names.length <= N := fun x hx => by
    obtain ⟨y, hy, e⟩ := clean_sub a x hx
    exact Nat.le_trans e (ha y hy)
  have cb : ∀ x ∈ b.clean.binds, x.v.t.names.length <= M := fun x hx => by
    obtain ⟨y, hy, e⟩ := clean_sub b x hx
    exact Nat.le_trans e (hb y hy)
  have hz0 : Vl.zero.t.names.length = 0 := rfl
  rcases mrg_mem (A := a.clean.binds) (B := b.clean.binds) hz with ⟨x, hx, e⟩ | ⟨y, hy, e⟩ | ⟨x, hx, y, hy, e⟩
  . have := h x.v Vl.zero; have := ca x hx; rw [e]; omega
  . have := h Vl.zero y.v; have := cb y hy; rw [e]; omega
  . have := h x.v y.v; have := ca x hx; have := cb y hy; rw [e]; omega
structure Sv.fit (N : Nat) (s : Sv) : Prop where
  l : okL s.e.binds
  v : okV s.v
  len : s.e.binds.length <= N
  b : ∀ x ∈ s.e.binds, x.v.t.names.length <= N
  n : s.v.t.names.length <= N
namespace Sv.fit
theorem row {N : Nat} {s : Sv} (h : fit N s) : RowsOk s.e.binds.length (rwB s.e.binds) := okL_row h.l
theorem mono {N M : Nat} {s : Sv} (h : fit N s) (hn : N <= M) : fit M s := ⟨h.l, h.v, Nat.le_trans h.len hn, fun x hx => Nat.le_trans (h.b x hx) hn, Nat.le_trans h.n hn⟩
theorem clean {N : Nat} {s : Sv} (h : fit N s) : fit N s.clean where
  l := clean_ok h.l
  v := okV_of h.v
  len := Nat.le_trans (clean_len s.e) h.len
  b x hx := by
    obtain ⟨y, hy, e⟩ := clean_sub s.e x hx
    exact Nat.le_trans e (h.b y hy)
  n := Nat.le_trans (vof_len _) h.n
theorem room {N M : Nat} {a b : Sv} (ha : fit N a) (hb : fit M b) (hn : (N + M) * 16 <= 140737488351232) : Room a.e.binds b.e.binds :=
  ⟨fun x hx y hy => by have := ha.b x hx; have := hb.b y hy; unfold QJ; omega, fun x hx => by have := ha.b x hx; unfold QJ; show (_ + 0) * 16 <= _; omega, fun y hy => by have := hb.b y hy; unfold QJ; show (0 + _) * 16 <= _; omega⟩
theorem qj {N M : Nat} {a b : Sv} (ha : fit N a) (hb : fit M b) (hn : (N + M) * 16 <= 140737488351232) : QJ a.v b.v := by
  have := ha.n; have := hb.n; unfold QJ; omega
theorem inRE {N : Nat} {s : Sv} (h : fit N s) : _root_.Go.Proofs.YthkknkhpfffnbaaGreat.inRE s.e := inRE_of h.l
theorem inR {N : Nat} {s : Sv} (h : fit N s) : s.v.inR := by have := h.v; unfold okV at this; exact this.2
theorem join {N M : Nat} {a b : Sv} (ha : fit N a) (hb : fit M b) (hn : (N + M) * 16 <= 140737488351232) : fit (N + M) (join a b) := by
  rw [join_is]
  refine ⟨join_okL ha.l hb.l (room ha hb hn), vjoin_ok ha.v hb.v (qj ha hb hn), ?_, ?_, Nat.le_trans (vjoin_len _ _) (by have := ha.n; have := hb.n; omega)⟩
  . exact Nat.le_trans (join_len _ _) (by have := ha.len; have := hb.len; omega)
  . show ∀ x ∈ (En.join a.e b.e).binds, _
    rw [join_case]
    split
    . split
      . exact zip_len vjoin_len ha.b hb.b
      . exact (ha.clean.mono (by omega)).b
    . exact (hb.clean.mono (by omega)).b
theorem widen {N M : Nat} {a b : Sv} {l : List Int} (ha : fit N a) (hb : fit M b) (hn : (N + M) * 16 <= 140737488351232) (hl : ∀ z, z ∈ l -> rI z) : fit (N + M) (widen a b l) := by
  rw [widen_is l hb.inRE hb.inR]
  refine ⟨widen_okL ha.l hb.l (room ha hb hn) hl, vwiden_ok ha.v hb.v (qj ha hb hn) hl, ?_, ?_, Nat.le_trans (vwiden_len _ _ _) (by have := ha.n; have := hb.n; omega)⟩
  . exact Nat.le_trans (widen_len _ _ _) (by have := ha.len; have := hb.len; omega)
  . show ∀ x ∈ (En.widen a.e b.e l).binds, _
    rw [widen_case]
    split
    . split
      . exact zip_len (fun x y => vwiden_len x y l) ha.b hb.b
      . exact (ha.clean.mono (by omega)).b
    . exact (hb.clean.mono (by omega)).b
theorem narrow {N M : Nat} {a b : Sv} (ha : fit N a) (hb : fit M b) : fit (N + M) (narrow a b) := by
  rw [narrow_is]
  refine ⟨narrow_okL ha.l hb.l, vnarrow_ok ha.v hb.v, ?_, ?_, Nat.le_trans (vnarrow_len _ _) (by have := ha.n; have := hb.n; omega)⟩
  . exact Nat.le_trans (narrow_len _ _) (by have := ha.len; have := hb.len; omega)
  . show ∀ x ∈ (En.narrow a.e b.e).binds, _
    rw [narrow_case]
    split
    . split
      . split
        . exact zip_len vnarrow_len ha.b hb.b
        . exact (ha.clean.mono (by omega)).b
      . intro x hx; cases hx
    . exact (hb.clean.mono (by omega)).b
end Sv.fit
namespace Sv
@[reducible] def again (s : Sv) : Sv := ⟨⟨s.e.live, gBs s.e.binds.length (rwB s.e.binds)⟩, ⟨⟨⟨s.v.i.s.some, s.v.i.s.lo, s.v.i.s.hi⟩, ⟨s.v.i.c.some, s.v.i.c.m, s.v.i.c.r⟩⟩, ⟨s.v.t.null, gN s.v.t.names.length fun i => [st (atS s.v.t.names i)]⟩⟩⟩
theorem again_eq (s : Sv) : again s = s := by
  show (⟨⟨s.e.live, gBs s.e.binds.length (rwB s.e.binds)⟩, ⟨⟨⟨s.v.i.s.some, s.v.i.s.lo, s.v.i.s.hi⟩, ⟨s.v.i.c.some, s.v.i.c.m, s.v.i.c.r⟩⟩, ⟨s.v.t.null, gN s.v.t.names.length fun i => [st (atS s.v.t.names i)]⟩⟩⟩ : Sv) = s
  rw [gBs_row, gN_lst]
abbrev cond (s : Sv) : Prop := (s.e.binds.length <= 1099511627776 /\ RowsOk s.e.binds.length (rwB s.e.binds)) /\ ((s.v.t.names.length * 16 <= 140737488351232 /\ ∀ i, i < s.v.t.names.length -> [st (atS s.v.t.names i)] = [st (gT [st (atS s.v.t.names i)])]) /\ Sp.inR ⟨s.v.i.s.some, s.v.i.s.lo, s.v.i.s.hi⟩ /\ Cg.inR ⟨s.v.i.c.some, s.v.i.c.m, s.v.i.c.r⟩)
end Sv
theorem Sv.fit.cond {N : Nat} {s : Sv} (h : Sv.fit N s) (hN : N <= 8000000000) : Sv.cond s :=
  ⟨⟨Nat.le_trans h.len (by omega), h.row⟩, ⟨⟨by have := h.n; omega, fun _ _ => rfl⟩, h.inR⟩⟩
theorem Sv.fit.ag {N : Nat} {s : Sv} (h : Sv.fit N s) : Sv.fit N (Sv.again s) := by rw [Sv.again_eq]; exact h
structure Sv.pair (a b : Sv) : Prop where
  r : Room a.e.binds b.e.binds
  q : QJ a.v b.v
  s : a.e.binds.length + b.e.binds.length <= 1099511627776
theorem Sv.fit.pair {N M : Nat} {a b : Sv} (ha : Sv.fit N a) (hb : Sv.fit M b) (hn : N + M <= 8000000000) : Sv.pair a b :=
  ⟨ha.room hb (by omega), ha.qj hb (by omega), by have := ha.len; have := hb.len; omega⟩
structure Tn where
  j : Int
  d : Bool
  t : Int
abbrev Tn.ar (s : Tn) : Ar := .agg [.d (it s.j), .d (bo s.d), .d (it s.t)]
namespace Tn
def bump (t : Tn) : Int := if t.d = true /\ t.t < 2 then t.t + 1 else t.t
def up (t : Tn) : Tn := ⟨if t.j < 3 then t.j + 1 else t.j, false, t.bump⟩
def early (t : Tn) : Bool := decide (t.j < 3)
end Tn
def FTUp : List Ar -> Option Rs
  | [.agg [.d (.v (.int .i64 j0)), .d (.v (.bool d0)), .d (.v (.int .i64 t0))]] => some ⟨(rI j0 /\ rI t0), .tup [Tn.ar (Tn.up (⟨j0, d0, t0⟩ : Tn)), .c (.d (bo (Tn.early (⟨j0, d0, t0⟩ : Tn))))], []⟩
  | _ => none
theorem fcTUp : FC Tryz.prog 90 FTUp := by
  intro xs pre r us h hp
  unfold FTUp at h
  split at h
  . rename_i j0 d0 t0
    cases h
    have hp0 := hp
    refine fcat tys_ok (l := []) trivial Tryz.func90 rfl (by kernel_rfl) true ?_
    unfold rI at hp0
    repeat' (first | exact trivial | refine ⟨?_, ?_⟩ | intro _)
    all_goals first | (with_reducible first | apply qa | apply qb | apply qc | apply qd) | (conv => whnf)
    all_goals (try simp only [decide_eq_true_eq, decide_eq_false_iff_not] at *)
    all_goals first | rfl | (refine congrArg (Value.int .i64) ?_; (try rw [wrap64 (by omega) (by omega)]); simp only [Tn.up, Tn.bump]; (try subst d0); first | rfl | (simp; done) | (simp; omega)) | (refine congrArg Value.bool ?_; simp only [Tn.early]; simp; omega)
  . cases h
def stepM (t : Tn) (a b : Sv) (l : List Int) : Tn × Sv :=
  if Sv.leq b.clean a.clean = true then
    (if (Sv.leq a.clean b.clean || decide (t.t ≥ 2)) = true then (t, a.clean) else (⟨t.j, true, t.t⟩, Sv.narrow a.clean b.clean))
  else if t.early = true then (t.up, Sv.join a.clean b.clean) else (t.up, Sv.widen a.clean (Sv.join a.clean b.clean) l)
def FMStep : List Ar -> Option Rs
  | [.agg [.d (.v (.int .i64 j0)), .d (.v (.bool d0)), .d (.v (.int .i64 t0))], .agg [.d (.v (.bool e1)), .d (.lst 9 n1 f1), .d (.v (.bool s1)), .d (.v (.int .i64 l1)), .d (.v (.int .i64 h1)), .d (.v (.bool b1)), .d (.v (.int .i64 m1)), .d (.v (.int .i64 r1)), .d (.v (.bool z1)), .d (.lst 1 p1 g1)], .agg [.d (.v (.bool e2)), .d (.lst 9 n2 f2), .d (.v (.bool s2)), .d (.v (.int .i64 l2)), .d (.v (.int .i64 h2)), .d (.v (.bool b2)), .d (.v (.int .i64 m2)), .d (.v (.int .i64 r2)), .d (.v (.bool z2)), .d (.lst 1 p2 g2)], .c (.d (.lst 1 n3 f3))] => some ⟨(rI j0 /\ rI t0) /\ ((n1 <= 1099511627776 /\ RowsOk n1 f1) /\ ((p1 * 16 <= 140737488351232 /\ ∀ i, i < p1 -> g1 i = [st (gT (g1 i))]) /\ Sp.inR ⟨s1, l1, h1⟩ /\ Cg.inR ⟨b1, m1, r1⟩)) /\ ((n2 <= 1099511627776 /\ RowsOk n2 f2) /\ ((p2 * 16 <= 140737488351232 /\ ∀ i, i < p2 -> g2 i = [st (gT (g2 i))]) /\ Sp.inR ⟨s2, l2, h2⟩ /\ Cg.inR ⟨b2, m2, r2⟩)) /\ (n3 <= 9223372036854775807 /\ ∀ i, i < n3 -> f3 i = [it (gI (f3 i))] /\ rI (gI (f3 i))) /\ (∃ N, N <= 1000000000 /\ Sv.fit N (⟨⟨e1, gBs n1 f1⟩, ⟨⟨⟨s1, l1, h1⟩, ⟨b1, m1, r1⟩⟩, ⟨z1, gN p1 g1⟩⟩⟩ : Sv) /\ Sv.fit N (⟨⟨e2, gBs n2 f2⟩, ⟨⟨⟨s2, l2, h2⟩, ⟨b2, m2, r2⟩⟩, ⟨z2, gN p2 g2⟩⟩⟩ : Sv)), .tup [Tn.ar (stepM (⟨j0, d0, t0⟩ : Tn) (⟨⟨e1, gBs n1 f1⟩, ⟨⟨⟨s1, l1, h1⟩, ⟨b1, m1, r1⟩⟩, ⟨z1, gN p1 g1⟩⟩⟩ : Sv) (⟨⟨e2, gBs n2 f2⟩, ⟨⟨⟨s2, l2, h2⟩, ⟨b2, m2, r2⟩⟩, ⟨z2, gN p2 g2⟩⟩⟩ : Sv) (gL n3 f3)).1, Sv.ar (stepM (⟨j0, d0, t0⟩ : Tn) (⟨⟨e1, gBs n1 f1⟩, ⟨⟨⟨s1, l1, h1⟩, ⟨b1, m1, r1⟩⟩, ⟨z1, gN p1 g1⟩⟩⟩ : Sv) (⟨⟨e2, gBs n2 f2⟩, ⟨⟨⟨s2, l2, h2⟩, ⟨b2, m2, r2⟩⟩, ⟨z2, gN p2 g2⟩⟩⟩ : Sv) (gL n3 f3)).2], []⟩
  | _ => none
theorem fcMStep : FC Tryz.prog 37 FMStep := by
  intro xs pre r us h hp
  unfold FMStep at h
  split at h
  . rename_i j0 d0 t0 e1 n1 f1 s1 l1 h1 b1 m1 r1 z1 p1 g1 e2 n2 f2 s2 l2 h2 b2 m2 r2 z2 p2 g2 n3 f3
    cases h
    obtain ⟨hp0, hp1, hp2, hp3, hp4⟩ := hp
    refine FCat.deep (ys := [.agg [.d (.v (.int .i64 j0)), .d (.v (.bool d0)), .d (.v (.int .i64 t0))], .agg [.d (.v (.bool e1)), .d (.lst 9 n1 (rwB (gBs n1 f1))), .d (.v (.bool s1)), .d (.v (.int .i64 l1)), .d (.v (.int .i64 h1)), .d (.v (.bool b1)), .d (.v (.int .i64 m1)), .d (.v (.int .i64 r1)), .d (.v (.bool z1)), .d (.lst 1 p1 fun i => [st (gT (g1 i))])], .agg [.d (.v (.bool e2)), .d (.lst 9 n2 (rwB (gBs n2 f2))), .d (.v (.bool s2)), .d (.v (.int .i64 l2)), .d (.v (.int .i64 h2)), .d (.v (.bool b2)), .d (.v (.int .i64 m2)), .d (.v (.int .i64 r2)), .d (.v (.bool z2)), .d (.lst 1 p2 fun i => [st (gT (g2 i))])], .c (.d (.lst 1 n3 fun i => [it (gI (f3 i))]))]) ?_ ?_
    . repeat' (first | exact trivial | exact rfl | exact DvE.refl _ | refine ⟨?_, ?_⟩ | fail)
      all_goals first | first | exact canonB hp1.1.2.h | (exact .rows fun i hi => by rw [hp1.2.1.2 i hi]; exact ⟨rfl, fun j a b ha hb => by have hb : [st (gT (g1 i))][j]? = some b := hb; rw [ha] at hb; cases hb; exact .refl _⟩) | exact canonB hp2.1.2.h | (exact .rows fun i hi => by rw [hp2.2.1.2 i hi]; exact ⟨rfl, fun j a b ha hb => by have hb : [st (gT (g2 i))][j]? = some b := hb; rw [ha] at hb; cases hb; exact .refl _⟩) | (exact .rows fun i hi => by rw [(hp3.2 i hi).1]; exact ⟨rfl, fun j a b ha hb => by have hb : [it (gI (f3 i))][j]? = some b := hb; rw [ha] at hb; cases hb; exact .refl _⟩)
    refine fcat tys_ok (l := [(48, ⟨[], FTClean⟩), (40, ⟨[], FTLeq⟩), (55, ⟨[], FTNarrow⟩), (90, ⟨[], FTUp⟩), (52, ⟨[], FTJoin⟩), (54, ⟨[], FTWiden⟩)]) ⟨fcTClean, fcTLeq, fcTNarrow, fcTUp, fcTJoin, fcTWiden, trivial⟩ Tryz.func37 rfl (by kernel_rfl) true ?_
    obtain ⟨N, hN, hfa, hfb⟩ := hp4
    unfold rI at hp0
    have hA1 := hp1.1
    have hV1 := hp1.2
    have hvR1 := hV1.2
    simp only [Sp.inR, Cg.inR] at hvR1
    have hL1 := okL_rows hA1.2
    have hn1 := hA1.1
    have hlen1 := gBs_length n1 f1
    generalize gBs n1 f1 = L at *
    clear hA1 hp1
    subst hlen1
    have hrow1 := okL_row hL1
    have hvok1 : okV (⟨⟨⟨s1, l1, h1⟩, ⟨b1, m1, r1⟩⟩, ⟨z1, gN p1 fun i => [st (gT (g1 i))]⟩⟩ : Vl) := ⟨⟨(by rw [gN_length]; exact hV1.1.1), fun _ _ => rfl⟩, hV1.2⟩
    have hcr1 := okL_row (clean_ok (e := ⟨e1, L⟩) hL1)
    have hcl1 : (En.clean ⟨e1, L⟩).binds.length <= L.length := clean_len ⟨e1, L⟩
    have hA2 := hp2.1
    have hV2 := hp2.2
    have hvR2 := hV2.2
    simp only [Sp.inR, Cg.inR] at hvR2
    have hL2 := okL_rows hA2.2
    have hn2 := hA2.1
    have hlen2 := gBs_length n2 f2
    generalize gBs n2 f2 = M at *
    clear hA2 hp2
    subst hlen2
    have hrow2 := okL_row hL2
    have hvok2 : okV (⟨⟨⟨s2, l2, h2⟩, ⟨b2, m2, r2⟩⟩, ⟨z2, gN p2 fun i => [st (gT (g2 i))]⟩⟩ : Vl) := ⟨⟨(by rw [gN_length]; exact hV2.1.1), fun _ _ => rfl⟩, hV2.2⟩
    have hcr2 := okL_row (clean_ok (e := ⟨e2, M⟩) hL2)
    have hcl2 : (En.clean ⟨e2, M⟩).binds.length <= M.length := clean_len ⟨e2, M⟩
    have hlad : ∀ z, z ∈ gL n3 f3 -> rI z := fun z hz => gL_r hp3.2 z hz
    have oS : Sv.fit (N) (⟨⟨e1, gBs L.length (rwB L)⟩, (⟨⟨⟨s1, l1, h1⟩, ⟨b1, m1, r1⟩⟩, ⟨z1, gN p1 fun i => [st (gT (g1 i))]⟩⟩ : Vl)⟩ : Sv) := by rw [gBs_row]; exact hfa
    have cS : ((L).length <= 1099511627776 /\ RowsOk (L).length (rwB L)) /\ ((p1 * 16 <= 140737488351232 /\ ∀ i, i < p1 -> [st (gT (g1 i))] = [st (gT [st (gT (g1 i))])]) /\ Sp.inR ⟨s1, l1, h1⟩ /\ Cg.inR ⟨b1, m1, r1⟩) := ⟨⟨hn1, hrow1⟩, ⟨⟨hV1.1.1, fun _ _ => rfl⟩, hV1.2⟩⟩
    have oU : Sv.fit (N) (⟨⟨e2, gBs M.length (rwB M)⟩, (⟨⟨⟨s2, l2, h2⟩, ⟨b2, m2, r2⟩⟩, ⟨z2, gN p2 fun i => [st (gT (g2 i))]⟩⟩ : Vl)⟩ : Sv) := by rw [gBs_row]; exact hfb
    have cU : ((M).length <= 1099511627776 /\ RowsOk (M).length (rwB M)) /\ ((p2 * 16 <= 140737488351232 /\ ∀ i, i < p2 -> [st (gT (g2 i))] = [st (gT [st (gT (g2 i))])]) /\ Sp.inR ⟨s2, l2, h2⟩ /\ Cg.inR ⟨b2, m2, r2⟩) := ⟨⟨hn2, hrow2⟩, ⟨⟨hV2.1.1, fun _ _ => rfl⟩, hV2.2⟩⟩
    have oA : Sv.fit (N) (Sv.again ((Sv.clean (⟨⟨e1, gBs L.length (rwB L)⟩, (⟨⟨⟨s1, l1, h1⟩, ⟨b1, m1, r1⟩⟩, ⟨z1, gN p1 fun i => [st (gT (g1 i))]⟩⟩ : Vl)⟩ : Sv)))) := (oS.clean).ag
    have cA := Sv.fit.cond (s := (Sv.clean (⟨⟨e1, gBs L.length (rwB L)⟩, (⟨⟨⟨s1, l1, h1⟩, ⟨b1, m1, r1⟩⟩, ⟨z1, gN p1 fun i => [st (gT (g1 i))]⟩⟩ : Vl)⟩ : Sv))) (by have := oA; rw [Sv.again_eq] at this; exact this) (by omega)
    have oB : Sv.fit (N) (Sv.again ((Sv.clean (⟨⟨e2, gBs M.length (rwB M)⟩, (⟨⟨⟨s2, l2, h2⟩, ⟨b2, m2, r2⟩⟩, ⟨z2, gN p2 fun i => [st (gT (g2 i))]⟩⟩ : Vl)⟩ : Sv)))) := (oU.clean).ag
    have cB := Sv.fit.cond (s := (Sv.clean (⟨⟨e2, gBs M.length (rwB M)⟩, (⟨⟨⟨s2, l2, h2⟩, ⟨b2, m2, r2⟩⟩, ⟨z2, gN p2 fun i => [st (gT (g2 i))]⟩⟩ : Vl)⟩ : Sv))) (by have := oB; rw [Sv.again_eq] at this; exact this) (by omega)
    have oJ : Sv.fit (N + N) (Sv.again ((Sv.join (Sv.again ((Sv.clean (⟨⟨e1, gBs L.length (rwB L)⟩, (⟨⟨⟨s1, l1, h1⟩, ⟨b1, m1, r1⟩⟩, ⟨z1, gN p1 fun i => [st (gT (g1 i))]⟩⟩ : Vl)⟩ : Sv)))) (Sv.again ((Sv.clean (⟨⟨e2, gBs M.length (rwB M)⟩, (⟨⟨⟨s2, l2, h2⟩, ⟨b2, m2, r2⟩⟩, ⟨z2, gN p2 fun i => [st (gT (g2 i))]⟩⟩ : Vl)⟩ : Sv))))))) := (Sv.fit.join oA oB (by omega)).ag
    have cJ := Sv.fit.cond (s := (Sv.join (Sv.again ((Sv.clean (⟨⟨e1, gBs L.length (rwB L)⟩, (⟨⟨⟨s1, l1, h1⟩, ⟨b1, m1, r1⟩⟩, ⟨z1, gN p1 fun i => [st (gT (g1 i))]⟩⟩ : Vl)⟩ : Sv)))) (Sv.again ((Sv.clean (⟨⟨e2, gBs M.length (rwB M)⟩, (⟨⟨⟨s2, l2, h2⟩, ⟨b2, m2, r2⟩⟩, ⟨z2, gN p2 fun i => [st (gT (g2 i))]⟩⟩ : Vl)⟩ : Sv)))))) (by have := oJ; rw [Sv.again_eq] at this; exact this) (by omega)
    have oR : Sv.fit (N + N) (Sv.again ((Sv.narrow (Sv.again ((Sv.clean (⟨⟨e1, gBs L.length (rwB L)⟩, (⟨⟨⟨s1, l1, h1⟩, ⟨b1, m1, r1⟩⟩, ⟨z1, gN p1 fun i => [st (gT (g1 i))]⟩⟩ : Vl)⟩ : Sv)))) (Sv.again ((Sv.clean (⟨⟨e2, gBs M.length (rwB M)⟩, (⟨⟨⟨s2, l2, h2⟩, ⟨b2, m2, r2⟩⟩, ⟨z2, gN p2 fun i => [st (gT (g2 i))]⟩⟩ : Vl)⟩ : Sv))))))) := (Sv.fit.narrow oA oB).ag
    have cR := Sv.fit.cond (s := (Sv.narrow (Sv.again ((Sv.clean (⟨⟨e1, gBs L.length (rwB L)⟩, (⟨⟨⟨s1, l1, h1⟩, ⟨b1, m1, r1⟩⟩, ⟨z1, gN p1 fun i => [st (gT (g1 i))]⟩⟩ : Vl)⟩ : Sv)))) (Sv.again ((Sv.clean (⟨⟨e2, gBs M.length (rwB M)⟩, (⟨⟨⟨s2, l2, h2⟩, ⟨b2, m2, r2⟩⟩, ⟨z2, gN p2 fun i => [st (gT (g2 i))]⟩⟩ : Vl)⟩ : Sv)))))) (by have := oR; rw [Sv.again_eq] at this; exact this) (by omega)
    have pAB := Sv.fit.pair oA oB (by omega)
    have qAB : (Sv.clean (⟨⟨e1, gBs L.length (rwB L)⟩, (⟨⟨⟨s1, l1, h1⟩, ⟨b1, m1, r1⟩⟩, ⟨z1, gN p1 fun i => [st (gT (g1 i))]⟩⟩ : Vl)⟩ : Sv)).e.binds.length + (Sv.clean (⟨⟨e2, gBs M.length (rwB M)⟩, (⟨⟨⟨s2, l2, h2⟩, ⟨b2, m2, r2⟩⟩, ⟨z2, gN p2 fun i => [st (gT (g2 i))]⟩⟩ : Vl)⟩ : Sv)).e.binds.length <= 1099511627776 := by have := pAB.s; simpa only [gBs_length] using this
    have pAJ := Sv.fit.pair oA oJ (by omega)
    have qAJ : (Sv.clean (⟨⟨e1, gBs L.length (rwB L)⟩, (⟨⟨⟨s1, l1, h1⟩, ⟨b1, m1, r1⟩⟩, ⟨z1, gN p1 fun i => [st (gT (g1 i))]⟩⟩ : Vl)⟩ : Sv)).e.binds.length + (Sv.join (Sv.again ((Sv.clean (⟨⟨e1, gBs L.length (rwB L)⟩, (⟨⟨⟨s1, l1, h1⟩, ⟨b1, m1, r1⟩⟩, ⟨z1, gN p1 fun i => [st (gT (g1 i))]⟩⟩ : Vl)⟩ : Sv)))) (Sv.again ((Sv.clean (⟨⟨e2, gBs M.length (rwB M)⟩, (⟨⟨⟨s2, l2, h2⟩, ⟨b2, m2, r2⟩⟩, ⟨z2, gN p2 fun i => [st (gT (g2 i))]⟩⟩ : Vl)⟩ : Sv))))).e.binds.length <= 1099511627776 := by have := pAJ.s; simpa only [gBs_length] using this
    cases hBA : Sv.leq (Sv.again ((Sv.clean (⟨⟨e2, gBs M.length (rwB M)⟩, (⟨⟨⟨s2, l2, h2⟩, ⟨b2, m2, r2⟩⟩, ⟨z2, gN p2 fun i => [st (gT (g2 i))]⟩⟩ : Vl)⟩ : Sv)))) (Sv.again ((Sv.clean (⟨⟨e1, gBs L.length (rwB L)⟩, (⟨⟨⟨s1, l1, h1⟩, ⟨b1, m1, r1⟩⟩, ⟨z1, gN p1 fun i => [st (gT (g1 i))]⟩⟩ : Vl)⟩ : Sv)))) with
    | true =>
      cases hAB : Sv.leq (Sv.again ((Sv.clean (⟨⟨e1, gBs L.length (rwB L)⟩, (⟨⟨⟨s1, l1, h1⟩, ⟨b1, m1, r1⟩⟩, ⟨z1, gN p1 fun i => [st (gT (g1 i))]⟩⟩ : Vl)⟩ : Sv)))) (Sv.again ((Sv.clean (⟨⟨e2, gBs M.length (rwB M)⟩, (⟨⟨⟨s2, l2, h2⟩, ⟨b2, m2, r2⟩⟩, ⟨z2, gN p2 fun i => [st (gT (g2 i))]⟩⟩ : Vl)⟩ : Sv)))) with
      | true =>
        have yhBA := hBA
        (try rw [Sv.again_eq, Sv.again_eq, gBs_row, gBs_row] at yhBA)
        have yhAB := hAB
        (try rw [Sv.again_eq, Sv.again_eq, gBs_row, gBs_row] at yhAB)
        have e0' : stepM ⟨j0, d0, t0⟩ (⟨⟨e1, L⟩, (⟨⟨⟨s1, l1, h1⟩, ⟨b1, m1, r1⟩⟩, ⟨z1, gN p1 fun i => [st (gT (g1 i))]⟩⟩ : Vl)⟩ : Sv) (⟨⟨e2, M⟩, (⟨⟨⟨s2, l2, h2⟩, ⟨b2, m2, r2⟩⟩, ⟨z2, gN p2 fun i => [st (gT (g2 i))]⟩⟩ : Vl)⟩ : Sv) (gL n3 f3) = (⟨j0, d0, t0⟩, (Sv.clean (⟨⟨e1, L⟩, (⟨⟨⟨s1, l1, h1⟩, ⟨b1, m1, r1⟩⟩, ⟨z1, gN p1 fun i => [st (gT (g1 i))]⟩⟩ : Vl)⟩ : Sv))) := by unfold stepM; rw [if_pos yhBA, yhAB]; rfl
        have e' : stepM ⟨j0, d0, t0⟩ (⟨⟨e1, L⟩, ⟨⟨⟨s1, l1, h1⟩, ⟨b1, m1, r1⟩⟩, ⟨z1, gN p1 g1⟩⟩⟩ : Sv) (⟨⟨e2, M⟩, ⟨⟨⟨s2, l2, h2⟩, ⟨b2, m2, r2⟩⟩, ⟨z2, gN p2 g2⟩⟩⟩ : Sv) (gL n3 f3) = (⟨j0, d0, t0⟩, (Sv.clean (⟨⟨e1, L⟩, (⟨⟨⟨s1, l1, h1⟩, ⟨b1, m1, r1⟩⟩, ⟨z1, gN p1 fun i => [st (gT (g1 i))]⟩⟩ : Vl)⟩ : Sv))) := e0'
        repeat' (first | exact trivial | (with_reducible first | exact cS | exact cU | exact cA | exact cB | exact cJ | exact cR | exact pAB.r | exact pAB.q | exact qAB | exact pAJ.r | exact pAJ.q | exact qAJ | exact hp3 | exact hp0 | exact hp0.1 | exact hp0.2 | exact (fun h => absurd (hBA.symm.trans h) (by decide)) | exact (fun h => absurd (hAB.symm.trans h) (by decide))) | refine ⟨?_, ?_⟩ | intro _)
        all_goals first | (with_reducible first | apply qa | apply qb | apply qc | apply qd) | (conv => whnf)
        all_goals first | ((with_reducible show ASat _ _ _ _ _); refine draw_cut tys_ok (l := [(48, ⟨[], FTClean⟩), (40, ⟨[], FTLeq⟩), (55, ⟨[], FTNarrow⟩), (90, ⟨[], FTUp⟩), (52, ⟨[], FTJoin⟩), (54, ⟨[], FTWiden⟩)]) ⟨fcTClean, fcTLeq, fcTNarrow, fcTUp, fcTJoin, fcTWiden, trivial⟩ (by kernel_rfl) (.all [(0, .all [(1, .all [(2, .all [(3, .done)])]), (2, .all [(1, .all [(3, .done)])])]), (1, .all [(0, .all [(2, .all [(3, .done)])])])]) [0, 1, 2, 3, 4, 5, 6, 8, 9, 10, 17, 25, 38] (by kernel_rfl) ?_; apply tail_intro; · (repeat' (first | exact trivial | refine ⟨?_, ?_⟩ | intro _)) <;> (first | exact rfl | omega | assumption | (dsimp only; omega))) | skip
        all_goals repeat' (first | exact trivial | refine ⟨?_, ?_⟩ | intro _)
        all_goals first | (with_reducible first | apply qa | apply qb | apply qc | apply qd) | (conv => whnf)
        all_goals first | omega | rfl | exact (hp3.2 _ ‹_›).2.1 | exact (hp3.2 _ ‹_›).2.2 | (rw [e']; done) | (rw [e']; rfl) | (simp only [Sv.again_eq, gBs_row, gN_lst]; rw [e']; done) | (simp only [Sv.again_eq, gBs_row, gN_lst]; rw [e']; rfl)
      | false =>
        cases ht : decide (t0 ≥ 2) with
        | true =>
          have yhBA := hBA
          (try rw [Sv.again_eq, Sv.again_eq, gBs_row, gBs_row] at yhBA)
          have yhAB := hAB
          (try rw [Sv.again_eq, Sv.again_eq, gBs_row, gBs_row] at yhAB)
          have yht := ht
          (try rw [Sv.again_eq, Sv.again_eq, gBs_row, gBs_row] at yht)
          have e0' : stepM ⟨j0, d0, t0⟩ (⟨⟨e1, L⟩, (⟨⟨⟨s1, l1, h1⟩, ⟨b1, m1, r1⟩⟩, ⟨z1, gN p1 fun i => [st (gT (g1 i))]⟩⟩ : Vl)⟩ : Sv) (⟨⟨e2, M⟩, (⟨⟨⟨s2, l2, h2⟩, ⟨b2, m2, r2⟩⟩, ⟨z2, gN p2 fun i => [st (gT (g2 i))]⟩⟩ : Vl)⟩ : Sv) (gL n3 f3) = (⟨j0, d0, t0⟩, (Sv.clean (⟨⟨e1, L⟩, (⟨⟨⟨s1, l1, h1⟩, ⟨b1, m1, r1⟩⟩, ⟨z1, gN p1 fun i => [st (gT (g1 i))]⟩⟩ : Vl)⟩ : Sv))) := by unfold stepM; rw [if_pos yhBA, yhAB, if_pos (by simpa using ht)]
          have e' : stepM ⟨j0, d0, t0⟩ (⟨⟨e1, L⟩, ⟨⟨⟨s1, l1, h1⟩, ⟨b1, m1, r1⟩⟩, ⟨z1, gN p1 g1⟩⟩⟩ : Sv) (⟨⟨e2, M⟩, ⟨⟨⟨s2, l2, h2⟩, ⟨b2, m2, r2⟩⟩, ⟨z2, gN p2 g2⟩⟩⟩ : Sv) (gL n3 f3) = (⟨j0, d0, t0⟩, (Sv.clean (⟨⟨e1, L⟩, (⟨⟨⟨s1, l1, h1⟩, ⟨b1, m1, r1⟩⟩, ⟨z1, gN p1 fun i => [st (gT (g1 i))]⟩⟩ : Vl)⟩ : Sv))) := e0'
          repeat' (first | exact trivial | (with_reducible first | exact cS | exact cU | exact cA | exact cB | exact cJ | exact cR | exact pAB.r | exact pAB.q | exact qAB | exact pAJ.r | exact pAJ.q | exact qAJ | exact hp3 | exact hp0 | exact hp0.1 | exact hp0.2 | exact (fun h => absurd (hBA.symm.trans h) (by decide)) | exact (fun h => absurd (hAB.symm.trans h) (by decide)) | exact (fun h => absurd (ht.symm.trans h) (by decide))) | refine ⟨?_, ?_⟩ | intro _)
          all_goals first | (with_reducible first | apply qa | apply qb | apply qc | apply qd) | (conv => whnf)
          all_goals first | ((with_reducible show ASat _ _ _ _ _); refine draw_cut tys_ok (l := [(48, ⟨[], FTClean⟩), (40, ⟨[], FTLeq⟩), (55, ⟨[], FTNarrow⟩), (90, ⟨[], FTUp⟩), (52, ⟨[], FTJoin⟩), (54, ⟨[], FTWiden⟩)]) ⟨fcTClean, fcTLeq, fcTNarrow, fcTUp, fcTJoin, fcTWiden, trivial⟩ (by kernel_rfl) (.all [(0, .all [(1, .all [(2, .all [(3, .done)])]), (2, .all [(1, .all [(3, .done)])])]), (1, .all [(0, .all [(2, .all [(3, .done)])])])]) [0, 1, 2, 3, 4, 5, 6, 8, 9, 10, 17, 25, 38] (by kernel_rfl) ?_; apply tail_intro; · (repeat' (first | exact trivial | refine ⟨?_, ?_⟩ | intro _)) <;> (first | exact rfl | omega | assumption | (dsimp only; omega))) | skip
          all_goals repeat' (first | exact trivial | refine ⟨?_, ?_⟩ | intro _)
          all_goals first | (with_reducible first | apply qa | apply qb | apply qc | apply qd) | (conv => whnf)
          all_goals first | omega | rfl | exact (hp3.2 _ ‹_›).2.1 | exact (hp3.2 _ ‹_›).2.2 | (rw [e']; done) | (rw [e']; rfl) | (simp only [Sv.again_eq, gBs_row, gN_lst]; rw [e']; done) | (simp only [Sv.again_eq, gBs_row, gN_lst]; rw [e']; rfl)
        | false =>
          have yhBA := hBA
          (try rw [Sv.again_eq, Sv.again_eq, gBs_row, gBs_row] at yhBA)
          have yhAB := hAB
          (try rw [Sv.again_eq, Sv.again_eq, gBs_row, gBs_row] at yhAB)
          have yht := ht
          (try rw [Sv.again_eq, Sv.again_eq, gBs_row, gBs_row] at yht)
          have e0' : stepM ⟨j0, d0, t0⟩ (⟨⟨e1, L⟩, (⟨⟨⟨s1, l1, h1⟩, ⟨b1, m1, r1⟩⟩, ⟨z1, gN p1 fun i => [st (gT (g1 i))]⟩⟩ : Vl)⟩ : Sv) (⟨⟨e2, M⟩, (⟨⟨⟨s2, l2, h2⟩, ⟨b2, m2, r2⟩⟩, ⟨z2, gN p2 fun i => [st (gT (g2 i))]⟩⟩ : Vl)⟩ : Sv) (gL n3 f3) = (⟨j0, true, t0⟩, Sv.narrow (Sv.clean (⟨⟨e1, L⟩, (⟨⟨⟨s1, l1, h1⟩, ⟨b1, m1, r1⟩⟩, ⟨z1, gN p1 fun i => [st (gT (g1 i))]⟩⟩ : Vl)⟩ : Sv)) (Sv.clean (⟨⟨e2, M⟩, (⟨⟨⟨s2, l2, h2⟩, ⟨b2, m2, r2⟩⟩, ⟨z2, gN p2 fun i => [st (gT (g2 i))]⟩⟩ : Vl)⟩ : Sv))) := by unfold stepM; rw [if_pos yhBA, yhAB, if_neg (by simpa using ht)]
          have e' : stepM ⟨j0, d0, t0⟩ (⟨⟨e1, L⟩, ⟨⟨⟨s1, l1, h1⟩, ⟨b1, m1, r1⟩⟩, ⟨z1, gN p1 g1⟩⟩⟩ : Sv) (⟨⟨e2, M⟩, ⟨⟨⟨s2, l2, h2⟩, ⟨b2, m2, r2⟩⟩, ⟨z2, gN p2 g2⟩⟩⟩ : Sv) (gL n3 f3) = (⟨j0, true, t0⟩, Sv.narrow (Sv.clean (⟨⟨e1, L⟩, (⟨⟨⟨s1, l1, h1⟩, ⟨b1, m1, r1⟩⟩, ⟨z1, gN p1 fun i => [st (gT (g1 i))]⟩⟩ : Vl)⟩ : Sv)) (Sv.clean (⟨⟨e2, M⟩, (⟨⟨⟨s2, l2, h2⟩, ⟨b2, m2, r2⟩⟩, ⟨z2, gN p2 fun i => [st (gT (g2 i))]⟩⟩ : Vl)⟩ : Sv))) := e0'
          repeat' (first | exact trivial | (with_reducible first | exact cS | exact cU | exact cA | exact cB | exact cJ | exact cR | exact pAB.r | exact pAB.q | exact qAB | exact pAJ.r | exact pAJ.q | exact qAJ | exact hp3 | exact hp0 | exact hp0.1 | exact hp0.2 | exact (fun h => absurd (hBA.symm.trans h) (by decide)) | exact (fun h => absurd (hAB.symm.trans h) (by decide)) | exact (fun h => absurd (ht.symm.trans h) (by decide))) | refine ⟨?_, ?_⟩ | intro _)
          all_goals first | (with_reducible first | apply qa | apply qb | apply qc | apply qd) | (conv => whnf)
          all_goals first | ((with_reducible show ASat _ _ _ _ _); refine draw_cut tys_ok (l := [(48, ⟨[], FTClean⟩), (40, ⟨[], FTLeq⟩), (55, ⟨[], FTNarrow⟩), (90, ⟨[], FTUp⟩), (52, ⟨[], FTJoin⟩), (54, ⟨[], FTWiden⟩)]) ⟨fcTClean, fcTLeq, fcTNarrow, fcTUp, fcTJoin, fcTWiden, trivial⟩ (by kernel_rfl) (.all [(0, .all [(1, .all [(2, .all [(3, .done)])]), (2, .all [(1, .all [(3, .done)])])]), (1, .all [(0, .all [(2, .all [(3, .done)])])])]) [0, 1, 2, 3, 4, 5, 6, 8, 9, 10, 17, 25, 38] (by kernel_rfl) ?_; apply tail_intro; · (repeat' (first | exact trivial | refine ⟨?_, ?_⟩ | intro _)) <;> (first | exact rfl | omega | assumption | (dsimp only; omega))) | skip
          all_goals repeat' (first | exact trivial | refine ⟨?_, ?_⟩ | intro _)
          all_goals first | (with_reducible first | apply qa | apply qb | apply qc | apply qd) | (conv => whnf)
          all_goals first | omega | rfl | exact (hp3.2 _ ‹_›).2.1 | exact (hp3.2 _ ‹_›).2.2 | (rw [e']; done) | (rw [e']; rfl) | (simp only [Sv.again_eq, gBs_row, gN_lst]; rw [e']; done) | (simp only [Sv.again_eq, gBs_row, gN_lst]; rw [e']; rfl)
    | false =>
      cases hE : Tn.early ⟨j0, d0, t0⟩ with
      | true =>
        have yhBA := hBA
        (try rw [Sv.again_eq, Sv.again_eq, gBs_row, gBs_row] at yhBA)
        have yhE := hE
        (try rw [Sv.again_eq, Sv.again_eq, gBs_row, gBs_row] at yhE)
        have e0' : stepM ⟨j0, d0, t0⟩ (⟨⟨e1, L⟩, (⟨⟨⟨s1, l1, h1⟩, ⟨b1, m1, r1⟩⟩, ⟨z1, gN p1 fun i => [st (gT (g1 i))]⟩⟩ : Vl)⟩ : Sv) (⟨⟨e2, M⟩, (⟨⟨⟨s2, l2, h2⟩, ⟨b2, m2, r2⟩⟩, ⟨z2, gN p2 fun i => [st (gT (g2 i))]⟩⟩ : Vl)⟩ : Sv) (gL n3 f3) = (Tn.up ⟨j0, d0, t0⟩, Sv.join (Sv.clean (⟨⟨e1, L⟩, (⟨⟨⟨s1, l1, h1⟩, ⟨b1, m1, r1⟩⟩, ⟨z1, gN p1 fun i => [st (gT (g1 i))]⟩⟩ : Vl)⟩ : Sv)) (Sv.clean (⟨⟨e2, M⟩, (⟨⟨⟨s2, l2, h2⟩, ⟨b2, m2, r2⟩⟩, ⟨z2, gN p2 fun i => [st (gT (g2 i))]⟩⟩ : Vl)⟩ : Sv))) := by unfold stepM; rw [if_neg (by rw [yhBA]; decide), if_pos hE]
        have e' : stepM ⟨j0, d0, t0⟩ (⟨⟨e1, L⟩, ⟨⟨⟨s1, l1, h1⟩, ⟨b1, m1, r1⟩⟩, ⟨z1, gN p1 g1⟩⟩⟩ : Sv) (⟨⟨e2, M⟩, ⟨⟨⟨s2, l2, h2⟩, ⟨b2, m2, r2⟩⟩, ⟨z2, gN p2 g2⟩⟩⟩ : Sv) (gL n3 f3) = (Tn.up ⟨j0, d0, t0⟩, Sv.join (Sv.clean (⟨⟨e1, L⟩, (⟨⟨⟨s1, l1, h1⟩, ⟨b1, m1, r1⟩⟩, ⟨z1, gN p1 fun i => [st (gT (g1 i))]⟩⟩ : Vl)⟩ : Sv)) (Sv.clean (⟨⟨e2, M⟩, (⟨⟨⟨s2, l2, h2⟩, ⟨b2, m2, r2⟩⟩, ⟨z2, gN p2 fun i => [st (gT (g2 i))]⟩⟩ : Vl)⟩ : Sv))) := e0'
        repeat' (first | exact trivial | (with_reducible first | exact cS | exact cU | exact cA | exact cB | exact cJ | exact cR | exact pAB.r | exact pAB.q | exact qAB | exact pAJ.r | exact pAJ.q | exact qAJ | exact hp3 | exact hp0 | exact hp0.1 | exact hp0.2 | exact (fun h => absurd (hBA.symm.trans h) (by decide)) | exact (fun h => absurd (hE.symm.trans h) (by decide))) | refine ⟨?_, ?_⟩ | intro _)
        all_goals first | (with_reducible first | apply qa | apply qb | apply qc | apply qd) | (conv => whnf)
        all_goals first | ((with_reducible show ASat _ _ _ _ _); refine draw_cut tys_ok (l := [(48, ⟨[], FTClean⟩), (40, ⟨[], FTLeq⟩), (55, ⟨[], FTNarrow⟩), (90, ⟨[], FTUp⟩), (52, ⟨[], FTJoin⟩), (54, ⟨[], FTWiden⟩)]) ⟨fcTClean, fcTLeq, fcTNarrow, fcTUp, fcTJoin, fcTWiden, trivial⟩ (by kernel_rfl) (.all [(0, .all [(1, .all [(2, .all [(3, .done)])]), (2, .all [(1, .all [(3, .done)])])]), (1, .all [(0, .all [(2, .all [(3, .done)])])])]) [0, 1, 2, 3, 4, 5, 6, 8, 9, 10, 17, 25, 38] (by kernel_rfl) ?_; apply tail_intro; · (repeat' (first | exact trivial | refine ⟨?_, ?_⟩ | intro _)) <;> (first | exact rfl | omega | assumption | (dsimp only; omega))) | skip
        all_goals repeat' (first | exact trivial | refine ⟨?_, ?_⟩ | intro _)
        all_goals first | (with_reducible first | apply qa | apply qb | apply qc | apply qd) | (conv => whnf)
        all_goals first | omega | rfl | exact (hp3.2 _ ‹_›).2.1 | exact (hp3.2 _ ‹_›).2.2 | (rw [e']; done) | (rw [e']; rfl) | (simp only [Sv.again_eq, gBs_row, gN_lst]; rw [e']; done) | (simp only [Sv.again_eq, gBs_row, gN_lst]; rw [e']; rfl)
      | false =>
        have yhBA := hBA
        (try rw [Sv.again_eq, Sv.again_eq, gBs_row, gBs_row] at yhBA)
        have yhE := hE
        (try rw [Sv.again_eq, Sv.again_eq, gBs_row, gBs_row] at yhE)
        have e0' : stepM ⟨j0, d0, t0⟩ (⟨⟨e1, L⟩, (⟨⟨⟨s1, l1, h1⟩, ⟨b1, m1, r1⟩⟩, ⟨z1, gN p1 fun i => [st (gT (g1 i))]⟩⟩ : Vl)⟩ : Sv) (⟨⟨e2, M⟩, (⟨⟨⟨s2, l2, h2⟩, ⟨b2, m2, r2⟩⟩, ⟨z2, gN p2 fun i => [st (gT (g2 i))]⟩⟩ : Vl)⟩ : Sv) (gL n3 f3) = (Tn.up ⟨j0, d0, t0⟩, Sv.widen (Sv.clean (⟨⟨e1, L⟩, (⟨⟨⟨s1, l1, h1⟩, ⟨b1, m1, r1⟩⟩, ⟨z1, gN p1 fun i => [st (gT (g1 i))]⟩⟩ : Vl)⟩ : Sv)) (Sv.join (Sv.clean (⟨⟨e1, L⟩, (⟨⟨⟨s1, l1, h1⟩, ⟨b1, m1, r1⟩⟩, ⟨z1, gN p1 fun i => [st (gT (g1 i))]⟩⟩ : Vl)⟩ : Sv)) (Sv.clean (⟨⟨e2, M⟩, (⟨⟨⟨s2, l2, h2⟩, ⟨b2, m2, r2⟩⟩, ⟨z2, gN p2 fun i => [st (gT (g2 i))]⟩⟩ : Vl)⟩ : Sv))) (gL n3 f3)) := by unfold stepM; rw [if_neg (by rw [yhBA]; decide), if_neg (by rw [hE]; decide)]
        have e' : stepM ⟨j0, d0, t0⟩ (⟨⟨e1, L⟩, ⟨⟨⟨s1, l1, h1⟩, ⟨b1, m1, r1⟩⟩, ⟨z1, gN p1 g1⟩⟩⟩ : Sv) (⟨⟨e2, M⟩, ⟨⟨⟨s2, l2, h2⟩, ⟨b2, m2, r2⟩⟩, ⟨z2, gN p2 g2⟩⟩⟩ : Sv) (gL n3 f3) = (Tn.up ⟨j0, d0, t0⟩, Sv.widen (Sv.clean (⟨⟨e1, L⟩, (⟨⟨⟨s1, l1, h1⟩, ⟨b1, m1, r1⟩⟩, ⟨z1, gN p1 fun i => [st (gT (g1 i))]⟩⟩ : Vl)⟩ : Sv)) (Sv.join (Sv.clean (⟨⟨e1, L⟩, (⟨⟨⟨s1, l1, h1⟩, ⟨b1, m1, r1⟩⟩, ⟨z1, gN p1 fun i => [st (gT (g1 i))]⟩⟩ : Vl)⟩ : Sv)) (Sv.clean (⟨⟨e2, M⟩, (⟨⟨⟨s2, l2, h2⟩, ⟨b2, m2, r2⟩⟩, ⟨z2, gN p2 fun i => [st (gT (g2 i))]⟩⟩ : Vl)⟩ : Sv))) (gL n3 f3)) := e0'
        repeat' (first | exact trivial | (with_reducible first | exact cS | exact cU | exact cA | exact cB | exact cJ | exact cR | exact pAB.r | exact pAB.q | exact qAB | exact pAJ.r | exact pAJ.q | exact qAJ | exact hp3 | exact hp0 | exact hp0.1 | exact hp0.2 | exact (fun h => absurd (hBA.symm.trans h) (by decide)) | exact (fun h => absurd (hE.symm.trans h) (by decide))) | refine ⟨?_, ?_⟩ | intro _)
        all_goals first | (with_reducible first | apply qa | apply qb | apply qc | apply qd) | (conv => whnf)
        all_goals first | ((with_reducible show ASat _ _ _ _ _); refine draw_cut tys_ok (l := [(48, ⟨[], FTClean⟩), (40, ⟨[], FTLeq⟩), (55, ⟨[], FTNarrow⟩), (90, ⟨[], FTUp⟩), (52, ⟨[], FTJoin⟩), (54, ⟨[], FTWiden⟩)]) ⟨fcTClean, fcTLeq, fcTNarrow, fcTUp, fcTJoin, fcTWiden, trivial⟩ (by kernel_rfl) (.all [(0, .all [(1, .all [(2, .all [(3, .done)])]), (2, .all [(1, .all [(3, .done)])])]), (1, .all [(0, .all [(2, .all [(3, .done)])])])]) [0, 1, 2, 3, 4, 5, 6, 8, 9, 10, 17, 25, 38] (by kernel_rfl) ?_; apply tail_intro; · (repeat' (first | exact trivial | refine ⟨?_, ?_⟩ | intro _)) <;> (first | exact rfl | omega | assumption | (dsimp only; omega))) | skip
        all_goals repeat' (first | exact trivial | refine ⟨?_, ?_⟩ | intro _)
        all_goals first | (with_reducible first | apply qa | apply qb | apply qc | apply qd) | (conv => whnf)
        all_goals first | omega | rfl | exact (hp3.2 _ ‹_›).2.1 | exact (hp3.2 _ ‹_›).2.2 | (rw [e']; done) | (rw [e']; rfl) | (simp only [Sv.again_eq, gBs_row, gN_lst]; rw [e']; done) | (simp only [Sv.again_eq, gBs_row, gN_lst]; rw [e']; rfl)
  . cases h
def stepR (t : Tn) (a b : Sv) (l : List Int) : Tn × Sv :=
  if Sv.rleq b a = true then
    (if (Sv.rleq a b || decide (t.t > 1)) = true then (t, a.rclean) else (⟨t.j, true, t.t⟩, Sv.rop 2 a b []))
  else if t.j < 3 then (t.up, Sv.rop 0 a b []) else (t.up, Sv.rop 1 a (Sv.rop 0 a b []) l)
theorem Sv.fit.rop0 {N M : Nat} {a b : Sv} {l : List Int} (ha : Sv.fit N a) (hb : Sv.fit M b) (hn : (N + M) * 16 <= 140737488351232) : Sv.fit (N + M) (Sv.rop 0 a b l) := by rw [<- Sv.join_ref]; exact ha.join hb hn
theorem ecl2 (e : En) : e.clean.clean = e.clean := clean_fixE (clean_tidyE e)
theorem join_cl (a b : Sv) : Sv.join a.clean b.clean = Sv.join a b := by
  rw [Sv.join_is, Sv.join_is]
  have h1 : En.join a.e.clean b.e.clean = En.join a.e b.e := by unfold En.join; rw [ecl2, ecl2]
  have h2 : Vl.join a.v.of b.v.of = Vl.join a.v b.v := by
    rw [Vl.join_eq, Vl.join_eq, of_rclean, of_rclean]; unfold Vl.rjoin; rw [rclean2, rclean2]; simp only [Vl.rclean, cleanS_idem]
  show (⟨En.join a.e.clean b.e.clean, Vl.join a.v.of b.v.of⟩ : Sv) = _
  rw [h1, h2]
theorem vjoin_of (x y : Vl) : Vl.join x.of y.of = Vl.join x y := by
  rw [Vl.join_eq, Vl.join_eq, of_rclean, of_rclean]; unfold Vl.rjoin; rw [rclean2, rclean2]; simp only [Vl.rclean, cleanS_idem]
theorem narrow_cl (a b : Sv) : Sv.narrow a.clean b.clean = Sv.narrow a b := by
  rw [Sv.narrow_is, Sv.narrow_is]
  have h1 : En.narrow a.e.clean b.e.clean = En.narrow a.e b.e := by unfold En.narrow; rw [ecl2, ecl2]
  have h2 : Vl.narrow a.v.of b.v.of = Vl.narrow a.v b.v := by
    rw [Vl.narrow_cases, Vl.narrow_cases, Vl.of_of, Vl.of_of, Vl.leq_of]
    have : Vl.none b.v.of = Vl.none b.v := by unfold Vl.none; rw [Vl.of_of, of_null, of_names, ofS_eq, ofS_eq, cleanS_idem]
    rw [this]
  show (⟨En.narrow a.e.clean b.e.clean, Vl.narrow a.v.of b.v.of⟩ : Sv) = _
  rw [h1, h2]
theorem widen_cl (a b : Sv) (l : List Int) (he : inRE b.e) (hv : b.v.inR) : Sv.widen a.clean b l = Sv.widen a b l := by
  rw [Sv.widen_is l he hv, Sv.widen_is l he hv]
  have h1 : En.widen a.e.clean b.e l = En.widen a.e b.e l := by unfold En.widen; rw [ecl2]
  have h2 : Vl.widen a.v.of b.v l = Vl.widen a.v b.v l := by
    unfold Vl.widen; rw [Vl.of_of, of_null, of_names]; simp only [ofS_eq, cleanS_idem]
  show (⟨En.widen a.e.clean b.e l, Vl.widen a.v.of b.v l⟩ : Sv) = _
  rw [h1, h2]
theorem step_eq {N : Nat} (t : Tn) {a b : Sv} (l : List Int) (ha : Sv.fit N a) (hb : Sv.fit N b) (hN : N <= 1000000000) : stepM t a b l = stepR t a b l := by
  unfold stepM stepR
  rw [Sv.leq_clean, Sv.leq_clean, Sv.leq_eq, Sv.leq_eq, Sv.clean_eq, <- Sv.clean_eq, narrow_cl, join_cl, Sv.narrow_ref a b [], Sv.join_ref a b []]
  have hj : Sv.fit (N + N) (Sv.rop 0 a b []) := Sv.fit.rop0 ha hb (by omega)
  rw [widen_cl a (Sv.rop 0 a b []) l hj.inRE hj.inR, Sv.widen_ref l hj.inRE hj.inR]
  have e1 : decide (t.t ≥ 2) = decide (t.t > 1) := by
    by_cases h : t.t ≥ 2
    . rw [decide_eq_true h, decide_eq_true (by omega)]
    . rw [decide_eq_false h, decide_eq_false (by omega)]
  rw [e1]
  have e2 : (t.early = true) ↔ (t.j < 3) := by unfold Tn.early; exact decide_eq_true_iff
  split
  . rw [Sv.clean_eq]
  . by_cases h : t.j < 3
    . rw [if_pos (e2.2 h), if_pos h]
    . rw [if_neg (fun q => h (e2.1 q)), if_neg h]
theorem step_fit {N : Nat} (t : Tn) {a b : Sv} {l : List Int} (ha : Sv.fit N a) (hb : Sv.fit N b) (hN : N <= 1000000000) (hl : ∀ z, z ∈ l -> rI z) : Sv.fit (N + (N + N)) (stepM t a b l).2 := by
  have hA := ha.clean
  have hB := hb.clean
  unfold stepM
  split
  . split
    . exact hA.mono (by omega)
    . exact (hA.narrow hB).mono (by omega)
  . have hJ := hA.join hB (by omega)
    split
    . exact hJ.mono (by omega)
    . exact hA.widen hJ (by omega) hl
theorem stepR_fit {N : Nat} (t : Tn) {a b : Sv} {l : List Int} (ha : Sv.fit N a) (hb : Sv.fit N b) (hN : N <= 1000000000) (hl : ∀ z, z ∈ l -> rI z) : Sv.fit (N + (N + N)) (stepR t a b l).2 := by
  rw [<- step_eq t l ha hb hN]; exact step_fit t ha hb hN hl
theorem num_nleq : Vl.leq (numV 3) (numV 1) = false := by
  unfold Vl.leq; rw [num_of_i, num_of_i]; kernel_rfl
theorem mlive {f f' h : Nat -> List DV} {V W : Vl} (hV : V = numV 1) (hW : W = numV 3) : stepM ⟨0, false, 0⟩ ⟨⟨false, gBs 0 f⟩, V⟩ ⟨⟨false, gBs 0 f'⟩, W⟩ (gL 0 h) = (⟨1, false, 0⟩, ⟨⟨false, []⟩, JV⟩) := by
  subst hV; subst hW
  unfold stepM
  have e1 : Sv.leq ⟨⟨false, gBs 0 f'⟩, numV 3⟩ ⟨⟨false, gBs 0 f⟩, numV 1⟩ = false := by
    unfold Sv.leq; rw [num_nleq, Bool.and_false]
  rw [Sv.leq_clean, e1, if_neg Bool.false_ne_true, if_pos (by decide), join_cl, Sv.join_is]
  have e2 : En.join ⟨false, gBs 0 f⟩ ⟨false, gBs 0 f'⟩ = ⟨false, []⟩ := by rw [join_case]; rfl
  show (_, (⟨En.join ⟨false, gBs 0 f⟩ ⟨false, gBs 0 f'⟩, Vl.join (numV 1) (numV 3)⟩ : Sv)) = _
  rw [e2, <- vjoin_of]; rfl
theorem num_fit {f : Nat -> List DV} {V : Vl} {n : Int} (hV : V = numV n) (hn : rI n) : Sv.fit 1 ⟨⟨false, gBs 0 f⟩, V⟩ := by
  subst hV
  exact ⟨fun x hx => (by cases hx), ⟨⟨Nat.zero_le _, fun _ _ => rfl⟩, one_inR (n := n) hn⟩, Nat.zero_le _, fun x hx => (by cases hx), Nat.zero_le _⟩
def nilIp : List Nat -> List Ic -> List Ic
  | _, [] => []
  | [], x :: xs => nilI 1 x :: nilIp [] xs
  | z :: zs, x :: xs => nilI z x :: nilIp zs xs
def nilAp : List Nat -> Ar -> Ar
  | [], .c x => .c (nilI 1 x)
  | z :: _, .c x => .c (nilI z x)
  | zs, .agg xs => .agg (nilIp zs xs)
  | _, x => x
def nilP : List (List Nat) -> List Ar -> List Ar
  | _, [] => []
  | [], x :: xs => nilAp [] x :: nilP [] xs
  | z :: zs, x :: xs => nilAp z x :: nilP zs xs
def FP (zs : List (List Nat)) (F : List Ar -> Option Rs) (qs : List Ar) : Option Rs :=
  match arsRows qs with
  | [] => match F (nilP zs qs) with
    | some ⟨p, r, []⟩ => some ⟨p, r, []⟩
    | _ => none
  | _ => none
theorem nilIp_eq : ∀ (zs : List Nat) (xs : List Ic), icsEq xs (nilIp zs xs)
  | _, [] => by unfold nilIp; trivial
  | [], x :: xs => by unfold nilIp; exact ⟨nilI_eq 1 x, nilIp_eq [] xs⟩
  | z :: zs, x :: xs => by unfold nilIp; exact ⟨nilI_eq z x, nilIp_eq zs xs⟩
theorem nilAp_eq : ∀ (zs : List Nat) (x : Ar), arEq x (nilAp zs x)
  | [], .c x => nilI_eq 1 x
  | z :: _, .c x => nilI_eq z x
  | [], .agg xs => nilIp_eq [] xs
  | z :: zs, .agg xs => nilIp_eq (z :: zs) xs
  | [], .rp _ => rfl
  | _ :: _, .rp _ => rfl
  | [], .fv _ => rfl
  | _ :: _, .fv _ => rfl
theorem nilP_eq : ∀ (zs : List (List Nat)) (xs : List Ar), arsEq xs (nilP zs xs)
  | _, [] => by unfold nilP; trivial
  | [], x :: xs => by unfold nilP; exact ⟨nilAp_eq [] x, nilP_eq [] xs⟩
  | z :: zs, x :: xs => by unfold nilP; exact ⟨nilAp_eq z x, nilP_eq zs xs⟩
theorem nilI_rows (z : Nat) (x : Ic) (xs ys : List Ic) (h : icRows xs = icRows ys) : icRows (nilI z x :: xs) = icRows (x :: ys) := by
  cases x with
  | d x => simp only [nilI, icRows]; exact h
  | ow a b c => simp only [nilI, icRows]; rw [h]
theorem nilIp_rows : ∀ (zs : List Nat) (xs : List Ic), icRows (nilIp zs xs) = icRows xs
  | _, [] => by unfold nilIp; rfl
  | [], x :: xs => by unfold nilIp; exact nilI_rows 1 x _ _ (nilIp_rows [] xs)
  | z :: zs, x :: xs => by unfold nilIp; exact nilI_rows z x _ _ (nilIp_rows zs xs)
theorem nilAp_rows : ∀ (zs : List Nat) (x : Ar), arRows (nilAp zs x) = arRows x
  | [], .c x => by cases x <;> rfl
  | z :: _, .c x => by cases x <;> rfl
  | [], .agg xs => nilIp_rows [] xs
  | z :: zs, .agg xs => nilIp_rows (z :: zs) xs
  | [], .rp _ => rfl
  | _ :: _, .rp _ => rfl
  | [], .fv _ => rfl
  | _ :: _, .fv _ => rfl
theorem nilP_rows : ∀ (zs : List (List Nat)) (xs : List Ar), arsRows (nilP zs xs) = arsRows xs
  | _, [] => by unfold nilP; rfl
  | [], x :: xs => by unfold nilP; simp only [arsRows]; rw [nilAp_rows, nilP_rows [] xs]
  | z :: zs, x :: xs => by unfold nilP; simp only [arsRows]; rw [nilAp_rows, nilP_rows zs xs]
theorem fc_nilp {P : Program} {f : Nat} {F : List Ar -> Option Rs} (zs : List (List Nat)) (h : FC P f F) : FC P f (FP zs F) := by
  intro qs pre r us he hp
  unfold FP at he
  split at he
  . rename_i h0
    split at he
    . rename_i p r' hF
      cases he
      exact FCat.of_eq (nilP_eq zs qs) h0 (by rw [nilP_rows]; exact h0) (h _ _ _ _ hF hp)
    . cases he
  . cases he
abbrev zTGG : List (List Nat) := [[], [1, 9], [1, 9]]
theorem mlive2 (f f' h : Nat -> List DV) : stepM ⟨0, false, 0⟩ ⟨⟨false, gBs 0 f⟩, ⟨⟨⟨(Sp.of 1 1).some, (Sp.of 1 1).lo, (Sp.of 1 1).hi⟩, ⟨(Cg.of 0 1).some, (Cg.of 0 1).m, (Cg.of 0 1).r⟩⟩, ⟨false, []⟩⟩⟩ ⟨⟨false, gBs 0 f'⟩, ⟨⟨⟨(Sp.of 3 3).some, (Sp.of 3 3).lo, (Sp.of 3 3).hi⟩, ⟨(Cg.of 0 3).some, (Cg.of 0 3).m, (Cg.of 0 3).r⟩⟩, ⟨false, []⟩⟩⟩ (gL 0 h) = (⟨1, false, 0⟩, ⟨⟨false, []⟩, JV⟩) := mlive rfl rfl
theorem rI1 : rI 1 := by unfold rI; decide
theorem rI3 : rI 3 := by unfold rI; decide
theorem jv_names : JV.t.names = [] := by
  show ofS (ofS (numV 1).of.t.names ++ ofS (numV 3).of.t.names) = []
  rw [of_names, of_names]
  show ofS (ofS (ofS []) ++ ofS (ofS [])) = []
  rw [ofS_eq, ofS_eq, ofS_eq]; rfl
theorem jv_has : Vl.hasInt JV 1 = true /\ Vl.hasInt JV 3 = true /\ Vl.hasInt JV 4 = false := by
  unfold Vl.hasInt
  rw [jv_i]; decide
theorem jv_h1 (b : Bool) (l : List ByteArray) : Vl.hasInt ⟨⟨⟨JV.i.s.some, JV.i.s.lo, JV.i.s.hi⟩, ⟨JV.i.c.some, JV.i.c.m, JV.i.c.r⟩⟩, ⟨b, l⟩⟩ 1 = true := jv_has.1
theorem jv_h3 (b : Bool) (l : List ByteArray) : Vl.hasInt ⟨⟨⟨JV.i.s.some, JV.i.s.lo, JV.i.s.hi⟩, ⟨JV.i.c.some, JV.i.c.m, JV.i.c.r⟩⟩, ⟨b, l⟩⟩ 3 = true := jv_has.2.1
theorem jv_h4 (b : Bool) (l : List ByteArray) : Vl.hasInt ⟨⟨⟨JV.i.s.some, JV.i.s.lo, JV.i.s.hi⟩, ⟨JV.i.c.some, JV.i.c.m, JV.i.c.r⟩⟩, ⟨b, l⟩⟩ 4 = false := jv_has.2.2
def FMLives : List Ar -> Option Rs
  | [] => some ⟨True, .va (.c (.d (bo (true)))), []⟩
  | _ => none
theorem fcMLives : FC Tryz.prog 39 FMLives := by
  intro xs pre r us h hp
  unfold FMLives at h
  split at h
  . cases h
    refine fcat tys_ok (l := [(59, ⟨[], FVNum⟩), (37, ⟨[], FP zTGG FMStep⟩), (85, ⟨[], FN 1 FVHasInt⟩)]) ⟨fcVNum, fc_nilp zTGG fcMStep, fc_nil 1 fcVHasInt, trivial⟩ Tryz.func39 rfl (by kernel_rfl) true ?_
    have rows0 : RowsOk 0 fun _ => [] := ⟨fun i h => absurd h (Nat.not_lt_zero i)⟩
    repeat' (first | exact trivial | (refine ⟨1, by decide, num_fit (n := 1) rfl rI1, num_fit (n := 3) rfl rI3⟩) | (with_reducible exact rows0) | refine ⟨?_, ?_⟩ | intro _)
    all_goals first | (with_reducible first | apply qa | apply qb | apply qc | apply qd) | (conv => whnf)
    all_goals (try simp only [gN_lst, mlive2, jv_names, jv_h1, jv_h3, jv_h4] at *)
    all_goals first | omega | decide | exact rows0 | exact Nat.zero_le _ | (intro h; exact absurd h (Nat.not_lt_zero _)) | (exact absurd ‹_ < 0› (Nat.not_lt_zero _)) | (exact absurd ‹_ < List.length []› (Nat.not_lt_zero _)) | rfl | (exact absurd ‹true = false› (by decide)) | (exact absurd ‹(_ && _) = false› (by decide))
  . cases h
theorem Sv.narrow_b {a b : Sv} (h : Sv.leq b a = true) : Sv.leq b (Sv.narrow a b) = true /\ Sv.leq (Sv.narrow a b) a = true := by
  rw [Sv.narrow_is]
  have h1 := Sv.leq_and.1 h
  have e : En.leq b.e (En.narrow a.e b.e) = true /\ En.leq (En.narrow a.e b.e) a.e = true := by
    cases hb : b.e.live with
    | true => exact leqE_narrow h1.1 hb
    | false =>
      refine ⟨leqE_dead hb, leqE_dead ?_⟩
      rw [narrow_case]
      split
      . rw [if_neg (by rw [hb]; decide)]
      . show b.e.clean.live = false
        rw [clean_rclean]; exact hb
  exact ⟨Sv.leq_and.2 ⟨e.1, Vl.l3_narrow1 h1.2⟩, Sv.leq_and.2 ⟨e.2, Vl.l3_narrow2 _ _⟩⟩
theorem Sv.leq_cl2 (a b : Sv) : Sv.leq a b.clean = Sv.leq a b := by rw [<- Sv.leq_clean a b.clean, Sv.clean2, Sv.leq_clean]
theorem Sv.leq_cl1 (a b : Sv) : Sv.leq a.clean b = Sv.leq a b := by rw [<- Sv.leq_clean a.clean b, Sv.clean2, Sv.leq_clean]
theorem step_btw {N : Nat} (t : Tn) {a b : Sv} (l : List Int) (ha : Sv.fit N a) (hb : Sv.fit N b) (hN : N <= 1000000000) :
    Sv.leq b (stepM t a b l).2 = true /\ (Sv.leq b a = true -> Sv.leq (stepM t a b l).2 a = true) /\ (Sv.leq b a = false -> Sv.leq a (stepM t a b l).2 = true) := by
  have ij : Sv.fit (N + N) (Sv.join a b) := ha.join hb (by omega)
  have hw : Sv.leq (Sv.join a (Sv.join a b)) (Sv.widen a (Sv.join a b) l) = true := Sv.leq_widen ij.inRE ij.inR
  unfold stepM
  rw [Sv.leq_clean, Sv.leq_clean, narrow_cl, join_cl, widen_cl a (Sv.join a b) l ij.inRE ij.inR]
  by_cases h : Sv.leq b a = true
  . rw [if_pos h]
    split
    . refine ⟨?_, fun _ => ?_, fun q => absurd (h.symm.trans q) (by decide)⟩
      . show Sv.leq b a.clean = true
        rw [Sv.leq_cl2]; exact h
      . show Sv.leq a.clean a = true
        rw [Sv.leq_cl1]; exact Sv.leq_refl _
    . have := Sv.narrow_b h
      exact ⟨this.1, fun _ => this.2, fun q => absurd (h.symm.trans q) (by decide)⟩
  . rw [if_neg h]
    split
    . exact ⟨Sv.leq_join2 a b, fun q => absurd q h, fun _ => Sv.leq_join1 a b⟩
    . have h1 := Sv.leq_trans (Sv.leq_join1 a (Sv.join a b)) hw
      have h2 := Sv.leq_trans (Sv.leq_join2 a (Sv.join a b)) hw
      exact ⟨Sv.leq_trans (Sv.leq_join2 a b) h2, fun q => absurd q h, fun _ => h1⟩
def FMixBetween : List Ar -> Option Rs
  | [.agg [.d (.v (.int .i64 j0)), .d (.v (.bool _)), .d (.v (.int .i64 t0)), .d (.v (.bool e1)), .d (.lst 9 n1 f1), .d (.v (.bool s1)), .d (.v (.int .i64 l1)), .d (.v (.int .i64 h1)), .d (.v (.bool b1)), .d (.v (.int .i64 m1)), .d (.v (.int .i64 r1)), .d (.v (.bool z1)), .d (.lst 1 p1 g1), .d (.v (.bool e2)), .d (.lst 9 n2 f2), .d (.v (.bool s2)), .d (.v (.int .i64 l2)), .d (.v (.int .i64 h2)), .d (.v (.bool b2)), .d (.v (.int .i64 m2)), .d (.v (.int .i64 r2)), .d (.v (.bool z2)), .d (.lst 1 p2 g2), .d (.lst 1 n3 f3)]] => some ⟨((rI j0 /\ rI t0) /\ ((n1 <= 1099511627776 /\ RowsOk n1 f1) /\ ((p1 * 16 <= 140737488351232 /\ ∀ i, i < p1 -> g1 i = [st (gT (g1 i))]) /\ Sp.inR ⟨s1, l1, h1⟩ /\ Cg.inR ⟨b1, m1, r1⟩)) /\ ((n2 <= 1099511627776 /\ RowsOk n2 f2) /\ ((p2 * 16 <= 140737488351232 /\ ∀ i, i < p2 -> g2 i = [st (gT (g2 i))]) /\ Sp.inR ⟨s2, l2, h2⟩ /\ Cg.inR ⟨b2, m2, r2⟩)) /\ (n3 <= 9223372036854775807 /\ ∀ i, i < n3 -> f3 i = [it (gI (f3 i))] /\ rI (gI (f3 i))) /\ ∃ N, N <= 300000000 /\ Sv.fit N (⟨⟨e1, gBs n1 f1⟩, ⟨⟨⟨s1, l1, h1⟩, ⟨b1, m1, r1⟩⟩, ⟨z1, gN p1 g1⟩⟩⟩ : Sv) /\ Sv.fit N (⟨⟨e2, gBs n2 f2⟩, ⟨⟨⟨s2, l2, h2⟩, ⟨b2, m2, r2⟩⟩, ⟨z2, gN p2 g2⟩⟩⟩ : Sv)), .va (.c (.d (bo (true)))), []⟩
  | _ => none
theorem fcMixBetween : FC Tryz.prog 8 FMixBetween := by
  intro xs pre r us h hp
  unfold FMixBetween at h
  split at h
  . rename_i j0 d0 t0 e1 n1 f1 s1 l1 h1 b1 m1 r1 z1 p1 g1 e2 n2 f2 s2 l2 h2 b2 m2 r2 z2 p2 g2 n3 f3
    cases h
    have hp0 := hp
    refine FCat.deep (ys := [.agg [.d (.v (.int .i64 j0)), .d (.v (.bool d0)), .d (.v (.int .i64 t0)), .d (.v (.bool e1)), .d (.lst 9 n1 (rwB (gBs n1 f1))), .d (.v (.bool s1)), .d (.v (.int .i64 l1)), .d (.v (.int .i64 h1)), .d (.v (.bool b1)), .d (.v (.int .i64 m1)), .d (.v (.int .i64 r1)), .d (.v (.bool z1)), .d (.lst 1 p1 fun i => [st (gT (g1 i))]), .d (.v (.bool e2)), .d (.lst 9 n2 (rwB (gBs n2 f2))), .d (.v (.bool s2)), .d (.v (.int .i64 l2)), .d (.v (.int .i64 h2)), .d (.v (.bool b2)), .d (.v (.int .i64 m2)), .d (.v (.int .i64 r2)), .d (.v (.bool z2)), .d (.lst 1 p2 fun i => [st (gT (g2 i))]), .d (.lst 1 n3 fun i => [it (gI (f3 i))])]]) ?_ ?_
    . repeat' (first | exact trivial | exact rfl | exact DvE.refl _ | refine ⟨?_, ?_⟩ | fail)
      all_goals first | first | exact canonB hp0.2.1.1.2.h | exact canonB hp0.2.2.1.1.2.h | (exact .rows fun i hi => by rw [hp0.2.1.2.1.2 i hi]; exact ⟨rfl, fun j a b ha hb => by have hb : [st (gT (g1 i))][j]? = some b := hb; rw [ha] at hb; cases hb; exact .refl _⟩) | (exact .rows fun i hi => by rw [hp0.2.2.1.2.1.2 i hi]; exact ⟨rfl, fun j a b ha hb => by have hb : [st (gT (g2 i))][j]? = some b := hb; rw [ha] at hb; cases hb; exact .refl _⟩) | (exact .rows fun i hi => by rw [(hp0.2.2.2.1.2 i hi).1]; exact ⟨rfl, fun j a b ha hb => by have hb : [it (gI (f3 i))][j]? = some b := hb; rw [ha] at hb; cases hb; exact .refl _⟩)
    refine fcat tys_ok (l := [(37, ⟨[], FMStep⟩), (40, ⟨[], FTLeq⟩), (39, ⟨[], FMLives⟩)]) ⟨fcMStep, fcTLeq, fcMLives, trivial⟩ Tryz.func8 rfl (by kernel_rfl) true ?_
    obtain ⟨hT, hG1, hG2, hLd, N, hN, hfa, hfb⟩ := hp0
    have hp0 := hT
    have hp1 := hG1
    have hp2 := hG2
    have hp3 : n3 <= 9223372036854775807 /\ ∀ i, i < n3 -> (fun i => [it (gI (f3 i))]) i = [it (gI ((fun i => [it (gI (f3 i))]) i))] /\ rI (gI ((fun i => [it (gI (f3 i))]) i)) := ⟨hLd.1, fun i hi => ⟨rfl, (hLd.2 i hi).2⟩⟩
    unfold rI at hp0
    have hA1 := hp1.1
    have hV1 := hp1.2
    have hvR1 := hV1.2
    simp only [Sp.inR, Cg.inR] at hvR1
    have hL1 := okL_rows hA1.2
    have hn1 := hA1.1
    have hlen1 := gBs_length n1 f1
    generalize gBs n1 f1 = L at *
    clear hA1 hp1
    subst hlen1
    have hrow1 := okL_row hL1
    have hvok1 : okV (⟨⟨⟨s1, l1, h1⟩, ⟨b1, m1, r1⟩⟩, ⟨z1, gN p1 fun i => [st (gT (g1 i))]⟩⟩ : Vl) := ⟨⟨(by rw [gN_length]; exact hV1.1.1), fun _ _ => rfl⟩, hV1.2⟩
    have hcr1 := okL_row (clean_ok (e := ⟨e1, L⟩) hL1)
    have hcl1 : (En.clean ⟨e1, L⟩).binds.length <= L.length := clean_len ⟨e1, L⟩
    have hA2 := hp2.1
    have hV2 := hp2.2
    have hvR2 := hV2.2
    simp only [Sp.inR, Cg.inR] at hvR2
    have hL2 := okL_rows hA2.2
    have hn2 := hA2.1
    have hlen2 := gBs_length n2 f2
    generalize gBs n2 f2 = M at *
    clear hA2 hp2
    subst hlen2
    have hrow2 := okL_row hL2
    have hvok2 : okV (⟨⟨⟨s2, l2, h2⟩, ⟨b2, m2, r2⟩⟩, ⟨z2, gN p2 fun i => [st (gT (g2 i))]⟩⟩ : Vl) := ⟨⟨(by rw [gN_length]; exact hV2.1.1), fun _ _ => rfl⟩, hV2.2⟩
    have hcr2 := okL_row (clean_ok (e := ⟨e2, M⟩) hL2)
    have hcl2 : (En.clean ⟨e2, M⟩).binds.length <= M.length := clean_len ⟨e2, M⟩
    have hlad : ∀ z, z ∈ (gL n3 fun i => [it (gI (f3 i))]) -> rI z := fun z hz => gL_r hp3.2 z hz
    have oS : Sv.fit (N) (⟨⟨e1, gBs L.length (rwB L)⟩, (⟨⟨⟨s1, l1, h1⟩, ⟨b1, m1, r1⟩⟩, ⟨z1, gN p1 fun i => [st (gT (g1 i))]⟩⟩ : Vl)⟩ : Sv) := by rw [gBs_row]; exact hfa
    have cS : ((L).length <= 1099511627776 /\ RowsOk (L).length (rwB L)) /\ ((p1 * 16 <= 140737488351232 /\ ∀ i, i < p1 -> [st (gT (g1 i))] = [st (gT [st (gT (g1 i))])]) /\ Sp.inR ⟨s1, l1, h1⟩ /\ Cg.inR ⟨b1, m1, r1⟩) := ⟨⟨hn1, hrow1⟩, ⟨⟨hV1.1.1, fun _ _ => rfl⟩, hV1.2⟩⟩
    have oU : Sv.fit (N) (⟨⟨e2, gBs M.length (rwB M)⟩, (⟨⟨⟨s2, l2, h2⟩, ⟨b2, m2, r2⟩⟩, ⟨z2, gN p2 fun i => [st (gT (g2 i))]⟩⟩ : Vl)⟩ : Sv) := by rw [gBs_row]; exact hfb
    have cU : ((M).length <= 1099511627776 /\ RowsOk (M).length (rwB M)) /\ ((p2 * 16 <= 140737488351232 /\ ∀ i, i < p2 -> [st (gT (g2 i))] = [st (gT [st (gT (g2 i))])]) /\ Sp.inR ⟨s2, l2, h2⟩ /\ Cg.inR ⟨b2, m2, r2⟩) := ⟨⟨hn2, hrow2⟩, ⟨⟨hV2.1.1, fun _ _ => rfl⟩, hV2.2⟩⟩
    have oX : Sv.fit (N + (N + N)) (Sv.again ((stepM ⟨j0, d0, t0⟩ (⟨⟨e1, gBs L.length (rwB L)⟩, (⟨⟨⟨s1, l1, h1⟩, ⟨b1, m1, r1⟩⟩, ⟨z1, gN p1 fun i => [st (gT (g1 i))]⟩⟩ : Vl)⟩ : Sv) (⟨⟨e2, gBs M.length (rwB M)⟩, (⟨⟨⟨s2, l2, h2⟩, ⟨b2, m2, r2⟩⟩, ⟨z2, gN p2 fun i => [st (gT (g2 i))]⟩⟩ : Vl)⟩ : Sv) (gL n3 fun i => [it (gI (f3 i))])).2)) := (step_fit ⟨j0, d0, t0⟩ oS oU (by omega) hlad).ag
    have cX := Sv.fit.cond (s := (stepM ⟨j0, d0, t0⟩ (⟨⟨e1, gBs L.length (rwB L)⟩, (⟨⟨⟨s1, l1, h1⟩, ⟨b1, m1, r1⟩⟩, ⟨z1, gN p1 fun i => [st (gT (g1 i))]⟩⟩ : Vl)⟩ : Sv) (⟨⟨e2, gBs M.length (rwB M)⟩, (⟨⟨⟨s2, l2, h2⟩, ⟨b2, m2, r2⟩⟩, ⟨z2, gN p2 fun i => [st (gT (g2 i))]⟩⟩ : Vl)⟩ : Sv) (gL n3 fun i => [it (gI (f3 i))])).2) (by have := oX; rw [Sv.again_eq] at this; exact this) (by omega)
    have oY : Sv.fit (N + (N + N)) (Sv.again ((stepR ⟨j0, d0, t0⟩ (⟨⟨e1, gBs L.length (rwB L)⟩, (⟨⟨⟨s1, l1, h1⟩, ⟨b1, m1, r1⟩⟩, ⟨z1, gN p1 fun i => [st (gT (g1 i))]⟩⟩ : Vl)⟩ : Sv) (⟨⟨e2, gBs M.length (rwB M)⟩, (⟨⟨⟨s2, l2, h2⟩, ⟨b2, m2, r2⟩⟩, ⟨z2, gN p2 fun i => [st (gT (g2 i))]⟩⟩ : Vl)⟩ : Sv) (gL n3 fun i => [it (gI (f3 i))])).2)) := (stepR_fit ⟨j0, d0, t0⟩ oS oU (by omega) hlad).ag
    have cY := Sv.fit.cond (s := (stepR ⟨j0, d0, t0⟩ (⟨⟨e1, gBs L.length (rwB L)⟩, (⟨⟨⟨s1, l1, h1⟩, ⟨b1, m1, r1⟩⟩, ⟨z1, gN p1 fun i => [st (gT (g1 i))]⟩⟩ : Vl)⟩ : Sv) (⟨⟨e2, gBs M.length (rwB M)⟩, (⟨⟨⟨s2, l2, h2⟩, ⟨b2, m2, r2⟩⟩, ⟨z2, gN p2 fun i => [st (gT (g2 i))]⟩⟩ : Vl)⟩ : Sv) (gL n3 fun i => [it (gI (f3 i))])).2) (by have := oY; rw [Sv.again_eq] at this; exact this) (by omega)
    have pSU := Sv.fit.pair oS oU (by omega)
    have qSU : L.length + M.length <= 1099511627776 := by have := pSU.s; simpa only [gBs_length] using this
    have hSU : ∃ N, N <= 1000000000 /\ Sv.fit N (⟨⟨e1, gBs L.length (rwB L)⟩, (⟨⟨⟨s1, l1, h1⟩, ⟨b1, m1, r1⟩⟩, ⟨z1, gN p1 fun i => [st (gT (g1 i))]⟩⟩ : Vl)⟩ : Sv) /\ Sv.fit N (⟨⟨e2, gBs M.length (rwB M)⟩, (⟨⟨⟨s2, l2, h2⟩, ⟨b2, m2, r2⟩⟩, ⟨z2, gN p2 fun i => [st (gT (g2 i))]⟩⟩ : Vl)⟩ : Sv) := ⟨N, by omega, oS, oU⟩
    have hst := step_eq ⟨j0, d0, t0⟩ (gL n3 fun i => [it (gI (f3 i))]) oS oU (by omega)
    have hbt := step_btw ⟨j0, d0, t0⟩ (gL n3 fun i => [it (gI (f3 i))]) oS oU (by omega)
    have hb1 : (!Sv.leq (⟨⟨e2, gBs M.length (rwB M)⟩, (⟨⟨⟨s2, l2, h2⟩, ⟨b2, m2, r2⟩⟩, ⟨z2, gN p2 fun i => [st (gT (g2 i))]⟩⟩ : Vl)⟩ : Sv) (Sv.again ((stepM ⟨j0, d0, t0⟩ (⟨⟨e1, gBs L.length (rwB L)⟩, (⟨⟨⟨s1, l1, h1⟩, ⟨b1, m1, r1⟩⟩, ⟨z1, gN p1 fun i => [st (gT (g1 i))]⟩⟩ : Vl)⟩ : Sv) (⟨⟨e2, gBs M.length (rwB M)⟩, (⟨⟨⟨s2, l2, h2⟩, ⟨b2, m2, r2⟩⟩, ⟨z2, gN p2 fun i => [st (gT (g2 i))]⟩⟩ : Vl)⟩ : Sv) (gL n3 fun i => [it (gI (f3 i))])).2))) = false := by rw [Sv.again_eq, hbt.1]; rfl
    have hb2 : Sv.leq (⟨⟨e2, gBs M.length (rwB M)⟩, (⟨⟨⟨s2, l2, h2⟩, ⟨b2, m2, r2⟩⟩, ⟨z2, gN p2 fun i => [st (gT (g2 i))]⟩⟩ : Vl)⟩ : Sv) (⟨⟨e1, gBs L.length (rwB L)⟩, (⟨⟨⟨s1, l1, h1⟩, ⟨b1, m1, r1⟩⟩, ⟨z1, gN p1 fun i => [st (gT (g1 i))]⟩⟩ : Vl)⟩ : Sv) = true -> Sv.leq (Sv.again ((stepM ⟨j0, d0, t0⟩ (⟨⟨e1, gBs L.length (rwB L)⟩, (⟨⟨⟨s1, l1, h1⟩, ⟨b1, m1, r1⟩⟩, ⟨z1, gN p1 fun i => [st (gT (g1 i))]⟩⟩ : Vl)⟩ : Sv) (⟨⟨e2, gBs M.length (rwB M)⟩, (⟨⟨⟨s2, l2, h2⟩, ⟨b2, m2, r2⟩⟩, ⟨z2, gN p2 fun i => [st (gT (g2 i))]⟩⟩ : Vl)⟩ : Sv) (gL n3 fun i => [it (gI (f3 i))])).2)) (⟨⟨e1, gBs L.length (rwB L)⟩, (⟨⟨⟨s1, l1, h1⟩, ⟨b1, m1, r1⟩⟩, ⟨z1, gN p1 fun i => [st (gT (g1 i))]⟩⟩ : Vl)⟩ : Sv) = true := fun h => by rw [Sv.again_eq]; exact hbt.2.1 h
    have hb3 : Sv.leq (⟨⟨e2, gBs M.length (rwB M)⟩, (⟨⟨⟨s2, l2, h2⟩, ⟨b2, m2, r2⟩⟩, ⟨z2, gN p2 fun i => [st (gT (g2 i))]⟩⟩ : Vl)⟩ : Sv) (⟨⟨e1, gBs L.length (rwB L)⟩, (⟨⟨⟨s1, l1, h1⟩, ⟨b1, m1, r1⟩⟩, ⟨z1, gN p1 fun i => [st (gT (g1 i))]⟩⟩ : Vl)⟩ : Sv) = false -> Sv.leq (⟨⟨e1, gBs L.length (rwB L)⟩, (⟨⟨⟨s1, l1, h1⟩, ⟨b1, m1, r1⟩⟩, ⟨z1, gN p1 fun i => [st (gT (g1 i))]⟩⟩ : Vl)⟩ : Sv) (Sv.again ((stepM ⟨j0, d0, t0⟩ (⟨⟨e1, gBs L.length (rwB L)⟩, (⟨⟨⟨s1, l1, h1⟩, ⟨b1, m1, r1⟩⟩, ⟨z1, gN p1 fun i => [st (gT (g1 i))]⟩⟩ : Vl)⟩ : Sv) (⟨⟨e2, gBs M.length (rwB M)⟩, (⟨⟨⟨s2, l2, h2⟩, ⟨b2, m2, r2⟩⟩, ⟨z2, gN p2 fun i => [st (gT (g2 i))]⟩⟩ : Vl)⟩ : Sv) (gL n3 fun i => [it (gI (f3 i))])).2)) = true := fun h => by rw [Sv.again_eq]; exact hbt.2.2 h
    clear hbt
    cases hq : Sv.leq (⟨⟨e2, gBs M.length (rwB M)⟩, (⟨⟨⟨s2, l2, h2⟩, ⟨b2, m2, r2⟩⟩, ⟨z2, gN p2 fun i => [st (gT (g2 i))]⟩⟩ : Vl)⟩ : Sv) (⟨⟨e1, gBs L.length (rwB L)⟩, (⟨⟨⟨s1, l1, h1⟩, ⟨b1, m1, r1⟩⟩, ⟨z1, gN p1 fun i => [st (gT (g1 i))]⟩⟩ : Vl)⟩ : Sv) with
    | true =>
      have hq1 := hb2 hq
      repeat' (first | exact trivial | (with_reducible first | exact cS | exact cU | exact cX | exact cY | exact pSU.r | exact pSU.q | exact qSU | exact hSU | exact hp3 | exact hp0 | exact hp0.1 | exact hp0.2 | exact (fun h => absurd (hb1.symm.trans h) (by decide)) | exact (fun h => absurd (hq.symm.trans h) (by decide)) | exact (fun h => absurd (hq1.symm.trans h) (by decide))) | refine ⟨?_, ?_⟩ | intro _)
      all_goals first | (with_reducible first | apply qa | apply qb | apply qc | apply qd) | (conv => whnf)
      all_goals first | ((with_reducible show ASat _ _ _ _ _); refine draw_sto tys_ok (l := [(37, ⟨[], FMStep⟩), (40, ⟨[], FTLeq⟩), (39, ⟨[], FMLives⟩)]) ⟨fcMStep, fcTLeq, fcMLives, trivial⟩ (by kernel_rfl) 8 [] (.all [(8, .take 9 (.take 10 (.take 11 (.all [(12, .all [(13, .all [(14, .all [(15, .done)])])]), (13, .all [(12, .all [(14, .all [(15, .done)])])])])))), (12, .all [(8, .take 9 (.take 10 (.take 11 (.all [(13, .all [(14, .all [(15, .done)])])])))), (13, .all [(8, .take 9 (.take 10 (.take 11 (.all [(14, .all [(15, .done)])]))))])]), (13, .all [(8, .take 9 (.take 10 (.take 11 (.all [(12, .all [(14, .all [(15, .done)])])])))), (12, .all [(8, .take 9 (.take 10 (.take 11 (.all [(14, .all [(15, .done)])]))))])])]) [0, 1, 2, 4, 21, 26] (by kernel_rfl) (by kernel_rfl) ?_) | ((with_reducible show ASat _ _ _ _ _); refine draw_sto tys_ok (l := [(37, ⟨[], FMStep⟩), (40, ⟨[], FTLeq⟩), (39, ⟨[], FMLives⟩)]) ⟨fcMStep, fcTLeq, fcMLives, trivial⟩ (by kernel_rfl) 3 [] (.all [(3, .all [(4, .done)])]) [0, 1, 2, 4, 21, 26] (by kernel_rfl) (by kernel_rfl) ?_) | skip
      all_goals repeat' (first | exact trivial | (with_reducible first | exact cS | exact cU | exact cX | exact cY | exact pSU.r | exact pSU.q | exact qSU | exact hSU | exact hp3 | exact hp0 | exact hp0.1 | exact hp0.2 | exact (fun h => absurd (hb1.symm.trans h) (by decide)) | exact (fun h => absurd (hq.symm.trans h) (by decide)) | exact (fun h => absurd (hq1.symm.trans h) (by decide))) | refine ⟨?_, ?_⟩ | intro _)
      all_goals first | (with_reducible first | apply qa | apply qb | apply qc | apply qd) | (conv => whnf)
      all_goals first | ((with_reducible show Tl _ _); apply tl_intro; · (repeat' (first | exact trivial | refine ⟨?_, ?_⟩ | intro _)) <;> (first | exact rfl | omega | assumption | (dsimp only; omega))) | skip
      all_goals repeat' (first | exact trivial | (with_reducible first | exact cS | exact cU | exact cX | exact cY | exact pSU.r | exact pSU.q | exact qSU | exact hSU | exact hp3 | exact hp0 | exact hp0.1 | exact hp0.2 | exact (fun h => absurd (hb1.symm.trans h) (by decide)) | exact (fun h => absurd (hq.symm.trans h) (by decide)) | exact (fun h => absurd (hq1.symm.trans h) (by decide))) | refine ⟨?_, ?_⟩ | intro _)
      all_goals first | (with_reducible first | apply qa | apply qb | apply qc | apply qd) | (conv => whnf)
      all_goals first | exact hrow1 | exact hn1 | exact hV1.1.1 | exact hvR1.1.1 | exact hvR1.1.2 | exact hvR1.2.1 | exact hvR1.2.2 | exact hcr1 | exact hrow2 | exact hn2 | exact hV2.1.1 | exact hvR2.1.1 | exact hvR2.1.2 | exact hvR2.2.1 | exact hvR2.2.2 | exact hcr2 | exact (hp3.2 _ ‹_›).1 | exact (hp3.2 _ ‹_›).2 | exact (hp3.2 _ ‹_›).2.1 | exact (hp3.2 _ ‹_›).2.2 | omega | (intro i hi; rfl) | rfl | (exact absurd ‹true = false› (by decide)) | (exfalso; have hq := ‹(_ && _) = false›; rw [hst] at hq; simp at hq; done)
    | false =>
      have hq1 := hb3 hq
      repeat' (first | exact trivial | (with_reducible first | exact cS | exact cU | exact cX | exact cY | exact pSU.r | exact pSU.q | exact qSU | exact hSU | exact hp3 | exact hp0 | exact hp0.1 | exact hp0.2 | exact (fun h => absurd (hb1.symm.trans h) (by decide)) | exact (fun h => absurd (hq.symm.trans h) (by decide)) | exact (fun h => absurd (hq1.symm.trans h) (by decide))) | refine ⟨?_, ?_⟩ | intro _)
      all_goals first | (with_reducible first | apply qa | apply qb | apply qc | apply qd) | (conv => whnf)
      all_goals first | ((with_reducible show ASat _ _ _ _ _); refine draw_sto tys_ok (l := [(37, ⟨[], FMStep⟩), (40, ⟨[], FTLeq⟩), (39, ⟨[], FMLives⟩)]) ⟨fcMStep, fcTLeq, fcMLives, trivial⟩ (by kernel_rfl) 8 [] (.all [(8, .take 9 (.take 10 (.take 11 (.all [(12, .all [(13, .all [(14, .all [(15, .done)])])]), (13, .all [(12, .all [(14, .all [(15, .done)])])])])))), (12, .all [(8, .take 9 (.take 10 (.take 11 (.all [(13, .all [(14, .all [(15, .done)])])])))), (13, .all [(8, .take 9 (.take 10 (.take 11 (.all [(14, .all [(15, .done)])]))))])]), (13, .all [(8, .take 9 (.take 10 (.take 11 (.all [(12, .all [(14, .all [(15, .done)])])])))), (12, .all [(8, .take 9 (.take 10 (.take 11 (.all [(14, .all [(15, .done)])]))))])])]) [0, 1, 2, 4, 21, 26] (by kernel_rfl) (by kernel_rfl) ?_) | ((with_reducible show ASat _ _ _ _ _); refine draw_sto tys_ok (l := [(37, ⟨[], FMStep⟩), (40, ⟨[], FTLeq⟩), (39, ⟨[], FMLives⟩)]) ⟨fcMStep, fcTLeq, fcMLives, trivial⟩ (by kernel_rfl) 3 [] (.all [(3, .all [(4, .done)])]) [0, 1, 2, 4, 21, 26] (by kernel_rfl) (by kernel_rfl) ?_) | skip
      all_goals repeat' (first | exact trivial | (with_reducible first | exact cS | exact cU | exact cX | exact cY | exact pSU.r | exact pSU.q | exact qSU | exact hSU | exact hp3 | exact hp0 | exact hp0.1 | exact hp0.2 | exact (fun h => absurd (hb1.symm.trans h) (by decide)) | exact (fun h => absurd (hq.symm.trans h) (by decide)) | exact (fun h => absurd (hq1.symm.trans h) (by decide))) | refine ⟨?_, ?_⟩ | intro _)
      all_goals first | (with_reducible first | apply qa | apply qb | apply qc | apply qd) | (conv => whnf)
      all_goals first | ((with_reducible show Tl _ _); apply tl_intro; · (repeat' (first | exact trivial | refine ⟨?_, ?_⟩ | intro _)) <;> (first | exact rfl | omega | assumption | (dsimp only; omega))) | skip
      all_goals repeat' (first | exact trivial | (with_reducible first | exact cS | exact cU | exact cX | exact cY | exact pSU.r | exact pSU.q | exact qSU | exact hSU | exact hp3 | exact hp0 | exact hp0.1 | exact hp0.2 | exact (fun h => absurd (hb1.symm.trans h) (by decide)) | exact (fun h => absurd (hq.symm.trans h) (by decide)) | exact (fun h => absurd (hq1.symm.trans h) (by decide))) | refine ⟨?_, ?_⟩ | intro _)
      all_goals first | (with_reducible first | apply qa | apply qb | apply qc | apply qd) | (conv => whnf)
      all_goals first | exact hrow1 | exact hn1 | exact hV1.1.1 | exact hvR1.1.1 | exact hvR1.1.2 | exact hvR1.2.1 | exact hvR1.2.2 | exact hcr1 | exact hrow2 | exact hn2 | exact hV2.1.1 | exact hvR2.1.1 | exact hvR2.1.2 | exact hvR2.2.1 | exact hvR2.2.2 | exact hcr2 | exact (hp3.2 _ ‹_›).1 | exact (hp3.2 _ ‹_›).2 | exact (hp3.2 _ ‹_›).2.1 | exact (hp3.2 _ ‹_›).2.2 | omega | (intro i hi; rfl) | rfl | (exact absurd ‹true = false› (by decide)) | (exfalso; have hq := ‹(_ && _) = false›; rw [hst] at hq; simp at hq; done)
  . cases h
end Go.Proofs.YthkknkhpfffnbaaGreat
