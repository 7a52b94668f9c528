/- Statements whose order is open, made quicker. No condition. -/
import Derived.Test.YtakcacejpbiogaaDoorTys
set_option linter.all false
namespace Go.Sx

/-! statements whose order is open: the first operations make values, in any order; what is left is stored, in some orders -/
def drawOk2 (all : List Oper) (m : Nat) : Bool :=
  let b := cloGo all []
  (List.range all.length).all fun i =>
    match all[i]? with
    | none => false
    | some o => o.after.toList.all (fun e => !Region.binds .any e || decide (e.on < i)) &&
      (List.range i).all fun j => (b.getD i 0).testBit j || decide (m ≤ j) || (decide (i < m) && match all[j]? with
        | some x => !clash all x o
        | none => false)

theorem drawOk2_spec {ops : Array Oper} {m : Nat} (h : drawOk2 ops.toList m = true) :
    (∀ i o, ops[i]? = some o → ∀ e ∈ o.after.toList, Region.binds .any e = true → e.on < i) ∧
    ∀ i j x o, ops[i]? = some o → ops[j]? = some x → j < i → j < m → Cl ops i j ∨ (i < m ∧ clash ops.toList x o = false) := by
  simp only [drawOk2, List.all_eq_true, List.mem_range, Array.length_toList] at h
  have hcl := cloGo_spec ops ops.toList [] (fun i o ho => by simpa using ho) (fun i j h => by simp at h)
  refine ⟨?_, ?_⟩
  · intro i o ho e he hb
    have hi : i < ops.size := (Array.getElem?_eq_some_iff.1 ho).1
    have := h i hi
    simp only [Array.getElem?_toList, ho, Bool.and_eq_true, List.all_eq_true] at this
    have := this.1 e he
    simpa [hb] using this
  · intro i j x o ho hx hj hjm
    have hi : i < ops.size := (Array.getElem?_eq_some_iff.1 ho).1
    have := h i hi
    simp only [Array.getElem?_toList, ho, Bool.and_eq_true, List.all_eq_true] at this
    have := this.2 j (by simpa using hj)
    simp only [hx, Bool.or_eq_true, Bool.and_eq_true, decide_eq_true_eq, Bool.not_eq_true'] at this
    rcases this with (h1 | h1) | h1
    · exact .inl (hcl i j h1)
    · omega
    · exact .inr h1

/-! states made plain: the slots that live on, the blocks that are there -/
def normH (h : List (Nat × Blk)) : Nat → List (Nat × Blk) → List (Nat × Blk)
  | 0, acc => acc
  | k + 1, acc => match lookB h k with
    | .gone => normH h k acc
    | b => normH h k ((k, b) :: acc)
def norm (live : List Nat) : St → St
  | ⟨ts, h, n, m⟩ => ⟨live.map fun t => (t, lookT ts t), normH h n [], n, m⟩

def normTs (ts : List (Nat × Tm)) : List Nat → (List (Nat × Tm) → Prop) → Prop
  | [], K => K []
  | t :: l, K => fT (lookT ts t) fun x => normTs ts l fun r => K ((t, x) :: r)
def normHs (h : List (Nat × Blk)) : Nat → List (Nat × Blk) → (List (Nat × Blk) → Prop) → Prop
  | 0, acc, K => K acc
  | k + 1, acc, K => fB (lookB h k) fun b => match b with
    | .gone => normHs h k acc K
    | .cells cs => normHs h k ((k, .cells cs) :: acc) K
    | .row a b c => normHs h k ((k, .row a b c) :: acc) K
    | .fz cs => normHs h k ((k, .fz cs) :: acc) K
    | .fzr a b c => normHs h k ((k, .fzr a b c) :: acc) K
    | .it a b => normHs h k ((k, .it a b) :: acc) K
def normK (live : List Nat) (st : St) (K : St → Prop) : Prop := match st with
  | ⟨ts, h, n, m⟩ => normTs ts live fun ts' => normHs h n [] fun h' => K ⟨ts', h', n, m⟩

theorem normTs_eq (ts : List (Nat × Tm)) : ∀ (l : List Nat) (K : List (Nat × Tm) → Prop), normTs ts l K = K (l.map fun t => (t, lookT ts t))
  | [], K => rfl
  | t :: l, K => by simp only [normTs, fT_eq, normTs_eq ts l, List.map_cons]
theorem normHs_eq (h : List (Nat × Blk)) : ∀ (n : Nat) (acc : List (Nat × Blk)) (K : List (Nat × Blk) → Prop), normHs h n acc K = K (normH h n acc)
  | 0, acc, K => rfl
  | k + 1, acc, K => by
    simp only [normHs, normH, fB_eq]
    cases lookB h k <;> simp only [normHs_eq h k]
theorem normK_eq (live : List Nat) (st : St) (K : St → Prop) : normK live st K = K (norm live st) := by
  obtain ⟨ts, h, n, m⟩ := st
  simp only [normK, norm, normTs_eq, normHs_eq]

theorem lookT_live (ts : List (Nat × Tm)) (t : Nat) : ∀ (l : List Nat), lookT (l.map fun t => (t, lookT ts t)) t = lookT ts t ∨ lookT (l.map fun t => (t, lookT ts t)) t = topT
  | [] => .inr rfl
  | u :: l => by
    simp only [List.map_cons, lookT]
    cases hu : Nat.beq u t with
    | true => left; rw [Nat.eq_of_beq_eq_true hu]
    | false => exact lookT_live ts t l
theorem lookB_normH (h : List (Nat × Blk)) (k : Nat) : ∀ (n : Nat) (acc : List (Nat × Blk)), (k < n → lookB h k ≠ .gone → lookB (normH h n acc) k = lookB h k) ∧ (n ≤ k ∨ lookB h k = .gone → lookB (normH h n acc) k = lookB acc k)
  | 0, acc => ⟨fun h => absurd h (Nat.not_lt_zero k), fun _ => rfl⟩
  | n + 1, acc => by
    simp only [normH]
    split
    · rename_i hg
      obtain ⟨h1, h2⟩ := lookB_normH h k n acc
      refine ⟨fun hk hn => h1 ?_ hn, fun hk => h2 ?_⟩
      · rcases Nat.lt_succ_iff_lt_or_eq.1 hk with h | h
        · exact h
        · subst h; exact absurd hg hn
      · rcases hk with hk | hk
        · exact .inl (by omega)
        · exact .inr hk
    · rename_i hg
      obtain ⟨h1, h2⟩ := lookB_normH h k n ((n, lookB h n) :: acc)
      refine ⟨fun hk hn => ?_, fun hk => ?_⟩
      · rcases Nat.lt_succ_iff_lt_or_eq.1 hk with h | h
        · exact h1 h hn
        · subst h; rw [h2 (.inl (Nat.le_refl _)), lookB_cons, if_pos rfl]
      · rcases hk with hk | hk
        · rw [h2 (.inl (by omega)), lookB_cons, if_neg (by omega)]
        · rw [h2 (.inr hk), lookB_cons, if_neg (fun e => by subst e; exact hg hk)]
section
variable {P : Program} {τ : Tys} {Γ : Sums} {base : Nat} {ψ ψ' : Psi} {S S' : Nat → Prop} {w w' : World} {a : Act} {st : St}
theorem Rel.norm (live : List Nat) (hr : Rel P base ψ S w st a) : Rel P base ψ S w (norm live st) a := by
  obtain ⟨ts, h, n, m⟩ := st
  have hl : ∀ k l, ψ k = some l → lookB (normH h n []) k = lookB h k := by
    intro k l hk
    have hk2 : k < n := by
      rcases Nat.lt_or_ge k n with h1 | h1
      · exact h1
      · have := hr.sim.dom k h1; rw [hk] at this; cases this
    by_cases c : lookB h k = .gone
    · rw [(lookB_normH h k n []).2 (.inr c), c]; rfl
    · exact (lookB_normH h k n []).1 hk2 c
  have hs := hr.sim
  refine ⟨hr.bas, ⟨hs.dom, fun k l hk => ?_, fun k k' b m1 m2 e1 e2 l1 l2 => ?_, fun k b m1 e1 l1 => ?_, hs.pdom, hs.sdom⟩, hr.lim, hr.defers, fun t => ?_⟩
  · show BlkRep P ψ S w (lookB (normH h n []) k) l
    rw [hl k l hk]; exact hs.blk k l hk
  · rw [show lookB (norm live ⟨ts, h, n, m⟩).heap k = lookB h k from hl k _ e1] at l1
    rw [show lookB (norm live ⟨ts, h, n, m⟩).heap k' = lookB h k' from hl k' _ e2] at l2
    exact hs.inj k k' b m1 m2 e1 e2 l1 l2
  · rw [show lookB (norm live ⟨ts, h, n, m⟩).heap k = lookB h k from hl k _ e1] at l1
    exact hs.dis k b m1 e1 l1
  · show RepT P ψ S w (lookT (live.map fun t => (t, lookT ts t)) t) _
    rcases lookT_live ts t live with e | e
    · rw [e]; exact hr.tmps t
    · rw [e]; trivial

theorem draw_head2 (hτ : TysOk P τ) (hz : ∀ t i, τ t = some i → zeroOk i.zero) (hΓ : SumsOk P Γ) {calls : Nat → List Va → St → (Tm → St → Prop) → Prop} (hcalls : CallsOk P base calls)
    {ops : Array Oper} {Q : Exit → Act → World → Prop} {n0 m : Nat} {f : Nat → St} {y : Nat → Tm} {B : Nat → Option (List Cell)} {dst : Nat → Option Tmp}
    (hm : m ≤ ops.size) (hdraw : drawOk2 ops.toList m = true) (hdst : ∀ j o, ops[j]? = some o → dst j = o.dst)
    (hw : ∀ j o, j < m → ops.toList[j]? = some o → DStep P τ Γ n0 ops.toList j o (y j) (B j) (f j) (f (j + 1))) (hid : idsBelow (f 0).heap n0 = true) (hb : base ≤ n0) {K : St → Prop}
    (htail : ∀ (listed : Array Bool) (ψ : Psi) (S : Nat → Prop) (w : World) (a : Act), listed.size = ops.size → (∀ j, listed.getD j false = decide (j < m)) → Rel P base ψ S w ⟨(f m).tmps, (f m).heap, n0 + m, (f m).lim⟩ a →
      (∀ st' ψ' S' w' a', K st' → Rel P base ψ' S' w' st' a' → Ext base ψ S w ψ' S' w' → Q .normal a' w') → wpAny P .any ops Q (ops.size - m) listed a w) :
    ∀ (fuel : Nat) (listed : Array Bool) (ψ : Psi) (S : Nat → Prop) (w : World) (a : Act), listed.size = ops.size → cntD (fun j => listed.getD j false) m + fuel = ops.size →
    (∀ j, listed.getD j false = true → j < m) → Down ops (fun j => listed.getD j false) → (∀ j, j < m → listed.getD j false = false → ψ (n0 + j) = none) →
    Rel P base ψ S w ⟨tsOf y dst (f 0).tmps (fun j => listed.getD j false) m, (f m).heap, n0 + m, (f m).lim⟩ a →
    (∀ st' ψ' S' w' a', K st' → Rel P base ψ' S' w' st' a' → Ext base ψ S w ψ' S' w' → Q .normal a' w') → wpAny P .any ops Q fuel listed a w := by
  obtain ⟨hback, hord⟩ := drawOk2_spec hdraw
  have hheap := way_heap hw (by simpa using hm) hid
  have htmps := way_tmps (dst := dst) (fun j o ho => hdst j o (by simpa using ho)) hw (by simpa using hm)
  intro fuel
  induction fuel with
  | zero =>
    intro listed ψ S w a hsz hcnt hsup hdown hun hrel hq
    have hle := cntD_le (D := fun j => listed.getD j false) m
    have hfull := cntD_full (D := fun j => listed.getD j false) m (by omega)
    rw [show 0 = ops.size - m by omega]
    refine htail listed ψ S w a hsz ?_ ?_ hq
    · intro j
      by_cases hj : j < m
      · simp only [hj, decide_true]; exact hfull j hj
      · simp only [hj, decide_false]
        cases h : listed.getD j false with
        | false => rfl
        | true => exact absurd (hsup j h) hj
    · refine ⟨hrel.bas, hrel.sim, hrel.lim, hrel.defers, fun t => ?_⟩
      have := hrel.tmps t
      rw [htmps m (Nat.le_refl _)]
      rwa [tsOf_same (D' := fun _ => true) m fun j hj _ => hfull j hj] at this
  | succ fuel ih =>
    intro listed ψ S w a hsz hcnt hsup hdown hun hrel hq
    have hle := cntD_le (D := fun j => listed.getD j false) m
    rcases Nat.lt_or_eq_of_le hle with hlt | heq
    · obtain ⟨j0, hj0, hj1, hj2⟩ := cntD_lt (D := fun j => listed.getD j false) m hlt
      have getD : ∀ j, j < ops.size → listed.getD j true = listed.getD j false := by
        intro j hj; simp [Array.getD, hsz, hj]
      have hjo : ops[j0]? = some (ops[j0]'(by omega)) := by simp <;> omega
      have hready : j0 ∈ Region.ready .any ops listed := by
        refine mem_ready.2 ⟨by rw [getD j0 (by omega)]; exact hj1, _, hjo, fun e he hbi => ?_⟩
        exact hj2 e.on (hback j0 _ hjo e (by simpa using he) hbi)
      refine ⟨fun h => by rw [h] at hready; simp at hready, ?_⟩
      intro i hi
      obtain ⟨hi1, o, ho, hi2⟩ := mem_ready.1 hi
      have hin : i < ops.size := (Array.getElem?_eq_some_iff.1 ho).1
      rw [getD i hin] at hi1
      have hcl : ∀ j, Cl ops i j → listed.getD j false = true := fun j h => h.down hdown fun o' ho' e he hbi => by
        rw [ho] at ho'; cases ho'; exact hi2 e (by simpa using he) hbi
      have him : i < m := by
        rcases Nat.lt_or_ge i m with h | h
        · exact h
        · rcases hord i j0 _ o ho hjo (by omega) hj0 with h1 | h1
          · have := hcl _ h1; simp only [this] at hj1; cases hj1
          · exact h1.1
      have hol : ops.toList[i]? = some o := by simpa using ho
      -- the slots that it reads are as in the text's order
      have reads : ∀ t, t ∈ readsOf ops.toList o → lookT (tsOf y dst (f 0).tmps (fun j => listed.getD j false) m) t = lookT (f i).tmps t := by
        intro t ht
        rw [htmps i (by omega), tsOf_cut (i := i) m (by omega), tsOf_same (D' := fun _ => true) i]
        · intro j hj hd
          have hjo' : ops[j]? = some (ops[j]'(by omega)) := by simp <;> omega
          rcases hord i j _ o ho hjo' hj (by omega) with h1 | h1
          · exact hcl j h1
          · rw [hdst j _ hjo'] at hd
            exact absurd ht ((clash_spec h1.2).1 t hd).1
        · intro j h1 h2 hd
          rcases Nat.lt_or_eq_of_le h1 with h3 | rfl
          · have hjo' : ops[j]? = some (ops[j]'(by omega)) := by simp <;> omega
            rcases hord j i o _ hjo' ho h3 him with h4 | h4
            · cases hD : listed.getD j false with
              | false => rfl
              | true =>
                have : listed.getD i false = true := h4.down hdown fun o' ho' e he hbi => hdown j o' ho' hD e he hbi
                rw [this] at hi1; cases hi1
            · rw [hdst j _ hjo'] at hd
              exact absurd ht ((clash_spec h4.2).2 t hd)
          · exact hi1
      have hD' : ∀ j, (listed.setIfInBounds i true).getD j false = (listed.getD j false || j == i) := by
        intro j
        by_cases hij : i = j
        · subst hij; simp [Array.getD, hsz, hin]
        · rw [getD_set_ne _ hij]
          have : (j == i) = false := by simp <;> omega
          simp [this]
      have adds : ∀ t, lookT (tsOf y dst (f 0).tmps (fun j => (listed.setIfInBounds i true).getD j false) m) t = if dst i = some t then y i else lookT (tsOf y dst (f 0).tmps (fun j => listed.getD j false) m) t := by
        intro t
        refine tsOf_add him hi1 hD' fun j h1 h2 hd hd' => ?_
        have hjo' : ops[j]? = some (ops[j]'(by omega)) := by simp <;> omega
        rcases hord j i o _ hjo' ho h1 him with h4 | h4
        · cases hD : listed.getD j false with
          | false => rfl
          | true =>
            have : listed.getD i false = true := h4.down hdown fun o' ho' e he hbi => hdown j o' ho' hD e he hbi
            rw [this] at hi1; cases hi1
        · rw [hdst j _ hjo'] at hd
          rw [hdst i _ ho] at hd'
          exact absurd hd ((clash_spec h4.2).1 t hd').2
      obtain ⟨hlim, hst, hstep⟩ := hw i o him hol
      have hlim' : inLim o.dst (f m).lim = true := by
        rw [(hheap m (Nat.le_refl _)).2.2.2.2.2, ← (hheap i (by omega)).2.2.2.2.2]; exact hlim
      -- on with the next ones
      have next : ∀ x, Known x (y i) → ∀ ψ' S' w' a', Rel P base ψ' S' w' ⟨putT o.dst x (tsOf y dst (f 0).tmps (fun j => listed.getD j false) m), (f m).heap, n0 + m, (f m).lim⟩ a' → Ext base ψ S w ψ' S' w' →
          (∀ k, n0 ≤ k → k < n0 + m → k ≠ n0 + i → ψ' k = ψ k) → wpAny P .any ops Q fuel (listed.setIfInBounds i true) a' w' := by
        intro x hkn ψ' S' w' a' hr he hp
        refine ih _ ψ' S' w' a' (by simp [hsz]) ?_ ?_ ?_ ?_ ?_ fun st2 ψ2 S2 w2 a2 q1 q2 q3 => hq _ _ _ _ _ q1 q2 (he.trans q3)
        · have := cntD_add (D := fun j => listed.getD j false) (D' := fun j => (listed.setIfInBounds i true).getD j false) (i := i) hi1 hD' m him
          omega
        · intro j hj
          have hj := (hD' j).symm.trans hj
          simp only [Bool.or_eq_true, beq_iff_eq] at hj
          rcases hj with hj | rfl
          · exact hsup j hj
          · exact him
        · intro j oj hoj hj e he' hbi
          have hj := (hD' j).symm.trans hj
          refine (hD' e.on).trans ?_
          simp only [Bool.or_eq_true, beq_iff_eq] at hj ⊢
          rcases hj with hj | rfl
          · exact .inl (hdown j oj hoj hj e he' hbi)
          · rw [ho] at hoj; cases hoj
            exact .inl (hi2 e (by simpa using he') hbi)
        · intro j hj hDj
          have hDj := (hD' j).symm.trans hDj
          simp only [Bool.or_eq_false_iff, beq_eq_false_iff_ne] at hDj
          rw [hp (n0 + j) (by omega) (by omega) (by omega)]
          exact hun j hj hDj.1
        · refine ⟨hr.bas, hr.sim, hr.lim, hr.defers, fun t => ?_⟩
          have := hr.tmps t
          rw [adds]
          rw [lookT_putT] at this
          rw [← hdst i o ho] at this
          by_cases hd : dst i = some t
          · rw [if_pos hd] at this ⊢; exact hkn.rep this
          · rw [if_neg hd] at this ⊢; exact this
      have guard : ∀ b, dWant ops.toList (f i) o (fun w => w = b) → Region.wanted o (yielded ops a.tmps) = b := by
        intro b hb
        refine dWant_real (P := P) (ψ := ψ) (S := S) (w := w) hb fun j want s hg hs => ?_
        rw [← reads s (by simp only [readsOf, hg, hs]; simp)]
        exact hrel.tmps s
      unfold wpOp
      rw [ho]
      simp only
      rcases hstep with ⟨h1, h2, h3⟩ | ⟨x, h1, h2, h3⟩
      · rw [if_neg (by rw [guard _ h1]; simp)]
        obtain ⟨st2, g1, g2⟩ := putK_rel (v := undef) (putK_put (x := undT) hlim') hrel rfl
        subst g1
        exact next undT (.inl h2) ψ S w _ g2 (Ext.refl _ _ _ _) fun _ _ _ _ => rfl
      · rw [if_pos (guard _ h1)]
        left
        have hev : ∀ z ∈ o.op.operands.toList, ev (f i) z = ev ⟨tsOf y dst (f 0).tmps (fun j => listed.getD j false) m, (f m).heap, n0 + m, (f m).lim⟩ z := by
          intro z hz
          cases z with
          | tmp t => exact (reads t (operand_reads hz)).symm
          | _ => rfl
        have hop := dOp_congr (st' := ⟨tsOf y dst (f 0).tmps (fun j => listed.getD j false) m, (f m).heap, n0 + m, (f m).lim⟩) hev ((hheap m (Nat.le_refl _)).2.2.1 i (by omega)) h2
        have hrel2 : Rel P (n0 + m) ψ S w ⟨tsOf y dst (f 0).tmps (fun j => listed.getD j false) m, (f m).heap, n0 + m, (f m).lim⟩ a := ⟨Nat.le_refl _, hrel.sim, hrel.lim, hrel.defers, hrel.tmps⟩
        cases hB : B i with
        | none =>
          rw [hB] at hop
          refine dOp_ok hτ hz hΓ hrel2 hlim' hop _ _ ?_
          rintro st' ψ' S' w' a' rfl g1 g2
          exact next x h3 ψ' S' w' a' ⟨by have := hb; show base ≤ n0 + m; omega, g1.sim, g1.lim, g1.defers, g1.tmps⟩ (g2.weaken (by omega)) fun k _ hk _ => g2.agr k hk
        | some cs =>
          rw [hB] at hop
          refine dOp_blk (base := base) hτ hz hrel (hun i him hi1) (by omega) (by omega) ((hheap m (Nat.le_refl _)).2.2.2.1 i cs him hB) hlim' hop _ _ ?_
          intro ψ' S' w' a' g1 g2 g3
          exact next x h3 ψ' S' w' a' g1 g2 fun k _ _ hk => g3 k hk
    · have hfull := cntD_full (D := fun j => listed.getD j false) m heq
      rw [show (fuel + 1) = ops.size - m by omega]
      refine htail listed ψ S w a hsz ?_ ?_ hq
      · intro j
        by_cases hj : j < m
        · simp only [hj, decide_true]; exact hfull j hj
        · simp only [hj, decide_false]
          cases h : listed.getD j false with
          | false => rfl
          | true => exact absurd (hsup j h) hj
      · refine ⟨hrel.bas, hrel.sim, hrel.lim, hrel.defers, fun t => ?_⟩
        have := hrel.tmps t
        rw [htmps m (Nat.le_refl _)]
        rwa [tsOf_same (D' := fun _ => true) m fun j hj _ => hfull j hj] at this

theorem draw_mix_at (hτ : TysOk P τ) (hz : ∀ t i, τ t = some i → zeroOk i.zero) (hΓ : SumsOk P Γ) {calls : Nat → List Va → St → (Tm → St → Prop) → Prop} (hcalls : CallsOk P base calls) (hmix : P.follows .mixedOrders = true)
    {ops : Array Oper} {id : Nat} {Q : Exit → Act → World → Prop} {st : St} {K : St → Prop} (hrel : Rel P base ψ S w st a) (hid : idsBelow st.heap st.next = true) {mm : Nat} (hm : mm ≤ ops.size) (hdraw : drawOk2 ops.toList mm = true) {K1 : St → Prop} (hk : dGo P τ Γ st.next (guardsOf ops.toList) ops.toList 0 (ops.toList.take mm) st fun st' => match st' with | ⟨ts, h, n, l⟩ => K1 ⟨ts, h, n + mm, l⟩)
    (htail : ∀ (listed : Array Bool) (ψ : Psi) (S : Nat → Prop) (w : World) (st1 : St) (a : Act), K1 st1 → listed.size = ops.size → (∀ j, listed.getD j false = decide (j < mm)) → Rel P base ψ S w st1 a →
      (∀ st' ψ' S' w' a', K st' → Rel P base ψ' S' w' st' a' → Ext base ψ S w ψ' S' w' → Q .normal a' w') → wpAny P .any ops Q (ops.size - mm) listed a w)
    (hq : ∀ st' ψ' S' w' a', K st' → Rel P base ψ' S' w' st' a' → Ext base ψ S w ψ' S' w' → Q .normal a' w') : (Code.region id ops true).wp P Q a w := by
  obtain ⟨f, y, B, h1, h2, h3⟩ := dGo_way _ _ _ _ hk
  have hlen : (ops.toList.take (mm)).length = mm := by simp <;> omega
  rw [hlen] at h2
  have hw : ∀ j o, j < mm → ops.toList[j]? = some o → DStep P τ Γ st.next ops.toList j o (y j) (B j) (f j) (f (j + 1)) := by
    intro j o hj ho
    have := h3 j o (by rw [List.getElem?_take]; simp [hj]; simpa using ho)
    simpa using this
  have hheap := way_heap hw (by simpa using hm) (by rw [h1]; exact hid) _ (Nat.le_refl _)
  obtain ⟨g1, g2, g3, g4, g5, g6⟩ := hheap
  refine wp_region_any hmix ?_
  obtain ⟨hrel1, hext1⟩ : Rel P base ψ S { w with drawn := w.drawn + 1 } st a ∧ Ext base ψ S w ψ S { w with drawn := w.drawn + 1 } :=
    hrel.ext0 ⟨rfl, rfl, rfl, Nat.le_refl _, fun _ _ => rfl, fun _ h => h, fun _ h => .inl h, hrel.sim.sdom⟩
  refine draw_head2 hτ hz hΓ hcalls hm hdraw (dst := fun j => (ops[j]?).bind (·.dst)) (fun j o ho => by simp [ho]) hw (by rw [h1]; exact hid) hrel.bas (K := K) ?_ ops.size _ ψ S _ a (by simp) ?_ ?_ ?_ ?_ ?_ ?_
  · intro listed ψ' S' w' a' q1 q2 q3 q4
    have e : (f (mm)).next = st.next := by rw [g5, h1]
    refine htail listed ψ' S' w' ⟨(f mm).tmps, (f mm).heap, st.next + mm, (f mm).lim⟩ a' ?_ q1 q2 q3 q4
    rw [← e]; exact h2
  · have : ∀ m, cntD (fun j => (Array.replicate ops.size false).getD j false) m = 0 := by
      intro m
      induction m with
      | zero => rfl
      | succ m ih =>
        simp only [cntD, ih]
        have : (Array.replicate ops.size false)[m]?.getD false = false := by by_cases h : m < ops.size <;> simp [h]
        simp [this]
    rw [this]; simp
  · intro j hj; simp [Array.getD] at hj
  · intro i o _ hi; simp [Array.getD] at hi
  · intro j _ _; exact hrel.sim.dom _ (by omega)
  · have hts : tsOf y (fun j => (ops[j]?).bind (·.dst)) (f 0).tmps (fun j => (Array.replicate ops.size false).getD j false) (mm) = st.tmps := by
      rw [h1]
      clear hk h2 h3 hw g1 g2 g3 g4 g5 g6
      clear hm hdraw hlen
      generalize mm = m
      induction m with
      | zero => rfl
      | succ m ih => simp only [tsOf]; have : (Array.replicate ops.size false).getD m false = false := by simp [Array.getD]
                     rw [this]; exact ih
    rw [hts, g6, h1]
    have hlook : ∀ k l, ψ k = some l → lookB (f (mm)).heap k = lookB st.heap k := by
      intro k l hk
      have : k < st.next := by
        rcases Nat.lt_or_ge k st.next with h | h
        · exact h
        · rw [hrel.sim.dom k h] at hk; cases hk
      rw [g2 k this, h1]
    have hs := hrel1.sim
    refine ⟨by have := hrel.bas; show base ≤ st.next + _; omega, ⟨fun k hk => hs.dom k (by have hk : st.next + mm ≤ k := hk; omega), fun k l hk => by rw [hlook k l hk]; exact hs.blk k l hk, fun k k' b m1 m2 e1 e2 l1 l2 => ?_, fun k b m1 e1 l1 => ?_, hs.pdom, hs.sdom⟩, hrel1.lim, hrel1.defers, hrel1.tmps⟩
    · rw [hlook _ _ e1] at l1; rw [hlook _ _ e2] at l2; exact hs.inj k k' b m1 m2 e1 e2 l1 l2
    · rw [hlook _ _ e1] at l1; exact hs.dis k b m1 e1 l1
  · intro st' ψ' S' w' a' q1 q2 q3
    exact hq _ _ _ _ _ q1 q2 (hext1.trans q3)


theorem tail_intro {F G : St → Prop} {s : St} (h1 : F s) (h2 : G s) : ∃ s, F s ∧ G s := ⟨s, h1, h2⟩
end

/-- a statement whose order is open: values first, then what is stored, by a plan whose ways all end alike -/
theorem draw_mix {P : Program} {t : TT} (ht : t.ok P) {l : List (Nat × Sm)} (hl : sumsOk P l) (hmix : P.follows .mixedOrders = true) {base : Nat} {ops : Array Oper} {id : Nat} {st : St} {Q : Exit → St → Prop} (m : Nat) (p : Plan) (live : List Nat)
    (hp : (Region.noSelect ops && Nat.ble m ops.size && drawOk2 ops.toList m && planOk ops (ops.size - m) ((List.range ops.size).map fun j => Nat.blt j m).toArray p) = true) (hid : idsBelow st.heap st.next = true)
    (hk : dGo P t.get (sums l) st.next (guardsOf ops.toList) ops.toList 0 (ops.toList.take m) st fun st' => match st' with
      | ⟨ts, h, n, lm⟩ => ∃ s, vcP P t.get (vcCall P (sums l) base) ops.toList p ⟨ts, h, n + m, lm⟩ (fun st' => normK live st' fun s' => s' = s) ∧ Q .normal s) : ASat P base (.region id ops true) st Q := by
  simp only [Bool.and_eq_true] at hp
  obtain ⟨⟨⟨hsel, hm⟩, hd⟩, hpl⟩ := hp
  have hm := Nat.le_of_ble_eq_true hm
  refine ⟨fun ψ S w a hr => ?_⟩
  have h := draw_mix_at (Q := fun e a' w' => e = .normal ∧ ∃ st' ψ' S', Q e st' ∧ Rel P base ψ' S' w' st' a' ∧ Ext base ψ S w ψ' S' w') (TT.tysOk ht) (TT.zeros ht) (sums_ok hl) (vcCall_ok (sums_ok hl) base) hmix hr hid hm hd (K := Q .normal) (id := id)
    (K1 := fun st1 => ∃ s, vcP P t.get (vcCall P (sums l) base) ops.toList p st1 (fun st' => normK live st' fun s' => s' = s) ∧ Q .normal s) hk ?_ ?_
  · exact wp_mono h fun e a' w' h => h.2
  · intro listed ψ1 S1 w1 st1 a1 hk1 hsz hls hrel hq
    obtain ⟨s, hv, hs⟩ := hk1
    have e : listed = ((List.range ops.size).map fun j => Nat.blt j m).toArray := by
      apply Array.ext
      · simp [hsz]
      · intro i h1 h2
        have := hls i
        simp only [Array.getD, h1, dite_true] at this
        simp only [List.getElem_toArray, List.getElem_map, List.getElem_range]
        rw [show listed[i] = decide (i < m) from this]
        rw [Bool.eq_iff_iff, decide_eq_true_eq, Nat.blt_eq]
    rw [← e] at hpl
    refine vcP_ok (TT.tysOk ht) (TT.zeros ht) (vcCall_ok (sums_ok hl) base) hsel (fun c a w h => by simp at h) p _ listed ψ1 S1 w1 st1 a1 _ hpl hrel hv ?_
    intro st' ψ' S' w' a' h1 h2 h3
    have h1 : normK live st' (fun s' => s' = s) := h1
    rw [normK_eq] at h1
    refine hq s ψ' S' w' a' hs ?_ h3
    rw [← h1]; exact h2.norm live
  · intro st' ψ' S' w' a' h1 h2 h3
    exact ⟨rfl, st', ψ', S', h1, h2, h3⟩

/-- by a plan alone, whose ways all end alike -/
theorem draw_cut {P : Program} {t : TT} (ht : t.ok P) {l : List (Nat × Sm)} (hl : sumsOk P l) (hmix : P.follows .mixedOrders = true) {base : Nat} {ops : Array Oper} {id : Nat} {st : St} {Q : Exit → St → Prop} (p : Plan) (live : List Nat)
    (hp : (Region.noSelect ops && planOk ops ops.size (Array.replicate ops.size false) p) = true)
    (hk : ∃ s, vcP P t.get (vcCall P (sums l) base) ops.toList p st (fun st' => normK live st' fun s' => s' = s) ∧ Q .normal s) : ASat P base (.region id ops true) st Q := by
  obtain ⟨s, hv, hs⟩ := hk
  have h : ASat P base (.region id ops true) st (fun e st' => e = .normal ∧ norm live st' = s) := by
    refine draw_plan ht hl hmix p hp ?_
    have e : (fun st' => normK live st' fun s' => s' = s) = fun st' => Exit.normal = .normal ∧ norm live st' = s := by
      funext st'; rw [normK_eq]; simp
    rw [← e]; exact hv
  refine ⟨fun ψ S w a hr => wp_mono (h.run ψ S w a hr) ?_⟩
  rintro e a' w' ⟨st', ψ', S', ⟨rfl, h1⟩, h2, h3⟩
  exact ⟨s, ψ', S', hs, by rw [← h1]; exact h2.norm live, h3⟩

/-! ways that number new blocks unlike: they are numbered anew, by the slots that point to them -/
def idxOf (k : Nat) : List Nat → List Nat → Option Nat
  | i :: l, j :: js => match Nat.beq i k with
    | true => some j
    | false => idxOf k l js
  | _, _ => none
def renCaps (js ids : List Nat) : List (Nat × Nat) → Option (List (Nat × Nat))
  | [] => some []
  | (k, o) :: l => match idxOf k ids js, renCaps js ids l with
    | some j, some r => some ((j, o) :: r)
    | _, _ => none
def renC (js ids : List Nat) (x : Cell) : Cell := match x with
  | .own k off => match idxOf k ids js with
    | some j => .own j off
    | none => .top
  | .osl k sz o len => match idxOf k ids js with
    | some j => .osl j sz o len
    | none => .top
  | .ep k sz i off => match idxOf k ids js with
    | some j => .ep j sz i off
    | none => .top
  | .fn f caps => match renCaps js ids caps with
    | some r => .fn f r
    | none => .top
  | .osc .. => .top
  | .ap .. => .top
  | x => x
def renVa (js ids : List Nat) (x : Va) : Va := match x with
  | .c x => .c (renC js ids x)
  | .agg xs => .agg (xs.map (renC js ids))
def renT (js ids : List Nat) (x : Tm) : Tm := match x with
  | .va x => .va (renVa js ids x)
  | .tup _ => topT
def renB (js ids : List Nat) (b : Blk) : Blk := match b with
  | .cells cs => .cells (cs.map (renC js ids))
  | b => b
def renTs (js ids : List Nat) (ts : List (Nat × Tm)) (l : List Nat) : List (Nat × Tm) := l.map fun t => (t, renT js ids (lookT ts t))
def renHs (js ids : List Nat) (h : List (Nat × Blk)) : List Nat → List Nat → List (Nat × Blk)
  | k :: l, j :: l' => (j, renB js ids (lookB h k)) :: renHs js ids h l l'
  | _, _ => []
def ren (live js ids : List Nat) (n1 : Nat) : St → St
  | ⟨ts, h, _, m⟩ => ⟨renTs js ids ts live, renHs js ids h ids js, n1, m⟩
def fTs : List (Nat × Tm) → (List (Nat × Tm) → Prop) → Prop
  | [], K => K []
  | (t, x) :: l, K => fT x fun x => fTs l fun r => K ((t, x) :: r)
def fBc (b : Blk) (K : Blk → Prop) : Prop := match b with
  | .cells cs => fCs cs fun cs => K (.cells cs)
  | b => fB b K
def fHs : List (Nat × Blk) → (List (Nat × Blk) → Prop) → Prop
  | [], K => K []
  | (t, x) :: l, K => fBc x fun x => fHs l fun r => K ((t, x) :: r)
def fSt (st : St) (K : St → Prop) : Prop := match st with
  | ⟨ts, h, n, m⟩ => fTs ts fun ts => fHs h fun h => K ⟨ts, h, n, m⟩
theorem fTs_eq : ∀ (l : List (Nat × Tm)) (K : List (Nat × Tm) → Prop), fTs l K = K l
  | [], _ => rfl
  | (t, x) :: l, K => by simp only [fTs, fT_eq, fTs_eq l]
theorem fBc_eq (b : Blk) (K : Blk → Prop) : fBc b K = K b := by
  cases b <;> simp only [fBc, fB_eq, fCs_eq]
theorem fHs_eq : ∀ (l : List (Nat × Blk)) (K : List (Nat × Blk) → Prop), fHs l K = K l
  | [], _ => rfl
  | (t, x) :: l, K => by simp only [fHs, fBc_eq, fHs_eq l]
theorem fSt_eq (st : St) (K : St → Prop) : fSt st K = K st := by
  obtain ⟨ts, h, n, m⟩ := st; simp only [fSt, fTs_eq, fHs_eq]
theorem idxOf_some {k : Nat} : ∀ {l js : List Nat} {i j : Nat}, idxOf k l js = some j → (∀ q, q < js.length → js[q]? = some (i + q)) → i ≤ j ∧ l[j - i]? = some k
  | [], _, _, _, h, _ => by simp [idxOf] at h
  | _ :: _, [], _, _, h, _ => by simp [idxOf] at h
  | x :: l, y :: js, i, j, h, hj => by
    simp only [idxOf] at h
    have hy : y = i := by simpa using hj 0 (by simp)
    split at h
    · rename_i e; cases h; subst hy; exact ⟨Nat.le_refl _, by simp [Nat.eq_of_beq_eq_true e]⟩
    · obtain ⟨h1, h2⟩ := idxOf_some (i := i + 1) h (fun q hq => by
        have := hj (q + 1) (by simp; omega)
        rw [List.getElem?_cons_succ] at this
        rw [this]; congr 1; omega)
      exact ⟨by omega, by rw [show j - i = (j - (i + 1)) + 1 by omega, List.getElem?_cons_succ]; exact h2⟩
def Ups (js : List Nat) : Prop := ∀ q, q < js.length → js[q]? = some q
theorem idx_at {k j : Nat} {js ids : List Nat} (hj : Ups js) (h : idxOf k ids js = some j) : ids[j]? = some k := by simpa using (idxOf_some (i := 0) h (by simpa [Ups] using hj)).2
theorem dvEq_rfl (x : DV) : dvEq x x := by cases x <;> simp [dvEq]
theorem renCaps_le {js ids : List Nat} (hj : Ups js) : ∀ {l r : List (Nat × Nat)}, renCaps js ids l = some r → capsLe ids l r
  | [], r, h => by cases h; trivial
  | (k, o) :: l, r, h => by
    simp only [renCaps] at h
    split at h
    · rename_i j r' h1 h2; cases h; exact ⟨⟨idx_at hj h1, rfl⟩, renCaps_le hj h2⟩
    · cases h
theorem cellLe_top {ids : List Nat} {nv : Nat} (x : Cell) : cellLe ids nv x .top := by cases x <;> trivial
theorem renC_le {js : List Nat} (hj : Ups js) (ids : List Nat) (x : Cell) : cellLe ids 0 x (renC js ids x) := by
  cases x with
  | own k off => simp only [renC]; split; exact ⟨idx_at hj ‹_›, rfl⟩; exact cellLe_top _
  | osl k sz o len => simp only [renC]; split; exact ⟨idx_at hj ‹_›, rfl, rfl, rfl⟩; exact cellLe_top _
  | ep k sz i off => simp only [renC]; split; exact ⟨idx_at hj ‹_›, rfl, rfl, rfl⟩; exact cellLe_top _
  | fn f caps => simp only [renC]; split; exact ⟨rfl, renCaps_le hj ‹_›⟩; exact cellLe_top _
  | osc => exact cellLe_top _
  | ap => exact cellLe_top _
  | top => trivial
  | und => trivial
  | kb b => exact rfl
  | d x => cases x <;> simp [renC, cellLe, dvEq]
  | rp cs => exact rfl
  | fv g => exact rfl
theorem renCs_le {js : List Nat} (hj : Ups js) (ids : List Nat) : ∀ (xs : List Cell), cellsLe ids 0 xs (xs.map (renC js ids))
  | [] => trivial
  | x :: xs => ⟨renC_le hj ids x, renCs_le hj ids xs⟩
theorem vaLe_top {ids : List Nat} {nv : Nat} (x : Va) : vaLe ids nv x (.c .top) := by cases x <;> trivial
theorem renVa_le {js : List Nat} (hj : Ups js) (ids : List Nat) (x : Va) : vaLe ids 0 x (renVa js ids x) := by
  cases x with
  | c x =>
    have h := renC_le hj ids x
    show vaLe ids 0 (.c x) (.c (renC js ids x))
    cases hx : renC js ids x <;> rw [hx] at h <;> first | trivial | exact h
  | agg xs => exact renCs_le hj ids xs
theorem renT_le {js : List Nat} (hj : Ups js) (ids : List Nat) (x : Tm) : tmLe ids 0 x (renT js ids x) := by
  cases x with
  | va x =>
    have h := renVa_le hj ids x
    show tmLe ids 0 (.va x) (.va (renVa js ids x))
    cases hx : renVa js ids x with
    | c y => rw [hx] at h; cases y <;> first | trivial | exact h
    | agg ys => rw [hx] at h; exact h
  | tup xs => trivial
theorem renTs_le {js : List Nat} (hj : Ups js) (ids : List Nat) (ts : List (Nat × Tm)) : ∀ (l : List Nat), tmpsLe ids 0 ts (renTs js ids ts l)
  | [] => trivial
  | t :: l => ⟨renT_le hj ids _, renTs_le hj ids ts l⟩
theorem renB_le {js : List Nat} (hj : Ups js) (ids : List Nat) (b : Blk) : blkLe ids 0 b (renB js ids b) := by
  cases b with
  | cells cs => exact renCs_le hj ids cs
  | row => exact ⟨rfl, rfl, fun _ _ => rfl⟩
  | fz => exact rfl
  | fzr => exact ⟨rfl, rfl, fun _ _ => rfl⟩
  | it => exact ⟨rfl, rfl⟩
  | gone => trivial
theorem renHs_le {js : List Nat} (hj : Ups js) (ids : List Nat) (h : List (Nat × Blk)) : ∀ (l l' : List Nat) (j : Nat), (∀ i, l[i]? = ids[j + i]?) → (∀ q, q < l'.length → l'[q]? = some (j + q)) → heapLe ids 0 h (renHs js ids h l l')
  | [], _, _, _, _ => trivial
  | _ :: _, [], _, _, _ => trivial
  | k :: l, y :: l', j, hl, hq => by
    have h0 := hl 0
    simp only [List.getElem?_cons_zero, Nat.add_zero] at h0
    have hy : y = j := by simpa using hq 0 (by simp)
    subst hy
    refine ⟨?_, renHs_le hj ids h l l' (y + 1) (fun i => ?_) (fun q hqq => ?_)⟩
    · rw [← h0]; exact renB_le hj ids _
    · have := hl (i + 1)
      rw [List.getElem?_cons_succ] at this
      rw [this]; congr 1; omega
    · have := hq (q + 1) (by simp; omega)
      rw [List.getElem?_cons_succ] at this
      rw [this]; congr 1; omega
theorem ren_le {base n1 : Nat} (live js ids : List Nat) (st : St) (h : idsOk base ids = true) (hj : Ups js) (hn : ids.length = n1) : leSt base ids 0 st (ren live js ids n1 st) := by
  obtain ⟨ts, hp, n, m⟩ := st
  exact ⟨rfl, by rw [hn]; rfl, h, renTs_le hj ids ts live, renHs_le hj ids hp ids js 0 (fun i => by rw [Nat.zero_add]) (by simpa [Ups] using hj)⟩
def oIs (ts : List (Nat × Tm)) : List Nat → List Nat
  | [] => []
  | t :: l => (match lookT ts t with
    | .va (.c (.own k _)) => k
    | .va (.c (.osl k _ _ _)) => k
    | _ => 0) :: oIs ts l
def renK (base n0 n1 : Nat) (js ps live : List Nat) (st : St) (K : St → Prop) : Prop := match st with
  | ⟨ts, h, n, m⟩ => match idsOk base (List.range n0 ++ oIs ts ps) && (decide (js = List.range n1) && Nat.beq (List.range n0 ++ oIs ts ps).length n1) with
    | true => fSt (ren live js (List.range n0 ++ oIs ts ps) n1 ⟨ts, h, n, m⟩) K
    | false => False
theorem draw_ren {P : Program} {t : TT} (ht : t.ok P) {l : List (Nat × Sm)} (hl : sumsOk P l) (hmix : P.follows .mixedOrders = true) {base : Nat} {ops : Array Oper} {id : Nat} {st : St} {Q : Exit → St → Prop} (p : Plan) (n0 n1 : Nat) (js ps live : List Nat)
    (hp : (Region.noSelect ops && planOk ops ops.size (Array.replicate ops.size false) p) = true)
    (hk : ∃ s, vcP P t.get (vcCall P (sums l) base) ops.toList p st (fun st' => renK base n0 n1 js ps live st' fun s' => s' = s) ∧ Q .normal s) : ASat P base (.region id ops true) st Q := by
  obtain ⟨s, hv, hs⟩ := hk
  have h : ASat P base (.region id ops true) st (fun e st' => match e with | .normal => renK base n0 n1 js ps live st' fun s' => s' = s | _ => False) := draw_plan ht hl hmix p hp hv
  refine ⟨fun ψ S w a hr => wp_mono (h.run ψ S w a hr) ?_⟩
  rintro e a' w' ⟨st', ψ', S', h1, h2, h3⟩
  cases e with
  | normal =>
    obtain ⟨ts, hh, n, m⟩ := st'
    have h1 : (match idsOk base (List.range n0 ++ oIs ts ps) && (decide (js = List.range n1) && Nat.beq (List.range n0 ++ oIs ts ps).length n1) with
      | true => fSt (ren live js (List.range n0 ++ oIs ts ps) n1 ⟨ts, hh, n, m⟩) fun s' => s' = s
      | false => False) := h1
    split at h1
    · rename_i hid
      rw [fSt_eq] at h1
      simp only [Bool.and_eq_true, decide_eq_true_eq] at hid
      obtain ⟨hid, hjs, hnn⟩ := hid
      obtain ⟨g1, g2⟩ := h2.le (ren_le (n1 := n1) live js _ _ hid (by rw [hjs]; intro q hq; simp at hq; simp [hq]) (Nat.eq_of_beq_eq_true hnn))
      rw [h1] at g1
      exact ⟨s, _, S', hs, g1, h3.trans g2⟩
    · exact h1.elim
  | _ => exact h1.elim

end Go.Sx
