/- Statements whose order is open, by one order. No condition. -/
import Derived.Test.YtbjfogojoalnpaaGreatS7
set_option linter.all false
set_option maxHeartbeats 8000000
set_option maxRecDepth 100000
namespace Go.Sx
structure Sub (st st' : St) : Prop where
 nx : st'.next = st.next
 lm : st'.lim = st.lim
 ts : ∀ t, lookT st'.tmps t = lookT st.tmps t \/ lookT st'.tmps t = topT
 hp : ∀ k, lookB st'.heap k = lookB st.heap k \/ lookB st'.heap k = .gone
def backF (ids : List Nat) (n : Nat) (h1 h : List (Nat × Blk)) : List (Nat × Blk) := h1.map (fun p => (backN ids ids.length n p.1, fmB (backN ids ids.length n) p.2)) ++ h.filter fun p => !ids.contains p.1
theorem lookB_filter {ids : List Nat} {k : Nat} : ∀ (h : List (Nat × Blk)), lookB (h.filter fun p => !ids.contains p.1) k = lookB (ids.map (fun k => (k, Blk.gone)) ++ h) k
 | [] => by
   by_cases hk : k ∈ ids
   . rw [lookB_gone hk]; rfl
   . rw [lookB_rest hk]; rfl
 | (i, b) :: h => by
   by_cases hk : k ∈ ids
   . rw [lookB_gone hk]
     have ih := lookB_filter (ids := ids) (k := k) h
     rw [lookB_gone hk] at ih
     rw [List.filter_cons]
     split
     . rename_i hi
       rw [lookB_cons, if_neg]
       . exact ih
       . rintro rfl; simp [hk] at hi
     . exact ih
   . rw [lookB_rest hk, lookB_cons]
     have ih := lookB_filter (ids := ids) (k := k) h
     rw [lookB_rest hk] at ih
     rw [List.filter_cons]
     split
     . rw [lookB_cons, ih]
     . rename_i hi
       have hi : i ∈ ids := by simpa using hi
       rw [if_neg (fun e : i = k => hk (e ▸ hi)), ih]
theorem lookB_pre {a b b' : List (Nat × Blk)} {k : Nat} (h : lookB b k = lookB b' k) : lookB (a ++ b) k = lookB (a ++ b') k := by
 induction a with
 | nil => exact h
 | cons p a ih => obtain ⟨i, x⟩ := p; rw [List.cons_append, List.cons_append, lookB_cons, lookB_cons, ih]
theorem backF_eq {ids : List Nat} {n k : Nat} {h1 h : List (Nat × Blk)} : lookB (backF ids n h1 h) k = lookB (backH (backN ids ids.length n) h1 ids h) k := lookB_pre (lookB_filter h)
section
variable {P : Program} {τ : Tys} {base : Nat} {ψ : Psi} {S : Nat → Prop} {w : World} {a : Act} {ops : Array Oper} {Q : Exit → Act → World → Prop}
theorem Rel.sub {st st' : St} (hs : Sub st st') (hr : Rel P base ψ S w st a) : Rel P base ψ S w st' a := by
 have lv : ∀ k, (lookB st'.heap k).live -> (lookB st.heap k).live := fun k h => by
  rcases hs.hp k with e | e
  . rwa [e] at h
  . rw [e] at h; exact h.elim
 refine ⟨by rw [hs.nx]; exact hr.bas, ⟨by rw [hs.nx]; exact hr.sim.dom, fun k l hk => ?_, fun k k' b m m' e1 e2 l1 l2 => hr.sim.inj k k' b m m' e1 e2 (lv k l1) (lv k' l2), fun k b m e1 l1 => hr.sim.dis k b m e1 (lv k l1), hr.sim.pdom, hr.sim.sdom⟩, by rw [hs.lm]; exact hr.lim, hr.defers, fun t => ?_⟩
 . rcases hs.hp k with e | e
   . rw [e]; exact hr.sim.blk k l hk
   . rw [e]; cases l <;> trivial
 . rcases hs.ts t with e | e
   . rw [e]; exact hr.tmps t
   . rw [e]; trivial
theorem put_defers (a : Act) (d : Option Tmp) (v : Value) : (a.put d v).defers = a.defers := by cases d <;> rfl
theorem wpOp_put {i : Nat} {o : Oper} (ho : ops[i]? = some o) {next : Act -> World -> Prop} (h : wpOp P ops Q i (fun a' w' => a'.defers = [] /\ next a' w') a w) :
 wpOp P ops Q i (fun a' w' => (∃ v, a' = a.put o.dst v) /\ next a' w') a w := by
 unfold wpOp at h ⊢
 simp only [ho] at h ⊢
 split
 . rename_i hw
   rw [if_pos hw] at h
   refine h.imp (fun h => ?_) id
   unfold Oper.wp at h ⊢
   generalize (execOp a.eval o).run P w = r at h ⊢
   unfold Oper.upon at h ⊢
   split at h
   . exact ⟨⟨_, rfl⟩, h.2⟩
   . exact ⟨⟨_, rfl⟩, h.2⟩
   . have h := h.1; rw [put_defers] at h; cases h
   . refine Calls.mono h ?_
     intro e w' he
     cases e with
     | returned v => exact ⟨⟨_, rfl⟩, he.2⟩
     | panicked ch => exact he
     | outgrown => exact he
   . exact Rows.mono h fun v w' he => ⟨⟨_, rfl⟩, he.2⟩
   . exact h
   . exact h
 . rename_i hw
   rw [if_neg hw] at h
   exact ⟨⟨_, rfl⟩, h.2⟩
theorem ups_range (n : Nat) : Ups (List.range n) := fun q hq => by simp at hq; simp [hq]
theorem ren_ok {ids : List Nat} (hi : idsOk 0 ids = true) (rd : List Nat) (ts : List (Nat × Tm)) (h : List (Nat × Blk)) (n m : Nat) : leSt 0 ids 0 ⟨ts, h, n, m⟩ ⟨renTs (List.range ids.length) ids ts rd, renHs (List.range ids.length) ids h ids (List.range ids.length), ids.length, m⟩ :=
 ⟨rfl, rfl, hi, renTs_le (ups_range _) ids ts rd, renHs_le (ups_range _) ids h _ _ 0 (fun i => by rw [Nat.zero_add]) (fun q hq => by simp at hq; simp [hq])⟩
def kbT : Tm -> Tm
 | .va (.c (.d (.v (.bool b)))) => .va (.c (.kb b))
 | x => x
theorem kbT_rep {x : Tm} {v : Value} (h : RepT P ψ S w x v) : RepT P ψ S w (kbT x) v := by
 unfold kbT
 split
 . have h : RepD S w _ v := h
   cases h; exact rfl
 . exact h
def afterF (ids : List Nat) (dst : Option Tmp) : St -> St -> St
 | ⟨ts, h, n, m⟩, ⟨ts1, h1, n1, _⟩ => ⟨match dst with
   | some t => (t, kbT (fmT (backN ids ids.length n) (lookT ts1 t))) :: ts
   | none => ts, backF ids n h1 h, n + (n1 - ids.length), m⟩
def dstAt (ops : Array Oper) (i : Nat) : Option Tmp := match ops[i]? with
 | some o => o.dst
 | none => none
theorem put_tmps_ne (a : Act) {d t : Nat} (h : d ≠ t) (v : Value) : (a.put (some d) v).tmps.getD t undef = a.tmps.getD t undef := by
 simp only [Act.put, Array.getD_eq_getD_getElem?, Array.getElem?_setIfInBounds, h, if_false]
theorem opAt_frame (hτ : TysOk P τ) (hz : ∀ t i, τ t = some i -> zeroOk i.zero) {ids rd : List Nat} {calls : Nat -> List Va -> St -> (Tm -> St -> Prop) -> Prop} (hcalls : CallsOk P ids.length calls) {i n m : Nat} {ts : List (Nat × Tm)} {h : List (Nat × Blk)}
 (hrel : Rel P base ψ S w ⟨ts, h, n, m⟩ a) (hi : idsOk 0 ids = true) (hid : idsBelow h n = true) (hlt : (ids.all fun k => Nat.blt k n) = true) (hlive : (ids.all fun k => keepB (lookB h k)) = true) {K1 : St -> Prop}
 (hk : opAt P τ calls ops.toList i ⟨renTs (List.range ids.length) ids ts rd, renHs (List.range ids.length) ids h ids (List.range ids.length), ids.length, m⟩ K1) {next : Act -> World -> Prop}
 (hn : ∀ st1 ψ2 S' w' v, K1 st1 -> Rel P base ψ2 S' w' (afterF ids (dstAt ops i) ⟨ts, h, n, m⟩ st1) (a.put (dstAt ops i) v) -> PsiSub ψ ψ2 -> Ext base ψ S w ψ2 S' w' -> next (a.put (dstAt ops i) v) w') : wpOp P ops Q i next a w := by
 obtain ⟨o, ho⟩ : ∃ o, ops[i]? = some o := by
  unfold opAt at hk
  rw [Array.getElem?_toList] at hk
  cases h : ops[i]? with
  | none => rw [h] at hk; exact hk.elim
  | some o => exact ⟨o, rfl⟩
 have hd : dstAt ops i = o.dst := by unfold dstAt; rw [ho]
 have hrel0 : Rel P 0 ψ S w ⟨ts, h, n, m⟩ a := ⟨Nat.zero_le _, hrel.sim, hrel.lim, hrel.defers, hrel.tmps⟩
 obtain ⟨hr1, _⟩ := Rel.le (ren_ok hi rd ts h n m) hrel0
 have hr1b : Rel P ids.length (psiRen ψ ids 0) S w ⟨renTs (List.range ids.length) ids ts rd, renHs (List.range ids.length) ids h ids (List.range ids.length), ids.length, m⟩ a := ⟨Nat.le_refl _, hr1.sim, hr1.lim, hr1.defers, hr1.tmps⟩
 refine wpOp_mono ?_ (wpOp_put ho (opAt_ok (Q := Q) hτ hz hcalls hr1b hk (next := fun a' w' => a'.defers = [] /\ ∃ st' ψ' S', K1 st' /\ Rel P ids.length ψ' S' w' st' a' /\ Ext ids.length (psiRen ψ ids 0) S w ψ' S' w') fun st' ψ' S' w' a' h1 h2 h3 => ⟨h2.defers, st', ψ', S', h1, h2, h3⟩))
 rintro a' w' ⟨⟨v, rfl⟩, ⟨ts1, h1', n1', l1⟩, ψ', S', hK, hr', he⟩
 obtain ⟨ψ2, q1, q2, q3, q4⟩ := frame_back hrel hi (Nat.le_refl _) hid hlt hlive hr' he
 rw [<- hd] at hr' ⊢
 refine hn _ ψ2 S' w' v hK (Rel.sub (st := ⟨match dstAt ops i with
  | some t => (t, kbT (fmT (backN ids ids.length n) (lookT ts1 t))) :: ts
  | none => ts, backH (backN ids ids.length n) h1' ids h, n + (n1' - ids.length), m⟩) ⟨rfl, rfl, fun _ => .inl rfl, fun k => .inl backF_eq⟩ ⟨?_, q1, ?_, ?_, fun t => ?_⟩) q2 q4
 . exact Nat.le_trans hrel.bas (Nat.le_add_right _ _)
 . have hl : a.tmps.size = m := hrel.lim
   show _ = m
   rw [<- hl]; cases dstAt ops i <;> simp [Act.put]
 . rw [put_defers]; exact hrel.defers
 . cases hdd : dstAt ops i with
   | none => exact (hrel.tmps t).later q2 q4.later
   | some d =>
     show RepT P ψ2 S' w' (lookT ((d, kbT (fmT _ (lookT ts1 d))) :: ts) t) _
     by_cases e : d = t
     . subst e
       have := hr'.tmps d
       rw [hdd] at this
       simp only [lookT, Nat.beq_refl]
       exact kbT_rep (fmT_rep q3 this)
     . rw [put_tmps_ne _ e]
       have e2 : Nat.beq d t = false := by
        cases hq : Nat.beq d t with
        | false => rfl
        | true => exact absurd (Nat.eq_of_beq_eq_true hq) e
       simp only [lookT, e2]
       exact (hrel.tmps t).later q2 q4.later
def rdIds (op : Op) (evf : Operand -> Tm) : List Nat := match op with
 | .load _ x => match evf x with
   | .va (.c (.own k _)) => [k]
   | .va (.c (.ep k _ _ _)) => [k]
   | .va (.c (.ap k _ _ _)) => [k]
   | _ => []
 | .lookup _ x _ _ => match evf x with
   | .va (.c (.mp k)) => [k]
   | _ => []
 | _ => []
def cvOk (op : Op) (evf : Operand -> Tm) : Bool := match op with
 | .convert _ _ x => (plain (evf x)).isSome
 | _ => true
theorem vOp_heap {op : Op} {ty : TypeId} {evf : Operand -> Tm} {h h' : List (Nat × Blk)} {K : Tm -> Prop} (hc : ∀ k ∈ rdIds op evf, lookB h' k = lookB h k) (hcv : cvOk op evf = true) (hk : vOp P τ op ty evf h K) : vOp P τ op ty evf h' K := by
 cases op with
 | load t x =>
   have hk : oLoad τ h t (evf x) K := hk
   show oLoad τ h' t (evf x) K
   unfold oLoad at hk ⊢
   unfold loadAt at hk ⊢
   simp only [rdIds] at hc
   generalize evf x = y at hc hk ⊢
   cases ht : τ t with
   | none => rw [ht] at hk; exact hk.elim
   | some ti =>
     rw [ht] at hk
     dsimp only at hk ⊢
     cases y with
     | tup xs => exact hk
     | va v => cases v with
       | agg cs => exact hk
       | c c => cases c <;> first | exact hk | (dsimp only at hc hk ⊢; rw [hc _ (List.mem_singleton.2 rfl)]; exact hk)
 | lookup t x k ok =>
   have hk : oLookup τ h t (evf x) (evf k) ok K := hk
   show oLookup τ h' t (evf x) (evf k) ok K
   unfold oLookup at hk ⊢
   simp only [rdIds] at hc
   generalize evf x = y at hc hk ⊢
   cases y with
   | tup xs => split at hk <;> first | contradiction | (rename_i e; cases e; done) | exact False.elim hk
   | va v => cases v with
     | agg cs => split at hk <;> first | contradiction | (rename_i e; cases e; done) | exact False.elim hk
     | c c => cases c with
       | mp k1 =>
         cases ht : τ t with
         | none => rw [ht] at hk; exact False.elim hk
         | some ti =>
           obtain ⟨d, s, b, z⟩ := ti
           rw [ht] at hk
           cases d <;> first | exact False.elim hk | (dsimp only at hc hk ⊢; rw [hc _ (List.mem_singleton.2 rfl)]; exact hk)
       | _ => split at hk <;> first | contradiction | (rename_i e; cases e; done) | exact False.elim hk
 | convert s t x =>
   have hk : (match plain (evf x) with | some a => oPure (pureRun P (convert s t a)) K | _ => oConvB τ h s t (evf x) K) := hk
   show (match plain (evf x) with | some a => oPure (pureRun P (convert s t a)) K | _ => oConvB τ h' s t (evf x) K)
   have hcv : (plain (evf x)).isSome = true := hcv
   cases hp : plain (evf x) with
   | some v => rw [hp] at hk; exact hk
   | none => rw [hp] at hcv; cases hcv
 | _ => exact hk
def wantOf (ops : List Oper) (o : Oper) (st : St) : Option Bool := match o.guard with
 | none => some true
 | some (j, want) => match dstOf ops j with
   | none => none
   | some s => match lookT st.tmps s with
     | .va (.c (.kb b)) => some (b == want)
     | .va (.c .und) => some false
     | _ => none
theorem wantOf_ok {ops : Array Oper} {o : Oper} {st : St} {b : Bool} (hrel : Rel P base ψ S w st a) (h : wantOf ops.toList o st = some b) : Region.wanted o (yielded ops a.tmps) = b := by
 unfold wantOf at h
 split at h
 . rename_i hg; cases h; simp [Region.wanted, hg]
 . rename_i j want hg
   split at h
   . cases h
   . rename_i s hs
     have hon : ∀ b', (match lookT st.tmps s with | .va (.c (.kb b)) => some b | .va (.c .und) => none | _ => some false) = b' -> (∃ b, lookT st.tmps s = .va (.c (.kb b))) \/ lookT st.tmps s = .va (.c .und) -> onBool st s (fun st' x => st' = st /\ x = b') := by
      intro b' e he
      obtain ⟨ts, h, n, m⟩ := st
      unfold onBool
      dsimp only at e he ⊢
      rcases he with ⟨b, he⟩ | he
      . rw [he] at e ⊢; subst e; cases b <;> exact ⟨rfl, rfl⟩
      . rw [he] at e ⊢; subst e; exact ⟨rfl, rfl⟩
     have fin : ∀ b', onBool st s (fun st' x => st' = st /\ x = b') -> yielded ops a.tmps j = b' := by
      intro b' hb'
      obtain ⟨st', b2, ⟨rfl, rfl⟩, _, hb, _⟩ := onBool_ok hrel hb'
      have hd : (ops[j]?).bind (·.dst) = some s := by
       unfold dstOf at hs
       rw [Array.getElem?_toList] at hs
       split at hs
       . rename_i hj; rw [hj]; exact hs
       . simp at hs
      simp only [yielded, hd, Option.bind_some]
      rw [<- hb]
      split <;> simp_all
     split at h
     . rename_i b0 e
       cases h
       have := fin (some b0) (hon _ (by rw [e]) (.inl ⟨_, e⟩))
       simp only [Region.wanted, hg, this]; cases b0 <;> cases want <;> rfl
     . rename_i e
       cases h
       have := fin none (hon _ (by rw [e]) (.inr e))
       simp only [Region.wanted, hg, this]; rfl
     . cases h
def takeV (P : Program) (τ : Tys) (ops : List Oper) (i : Nat) (st : St) (K : Tm -> Prop) : Prop := match ops[i]? with
 | none => False
 | some o => match wantOf ops o st with
   | some true => cvOk o.op (ev st) = true /\ vOp P τ o.op o.type (ev st) st.heap fun x => K (kbT x)
   | some false => K undT
   | none => False
theorem putK_some {ts : List (Nat × Tm)} {h : List (Nat × Blk)} {n m d : Nat} (hm : Nat.blt d m = true) (x : Tm) (K : St -> Prop) : putK ⟨ts, h, n, m⟩ (some d) x K = K ⟨(d, x) :: ts, h, n, m⟩ := by
 show (match Nat.blt d m with | true => fT x fun x => K ⟨(d, x) :: ts, h, n, m⟩ | false => False) = _
 rw [hm]; exact fT_eq _ _
theorem quiet_real (hτ : TysOk P τ) (hz : ∀ t i, τ t = some i -> zeroOk i.zero) {i n m d : Nat} {ts : List (Nat × Tm)} {h : List (Nat × Blk)} {y : Tm} (hrel : Rel P base ψ S w ⟨ts, h, n, m⟩ a) (hd : dstAt ops i = some d) (hm : Nat.blt d m = true)
 (hk : takeV P τ ops.toList i ⟨ts, h, n, m⟩ (fun x => x = y)) {next : Act -> World -> Prop}
 (hn : ∀ ψ' S' w' v, Rel P base ψ' S' w' ⟨(d, y) :: ts, h, n, m⟩ (a.put (some d) v) -> Ext base ψ S w ψ' S' w' -> next (a.put (some d) v) w') : wpOp P ops Q i next a w := by
 unfold takeV at hk
 rw [Array.getElem?_toList] at hk
 cases ho : ops[i]? with
 | none => rw [ho] at hk; exact hk.elim
 | some o =>
   rw [ho] at hk
   dsimp only at hk
   have hdo : o.dst = some d := by unfold dstAt at hd; rw [ho] at hd; exact hd
   split at hk
   . rename_i hw
     have hw := wantOf_ok hrel hw
     have hk := hk.2
     have hok := vOp_ok (o := o) (K := fun st' => ∃ x, kbT x = y /\ st' = ⟨(d, x) :: ts, h, n, m⟩) hτ hz hrel rfl (vOp_mono hk fun x hx => by
      rw [hdo, putK_some hm]; exact ⟨x, hx, rfl⟩)
     have key : wpOp P ops Q i (fun a' w' => a'.defers = [] /\ ∃ x ψ' S', kbT x = y /\ Rel P base ψ' S' w' ⟨(d, x) :: ts, h, n, m⟩ a' /\ Ext base ψ S w ψ' S' w') a w := by
      unfold wpOp
      simp only [ho]
      rw [if_pos hw]
      refine .inl (hok _ _ ?_)
      rintro st' ψ' S' w' a' ⟨x, hx, rfl⟩ h2 h3
      exact ⟨h2.defers, x, ψ', S', hx, h2, h3⟩
     refine wpOp_mono ?_ (wpOp_put ho key)
     rintro a' w' ⟨⟨v, rfl⟩, x, ψ', S', hx, hr, he⟩
     rw [hdo] at hr ⊢
     refine hn ψ' S' w' v ⟨hr.bas, hr.sim, hr.lim, hr.defers, fun t => ?_⟩ he
     have := hr.tmps t
     simp only [lookT] at this ⊢
     cases hq : Nat.beq d t with
     | true => rw [hq] at this; rw [<- hx]; exact kbT_rep this
     | false => rw [hq] at this; exact this
   . rename_i hw
     have hw := wantOf_ok hrel hw
     unfold wpOp
     simp only [ho]
     rw [if_neg (by rw [hw]; exact Bool.false_ne_true), hdo]
     obtain ⟨st', h1, h2⟩ := putK_rel (dst := some d) (x := undT) (v := undef) (K := fun st' => st' = ⟨(d, undT) :: ts, h, n, m⟩) (by rw [putK_some hm]) hrel rfl
     subst h1
     rw [hk] at h2
     exact hn ψ S w undef h2 (Ext.refl _ _ _ _)
   . exact hk.elim
theorem takeV_lin {ops : List Oper} {i : Nat} {st : St} {K : Tm -> Prop} (hk : takeV P τ ops i st K) : ∃ y, K y /\ takeV P τ ops i st (fun x => x = y) := by
 unfold takeV at hk ⊢
 split at hk
 . exact hk.elim
 . split at hk
   . obtain ⟨y, h1, h2⟩ := vOp_lin _ _ _ _ _ hk.2
     exact ⟨_, h1, hk.1, vOp_mono h2 fun x hx => by rw [hx]⟩
   . exact ⟨_, hk, rfl⟩
   . exact hk.elim
def looks (ops : Array Oper) (i : Nat) : List Nat := match ops[i]? with
 | some o => o.looksAt ops
 | none => []
def rdAt (ops : Array Oper) (i : Nat) (ts : List (Nat × Tm)) : List Nat := match ops[i]? with
 | some o => rdIds o.op (ev ⟨ts, [], 0, 0⟩)
 | none => []
theorem ev_agree {ts ts' : List (Nat × Tm)} {h h' : List (Nat × Blk)} {n n' m m' : Nat} {o : Oper} (hl : ∀ t ∈ o.looksAt ops, lookT ts' t = lookT ts t) : ∀ x ∈ o.op.operands.toList, ev ⟨ts', h', n', m'⟩ x = ev ⟨ts, h, n, m⟩ x := by
 intro x hx
 cases x with
 | tmp t => exact hl t (List.mem_append_left _ (List.mem_filterMap.2 ⟨.tmp t, hx, rfl⟩))
 | const v => rfl
 | global g => rfl
 | func f => rfl
theorem takeV_congr {i n n' m m' : Nat} {ts ts' : List (Nat × Tm)} {h h' : List (Nat × Blk)} {K : Tm -> Prop} (hl : ∀ t ∈ looks ops i, lookT ts' t = lookT ts t) (hh : ∀ k ∈ rdAt ops i ts, lookB h' k = lookB h k)
 (hk : takeV P τ ops.toList i ⟨ts, h, n, m⟩ K) : takeV P τ ops.toList i ⟨ts', h', n', m'⟩ K := by
 unfold takeV at hk ⊢
 unfold looks at hl
 unfold rdAt at hh
 rw [Array.getElem?_toList] at hk ⊢
 cases ho : ops[i]? with
 | none => rw [ho] at hk; exact hk.elim
 | some o =>
   rw [ho] at hk hl hh
   dsimp only at hk hl hh ⊢
   have hw : wantOf ops.toList o ⟨ts', h', n', m'⟩ = wantOf ops.toList o ⟨ts, h, n, m⟩ := by
    unfold wantOf
    cases hg : o.guard with
    | none => rfl
    | some g =>
      obtain ⟨j, want⟩ := g
      dsimp only
      cases hd : dstOf ops.toList j with
      | none => rfl
      | some s =>
        dsimp only
        rw [hl s ?_]
        refine List.mem_append_right _ ?_
        rw [hg]
        unfold dstOf at hd
        rw [Array.getElem?_toList] at hd
        cases hj : ops[j]? with
        | none => rw [hj] at hd; cases hd
        | some oj => rw [hj] at hd; have hd : oj.dst = some s := hd; simp [hj, hd]
   rw [hw]
   have hev := ev_agree (ops := ops) (h := h) (h' := h') (n := n) (n' := n') (m := m) (m' := m') hl
   have hcv : cvOk o.op (ev ⟨ts', h', n', m'⟩) = cvOk o.op (ev ⟨ts, h, n, m⟩) := by
    cases e : o.op with
    | convert s t x => show (plain _).isSome = (plain _).isSome; rw [hev x (by rw [e]; simp [Op.operands])]
    | _ => rfl
   split at hk
   . refine ⟨by rw [hcv]; exact hk.1, vOp_congr (fun x hx => (hev x hx).symm) (vOp_heap ?_ hk.1 hk.2)⟩
     exact hh
   . exact hk
   . exact hk
end
inductive Stp where
 | take (i : Nat)
 | act (j : Nat) (T rd : List Nat)
 | news (zs : List Nat)
def preds (ops : Array Oper) (i : Nat) : List Nat := match ops[i]? with
 | some o => (o.after.toList.filter (Region.binds .any)).map (·.on)
 | none => []
def isZ (ops : Array Oper) (i : Nat) : Bool := match ops[i]? with
 | some o => (match o.op with
   | .alloc _ => true
   | _ => false) && o.guard.isNone && o.dst.isSome && (preds ops i).isEmpty
 | none => false
inductive Dep (ops : Array Oper) : Nat -> Nat -> Prop
 | one {j e : Nat} : e ∈ preds ops j -> Dep ops j e
 | more {j e k : Nat} : e ∈ preds ops j -> Dep ops e k -> Dep ops j k
def addN (k : Nat) (l : List Nat) : List Nat := match l.contains k with
 | true => l
 | false => k :: l
def tblN (ops : Array Oper) : Nat -> List (List Nat)
 | 0 => []
 | n + 1 => tblN ops n ++ [((preds ops n).flatMap fun e => e :: (tblN ops n).getD e []).foldr addN []]
theorem mem_addN {k x : Nat} {l : List Nat} (h : x ∈ addN k l) : x = k \/ x ∈ l := by
 unfold addN at h
 split at h
 . exact .inr h
 . exact List.mem_cons.1 h
theorem mem_foldr_addN {x : Nat} : ∀ {l : List Nat}, x ∈ l.foldr addN [] -> x ∈ l
 | [], h => h
 | k :: l, h => by
   rcases mem_addN h with h | h
   . exact h ▸ List.mem_cons_self
   . exact List.mem_cons_of_mem _ (mem_foldr_addN h)
theorem tblN_len (ops : Array Oper) : ∀ n, (tblN ops n).length = n
 | 0 => rfl
 | n + 1 => by rw [tblN, List.length_append, tblN_len ops n]; rfl
theorem tblN_dep (ops : Array Oper) : ∀ (n j k : Nat), k ∈ (tblN ops n).getD j [] -> Dep ops j k
 | 0, j, k, h => by simp [tblN] at h
 | n + 1, j, k, h => by
   rw [tblN] at h
   rw [List.getD_eq_getElem?_getD] at h
   rcases Nat.lt_trichotomy j n with c | c | c
   . rw [List.getElem?_append_left (by rw [tblN_len]; exact c), <- List.getD_eq_getElem?_getD] at h
     exact tblN_dep ops n j k h
   . subst c
     rw [List.getElem?_append_right (by rw [tblN_len]; exact Nat.le_refl _), tblN_len, Nat.sub_self] at h
     have h := mem_foldr_addN (show k ∈ List.foldr addN [] _ from h)
     obtain ⟨e, he, h⟩ := List.mem_flatMap.1 h
     rcases List.mem_cons.1 h with h | h
     . subst h; exact .one he
     . exact .more he (tblN_dep ops j e k h)
   . rw [List.getElem?_eq_none (by rw [List.length_append, tblN_len]; simp; omega)] at h
     cases h
def depB (tb : List (List Nat)) (j k : Nat) : Bool := (tb.getD j []).contains k
theorem depB_ok {ops : Array Oper} {n j k : Nat} (h : depB (tblN ops n) j k = true) : Dep ops j k := tblN_dep ops n j k (by simpa [depB] using h)
def freeT (ops : Array Oper) (d : Option Tmp) (i : Nat) : Bool := match d with
 | none => true
 | some t => !(looks ops i).contains t && !(dstAt ops i == some t)
def noDst (ops : Array Oper) (k : Nat) (l : List Nat) : Bool := match dstAt ops k with
 | some d => !l.contains d
 | none => true
def subC (C : List Nat) (l : List Nat) : Bool := l.all fun e => C.contains e
def pOk (ops : Array Oper) (tb : List (List Nat)) : List Stp -> List Nat -> List Nat -> Bool
 | [], C, _ => (List.range ops.size).all fun i => C.contains i
 | .take i :: p, C, T => (Nat.blt i ops.size && !C.contains i && !isZ ops i && (dstAt ops i).isSome && subC C (preds ops i) && noDst ops i (looks ops i)) && (T.all fun k => freeT ops (dstAt ops i) k && (noDst ops k (looks ops i) || depB tb i k)) && pOk ops tb p (i :: C) (i :: T)
 | .act j T' rd :: p, C, T => (Nat.blt j ops.size && !C.contains j && !isZ ops j && subC C (preds ops j)) && ((List.range ops.size).all fun l => Nat.beq l j || (C.contains l || (isZ ops l || !(preds ops l).all fun e => C.contains e || isZ ops e))) &&
    (T' == T.filter (fun k => !depB tb j k)) && (rd == looks ops j) && (T'.all fun k => freeT ops (dstAt ops j) k && noDst ops k rd) && pOk ops tb p (j :: C) T'
 | .news zs :: p, C, T => (zs == (List.range ops.size).filter (fun z => isZ ops z && !C.contains z)) && (zs.all fun z => (List.range ops.size).all fun l => C.contains l || (isZ ops l || !(preds ops l).all fun e => C.contains e || (zs.contains e && !Nat.beq e z))) &&
    (T.all fun k => zs.all fun z => freeT ops (dstAt ops z) k) && pOk ops tb p (zs ++ C) T
def rOk (ops : Array Oper) : Bool := (List.range ops.size).all fun i => ((preds ops i).all fun e => Nat.blt e i) && (!isZ ops i || (List.range ops.size).all fun k => Nat.beq k i || !(dstAt ops k == dstAt ops i))
def newsP (τ : Tys) (ops : Array Oper) : List Nat -> St -> (St -> Prop) -> Prop
 | [], st, K => K st
 | z :: zs, ⟨ts, h, n, m⟩, K => match ops[z]? with
   | some o => match o.op, o.dst with
     | .alloc t, some d => match τ t with
       | some ⟨_, _, _, z0⟩ => Nat.blt d m = true /\ newsP τ ops zs ⟨(d, .va (.c (.own n 0))) :: ts, (n, .cells (zeroCells' z0)) :: h, n + 1, m⟩ K
       | none => False
     | _, _ => False
   | none => False
def idsFit (ops : Array Oper) (ids T : List Nat) (ts : List (Nat × Tm)) (h : List (Nat × Blk)) (n : Nat) : Bool :=
 idsOk 0 ids && idsBelow h n && (ids.all fun k => Nat.blt k n) && (ids.all fun k => keepB (lookB h k)) && (T.all fun k => (rdAt ops k ts).all fun b => !ids.contains b && Nat.blt b n)
def anyP (P : Program) (τ : Tys) (calls : Nat -> Nat -> List Va -> St -> (Tm -> St -> Prop) -> Prop) (reach : List Nat -> St -> List Nat) (ops : Array Oper) : List Stp -> List Nat -> St -> (St -> Prop) -> Prop
 | [], _, st, K => K st
 | .take i :: p, T, st, K => takeV P τ ops.toList i st fun y => putK st (dstAt ops i) y fun st => anyP P τ calls reach ops p (i :: T) st K
 | .act j T' rd :: p, _, ⟨ts, h, n, m⟩, K => idsFit ops (reach rd ⟨ts, h, n, m⟩) T' ts h n = true /\
    opAt P τ (calls (reach rd ⟨ts, h, n, m⟩).length) ops.toList j ⟨renTs (List.range (reach rd ⟨ts, h, n, m⟩).length) (reach rd ⟨ts, h, n, m⟩) ts rd, renHs (List.range (reach rd ⟨ts, h, n, m⟩).length) (reach rd ⟨ts, h, n, m⟩) h (reach rd ⟨ts, h, n, m⟩) (List.range (reach rd ⟨ts, h, n, m⟩).length), (reach rd ⟨ts, h, n, m⟩).length, m⟩
     fun st1 => anyP P τ calls reach ops p T' (afterF (reach rd ⟨ts, h, n, m⟩) (dstAt ops j) ⟨ts, h, n, m⟩ st1) K
 | .news zs :: p, T, ⟨ts, h, n, m⟩, K => (T.all fun k => (rdAt ops k ts).all fun b => Nat.blt b n) = true /\ newsP τ ops zs ⟨ts, h, n, m⟩ fun st => anyP P τ calls reach ops p T st K
section
variable {P : Program} {τ : Tys} {base : Nat} {ψ ψ' ψ0 : Psi} {S S' S0 : Nat → Prop} {w w' w0 : World} {a : Act} {ops : Array Oper} {Q : Exit → Act → World → Prop} {R : Array Bool}
theorem ready_preds {i : Nat} (h : i ∈ Region.ready .any ops R) : i < ops.size /\ R.getD i true = false /\ ∀ e ∈ preds ops i, R.getD e false = true := by
 obtain ⟨h1, o, h2, h3⟩ := mem_ready.1 h
 refine ⟨(Array.getElem?_eq_some_iff.1 h2).1, h1, fun e he => ?_⟩
 unfold preds at he
 rw [h2] at he
 obtain ⟨x, hx, rfl⟩ := List.mem_map.1 he
 obtain ⟨hx1, hx2⟩ := List.mem_filter.1 hx
 exact h3 x (by simpa using hx1) hx2
theorem ready_of {i : Nat} (hi : i < ops.size) (h1 : R.getD i true = false) (h2 : ∀ e ∈ preds ops i, R.getD e false = true) : i ∈ Region.ready .any ops R := by
 refine mem_ready.2 ⟨h1, ops[i], Array.getElem?_eq_some_iff.2 ⟨hi, rfl⟩, fun x hx hb => h2 _ ?_⟩
 unfold preds
 rw [Array.getElem?_eq_some_iff.2 ⟨hi, rfl⟩]
 exact List.mem_map.2 ⟨x, List.mem_filter.2 ⟨by simpa using hx, hb⟩, rfl⟩
theorem getD_tf (hs : R.size = ops.size) {i : Nat} (hi : i < ops.size) : R.getD i true = R.getD i false := by
 simp [Array.getD_eq_getD_getElem?, hs, hi]
theorem getD_put {i j : Nat} (hi : i < R.size) : (R.setIfInBounds i true).getD j false = if j = i then true else R.getD j false := by
 by_cases e : j = i
 . subst e; simp [Array.getD_eq_getD_getElem?, hi]
 . rw [if_neg e]; simp [Array.getD_eq_getD_getElem?, Array.getElem?_setIfInBounds_ne (Ne.symm e)]
theorem rOk_lt (h : rOk ops = true) {i e : Nat} (hi : i < ops.size) (he : e ∈ preds ops i) : e < i := by
 have := List.all_eq_true.1 h i (List.mem_range.2 hi)
 simp only [Bool.and_eq_true] at this
 have := List.all_eq_true.1 this.1 e he
 exact Nat.le_of_ble_eq_true this
theorem rOk_z (h : rOk ops = true) {z k : Nat} (hz : isZ ops z = true) (hzs : z < ops.size) (hk : k < ops.size) (hne : k ≠ z) : dstAt ops k ≠ dstAt ops z := by
 have := List.all_eq_true.1 h z (List.mem_range.2 hzs)
 simp only [Bool.and_eq_true, Bool.or_eq_true, Bool.not_eq_true'] at this
 rcases this.2 with h1 | h1
 . rw [hz] at h1; cases h1
 . have := List.all_eq_true.1 h1 k (List.mem_range.2 hk)
   simp only [Bool.or_eq_true, Bool.not_eq_true', beq_eq_false_iff_ne] at this
   rcases this with h2 | h2
   . exact absurd (Nat.eq_of_beq_eq_true h2) hne
   . exact h2
theorem all_of_ready (hr : rOk ops = true) (hs : R.size = ops.size) (h : Region.ready .any ops R = []) : ∀ i, i < ops.size -> R.getD i false = true := by
 intro i
 induction i using Nat.strongRecOn with
 | _ i ih =>
   intro hi
   cases e : R.getD i false with
   | true => rfl
   | false =>
     have := ready_of hi (by rw [getD_tf hs hi]; exact e) fun k hk => ih k (rOk_lt hr hi hk) (Nat.lt_trans (rOk_lt hr hi hk) hi)
     rw [h] at this; cases this
def Pdg (P : Program) (τ : Tys) (ops : Array Oper) (w0 : World) (ψ : Psi) (S : Nat -> Prop) (w : World) (a : Act) (z b : Nat) : Prop :=
 ∃ o t d d1 s1 b1 z0 arr e, ops[z]? = some o /\ o.op = .alloc t /\ o.dst = some d /\ τ t = some ⟨d1, s1, b1, z0⟩ /\ a.tmps.getD d undef = .pointer (some ⟨b, 0, none⟩) /\ w.heap[b]? = some (.cells arr e (0, 0)) /\
  (∀ ψ S w, All2 (RepM P ψ S w) (zeroCells' z0) arr.toList) /\ (∀ k m, ψ k ≠ some (.at b m)) /\ ¬ S b /\ w0.heap.size <= b /\ b < w.heap.size
theorem Pdg.step {z b : Nat} {dst : Option Tmp} {v : Value} (h : Pdg P τ ops w0 ψ S w a z b) (hd : dst ≠ dstAt ops z) (he : Ext base ψ S w ψ' S' w') : Pdg P τ ops w0 ψ' S' w' (a.put dst v) z b := by
 obtain ⟨o, t, d, d1, s1, b1, z0, arr, e, h1, h2, h3, h4, h5, h6, h7, h8, h9, h10, h11⟩ := h
 refine ⟨o, t, d, d1, s1, b1, z0, arr, e, h1, h2, h3, h4, ?_, ?_, h7, ?_, ?_, h10, Nat.lt_of_lt_of_le h11 he.grow⟩
 . cases dst with
   | none => exact h5
   | some c =>
     rw [put_tmps_ne]
     . exact h5
     . rintro rfl
       apply hd
       unfold dstAt; rw [h1]; exact h3.symm
 . rw [he.old b h11 h8]; exact h6
 . intro k m hk
   rcases he.newP k b m hk with ⟨k', m', h'⟩ | h'
   . exact h8 k' m' h'
   . omega
 . intro hS
   rcases he.newS b hS with h' | ⟨k, m, h'⟩ | h'
   . exact h9 h'
   . exact h8 k m h'
   . omega
theorem Rel.intro {ts : List (Nat × Tm)} {h : List (Nat × Blk)} {n m b mm : Nat} {blk : Blk} (hr : Rel P base ψ S w ⟨ts, h, n, m⟩ a) (hb : BlkRep P (ψ.set n (.at b mm)) S w blk (.at b mm)) (hno : ∀ k m, ψ k ≠ some (.at b m)) (hS : ¬ S b) (hlt : b < w.heap.size) :
 Rel P base (ψ.set n (.at b mm)) S w ⟨ts, (n, blk) :: h, n + 1, m⟩ a := by
 have hn : ψ n = none := hr.sim.dom n (Nat.le_refl _)
 have hp : PsiSub ψ (ψ.set n (.at b mm)) := Psi.sub_set hn
 have hl := Later.refl S w
 refine ⟨Nat.le_succ_of_le hr.bas, ⟨?_, ?_, ?_, ?_, ?_, hr.sim.sdom⟩, hr.lim, hr.defers, fun t => (hr.tmps t).later hp hl⟩
 . intro k hk
   have : k ≠ n := by simp at hk; omega
   have hk' : n <= k := by simp at hk; omega
   simp [Psi.set, this, hr.sim.dom k hk']
 . intro k l hk
   rw [lookB_cons]
   by_cases hkn : n = k
   . subst hkn
     simp only [Psi.set, if_true, Option.some.injEq] at hk
     subst hk
     simpa using hb
   . have hkn' : k ≠ n := fun h => hkn h.symm
     simp only [Psi.set, hkn', if_false] at hk
     rw [if_neg hkn]
     exact (hr.sim.blk k l hk).later hp hl fun b m' e => rfl
 . intro k k' b' m1 m2 hk hk' hlk hlk'
   rw [lookB_cons] at hlk hlk'
   simp only [Psi.set] at hk hk'
   by_cases h1 : k = n
   . by_cases h2 : k' = n
     . rw [h1, h2]
     . rw [if_pos h1] at hk; rw [if_neg h2] at hk'
       simp at hk
       rw [<- hk.1] at hk'
       exact absurd hk' (hno _ _)
   . by_cases h2 : k' = n
     . rw [if_neg h1] at hk; rw [if_pos h2] at hk'
       simp at hk'
       rw [<- hk'.1] at hk
       exact absurd hk (hno _ _)
     . rw [if_neg h1] at hk; rw [if_neg h2] at hk'
       rw [if_neg (Ne.symm h1)] at hlk; rw [if_neg (Ne.symm h2)] at hlk'
       exact hr.sim.inj k k' b' m1 m2 hk hk' hlk hlk'
 . intro k b' m1 hk hlk
   rw [lookB_cons] at hlk
   simp only [Psi.set] at hk
   by_cases h1 : k = n
   . rw [if_pos h1] at hk; simp at hk; rw [<- hk.1]; exact hS
   . rw [if_neg h1] at hk; rw [if_neg (Ne.symm h1)] at hlk
     exact hr.sim.dis k b' m1 hk hlk
 . intro k b' m1 hk
   simp only [Psi.set] at hk
   by_cases h1 : k = n
   . rw [if_pos h1] at hk; simp at hk; rw [<- hk.1]; exact hlt
   . rw [if_neg h1] at hk; exact hr.sim.pdom k b' m1 hk
theorem Rel.tset {ts : List (Nat × Tm)} {h : List (Nat × Blk)} {n m d : Nat} {x : Tm} (hr : Rel P base ψ S w ⟨ts, h, n, m⟩ a) (hx : RepT P ψ S w x (a.tmps.getD d undef)) : Rel P base ψ S w ⟨(d, x) :: ts, h, n, m⟩ a := by
 refine ⟨hr.bas, hr.sim, hr.lim, hr.defers, fun t => ?_⟩
 simp only [lookT]
 cases hq : Nat.beq d t with
 | true => have := Nat.eq_of_beq_eq_true hq; subst this; exact hx
 | false => exact hr.tmps t
theorem news_ok : ∀ (zs : List Nat) (Pd : List (Nat × Nat)) (ψ : Psi) (ts ts' : List (Nat × Tm)) (h : List (Nat × Blk)) (n m : Nat) (K : St -> Prop), zs.Nodup -> (Pd.map (·.2)).Nodup -> (∀ z ∈ zs, ∃ b, (z, b) ∈ Pd /\ Pdg P τ ops w0 ψ S w a z b) ->
 Rel P base ψ S w ⟨ts', h, n, m⟩ a -> base <= n -> Ext base ψ0 S0 w0 ψ S w -> newsP τ ops zs ⟨ts, h, n, m⟩ K ->
 ∃ (ds : List (Nat × Tm)) (hs : List (Nat × Blk)) (n' : Nat) (ψ' : Psi), K ⟨ds ++ ts, hs ++ h, n', m⟩ /\ Rel P base ψ' S w ⟨ds ++ ts', hs ++ h, n', m⟩ a /\ Ext base ψ0 S0 w0 ψ' S w /\ (∀ p ∈ ds, ∃ z ∈ zs, dstAt ops z = some p.1) /\ (∀ p ∈ hs, n <= p.1)
 | [], Pd, ψ, ts, ts', h, n, m, K, _, _, _, hr, _, he, hk => ⟨[], [], n, ψ, hk, hr, he, (fun p hp => by cases hp), (fun p hp => by cases hp)⟩
 | z :: zs, Pd, ψ, ts, ts', h, n, m, K, hnd, hnb, hP, hr, hbn, he, hk => by
   obtain ⟨b, hzb, o, t, d, d1, s1, b1, z0, arr, e, h1, h2, h3, h4, h5, h6, h7, h8, h9, h10, h11⟩ := hP z List.mem_cons_self
   simp only [newsP, h1, h2, h3, h4] at hk
   obtain ⟨hlt, hk⟩ := hk
   have hn : ψ n = none := hr.sim.dom n (Nat.le_refl _)
   have hr1 := Rel.intro (blk := .cells (zeroCells' z0)) (mm := arr.size) hr ⟨arr, e, h6, h7 _ _ _⟩ h8 h9 h11
   have hr2 := hr1.tset (d := d) (x := .va (.c (.own n 0))) (by rw [h5]; exact ⟨b, arr.size, by simp [Psi.set], rfl⟩)
   have he2 : Ext base ψ0 S0 w0 (ψ.set n (.at b arr.size)) S w := by
    refine ⟨he.os, he.tape, he.output, he.grow, he.old, he.later, he.newS, fun k b' m' hk => ?_, fun k hk => ?_⟩
    . simp only [Psi.set] at hk
      by_cases c : k = n
      . rw [if_pos c] at hk; simp at hk; rw [<- hk.1]; exact .inr h10
      . rw [if_neg c] at hk; exact he.newP k b' m' hk
    . rw [<- he.agr k hk]; simp only [Psi.set]; rw [if_neg (by omega)]
   obtain ⟨ds, hs, n', ψ', g1, g2, g3, g4, g5⟩ := news_ok zs Pd (ψ.set n (.at b arr.size)) ((d, .va (.c (.own n 0))) :: ts) ((d, .va (.c (.own n 0))) :: ts') ((n, .cells (zeroCells' z0)) :: h) (n + 1) m K (List.nodup_cons.1 hnd).2 hnb
    (fun z' hz' => by
      obtain ⟨b', hzb', o, t, d, d1, s1, b1, z0, arr', e, q1, q2, q3, q4, q5, q6, q7, q8, q9, q10, q11⟩ := hP z' (List.mem_cons_of_mem _ hz')
      refine ⟨b', hzb', o, t, d, d1, s1, b1, z0, arr', e, q1, q2, q3, q4, q5, q6, q7, fun k m' hk => ?_, q9, q10, q11⟩
      simp only [Psi.set] at hk
      by_cases c : k = n
      . rw [if_pos c] at hk
        simp at hk
        have e1 : z' ≠ z := fun e => (List.nodup_cons.1 hnd).1 (e ▸ hz')
        have := hk.1
        subst this
        have : ∀ (l : List (Nat × Nat)), (l.map (·.2)).Nodup -> (z, b) ∈ l -> (z', b) ∈ l -> z' = z := by
         intro l
         induction l with
         | nil => intro _ h; cases h
         | cons p l ih =>
           intro hnn m1 m2
           simp only [List.map_cons, List.nodup_cons] at hnn
           rcases List.mem_cons.1 m1 with e1 | e1
           . rcases List.mem_cons.1 m2 with e2 | e2
             . rw [<- e1] at e2; exact congrArg Prod.fst e2
             . exact absurd (List.mem_map.2 ⟨_, e2, by rw [<- e1]⟩) hnn.1
           . rcases List.mem_cons.1 m2 with e2 | e2
             . exact absurd (List.mem_map.2 ⟨_, e1, by rw [<- e2]⟩) hnn.1
             . exact ih hnn.2 e1 e2
        exact e1 (this Pd hnb hzb hzb')
      . rw [if_neg c] at hk; exact q8 k m' hk)
    hr2 (by omega) he2 hk
   refine ⟨ds ++ [(d, .va (.c (.own n 0)))], hs ++ [(n, .cells (zeroCells' z0))], n', ψ', by simpa using g1, by simpa using g2, g3, fun p hp => ?_, fun p hp => ?_⟩
   . rcases List.mem_append.1 hp with hp | hp
     . obtain ⟨z', q1, q2⟩ := g4 p hp; exact ⟨z', List.mem_cons_of_mem _ q1, q2⟩
     . rw [List.mem_singleton.1 hp]
       exact ⟨z, List.mem_cons_self, by unfold dstAt; rw [h1]; exact h3⟩
   . rcases List.mem_append.1 hp with hp | hp
     . have := g5 p hp; omega
     . rw [List.mem_singleton.1 hp]; exact Nat.le_refl _
end
theorem lookT_app {ds ts : List (Nat × Tm)} {t : Nat} (h : ∀ p ∈ ds, p.1 ≠ t) : lookT (ds ++ ts) t = lookT ts t := by
 induction ds with
 | nil => rfl
 | cons p ds ih =>
   obtain ⟨d, x⟩ := p
   have h1 : Nat.beq d t = false := by
    cases hq : Nat.beq d t with
    | false => rfl
    | true => exact absurd (Nat.eq_of_beq_eq_true hq) (h (d, x) List.mem_cons_self)
   simp only [List.cons_append, lookT, h1]
   exact ih fun p hp => h p (List.mem_cons_of_mem _ hp)
theorem lookT_pre {ds ts ts' : List (Nat × Tm)} {t : Nat} (h : lookT ts t = lookT ts' t) : lookT (ds ++ ts) t = lookT (ds ++ ts') t := by
 induction ds with
 | nil => exact h
 | cons p ds ih => obtain ⟨d, x⟩ := p; simp only [List.cons_append, lookT, ih]
theorem lookB_app {hs h : List (Nat × Blk)} {n k : Nat} (hh : ∀ p ∈ hs, n <= p.1) (hk : k < n) : lookB (hs ++ h) k = lookB h k := by
 induction hs with
 | nil => rfl
 | cons p hs ih =>
   obtain ⟨d, x⟩ := p
   have h0 := hh (d, x) List.mem_cons_self
   rw [List.cons_append, lookB_cons, if_neg (by dsimp only at h0; omega)]
   exact ih fun p hp => hh p (List.mem_cons_of_mem _ hp)
theorem lookT_set {ts : List (Nat × Tm)} {d t : Nat} {x : Tm} : lookT ((d, x) :: ts) t = if d = t then x else lookT ts t := by
 simp only [lookT]
 cases hq : Nat.beq d t with
 | true => rw [if_pos (Nat.eq_of_beq_eq_true hq)]
 | false => rw [if_neg (Nat.ne_of_beq_eq_false hq)]
section
variable {P : Program} {τ : Tys} {base : Nat} {ψ ψ' ψ0 : Psi} {S S' S0 : Nat → Prop} {w w' w0 : World} {a : Act} {ops : Array Oper} {Q : Exit → Act → World → Prop} {R : Array Bool}
def zFit (τ : Tys) (m : Nat) (ops : Array Oper) : Bool := (List.range ops.size).all fun z => !isZ ops z || (match ops[z]? with
 | some o => match o.op, o.dst with
   | .alloc t, some d => Nat.blt d m && (τ t).isSome
   | _, _ => false
 | none => false)
theorem alloc_real (hτ : TysOk P τ) (hzz : ∀ t i, τ t = some i -> zeroOk i.zero) {z n m : Nat} {ts : List (Nat × Tm)} {h : List (Nat × Blk)} (hs : z < ops.size) (hZ : isZ ops z = true) (hf : zFit τ m ops = true) (hrel : Rel P base ψ S w ⟨ts, h, n, m⟩ a)
 (hw0 : w0.heap.size <= w.heap.size) (htop : ∀ d, dstAt ops z = some d -> lookT ts d = topT) {next : Act -> World -> Prop}
 (hn : ∀ w' v, Rel P base ψ S w' ⟨ts, h, n, m⟩ (a.put (dstAt ops z) v) -> Ext base ψ S w ψ S w' -> Pdg P τ ops w0 ψ S w' (a.put (dstAt ops z) v) z w.heap.size -> next (a.put (dstAt ops z) v) w') : wpOp P ops Q z next a w := by
 have hf := List.all_eq_true.1 hf z (List.mem_range.2 hs)
 rw [hZ] at hf
 simp only [Bool.not_true, Bool.false_or] at hf
 have hZ' := hZ
 unfold isZ at hZ
 cases ho : ops[z]? with
 | none => rw [ho] at hf; cases hf
 | some o =>
   rw [ho] at hf hZ
   dsimp only at hf hZ
   split at hf
   . rename_i t d hop hd
     simp only [Bool.and_eq_true] at hf
     obtain ⟨hlt, ht⟩ := hf
     obtain ⟨⟨d1, s1, b1, z0⟩, ht⟩ := Option.isSome_iff_exists.1 ht
     have hda : dstAt ops z = some d := by unfold dstAt; rw [ho]; exact hd
     rw [hda] at hn
     have hg : o.guard = none := by
      simp only [Bool.and_eq_true, Option.isNone_iff_eq_none] at hZ
      exact hZ.1.1.2
     have hrun : (execOp a.eval o).run P w = .ok (.value (.pointer (some ⟨w.heap.size, 0, none⟩))) (w.alloc (.cells z0.cells t)) := by
      simp only [execOp, hop, Instr.alloc, Sem.run_bind, run_zeroV hτ ht, Result.andThen_ok, newVar, newRow, run_newObj]
      rfl
     have hcells : ∀ ψ S w, All2 (RepM P ψ S w) (zeroCells' z0) z0.cells.toList := fun ψ S w => zero_cells (hzz _ _ ht)
     have hl := later_alloc hrel.sim.sdom (.cells z0.cells t)
     have hext : Ext base ψ S w ψ S (w.alloc (.cells z0.cells t)) := ⟨rfl, rfl, rfl, by simp, fun b hb _ => heap_alloc_lt _ hb, hl, fun _ h => .inl h, fun k b' m' hk => .inl ⟨k, m', hk⟩, fun _ _ => rfl⟩
     unfold wpOp
     simp only [ho]
     rw [if_pos (by simp [Region.wanted, hg])]
     refine .inl ?_
     simp only [Oper.wp, hrun, Oper.upon, hd]
     have hdl : d < a.tmps.size := by
      have h1 : a.tmps.size = m := hrel.lim
      rw [h1]; exact Nat.le_of_ble_eq_true hlt
     have hget : (a.put (some d) (.pointer (some ⟨w.heap.size, 0, none⟩))).tmps.getD d undef = .pointer (some ⟨w.heap.size, 0, none⟩) := by
      simp [Act.put, Array.getD_eq_getD_getElem?, hdl]
     refine hn _ _ ⟨hrel.bas, ⟨hrel.sim.dom, fun k l hk => ?_, hrel.sim.inj, hrel.sim.dis, fun k b' m' hk => ?_, ?_⟩, ?_, ?_, fun u => ?_⟩ hext ?_
     . exact (hrel.sim.blk k l hk).later (PsiSub.refl _) hl fun b' m' e => by subst e; exact heap_alloc_lt _ (hrel.sim.pdom k b' m' hk)
     . have := hrel.sim.pdom k b' m' hk
       simp; omega
     . exact (Rel.allocO (o := .cells z0.cells t) (mm := 0) (blk := .gone) hrel trivial).1.sim.sdom
     . have h1 : a.tmps.size = m := hrel.lim
       show _ = m
       rw [<- h1]; simp [Act.put]
     . rw [put_defers]; exact hrel.defers
     . by_cases e : d = u
       . subst e; rw [show lookT (St.tmps ⟨ts, h, n, m⟩) d = topT from htop d hda]; trivial
       . rw [put_tmps_ne _ e]; exact (hrel.tmps u).later (PsiSub.refl _) hl
     . exact ⟨o, t, d, d1, s1, b1, z0, z0.cells, t, ho, hop, hd, ht, hget, heap_alloc_new _, hcells, fun k m' hk => by have := hrel.sim.pdom k _ _ hk; omega, fun hS => absurd (hrel.sim.sdom.lt _ hS) (Nat.lt_irrefl _), hw0, by simp⟩
   . cases hf
theorem renTs_same {js ids : List Nat} {ts ts' : List (Nat × Tm)} {l : List Nat} (h : ∀ t ∈ l, lookT ts' t = lookT ts t) : renTs js ids ts' l = renTs js ids ts l :=
 List.map_congr_left fun t ht => by rw [h t ht]
theorem backF_old {ids : List Nat} {n k : Nat} {h1 h : List (Nat × Blk)} (hlt : (ids.all fun k => Nat.blt k n) = true) (hk : ids.contains k = false) (hn : k < n) : lookB (backF ids n h1 h) k = lookB h k := by
 have hm : k ∉ ids := by simpa using hk
 rw [backF_eq]
 unfold backH
 rw [lookB_miss, lookB_rest hm]
 cases ha : ((h1.map fun p => (backN ids ids.length n p.1, fmB (backN ids ids.length n) p.2)).any fun p => Nat.beq p.1 k) with
 | false => rfl
 | true =>
   obtain ⟨j, e⟩ := any_fm ha
   unfold backN at e
   split at e
   . rename_i hj
     have hj := Nat.le_of_ble_eq_true hj
     have : ids.getD j 0 ∈ ids := by
      rw [List.getD_eq_getElem?_getD, List.getElem?_eq_getElem hj]; exact List.getElem_mem _
     exact absurd (e ▸ this) hm
   . omega
structure AInv (P : Program) (τ : Tys) (base : Nat) (ops : Array Oper) (ψ0 : Psi) (S0 : Nat -> Prop) (w0 : World) (R : Array Bool) (C T PQ : List Nat) (Pd : List (Nat × Nat)) (tsC tsR : List (Nat × Tm)) (h : List (Nat × Blk)) (n m : Nat) (ψ : Psi) (S : Nat -> Prop) (w : World) (a : Act) : Prop where
 sz : R.size = ops.size
 li : ∀ i, i < ops.size -> (R.getD i false = true ↔ ((i ∈ C /\ i ∉ PQ) \/ ∃ b, (i, b) ∈ Pd))
 cs : ∀ i ∈ C, i < ops.size
 pq : ∀ i ∈ PQ, i ∈ T /\ i ∈ C /\ isZ ops i = false
 qo : ∀ i ∈ PQ, ∃ d, dstAt ops i = some d /\ Nat.blt d m = true /\ takeV P τ ops.toList i ⟨tsC, h, n, m⟩ (fun y => y = lookT tsC d)
 tc : ∀ i ∈ T, i ∈ C
 tq : ∀ i ∈ T, ∀ k ∈ T, noDst ops k (looks ops i) = true \/ Dep ops i k
 dc : ∀ j k, R.getD j false = true -> Dep ops j k -> R.getD k false = true
 pd : ∀ z b, (z, b) ∈ Pd -> isZ ops z = true /\ z ∉ C /\ z < ops.size /\ Pdg P τ ops w0 ψ S w a z b
 nd : (Pd.map (·.2)).Nodup
 ts : ∀ t, (∀ i ∈ PQ, dstAt ops i ≠ some t) -> lookT tsR t = lookT tsC t
 zt : ∀ z, z < ops.size -> isZ ops z = true -> z ∉ C -> ∀ d, dstAt ops z = some d -> lookT tsR d = topT
 rel : Rel P base ψ S w ⟨tsR, h, n, m⟩ a
 ext : Ext base ψ0 S0 w0 ψ S w
theorem noDst_ne {k d : Nat} {l : List Nat} (h : noDst ops k l = true) (hd : dstAt ops k = some d) : d ∉ l := by
 unfold noDst at h; rw [hd] at h; simpa using h
theorem freeT_spec {d : Tmp} {k : Nat} (h : freeT ops (some d) k = true) : d ∉ looks ops k /\ dstAt ops k ≠ some d := by
 unfold freeT at h
 simpa using h
theorem put_set {l : List Nat} {R : Array Bool} {i : Nat} (hs : R.size = ops.size) (hi : i < ops.size) (hL : ∀ j, j < ops.size -> R.getD j false = false -> j ∈ l) :
 ∀ j, j < ops.size -> (R.setIfInBounds i true).getD j false = false -> j ∈ l.erase i := fun j hj h => by
 rw [getD_put (by omega)] at h
 by_cases e : j = i
 . rw [if_pos e] at h; cases h
 . rw [if_neg e] at h; exact (List.mem_erase_of_ne e).2 (hL j hj h)
variable {C T PQ : List Nat} {Pd : List (Nat × Nat)} {tsC tsR : List (Nat × Tm)} {h : List (Nat × Blk)} {n m : Nat}
theorem AInv.dc_put (H : AInv P τ base ops ψ0 S0 w0 R C T PQ Pd tsC tsR h n m ψ S w a) {i : Nat} (hi : i ∈ Region.ready .any ops R) : ∀ j k, (R.setIfInBounds i true).getD j false = true -> Dep ops j k -> (R.setIfInBounds i true).getD k false = true := by
 obtain ⟨h1, h2, h3⟩ := ready_preds hi
 intro j k hj hd
 rw [getD_put (by rw [H.sz]; exact h1)] at hj ⊢
 by_cases ek : k = i
 . rw [if_pos ek]
 . rw [if_neg ek]
   by_cases ej : j = i
   . subst ej
     cases hd with
     | one he => exact h3 _ he
     | more he hd => exact H.dc _ _ (h3 _ he) hd
   . rw [if_neg ej] at hj
     exact H.dc j k hj hd
theorem AInv.quiet (hτ : TysOk P τ) (hz : ∀ t i, τ t = some i -> zeroOk i.zero) (hrk : rOk ops = true) (H : AInv P τ base ops ψ0 S0 w0 R C T PQ Pd tsC tsR h n m ψ S w a) {i : Nat} (hi : i ∈ Region.ready .any ops R) (hp : i ∈ PQ) {next : Act -> World -> Prop}
 (hn : ∀ tsR' ψ' S' w' a', AInv P τ base ops ψ0 S0 w0 (R.setIfInBounds i true) C T (PQ.filter fun k => k != i) Pd tsC tsR' h n m ψ' S' w' a' -> next a' w') : wpOp P ops Q i next a w := by
 obtain ⟨h1, h2, h3⟩ := ready_preds hi
 obtain ⟨p1, p2, p3⟩ := H.pq i hp
 obtain ⟨d, hd, hm, hv⟩ := H.qo i hp
 have hun : R.getD i false = false := by rw [<- getD_tf H.sz h1]; exact h2
 have hlook : ∀ t ∈ looks ops i, lookT tsR t = lookT tsC t := fun t ht => H.ts t fun k hk e => by
  rcases H.tq i p1 k (H.pq k hk).1 with g | g
  . exact noDst_ne g e ht
  . have hkR : R.getD k false = true := by
     cases g with
     | one he => exact h3 _ he
     | more he hd => exact H.dc _ _ (h3 _ he) hd
    have hks := H.cs k (H.pq k hk).2.1
    rcases (H.li k hks).1 hkR with ⟨_, g⟩ | ⟨b, g⟩
    . exact g hk
    . exact (H.pd k b g).2.1 (H.pq k hk).2.1
 refine quiet_real hτ hz H.rel hd hm (takeV_congr (fun t ht => hlook t ht) (fun k _ => rfl) hv) fun ψ' S' w' v hr he => hn _ ψ' S' w' _ ⟨by simpa using H.sz, fun j hj => ?_, H.cs, fun k hk => ?_, fun k hk => ?_, H.tc, H.tq, H.dc_put hi, fun z b hzb => ?_, H.nd, fun t ht => ?_, fun z hzs hzz hzc d' hd' => ?_, by rw [hd] at *; exact hr, H.ext.trans he⟩
 . rw [getD_put (by rw [H.sz]; exact h1)]
   by_cases e : j = i
   . subst e; rw [if_pos rfl]; exact ⟨fun _ => .inl ⟨p2, by simp⟩, fun _ => rfl⟩
   . rw [if_neg e, H.li j hj]
     simp [List.mem_filter, e]
 . exact H.pq k (List.mem_filter.1 hk).1
 . exact H.qo k (List.mem_filter.1 hk).1
 . obtain ⟨g1, g2, g3, g4⟩ := H.pd z b hzb
   refine ⟨g1, g2, g3, ?_⟩
   rw [<- hd]
   exact g4.step (rOk_z hrk g1 g3 h1 fun e => by subst e; rw [g1] at p3; cases p3) he
 . rw [lookT_set]
   by_cases e : d = t
   . subst e; rw [if_pos rfl]
   . rw [if_neg e]
     refine H.ts t fun k hk hkd => ?_
     by_cases ek : k = i
     . subst ek; rw [hd] at hkd; cases hkd; exact e rfl
     . exact ht k (List.mem_filter.2 ⟨hk, by simpa using ek⟩) hkd
 . rw [lookT_set, if_neg]
   . exact H.zt z hzs hzz hzc d' hd'
   . rintro rfl
     exact rOk_z hrk hzz hzs h1 (fun e => by subst e; rw [hzz] at p3; cases p3) (by rw [hd, hd'])
theorem AInv.made (hτ : TysOk P τ) (hz : ∀ t i, τ t = some i -> zeroOk i.zero) (hrk : rOk ops = true) (hzf : zFit τ m ops = true) (H : AInv P τ base ops ψ0 S0 w0 R C T PQ Pd tsC tsR h n m ψ S w a) {i : Nat} (hi : i ∈ Region.ready .any ops R) (hzi : isZ ops i = true) (hC : i ∉ C) {next : Act -> World -> Prop}
 (hn : ∀ ψ' S' w' a' b, AInv P τ base ops ψ0 S0 w0 (R.setIfInBounds i true) C T PQ ((i, b) :: Pd) tsC tsR h n m ψ' S' w' a' -> next a' w') : wpOp P ops Q i next a w := by
 obtain ⟨h1, h2, h3⟩ := ready_preds hi
 have hun : R.getD i false = false := by rw [<- getD_tf H.sz h1]; exact h2
 refine alloc_real hτ hz h1 hzi hzf H.rel H.ext.grow (H.zt i h1 hzi hC) fun w' v hr he hP => hn ψ S w' _ w.heap.size ⟨by simpa using H.sz, fun j hj => ?_, H.cs, H.pq, H.qo, H.tc, H.tq, H.dc_put hi, fun z b hzb => ?_, ?_, H.ts, H.zt, hr, H.ext.trans he⟩
 . rw [getD_put (by rw [H.sz]; exact h1)]
   by_cases e : j = i
   . subst e; rw [if_pos rfl]; exact ⟨fun _ => .inr ⟨_, List.mem_cons_self⟩, fun _ => rfl⟩
   . rw [if_neg e, H.li j hj]
     simp [e]
 . rcases List.mem_cons.1 hzb with e | hzb
   . cases e; exact ⟨hzi, hC, h1, hP⟩
   . obtain ⟨g1, g2, g3, g4⟩ := H.pd z b hzb
     refine ⟨g1, g2, g3, g4.step ?_ he⟩
     refine rOk_z hrk g1 g3 h1 fun e => ?_
     subst e
     have := (H.li i h1).2 (.inr ⟨b, hzb⟩)
     rw [hun] at this; cases this
 . simp only [List.map_cons, List.nodup_cons]
   refine ⟨fun hm => ?_, H.nd⟩
   obtain ⟨⟨z, b⟩, hzb, e⟩ := List.mem_map.1 hm
   dsimp only at e
   subst e
   obtain ⟨_, _, _, _, _, _, _, _, _, _, _, _, _, _, _, _, _, _, _, _, _, _, g⟩ := H.pd z _ hzb
   exact absurd g (Nat.lt_irrefl _)
end
section
variable {P : Program} {τ : Tys} {base : Nat} {ψ ψ' ψ0 : Psi} {S S' S0 : Nat → Prop} {w w' w0 : World} {a : Act} {ops : Array Oper} {Q : Exit → Act → World → Prop} {R : Array Bool}
variable {C T PQ : List Nat} {Pd : List (Nat × Nat)} {tsC tsR : List (Nat × Tm)} {h : List (Nat × Blk)} {n m : Nat}
theorem AInv.ahead (H : AInv P τ base ops ψ0 S0 w0 R C T PQ Pd tsC tsR h n m ψ S w a) {i d : Nat} {y : Tm} (hi : i < ops.size) (hC : i ∉ C) (hZ : isZ ops i = false) (hd : dstAt ops i = some d) (hm : Nat.blt d m = true) (hown : noDst ops i (looks ops i) = true) (hun : R.getD i false = false)
 (hT : ∀ k ∈ T, freeT ops (some d) k = true /\ (noDst ops k (looks ops i) = true \/ Dep ops i k)) (hv : takeV P τ ops.toList i ⟨tsC, h, n, m⟩ (fun x => x = y)) :
 AInv P τ base ops ψ0 S0 w0 R (i :: C) (i :: T) (i :: PQ) Pd ((d, y) :: tsC) tsR h n m ψ S w a := by
 have old : ∀ k ∈ T, ∀ t ∈ looks ops k, lookT ((d, y) :: tsC) t = lookT tsC t := fun k hk t ht => by
  rw [lookT_set, if_neg]
  rintro rfl
  exact (freeT_spec (hT k hk).1).1 ht
 refine ⟨H.sz, fun j hj => ?_, fun j hj => ?_, fun k hk => ?_, fun k hk => ?_, fun k hk => ?_, fun x hx k hk => ?_, H.dc, fun z b hzb => ?_, H.nd, fun t ht => ?_, fun z hzs hzz hzc => H.zt z hzs hzz fun hc => hzc (List.mem_cons_of_mem _ hc), H.rel, H.ext⟩
 . rw [H.li j hj]
   simp only [List.mem_cons, not_or]
   constructor
   . rintro (⟨h1, h2⟩ | h1)
     . exact .inl ⟨.inr h1, fun e => by subst e; exact hC h1, h2⟩
     . exact .inr h1
   . rintro (⟨h1 | h1, h2, h3⟩ | h1)
     . exact absurd h1 h2
     . exact .inl ⟨h1, h3⟩
     . exact .inr h1
 . rcases List.mem_cons.1 hj with rfl | hj
   . exact hi
   . exact H.cs j hj
 . rcases List.mem_cons.1 hk with rfl | hk
   . exact ⟨List.mem_cons_self, List.mem_cons_self, hZ⟩
   . obtain ⟨g1, g2, g3⟩ := H.pq k hk; exact ⟨List.mem_cons_of_mem _ g1, List.mem_cons_of_mem _ g2, g3⟩
 . rcases List.mem_cons.1 hk with rfl | hk
   . refine ⟨d, hd, hm, ?_⟩
     have := takeV_congr (ts' := (d, y) :: tsC) (h' := h) (n' := n) (m' := m) (fun t ht => by rw [lookT_set, if_neg]; rintro rfl; exact noDst_ne hown hd ht) (fun k _ => rfl) hv
     have e : lookT ((d, y) :: tsC) d = y := by rw [lookT_set, if_pos rfl]
     rw [e]; exact this
   . obtain ⟨d', g1, g2, g3⟩ := H.qo k hk
     refine ⟨d', g1, g2, ?_⟩
     have := takeV_congr (ts' := (d, y) :: tsC) (h' := h) (n' := n) (m' := m) (old k (H.pq k hk).1) (fun k _ => rfl) g3
     have e : lookT ((d, y) :: tsC) d' = lookT tsC d' := by
      rw [lookT_set, if_neg]; rintro rfl; exact (freeT_spec (hT k (H.pq k hk).1).1).2 g1
     rw [e]; exact this
 . rcases List.mem_cons.1 hk with rfl | hk
   . exact List.mem_cons_self
   . exact List.mem_cons_of_mem _ (H.tc k hk)
 . rcases List.mem_cons.1 hx with ex | hx'
   . rcases List.mem_cons.1 hk with ek | hk'
     . rw [ex, ek]; exact .inl hown
     . rw [ex]; exact (hT k hk').2
   . rcases List.mem_cons.1 hk with ek | hk'
     . left
       rw [ek]
       unfold noDst; rw [hd]
       simpa using (freeT_spec (hT x hx').1).1
     . exact H.tq x hx' k hk'
 . obtain ⟨g1, g2, g3, g4⟩ := H.pd z b hzb
   refine ⟨g1, fun hc => ?_, g3, g4⟩
   rcases List.mem_cons.1 hc with rfl | hc
   . rw [hZ] at g1; cases g1
   . exact g2 hc
 . rw [lookT_set, if_neg]
   . exact H.ts t fun k hk => ht k (List.mem_cons_of_mem _ hk)
   . rintro rfl; exact ht i List.mem_cons_self hd
theorem AInv.did (hrk : rOk ops = true) (H : AInv P τ base ops ψ0 S0 w0 R C T PQ Pd tsC tsR h n m ψ S w a) {j : Nat} {T' ids : List Nat} {st1 : St} {ψ' : Psi} {S' : Nat -> Prop} {w' : World} {v : Value} (hj : j ∈ Region.ready .any ops R) (hC : j ∉ C) (hZ : isZ ops j = false)
 (hT' : T' = T.filter fun k => !depB (tblN ops ops.size) j k) (hfree : ∀ k ∈ T', freeT ops (dstAt ops j) k = true) (hfit : idsFit ops ids T' tsC h n = true)
 (hr : Rel P base ψ' S' w' (afterF ids (dstAt ops j) ⟨tsR, h, n, m⟩ st1) (a.put (dstAt ops j) v)) (he : Ext base ψ S w ψ' S' w') :
 ∃ tsC' tsR' h' n', afterF ids (dstAt ops j) ⟨tsC, h, n, m⟩ st1 = ⟨tsC', h', n', m⟩ /\ AInv P τ base ops ψ0 S0 w0 (R.setIfInBounds j true) (j :: C) T' PQ Pd tsC' tsR' h' n' m ψ' S' w' (a.put (dstAt ops j) v) := by
 obtain ⟨r1, r2, r3⟩ := ready_preds hj
 obtain ⟨ts1, h1, n1, m1⟩ := st1
 simp only [idsFit, Bool.and_eq_true] at hfit
 obtain ⟨⟨⟨⟨f1, f2⟩, f3⟩, f4⟩, f5⟩ := hfit
 have hPT : ∀ k ∈ PQ, k ∈ T' := fun k hk => by
  rw [hT']
  refine List.mem_filter.2 ⟨(H.pq k hk).1, ?_⟩
  cases hb : depB (tblN ops ops.size) j k with
  | false => rfl
  | true =>
    have hd := depB_ok hb
    have hkR : R.getD k false = true := by
     cases hd with
     | one he => exact r3 _ he
     | more he hd => exact H.dc _ _ (r3 _ he) hd
    rcases (H.li k (H.cs k (H.pq k hk).2.1)).1 hkR with ⟨_, g⟩ | ⟨b, g⟩
    . exact absurd hk g
    . exact absurd (H.pq k hk).2.1 (H.pd k b g).2.1
 have hTT : ∀ k ∈ T', k ∈ T := fun k hk => by rw [hT'] at hk; exact (List.mem_filter.1 hk).1
 -- the new slot
 obtain ⟨ds, hds, hdsm⟩ : ∃ ds : List (Nat × Tm), (∀ ts, afterF ids (dstAt ops j) ⟨ts, h, n, m⟩ ⟨ts1, h1, n1, m1⟩ = ⟨ds ++ ts, backF ids n h1 h, n + (n1 - ids.length), m⟩) /\ ∀ p ∈ ds, dstAt ops j = some p.1 := by
  cases hd : dstAt ops j with
  | none => exact ⟨[], fun ts => rfl, fun p hp => by cases hp⟩
  | some d => exact ⟨[(d, _)], fun ts => rfl, fun p hp => by rw [List.mem_singleton.1 hp]⟩
 rw [hds] at hr
 refine ⟨_, ds ++ tsR, _, _, hds tsC, by simpa using H.sz, fun i hi => ?_, fun i hi => ?_, fun k hk => ?_, fun k hk => ?_, fun k hk => ?_, fun x hx k hk => ?_, H.dc_put hj, fun z b hzb => ?_, H.nd, fun t ht => ?_, fun z hzs hzz hzc d hd => ?_, hr, H.ext.trans he⟩
 . rw [getD_put (by rw [H.sz]; exact r1)]
   by_cases e : i = j
   . subst e; rw [if_pos rfl]; exact ⟨fun _ => .inl ⟨List.mem_cons_self, fun hq => hC (H.pq i hq).2.1⟩, fun _ => rfl⟩
   . rw [if_neg e, H.li i hi]
     simp [List.mem_cons, e]
 . rcases List.mem_cons.1 hi with rfl | hi
   . exact r1
   . exact H.cs i hi
 . obtain ⟨g1, g2, g3⟩ := H.pq k hk
   exact ⟨hPT k hk, List.mem_cons_of_mem _ g2, g3⟩
 . obtain ⟨d, g1, g2, g3⟩ := H.qo k hk
   refine ⟨d, g1, g2, ?_⟩
   have hk' := hPT k hk
   have hfk := hfree k hk'
   have hne : ∀ t, (t ∈ looks ops k \/ t = d) -> lookT (ds ++ tsC) t = lookT tsC t := fun t ht => lookT_app fun p hp e => by
    have := hdsm p hp
    rw [this] at hfk
    obtain ⟨q1, q2⟩ := freeT_spec hfk
    rcases ht with ht | ht
    . exact q1 (e ▸ ht)
    . exact q2 (by rw [g1, <- ht, e])
   rw [hne d (.inr rfl)]
   refine takeV_congr (fun t ht => hne t (.inl ht)) (fun b hb => ?_) g3
   have := List.all_eq_true.1 (List.all_eq_true.1 f5 k hk') b hb
   simp only [Bool.and_eq_true, Bool.not_eq_true'] at this
   exact backF_old f3 this.1 (Nat.le_of_ble_eq_true this.2)
 . exact List.mem_cons_of_mem _ (H.tc k (hTT k hk))
 . exact H.tq x (hTT x hx) k (hTT k hk)
 . obtain ⟨g1, g2, g3, g4⟩ := H.pd z b hzb
   have hne : z ≠ j := fun e => by subst e; rw [g1] at hZ; cases hZ
   refine ⟨g1, fun hc => ?_, g3, g4.step (rOk_z hrk g1 g3 r1 (Ne.symm hne)) he⟩
   rcases List.mem_cons.1 hc with e | hc
   . exact hne e
   . exact g2 hc
 . exact lookT_pre (H.ts t ht)
 . have hne : z ≠ j := fun e => hzc (e ▸ List.mem_cons_self)
   rw [lookT_app]
   . exact H.zt z hzs hzz (fun hc => hzc (List.mem_cons_of_mem _ hc)) d hd
   . rintro p hp rfl
     exact rOk_z hrk hzz hzs r1 (Ne.symm hne) (by rw [hdsm p hp, hd])
theorem AInv.told (hrk : rOk ops = true) (H : AInv P τ base ops ψ0 S0 w0 R C T PQ Pd tsC tsR h n m ψ S w a) {zs : List Nat} {K : St -> Prop} (hzs : zs = (List.range ops.size).filter (fun z => isZ ops z && !C.contains z)) (hall : ∀ z ∈ zs, ∃ b, (z, b) ∈ Pd)
 (hfree : ∀ k ∈ T, ∀ z ∈ zs, freeT ops (dstAt ops z) k = true) (hlt : ∀ k ∈ T, ∀ b ∈ rdAt ops k tsC, b < n) (hk : newsP τ ops zs ⟨tsC, h, n, m⟩ K) :
 ∃ tsC' tsR' h' n' ψ', K ⟨tsC', h', n', m⟩ /\ AInv P τ base ops ψ0 S0 w0 R (zs ++ C) T PQ [] tsC' tsR' h' n' m ψ' S w a := by
 have hmz : ∀ z, z ∈ zs ↔ (z < ops.size /\ isZ ops z = true /\ z ∉ C) := fun z => by rw [hzs]; simp [List.mem_filter]
 obtain ⟨ds, hs, n', ψ', g1, g2, g3, g4, g5⟩ := news_ok zs Pd ψ tsC tsR h n m K (by rw [hzs]; exact List.filter_sublist.nodup List.nodup_range) H.nd
  (fun z hz => by obtain ⟨b, hb⟩ := hall z hz; exact ⟨b, hb, (H.pd z b hb).2.2.2⟩) H.rel H.rel.bas H.ext hk
 have hPd : ∀ i b, (i, b) ∈ Pd -> i ∈ zs := fun i b hb => by
  obtain ⟨q1, q2, q3, _⟩ := H.pd i b hb
  exact (hmz i).2 ⟨q3, q1, q2⟩
 have hPz : ∀ i ∈ PQ, i ∉ zs := fun i hi hz => by
  have := ((hmz i).1 hz).2.1
  rw [(H.pq i hi).2.2] at this; cases this
 have hne : ∀ k ∈ T, ∀ t, (t ∈ looks ops k \/ dstAt ops k = some t) -> lookT (ds ++ tsC) t = lookT tsC t := fun k hk t ht => lookT_app fun p hp e => by
  obtain ⟨z, hz, hd⟩ := g4 p hp
  have := hfree k hk z hz
  rw [hd] at this
  obtain ⟨q1, q2⟩ := freeT_spec this
  rcases ht with ht | ht
  . exact q1 (e ▸ ht)
  . exact q2 (by rw [ht, e])
 refine ⟨_, ds ++ tsR, _, n', ψ', g1, H.sz, fun i hi => ?_, fun i hi => ?_, fun k hk => ?_, fun k hk => ?_, fun k hk => List.mem_append_right _ (H.tc k hk), H.tq, H.dc, fun z b hzb => (by cases hzb), (by simp), fun t ht => lookT_pre (H.ts t ht), fun z hz1 hz2 hz3 d hd => ?_, g2, g3⟩
 . rw [H.li i hi]
   constructor
   . rintro (⟨q1, q2⟩ | ⟨b, q⟩)
     . exact .inl ⟨List.mem_append_right _ q1, q2⟩
     . exact .inl ⟨List.mem_append_left _ (hPd i b q), fun hp => hPz i hp (hPd i b q)⟩
   . rintro (⟨q1, q2⟩ | ⟨b, q⟩)
     . rcases List.mem_append.1 q1 with q1 | q1
       . exact .inr (hall i q1)
       . exact .inl ⟨q1, q2⟩
     . cases q
 . rcases List.mem_append.1 hi with hi | hi
   . exact ((hmz i).1 hi).1
   . exact H.cs i hi
 . obtain ⟨q1, q2, q3⟩ := H.pq k hk
   exact ⟨q1, List.mem_append_right _ q2, q3⟩
 . obtain ⟨d, q1, q2, q3⟩ := H.qo k hk
   refine ⟨d, q1, q2, ?_⟩
   have hkT := (H.pq k hk).1
   rw [hne k hkT d (.inr q1)]
   exact takeV_congr (fun t ht => hne k hkT t (.inl ht)) (fun b hb => lookB_app g5 (hlt k hkT b hb)) q3
 . exact absurd (List.mem_append_left _ ((hmz z).2 ⟨hz1, hz2, fun hc => hz3 (List.mem_append_right _ hc)⟩)) hz3
theorem any_main (hτ : TysOk P τ) (hz : ∀ t i, τ t = some i -> zeroOk i.zero) {calls : Nat -> Nat -> List Va -> St -> (Tm -> St -> Prop) -> Prop} (hcalls : ∀ b, CallsOk P b (calls b)) {reach : List Nat -> St -> List Nat} (hrk : rOk ops = true) (hzf : zFit τ m ops = true) {K : St -> Prop}
 (hq : ∀ st' ψ' S' w' a', K st' -> Rel P base ψ' S' w' st' a' -> Ext base ψ0 S0 w0 ψ' S' w' -> Q .normal a' w') :
 ∀ (N : Nat) (p : List Stp) (fuel : Nat) (L : List Nat) (R : Array Bool) (C T PQ : List Nat) (Pd : List (Nat × Nat)) (tsC tsR : List (Nat × Tm)) (h : List (Nat × Blk)) (n : Nat) (ψ : Psi) (S : Nat -> Prop) (w : World) (a : Act),
  p.length + fuel <= N -> pOk ops (tblN ops ops.size) p C T = true -> anyP P τ calls reach ops p T ⟨tsC, h, n, m⟩ K -> AInv P τ base ops ψ0 S0 w0 R C T PQ Pd tsC tsR h n m ψ S w a ->
  (∀ i, i < ops.size -> R.getD i false = false -> i ∈ L) -> L.length <= fuel -> wpAny P .any ops Q fuel R a w := by
 intro N
 induction N with
 | zero =>
   intro p fuel L R C T PQ Pd tsC tsR h n ψ S w a hN hp hk H hL hLf
   have hp0 : p = [] := List.eq_nil_of_length_eq_zero (by omega)
   have hf0 : fuel = 0 := by omega
   subst hp0; subst hf0
   have hL0 : L = [] := List.eq_nil_of_length_eq_zero (by omega)
   subst hL0
   have hall : ∀ i, i < ops.size -> R.getD i false = true := fun i hi => by
    cases e : R.getD i false with
    | true => rfl
    | false => cases hL i hi e
   have hPQ : ∀ i, i ∉ PQ := fun i hi => by
    rcases (H.li i (H.cs i (H.pq i hi).2.1)).1 (hall i (H.cs i (H.pq i hi).2.1)) with ⟨_, g⟩ | ⟨b, g⟩
    . exact g hi
    . exact (H.pd i b g).2.1 (H.pq i hi).2.1
   refine ⟨?_, hq _ ψ S w a hk ⟨H.rel.bas, H.rel.sim, H.rel.lim, H.rel.defers, fun t => ?_⟩ H.ext⟩
   . rw [List.eq_nil_iff_forall_not_mem]
     intro i hi
     obtain ⟨h1, h2, _⟩ := ready_preds hi
     have := hall i h1
     rw [<- getD_tf H.sz h1, h2] at this; cases this
   . have := H.rel.tmps t
     rw [show lookT (St.tmps ⟨tsR, h, n, m⟩) t = lookT tsC t from H.ts t fun i hi => absurd hi (hPQ i)] at this
     exact this
 | succ N IH =>
   intro p fuel L R C T PQ Pd tsC tsR h n ψ S w a hN hp hk H hL hLf
   -- rounds of the run itself
   have unl : ∀ i, i ∈ Region.ready .any ops R -> i < ops.size /\ R.getD i false = false := fun i hi => by
    obtain ⟨h1, h2, _⟩ := ready_preds hi
    exact ⟨h1, by rw [<- getD_tf H.sz h1]; exact h2⟩
   have inPQ : ∀ i, i ∈ Region.ready .any ops R -> i ∈ C -> i ∈ PQ := fun i hi hc => by
    obtain ⟨h1, h2⟩ := unl i hi
    by_cases hq : i ∈ PQ
    . exact hq
    . have := (H.li i h1).2 (.inl ⟨hc, hq⟩)
      rw [h2] at this; cases this
   have stepPQ : ∀ f i, f + 1 = fuel -> i ∈ Region.ready .any ops R -> i ∈ PQ -> wpOp P ops Q i (wpAny P .any ops Q f (R.setIfInBounds i true)) a w := fun f i hf hi hpq => by
    obtain ⟨h1, h2⟩ := unl i hi
    exact H.quiet hτ hz hrk hi hpq fun tsR' ψ' S' w' a' H' => IH p f (L.erase i) _ C T _ Pd tsC tsR' h n ψ' S' w' a' (by omega) hp hk H' (put_set H.sz h1 hL) (by rw [List.length_erase_of_mem (hL i h1 h2)]; omega)
   have stepZ : ∀ f i, f + 1 = fuel -> i ∈ Region.ready .any ops R -> isZ ops i = true -> i ∉ C -> wpOp P ops Q i (wpAny P .any ops Q f (R.setIfInBounds i true)) a w := fun f i hf hi hzi hC => by
    obtain ⟨h1, h2⟩ := unl i hi
    exact H.made hτ hz hrk hzf hi hzi hC fun ψ' S' w' a' b H' => IH p f (L.erase i) _ C T PQ _ tsC tsR h n ψ' S' w' a' (by omega) hp hk H' (put_set H.sz h1 hL) (by rw [List.length_erase_of_mem (hL i h1 h2)]; omega)
   have predC : ∀ i, i ∈ Region.ready .any ops R -> ∀ e ∈ preds ops i, e ∈ C \/ ∃ b, (e, b) ∈ Pd := fun i hi e he => by
    obtain ⟨h1, _, h3⟩ := ready_preds hi
    have hes := Nat.lt_trans (rOk_lt hrk h1 he) h1
    rcases (H.li e hes).1 (h3 e he) with ⟨g, _⟩ | g
    . exact .inl g
    . exact .inr g
   match p, hN, hp, hk with
   | [], hN, hp, hk =>
     have hC : ∀ i, i < ops.size -> i ∈ C := fun i hi => by simpa using List.all_eq_true.1 hp i (List.mem_range.2 hi)
     have done : Region.ready .any ops R = [] -> Q .normal a w := fun h0 => by
      have hall := all_of_ready hrk H.sz h0
      have hPQ : ∀ i, i ∉ PQ := fun i hi => by
       rcases (H.li i (H.cs i (H.pq i hi).2.1)).1 (hall i (H.cs i (H.pq i hi).2.1)) with ⟨_, g⟩ | ⟨b, g⟩
       . exact g hi
       . exact (H.pd i b g).2.1 (H.pq i hi).2.1
      refine hq _ ψ S w a hk ⟨H.rel.bas, H.rel.sim, H.rel.lim, H.rel.defers, fun t => ?_⟩ H.ext
      have := H.rel.tmps t
      rw [show lookT (St.tmps ⟨tsR, h, n, m⟩) t = lookT tsC t from H.ts t fun i hi => absurd hi (hPQ i)] at this
      exact this
     cases fuel with
     | zero =>
       have hL0 : L = [] := List.eq_nil_of_length_eq_zero (by omega)
       have h0 : Region.ready .any ops R = [] := by
        rw [List.eq_nil_iff_forall_not_mem]
        intro i hi
        obtain ⟨h1, h2⟩ := unl i hi
        have := hL i h1 h2
        rw [hL0] at this; cases this
       exact ⟨h0, done h0⟩
     | succ f => exact ⟨done, fun i hi => stepPQ f i rfl hi (inPQ i hi (hC i (unl i hi).1))⟩
   | .take i :: p, hN, hp, hk =>
     simp only [pOk, Bool.and_eq_true, Bool.not_eq_true', Bool.or_eq_true] at hp
     obtain ⟨⟨⟨⟨⟨⟨⟨p1, p2⟩, p3⟩, p4⟩, p5⟩, p6⟩, p7⟩, p8⟩ := hp
     obtain ⟨d, hd⟩ := Option.isSome_iff_exists.1 p4
     simp only [anyP] at hk
     obtain ⟨y, hk, hv⟩ := takeV_lin hk
     rw [hd] at hk
     have hm : Nat.blt d m = true := by
      cases hb : Nat.blt d m with
      | true => rfl
      | false =>
        have hk : (match Nat.blt d m with | true => fT y fun x => anyP P τ calls reach ops p (i :: T) ⟨(d, x) :: tsC, h, n, m⟩ K | false => False) := hk
        rw [hb] at hk; exact hk.elim
     rw [putK_some hm] at hk
     have hC : i ∉ C := by simpa using p2
     have his : i < ops.size := Nat.le_of_ble_eq_true p1
     have hun : R.getD i false = false := by
      cases e : R.getD i false with
      | false => rfl
      | true =>
        rcases (H.li i his).1 e with ⟨g, _⟩ | ⟨b, g⟩
        . exact absurd g hC
        . have := (H.pd i b g).1; rw [p3] at this; cases this
     exact IH p fuel L R _ _ _ Pd _ tsR h n ψ S w a (by simp at hN; omega) p8 hk (H.ahead his hC p3 hd hm p6 hun (fun k hk => by
      have := List.all_eq_true.1 p7 k hk
      simp only [Bool.and_eq_true, Bool.or_eq_true] at this
      rw [hd] at this
      exact ⟨this.1, this.2.imp id depB_ok⟩) hv) hL hLf
   | .news zs :: p, hN, hp, hk =>
     simp only [pOk, Bool.and_eq_true] at hp
     obtain ⟨⟨⟨p1, p2⟩, p3⟩, p4⟩ := hp
     have p1 := beq_iff_eq.1 p1
     simp only [anyP] at hk
     obtain ⟨hlt, hk⟩ := hk
     have hmz : ∀ z, z ∈ zs ↔ (z < ops.size /\ isZ ops z = true /\ z ∉ C) := fun z => by rw [p1]; simp [List.mem_filter]
     by_cases hall : ∀ z ∈ zs, ∃ b, (z, b) ∈ Pd
     . obtain ⟨tsC', tsR', h', n', ψ', hk, H'⟩ := H.told hrk p1 hall (fun k hk z hz => List.all_eq_true.1 (List.all_eq_true.1 p3 k hk) z hz) (fun k hk b hb => Nat.le_of_ble_eq_true (List.all_eq_true.1 (List.all_eq_true.1 hlt k hk) b hb)) hk
       exact IH p fuel L R _ T PQ [] tsC' tsR' h' n' ψ' S w a (by simp at hN; omega) p4 hk H' hL hLf
     . obtain ⟨z, hzz⟩ := Classical.not_forall.1 hall
       obtain ⟨hz1, hz2⟩ := Classical.not_imp.1 hzz
       obtain ⟨q1, q2, q3⟩ := (hmz z).1 hz1
       have hzun : R.getD z false = false := by
        cases e : R.getD z false with
        | false => rfl
        | true =>
          rcases (H.li z q1).1 e with ⟨g, _⟩ | g
          . exact absurd g q3
          . exact absurd g hz2
       cases fuel with
       | zero =>
         have hL0 : L = [] := List.eq_nil_of_length_eq_zero (by omega)
         have := hL z q1 hzun
         rw [hL0] at this; cases this
       | succ f =>
         refine ⟨fun h0 => ?_, fun i hi => ?_⟩
         . have := all_of_ready hrk H.sz h0 z q1
           rw [hzun] at this; cases this
         . by_cases hc : i ∈ C
           . exact stepPQ f i rfl hi (inPQ i hi hc)
           . cases hzi : isZ ops i with
             | true => exact stepZ f i rfl hi hzi hc
             | false =>
               exfalso
               have := List.all_eq_true.1 (List.all_eq_true.1 p2 z hz1) i (List.mem_range.2 (unl i hi).1)
               rw [hzi] at this
               simp only [Bool.false_or, Bool.or_eq_true, Bool.not_eq_true'] at this
               rcases this with g | g
               . exact hc (by simpa using g)
               . rw [<- Bool.not_eq_true] at g
                 apply g
                 rw [List.all_eq_true]
                 intro e he
                 rcases predC i hi e he with g1 | ⟨b, g1⟩
                 . simp [g1]
                 . have hez : e ∈ zs := (hmz e).2 ⟨(H.pd e b g1).2.2.1, (H.pd e b g1).1, (H.pd e b g1).2.1⟩
                   have hne : e ≠ z := fun e1 => hz2 ⟨b, e1 ▸ g1⟩
                   have : Nat.beq e z = false := by
                    cases hb : Nat.beq e z with
                    | false => rfl
                    | true => exact absurd (Nat.eq_of_beq_eq_true hb) hne
                   simp [hez, this]
   | .act j T' rd :: p, hN, hp, hk =>
     simp only [pOk, Bool.and_eq_true, Bool.not_eq_true'] at hp
     obtain ⟨⟨⟨⟨⟨⟨⟨⟨p1, p2⟩, p3⟩, p4⟩, p5⟩, p6⟩, p7⟩, p8⟩, p9⟩ := hp
     have p6 := beq_iff_eq.1 p6
     have p7 := beq_iff_eq.1 p7
     have hjs : j < ops.size := Nat.le_of_ble_eq_true p1
     have hjC : j ∉ C := by simpa using p2
     have hjun : R.getD j false = false := by
      cases e : R.getD j false with
      | false => rfl
      | true =>
        rcases (H.li j hjs).1 e with ⟨g, _⟩ | ⟨b, g⟩
        . exact absurd g hjC
        . have := (H.pd j b g).1; rw [p3] at this; cases this
     simp only [anyP] at hk
     obtain ⟨hfit, hk⟩ := hk
     cases fuel with
     | zero =>
       have hL0 : L = [] := List.eq_nil_of_length_eq_zero (by omega)
       have := hL j hjs hjun
       rw [hL0] at this; cases this
     | succ f =>
       refine ⟨fun h0 => ?_, fun i hi => ?_⟩
       . have := all_of_ready hrk H.sz h0 j hjs
         rw [hjun] at this; cases this
       . by_cases hc : i ∈ C
         . exact stepPQ f i rfl hi (inPQ i hi hc)
         . cases hzi : isZ ops i with
           | true => exact stepZ f i rfl hi hzi hc
           | false =>
             have hij : i = j := by
              have := List.all_eq_true.1 p5 i (List.mem_range.2 (unl i hi).1)
              rw [hzi] at this
              simp only [Bool.false_or, Bool.or_eq_true, Bool.not_eq_true'] at this
              rcases this with g | g | g
              . exact Nat.eq_of_beq_eq_true g
              . exact absurd (by simpa using g) hc
              . exfalso
                rw [<- Bool.not_eq_true] at g
                apply g
                rw [List.all_eq_true]
                intro e he
                rcases predC i hi e he with g1 | ⟨b, g1⟩
                . simp [g1]
                . simp [(H.pd e b g1).1]
             subst hij
             -- the act
             have hlook : ∀ t ∈ rd, lookT tsR t = lookT tsC t := fun t ht => H.ts t fun k hkq hkd => by
              have hkT' : k ∈ T' := by
               rw [p6]
               refine List.mem_filter.2 ⟨(H.pq k hkq).1, ?_⟩
               cases hb : depB (tblN ops ops.size) i k with
               | false => rfl
               | true =>
                 obtain ⟨_, _, r3⟩ := ready_preds hi
                 have hkR : R.getD k false = true := by
                  cases depB_ok hb with
                  | one he => exact r3 _ he
                  | more he hd => exact H.dc _ _ (r3 _ he) hd
                 rcases (H.li k (H.cs k (H.pq k hkq).2.1)).1 hkR with ⟨_, g⟩ | ⟨b, g⟩
                 . exact absurd hkq g
                 . exact absurd (H.pq k hkq).2.1 (H.pd k b g).2.1
              have := List.all_eq_true.1 p8 k hkT'
              rw [Bool.and_eq_true] at this
              exact noDst_ne this.2 hkd ht
             have hfit' := hfit
             simp only [idsFit, Bool.and_eq_true] at hfit'
             obtain ⟨⟨⟨⟨f1, f2⟩, f3⟩, f4⟩, _⟩ := hfit'
             rw [<- renTs_same hlook] at hk
             refine opAt_frame hτ hz (hcalls _) H.rel f1 f2 f3 f4 hk fun st1 ψ2 S' w' v hk1 hr hsub he => ?_
             obtain ⟨tsC', tsR', h', n', e1, H'⟩ := H.did hrk hi hjC p3 p6 (fun k hk => by
              have := List.all_eq_true.1 p8 k hk
              rw [Bool.and_eq_true] at this; exact this.1) hfit hr he
             rw [e1] at hk1
             exact IH p f (L.erase i) _ _ T' PQ Pd tsC' tsR' h' n' ψ2 S' w' _ (by simp at hN; omega) p9 hk1 H' (put_set H.sz hjs hL) (by rw [List.length_erase_of_mem (hL i hjs hjun)]; omega)
theorem upon_monoQ {P : Program} {o : Oper} {a : Act} {next next' : Act -> World -> Prop} {Q Q' : Exit -> Act -> World -> Prop} (hn : ∀ a w, next a w -> next' a w) (hq : ∀ e a w, Q e a w -> Q' e a w)
 {r : Result Next} (h : o.upon P a next Q r) : o.upon P a next' Q' r := by
 unfold Oper.upon at h ⊢
 split at h
 . exact hn _ _ h
 . exact hn _ _ h
 . exact hn _ _ h
 . refine Calls.mono h ?_
   intro e w' he
   cases e with
   | returned v => exact hn _ _ he
   | panicked ch => exact hq _ _ _ he
   | outgrown => obtain ⟨a0, w0, h0⟩ := he; exact ⟨_, _, hq _ _ _ h0⟩
 . refine Rows.mono h ?_
   intro v w' he
   exact hn _ _ he
 . exact hq _ _ _ h
 . exact h.elim
theorem wpOps_monoQ {P : Program} {ops : Array Oper} {Q Q' : Exit -> Act -> World -> Prop} (hq : ∀ e a w, Q e a w -> Q' e a w) : ∀ (l : List Nat) (a : Act) (w : World), wpOps P ops Q l a w -> wpOps P ops Q' l a w
 | [], a, w, h => hq _ _ _ h
 | i :: rest, a, w, h => by
   simp only [wpOps] at h ⊢
   cases ho : ops[i]? with
   | none => simp only [ho] at h ⊢; exact wpOps_monoQ hq rest a w h
   | some o =>
     simp only [ho] at h ⊢
     split at h
     . rename_i hw
       rw [if_pos hw]
       rcases h with h | ⟨h1, a0, w0, h2⟩
       . refine .inl ?_
         unfold Oper.wp at h ⊢
         exact upon_monoQ (fun a w h => wpOps_monoQ hq rest a w h) hq h
       . exact .inr ⟨h1, _, _, hq _ _ _ h2⟩
     . rename_i hw
       rw [if_neg hw]
       exact wpOps_monoQ hq rest _ w h
theorem any_wp (hτ : TysOk P τ) (hz : ∀ t i, τ t = some i -> zeroOk i.zero) (hmix : P.follows .mixedOrders = true) {calls : Nat -> Nat -> List Va -> St -> (Tm -> St -> Prop) -> Prop} (hcalls : ∀ b, CallsOk P b (calls b)) {reach : List Nat -> St -> List Nat} {p : List Stp} {ts : List (Nat × Tm)} {Q : Exit -> St -> Prop}
 (hrk : rOk ops = true) (hzf : zFit τ m ops = true) (hp : pOk ops (tblN ops ops.size) p [] [] = true)
 (hk : anyP P τ calls reach ops p [] ⟨((List.range ops.size).filter (isZ ops)).filterMap (fun z => (dstAt ops z).map fun d => (d, topT)) ++ ts, h, n, m⟩ (Q .normal)) {ψ : Psi} {S : Nat -> Prop} {w : World} {a : Act} (hr : Rel P base ψ S w ⟨ts, h, n, m⟩ a) :
 ∀ s, wpOps P ops (fun e a' w' => ∃ st' ψ' S', Q e st' /\ Rel P base ψ' S' w' st' a' /\ Ext base ψ S w ψ' S' w') (Region.schedule (P.follows .mixedOrders) ops s) a { w with drawn := w.drawn + 1 } := by
 obtain ⟨hrel1, hext1⟩ : Rel P base ψ S { w with drawn := w.drawn + 1 } ⟨ts, h, n, m⟩ a /\ Ext base ψ S w ψ S { w with drawn := w.drawn + 1 } :=
  hr.ext0 ⟨rfl, rfl, rfl, Nat.le_refl _, fun _ _ => rfl, fun _ h => h, fun _ h => .inl h, hr.sim.sdom⟩
 obtain ⟨zd, hzd⟩ : ∃ zd, zd = ((List.range ops.size).filter (isZ ops)).filterMap (fun z => (dstAt ops z).map fun d => (d, topT)) := ⟨_, rfl⟩
 rw [<- hzd] at hk
 have hlook : ∀ t, lookT (zd ++ ts) t = topT \/ lookT (zd ++ ts) t = lookT ts t := by
  have hall : ∀ p ∈ zd, p.2 = topT := fun p hp => by
   rw [hzd] at hp
   obtain ⟨z, _, e⟩ := List.mem_filterMap.1 hp
   obtain ⟨d, _, e⟩ := Option.map_eq_some_iff.1 e
   rw [<- e]
  clear hzd hk
  intro t
  induction zd with
  | nil => exact .inr rfl
  | cons p zd ih =>
    obtain ⟨d, x⟩ := p
    rw [List.cons_append, lookT_set]
    by_cases e : d = t
    . rw [if_pos e]; exact .inl (hall _ List.mem_cons_self)
    . rw [if_neg e]; exact ih fun p hp => hall p (List.mem_cons_of_mem _ hp)
 have hrel2 : Rel P base ψ S { w with drawn := w.drawn + 1 } ⟨zd ++ ts, h, n, m⟩ a := ⟨hrel1.bas, hrel1.sim, hrel1.lim, hrel1.defers, fun t => by
  rcases hlook t with e | e
  . rw [show lookT (St.tmps ⟨zd ++ ts, h, n, m⟩) t = topT from e]; trivial
  . rw [show lookT (St.tmps ⟨zd ++ ts, h, n, m⟩) t = lookT ts t from e]; exact hrel1.tmps t⟩
 have hR0 : ∀ i, (Array.replicate ops.size false).getD i false = false := fun i => by
  rw [Array.getD_eq_getD_getElem?]
  cases e : (Array.replicate ops.size false)[i]? with
  | none => rfl
  | some b =>
    have := (Array.getElem?_eq_some_iff.1 e).2
    simp at this; subst this; rfl
 have key := any_main (Q := fun e a' w' => e = .normal /\ ∃ st' ψ' S', Q e st' /\ Rel P base ψ' S' w' st' a' /\ Ext base ψ S { w with drawn := w.drawn + 1 } ψ' S' w') hτ hz hcalls (reach := reach) hrk hzf (K := Q .normal) (fun st' ψ' S' w' a' h1 h2 h3 => ⟨rfl, st', ψ', S', h1, h2, h3⟩)
  (p.length + ops.size) p ops.size (List.range ops.size) (Array.replicate ops.size false) [] [] [] [] (zd ++ ts) (zd ++ ts) h n ψ S { w with drawn := w.drawn + 1 } a (Nat.le_refl _) hp hk
  ⟨by simp, fun i hi => (by rw [hR0]; simp), fun i hi => (by cases hi), fun i hi => (by cases hi), fun i hi => (by cases hi), fun i hi => (by cases hi), fun i hi => (by cases hi), fun j k hj => (by rw [hR0] at hj; cases hj), fun z b hzb => (by cases hzb), (by simp), fun t _ => rfl, fun z hz1 hz2 _ d hd => ?_, hrel2, Ext.refl _ _ _ _⟩
  (fun i hi _ => List.mem_range.2 hi) (by simp)
 . intro s
   simp only [Region.schedule, hmix, Bool.true_or, if_true]
   refine wpOps_monoQ ?_ _ _ _ (wpAny_sound ops.size s _ a _ key)
   rintro e a' w' ⟨rfl, st', ψ', S', h1, h2, h3⟩
   exact ⟨st', ψ', S', h1, h2, hext1.trans h3⟩
 . have hm : (d, topT) ∈ zd := by
    rw [hzd]
    exact List.mem_filterMap.2 ⟨z, List.mem_filter.2 ⟨List.mem_range.2 hz1, hz2⟩, by rw [hd]; rfl⟩
   have hall : ∀ p ∈ zd, p.2 = topT := fun p hp => by
    rw [hzd] at hp
    obtain ⟨z, _, e⟩ := List.mem_filterMap.1 hp
    obtain ⟨d, _, e⟩ := Option.map_eq_some_iff.1 e
    rw [<- e]
   clear hzd hk hlook hrel2
   induction zd with
   | nil => cases hm
   | cons p zd ih =>
     obtain ⟨d', x⟩ := p
     rw [List.cons_append, lookT_set]
     by_cases e : d' = d
     . rw [if_pos e]; exact hall _ List.mem_cons_self
     . rw [if_neg e]
       rcases List.mem_cons.1 hm with e1 | e1
       . cases e1; exact absurd rfl e
       . exact ih e1 fun p hp => hall p (List.mem_cons_of_mem _ hp)
end
end Go.Sx
