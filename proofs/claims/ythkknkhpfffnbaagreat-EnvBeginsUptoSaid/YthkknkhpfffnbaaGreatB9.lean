/- Statements whose order is open, made quicker. No condition. -/
import Derived.Test.YthkknkhpfffnbaaGreatB8
set_option linter.all false
set_option maxHeartbeats 8000000
set_option maxRecDepth 100000
namespace Go.Sx
def normH (h : List (Nat × Blk)) : Nat -> List (Nat × Blk) -> List (Nat × Blk)
 | 0, acc => acc
 | k + 1, acc => match lookB h k with
   | .gone => normH h k acc
   | b => normH h k ((k, b) :: acc)
def norm (live : List Nat) : St -> St
 | ⟨ts, h, n, m⟩ => ⟨live.map fun t => (t, lookT ts t), normH h n [], n, m⟩
def normTs (ts : List (Nat × Tm)) : List Nat -> (List (Nat × Tm) -> Prop) -> Prop
 | [], K => K []
 | t :: l, K => fT (lookT ts t) fun x => normTs ts l fun r => K ((t, x) :: r)
def normHs (h : List (Nat × Blk)) : Nat -> List (Nat × Blk) -> (List (Nat × Blk) -> Prop) -> Prop
 | 0, acc, K => K acc
 | k + 1, acc, K => fB (lookB h k) fun b => match b with
   | .gone => normHs h k acc K
   | .cells cs => normHs h k ((k, .cells cs) :: acc) K
   | .row a b c => normHs h k ((k, .row a b c) :: acc) K
   | .fz cs => normHs h k ((k, .fz cs) :: acc) K
   | .fzr a b c => normHs h k ((k, .fzr a b c) :: acc) K
   | .it a b => normHs h k ((k, .it a b) :: acc) K
def normK (live : List Nat) (st : St) (K : St -> Prop) : Prop := match st with
 | ⟨ts, h, n, m⟩ => normTs ts live fun ts' => normHs h n [] fun h' => K ⟨ts', h', n, m⟩
theorem normTs_eq (ts : List (Nat × Tm)) : ∀ (l : List Nat) (K : List (Nat × Tm) -> Prop), normTs ts l K = K (l.map fun t => (t, lookT ts t))
 | [], K => rfl
 | t :: l, K => by simp only [normTs, fT_eq, normTs_eq ts l, List.map_cons]
theorem normHs_eq (h : List (Nat × Blk)) : ∀ (n : Nat) (acc : List (Nat × Blk)) (K : List (Nat × Blk) -> Prop), normHs h n acc K = K (normH h n acc)
 | 0, acc, K => rfl
 | k + 1, acc, K => by
   simp only [normHs, normH, fB_eq]
   cases lookB h k <;> simp only [normHs_eq h k]
theorem normK_eq (live : List Nat) (st : St) (K : St -> Prop) : normK live st K = K (norm live st) := by
 obtain ⟨ts, h, n, m⟩ := st
 simp only [normK, norm, normTs_eq, normHs_eq]
theorem lookT_live (ts : List (Nat × Tm)) (t : Nat) : ∀ (l : List Nat), lookT (l.map fun t => (t, lookT ts t)) t = lookT ts t \/ lookT (l.map fun t => (t, lookT ts t)) t = topT
 | [] => .inr rfl
 | u :: l => by
   simp only [List.map_cons, lookT]
   cases hu : Nat.beq u t with
   | true => left; rw [Nat.eq_of_beq_eq_true hu]
   | false => exact lookT_live ts t l
theorem lookB_normH (h : List (Nat × Blk)) (k : Nat) : ∀ (n : Nat) (acc : List (Nat × Blk)), (k < n -> lookB h k ≠ .gone -> lookB (normH h n acc) k = lookB h k) /\ (n <= k \/ lookB h k = .gone -> lookB (normH h n acc) k = lookB acc k)
 | 0, acc => ⟨fun h => absurd h (Nat.not_lt_zero k), fun _ => rfl⟩
 | n + 1, acc => by
   simp only [normH]
   split
   . rename_i hg
     obtain ⟨h1, h2⟩ := lookB_normH h k n acc
     refine ⟨fun hk hn => h1 ?_ hn, fun hk => h2 ?_⟩
     . rcases Nat.lt_succ_iff_lt_or_eq.1 hk with h | h
       . exact h
       . subst h; exact absurd hg hn
     . rcases hk with hk | hk
       . exact .inl (by omega)
       . exact .inr hk
   . rename_i hg
     obtain ⟨h1, h2⟩ := lookB_normH h k n ((n, lookB h n) :: acc)
     refine ⟨fun hk hn => ?_, fun hk => ?_⟩
     . rcases Nat.lt_succ_iff_lt_or_eq.1 hk with h | h
       . exact h1 h hn
       . subst h; rw [h2 (.inl (Nat.le_refl _)), lookB_cons, if_pos rfl]
     . rcases hk with hk | hk
       . rw [h2 (.inl (by omega)), lookB_cons, if_neg (by omega)]
       . rw [h2 (.inr hk), lookB_cons, if_neg (fun e => by subst e; exact hg hk)]
section
variable {P : Program} {τ : Tys} {Γ : Sums} {base : Nat} {ψ ψ' : Psi} {S S' : Nat → Prop} {w w' : World} {a : Act} {st : St}
theorem Rel.norm (live : List Nat) (hr : Rel P base ψ S w st a) : Rel P base ψ S w (norm live st) a := by
 obtain ⟨ts, h, n, m⟩ := st
 have hl : ∀ k l, ψ k = some l -> lookB (normH h n []) k = lookB h k := by
  intro k l hk
  have hk2 : k < n := by
   rcases Nat.lt_or_ge k n with h1 | h1
   . exact h1
   . have := hr.sim.dom k h1; rw [hk] at this; cases this
  by_cases c : lookB h k = .gone
  . rw [(lookB_normH h k n []).2 (.inr c), c]; rfl
  . exact (lookB_normH h k n []).1 hk2 c
 have hs := hr.sim
 refine ⟨hr.bas, ⟨hs.dom, fun k l hk => ?_, fun k k' b m1 m2 e1 e2 l1 l2 => ?_, fun k b m1 e1 l1 => ?_, hs.pdom, hs.sdom⟩, hr.lim, hr.defers, fun t => ?_⟩
 . show BlkRep P ψ S w (lookB (normH h n []) k) l
   rw [hl k l hk]; exact hs.blk k l hk
 . rw [show lookB (norm live ⟨ts, h, n, m⟩).heap k = lookB h k from hl k _ e1] at l1
   rw [show lookB (norm live ⟨ts, h, n, m⟩).heap k' = lookB h k' from hl k' _ e2] at l2
   exact hs.inj k k' b m1 m2 e1 e2 l1 l2
 . rw [show lookB (norm live ⟨ts, h, n, m⟩).heap k = lookB h k from hl k _ e1] at l1
   exact hs.dis k b m1 e1 l1
 . show RepT P ψ S w (lookT (live.map fun t => (t, lookT ts t)) t) _
   rcases lookT_live ts t live with e | e
   . rw [e]; exact hr.tmps t
   . rw [e]; trivial
theorem tail_intro {F G : St -> Prop} {s : St} (h1 : F s) (h2 : G s) : ∃ s, F s /\ G s := ⟨s, h1, h2⟩
end
theorem draw_cut {P : Program} {t : TT} (ht : t.ok P) {l : List (Nat × Sm)} (hl : sumsOk P l) (hmix : P.follows .mixedOrders = true) {base : Nat} {ops : Array Oper} {id : Nat} {st : St} {Q : Exit -> St -> Prop} (p : Plan) (live : List Nat)
 (hp : (Region.noSelect ops && planOk ops ops.size (Array.replicate ops.size false) p) = true)
 (hk : ∃ s, vcP P t.get (vcCall P (sums l) base) ops.toList p st (fun st' => normK live st' fun s' => s' = s) /\ Q .normal s) : ASat P base (.region id ops true) st Q := by
 obtain ⟨s, hv, hs⟩ := hk
 have h : ASat P base (.region id ops true) st (fun e st' => e = .normal /\ norm live st' = s) := by
  refine draw_plan ht hl hmix p hp ?_
  have e : (fun st' => normK live st' fun s' => s' = s) = fun st' => Exit.normal = .normal /\ norm live st' = s := by
   funext st'; rw [normK_eq]; simp
  rw [<- e]; exact hv
 refine ⟨fun ψ S w a hr => wp_mono (h.run ψ S w a hr) ?_⟩
 rintro e a' w' ⟨st', ψ', S', ⟨rfl, h1⟩, h2, h3⟩
 exact ⟨s, ψ', S', hs, by rw [<- h1]; exact h2.norm live, h3⟩
def idxOf (k : Nat) : List Nat -> List Nat -> Option Nat
 | i :: l, j :: js => match Nat.beq i k with
   | true => some j
   | false => idxOf k l js
 | _, _ => none
def renCaps (js ids : List Nat) : List (Nat × Nat) -> Option (List (Nat × Nat))
 | [] => some []
 | (k, o) :: l => match idxOf k ids js, renCaps js ids l with
   | some j, some r => some ((j, o) :: r)
   | _, _ => none
def renC (js ids : List Nat) (x : Cell) : Cell := match x with
 | .own k off => match idxOf k ids js with
   | some j => .own j off
   | none => .top
 | .osl k sz o len => match idxOf k ids js with
   | some j => .osl j sz o len
   | none => .top
 | .ep k sz i off => match idxOf k ids js with
   | some j => .ep j sz i off
   | none => .top
 | .fn f caps => match renCaps js ids caps with
   | some r => .fn f r
   | none => .top
 | .osc .. => .top
 | .ap .. => .top
 | x => x
def renVa (js ids : List Nat) (x : Va) : Va := match x with
 | .c x => .c (renC js ids x)
 | .agg xs => .agg (xs.map (renC js ids))
def renT (js ids : List Nat) (x : Tm) : Tm := match x with
 | .va x => .va (renVa js ids x)
 | .tup _ => topT
def renB (js ids : List Nat) (b : Blk) : Blk := match b with
 | .cells cs => .cells (cs.map (renC js ids))
 | b => b
def renTs (js ids : List Nat) (ts : List (Nat × Tm)) (l : List Nat) : List (Nat × Tm) := l.map fun t => (t, renT js ids (lookT ts t))
def renHs (js ids : List Nat) (h : List (Nat × Blk)) : List Nat -> List Nat -> List (Nat × Blk)
 | k :: l, j :: l' => (j, renB js ids (lookB h k)) :: renHs js ids h l l'
 | _, _ => []
def ren (live js ids : List Nat) (n1 : Nat) : St -> St
 | ⟨ts, h, _, m⟩ => ⟨renTs js ids ts live, renHs js ids h ids js, n1, m⟩
def fTs : List (Nat × Tm) -> (List (Nat × Tm) -> Prop) -> Prop
 | [], K => K []
 | (t, x) :: l, K => fT x fun x => fTs l fun r => K ((t, x) :: r)
def fBc (b : Blk) (K : Blk -> Prop) : Prop := match b with
 | .cells cs => fCs cs fun cs => K (.cells cs)
 | b => fB b K
def fHs : List (Nat × Blk) -> (List (Nat × Blk) -> Prop) -> Prop
 | [], K => K []
 | (t, x) :: l, K => fBc x fun x => fHs l fun r => K ((t, x) :: r)
def fSt (st : St) (K : St -> Prop) : Prop := match st with
 | ⟨ts, h, n, m⟩ => fTs ts fun ts => fHs h fun h => K ⟨ts, h, n, m⟩
theorem fTs_eq : ∀ (l : List (Nat × Tm)) (K : List (Nat × Tm) -> Prop), fTs l K = K l
 | [], _ => rfl
 | (t, x) :: l, K => by simp only [fTs, fT_eq, fTs_eq l]
theorem fBc_eq (b : Blk) (K : Blk -> Prop) : fBc b K = K b := by
 cases b <;> simp only [fBc, fB_eq, fCs_eq]
theorem fHs_eq : ∀ (l : List (Nat × Blk)) (K : List (Nat × Blk) -> Prop), fHs l K = K l
 | [], _ => rfl
 | (t, x) :: l, K => by simp only [fHs, fBc_eq, fHs_eq l]
theorem fSt_eq (st : St) (K : St -> Prop) : fSt st K = K st := by
 obtain ⟨ts, h, n, m⟩ := st; simp only [fSt, fTs_eq, fHs_eq]
theorem idxOf_some {k : Nat} : ∀ {l js : List Nat} {i j : Nat}, idxOf k l js = some j -> (∀ q, q < js.length -> js[q]? = some (i + q)) -> i <= j /\ l[j - i]? = some k
 | [], _, _, _, h, _ => by simp [idxOf] at h
 | _ :: _, [], _, _, h, _ => by simp [idxOf] at h
 | x :: l, y :: js, i, j, h, hj => by
   simp only [idxOf] at h
   have hy : y = i := by simpa using hj 0 (by simp)
   split at h
   . rename_i e; cases h; subst hy; exact ⟨Nat.le_refl _, by simp [Nat.eq_of_beq_eq_true e]⟩
   . obtain ⟨h1, h2⟩ := idxOf_some (i := i + 1) h (fun q hq => by
      have := hj (q + 1) (by simp; omega)
      rw [List.getElem?_cons_succ] at this
      rw [this]; congr 1; omega)
     exact ⟨by omega, by rw [show j - i = (j - (i + 1)) + 1 by omega, List.getElem?_cons_succ]; exact h2⟩
def Ups (js : List Nat) : Prop := ∀ q, q < js.length -> js[q]? = some q
theorem idx_at {k j : Nat} {js ids : List Nat} (hj : Ups js) (h : idxOf k ids js = some j) : ids[j]? = some k := by simpa using (idxOf_some (i := 0) h (by simpa [Ups] using hj)).2
theorem renCaps_le {js ids : List Nat} (hj : Ups js) : ∀ {l r : List (Nat × Nat)}, renCaps js ids l = some r -> capsLe ids l r
 | [], r, h => by cases h; trivial
 | (k, o) :: l, r, h => by
   simp only [renCaps] at h
   split at h
   . rename_i j r' h1 h2; cases h; exact ⟨⟨idx_at hj h1, rfl⟩, renCaps_le hj h2⟩
   . cases h
theorem cellLe_top {ids : List Nat} {nv : Nat} (x : Cell) : cellLe ids nv x .top := by cases x <;> trivial
theorem renC_le {js : List Nat} (hj : Ups js) (ids : List Nat) (x : Cell) : cellLe ids 0 x (renC js ids x) := by
 cases x with
 | own k off => simp only [renC]; split; exact ⟨idx_at hj ‹_›, rfl⟩; exact cellLe_top _
 | osl k sz o len => simp only [renC]; split; exact ⟨idx_at hj ‹_›, rfl, rfl, rfl⟩; exact cellLe_top _
 | ep k sz i off => simp only [renC]; split; exact ⟨idx_at hj ‹_›, rfl, rfl, rfl⟩; exact cellLe_top _
 | fn f caps => simp only [renC]; split; exact ⟨rfl, renCaps_le hj ‹_›⟩; exact cellLe_top _
 | osc => exact cellLe_top _
 | ap => exact cellLe_top _
 | top => trivial
 | und => trivial
 | kb b => exact rfl
 | d x => cases x <;> simp [renC, cellLe, dvEq]
 | rp cs => exact rfl
 | fv g => exact rfl
theorem renCs_le {js : List Nat} (hj : Ups js) (ids : List Nat) : ∀ (xs : List Cell), cellsLe ids 0 xs (xs.map (renC js ids))
 | [] => trivial
 | x :: xs => ⟨renC_le hj ids x, renCs_le hj ids xs⟩
theorem renVa_le {js : List Nat} (hj : Ups js) (ids : List Nat) (x : Va) : vaLe ids 0 x (renVa js ids x) := by
 cases x with
 | c x =>
   have h := renC_le hj ids x
   show vaLe ids 0 (.c x) (.c (renC js ids x))
   cases hx : renC js ids x <;> rw [hx] at h <;> first | trivial | exact h
 | agg xs => exact renCs_le hj ids xs
theorem renT_le {js : List Nat} (hj : Ups js) (ids : List Nat) (x : Tm) : tmLe ids 0 x (renT js ids x) := by
 cases x with
 | va x =>
   have h := renVa_le hj ids x
   show tmLe ids 0 (.va x) (.va (renVa js ids x))
   cases hx : renVa js ids x with
   | c y => rw [hx] at h; cases y <;> first | trivial | exact h
   | agg ys => rw [hx] at h; exact h
 | tup xs => trivial
theorem renTs_le {js : List Nat} (hj : Ups js) (ids : List Nat) (ts : List (Nat × Tm)) : ∀ (l : List Nat), tmpsLe ids 0 ts (renTs js ids ts l)
 | [] => trivial
 | t :: l => ⟨renT_le hj ids _, renTs_le hj ids ts l⟩
theorem renB_le {js : List Nat} (hj : Ups js) (ids : List Nat) (b : Blk) : blkLe ids 0 b (renB js ids b) := by
 cases b with
 | cells cs => exact renCs_le hj ids cs
 | row => exact ⟨rfl, rfl, fun _ _ => rfl⟩
 | fz => exact rfl
 | fzr => exact ⟨rfl, rfl, fun _ _ => rfl⟩
 | it => exact ⟨rfl, rfl⟩
 | gone => trivial
theorem renHs_le {js : List Nat} (hj : Ups js) (ids : List Nat) (h : List (Nat × Blk)) : ∀ (l l' : List Nat) (j : Nat), (∀ i, l[i]? = ids[j + i]?) -> (∀ q, q < l'.length -> l'[q]? = some (j + q)) -> heapLe ids 0 h (renHs js ids h l l')
 | [], _, _, _, _ => trivial
 | _ :: _, [], _, _, _ => trivial
 | k :: l, y :: l', j, hl, hq => by
   have h0 := hl 0
   simp only [List.getElem?_cons_zero, Nat.add_zero] at h0
   have hy : y = j := by simpa using hq 0 (by simp)
   subst hy
   refine ⟨?_, renHs_le hj ids h l l' (y + 1) (fun i => ?_) (fun q hqq => ?_)⟩
   . rw [<- h0]; exact renB_le hj ids _
   . have := hl (i + 1)
     rw [List.getElem?_cons_succ] at this
     rw [this]; congr 1; omega
   . have := hq (q + 1) (by simp; omega)
     rw [List.getElem?_cons_succ] at this
     rw [this]; congr 1; omega
theorem ren_le {base n1 : Nat} (live js ids : List Nat) (st : St) (h : idsOk base ids = true) (hj : Ups js) (hn : ids.length = n1) : leSt base ids 0 st (ren live js ids n1 st) := by
 obtain ⟨ts, hp, n, m⟩ := st
 exact ⟨rfl, by rw [hn]; rfl, h, renTs_le hj ids ts live, renHs_le hj ids hp ids js 0 (fun i => by rw [Nat.zero_add]) (by simpa [Ups] using hj)⟩
def oIs (ts : List (Nat × Tm)) : List Nat -> List Nat
 | [] => []
 | t :: l => (match lookT ts t with
   | .va (.c (.own k _)) => k
   | .va (.c (.osl k _ _ _)) => k
   | _ => 0) :: oIs ts l
def renK (base n0 n1 : Nat) (js ps live : List Nat) (st : St) (K : St -> Prop) : Prop := match st with
 | ⟨ts, h, n, m⟩ => match idsOk base (List.range n0 ++ oIs ts ps) && (decide (js = List.range n1) && Nat.beq (List.range n0 ++ oIs ts ps).length n1) with
   | true => fSt (ren live js (List.range n0 ++ oIs ts ps) n1 ⟨ts, h, n, m⟩) K
   | false => False
theorem draw_ren {P : Program} {t : TT} (ht : t.ok P) {l : List (Nat × Sm)} (hl : sumsOk P l) (hmix : P.follows .mixedOrders = true) {base : Nat} {ops : Array Oper} {id : Nat} {st : St} {Q : Exit -> St -> Prop} (p : Plan) (n0 n1 : Nat) (js ps live : List Nat)
 (hp : (Region.noSelect ops && planOk ops ops.size (Array.replicate ops.size false) p) = true)
 (hk : ∃ s, vcP P t.get (vcCall P (sums l) base) ops.toList p st (fun st' => renK base n0 n1 js ps live st' fun s' => s' = s) /\ Q .normal s) : ASat P base (.region id ops true) st Q := by
 obtain ⟨s, hv, hs⟩ := hk
 have h : ASat P base (.region id ops true) st (fun e st' => match e with | .normal => renK base n0 n1 js ps live st' fun s' => s' = s | _ => False) := draw_plan ht hl hmix p hp hv
 refine ⟨fun ψ S w a hr => wp_mono (h.run ψ S w a hr) ?_⟩
 rintro e a' w' ⟨st', ψ', S', h1, h2, h3⟩
 cases e with
 | normal =>
   obtain ⟨ts, hh, n, m⟩ := st'
   have h1 : (match idsOk base (List.range n0 ++ oIs ts ps) && (decide (js = List.range n1) && Nat.beq (List.range n0 ++ oIs ts ps).length n1) with
    | true => fSt (ren live js (List.range n0 ++ oIs ts ps) n1 ⟨ts, hh, n, m⟩) fun s' => s' = s
    | false => False) := h1
   split at h1
   . rename_i hid
     rw [fSt_eq] at h1
     simp only [Bool.and_eq_true, decide_eq_true_eq] at hid
     obtain ⟨hid, hjs, hnn⟩ := hid
     obtain ⟨g1, g2⟩ := h2.le (ren_le (n1 := n1) live js _ _ hid (by rw [hjs]; intro q hq; simp at hq; simp [hq]) (Nat.eq_of_beq_eq_true hnn))
     rw [h1] at g1
     exact ⟨s, _, S', hs, g1, h3.trans g2⟩
   . exact h1.elim
 | _ => exact h1.elim
end Go.Sx
namespace Go.Proofs.YthkknkhpfffnbaaGreat
open Go.Sx
def mrg (op : Vl -> Vl -> Vl) : List Bd -> List Bd -> List Bd
 | [], [] => []
 | [], y :: b => ⟨y.name, op Vl.zero y.v⟩ :: mrg op [] b
 | x :: a, [] => ⟨x.name, op x.v Vl.zero⟩ :: mrg op a []
 | x :: a, y :: b => if ltB x y = true then ⟨x.name, op x.v Vl.zero⟩ :: mrg op a (y :: b) else if ltB y x = true then ⟨y.name, op Vl.zero y.v⟩ :: mrg op (x :: a) b else ⟨x.name, op x.v y.v⟩ :: mrg op a b
termination_by a b => a.length + b.length
def nxM (op : Vl -> Vl -> Vl) (A B : List Bd) (x : Nat × Nat × List Bd) : Nat × Nat × List Bd :=
 if x.1 < A.length then
  if x.2.1 < B.length then
   if ltB (atB A x.1) (atB B x.2.1) = true then (x.1 + 1, x.2.1, x.2.2 ++ [⟨(atB A x.1).name, op (atB A x.1).v Vl.zero⟩])
   else if ltB (atB B x.2.1) (atB A x.1) = true then (x.1, x.2.1 + 1, x.2.2 ++ [⟨(atB B x.2.1).name, op Vl.zero (atB B x.2.1).v⟩])
   else (x.1 + 1, x.2.1 + 1, x.2.2 ++ [⟨(atB A x.1).name, op (atB A x.1).v (atB B x.2.1).v⟩])
  else (x.1 + 1, x.2.1, x.2.2 ++ [⟨(atB A x.1).name, op (atB A x.1).v Vl.zero⟩])
 else (x.1, x.2.1 + 1, x.2.2 ++ [⟨(atB B x.2.1).name, op Vl.zero (atB B x.2.1).v⟩])
theorem drop_at {A : List Bd} {i : Nat} (h : i < A.length) : A.drop i = atB A i :: A.drop (i + 1) := by
 rw [List.drop_eq_getElem_cons h]
 congr 1
 unfold atB; rw [List.getD_eq_getElem?_getD, List.getElem?_eq_getElem h]; rfl
theorem nxM_ok {op : Vl -> Vl -> Vl} {A B : List Bd} {i j : Nat} {out : List Bd} (h : i < A.length \/ j < B.length) :
 (nxM op A B (i, j, out)).2.2 ++ mrg op (A.drop (nxM op A B (i, j, out)).1) (B.drop (nxM op A B (i, j, out)).2.1) = out ++ mrg op (A.drop i) (B.drop j) := by
 unfold nxM
 dsimp only
 by_cases c1 : i < A.length
 . rw [if_pos c1]
   by_cases c2 : j < B.length
   . rw [if_pos c2]
     conv => rhs; rw [drop_at c1, drop_at c2, mrg]
     split
     . dsimp only; rw [drop_at c2] <;> simp
     . split
       . dsimp only; rw [drop_at c1]; simp
       . dsimp only; simp
   . rw [if_neg c2]
     have e : B.drop j = [] := List.drop_eq_nil_of_le (by omega)
     conv => rhs; rw [drop_at c1, e, mrg]
     dsimp only; rw [e]; simp
 . rw [if_neg c1]
   have c2 : j < B.length := h.resolve_left c1
   have e : A.drop i = [] := List.drop_eq_nil_of_le (by omega)
   conv => rhs; rw [drop_at c2, e, mrg]
   dsimp only; rw [e]; simp
theorem atB_snoc (L : List Bd) (x : Bd) (k : Nat) (h : k < L.length + 1) : atB (L ++ [x]) k = if k < L.length then atB L k else x := by
 unfold atB
 simp only [List.getD_eq_getElem?_getD]
 split
 . rename_i h1; rw [List.getElem?_append_left h1]
 . rename_i h1; rw [show k = L.length by omega, List.getElem?_append_right (Nat.le_refl _), Nat.sub_self]; rfl
theorem rwB_snoc {L : List Bd} {x : Bd} {g : Nat -> List DV} {k : Nat} (hg : g 0 = bdC x) (hk : k < L.length + 1) : appRow L.length (rwB L) g k = rwB (L ++ [x]) k := by
 show _ = bdC (atB (L ++ [x]) k)
 rw [atB_snoc L x k hk]
 unfold appRow
 split
 . rfl
 . rw [show k - L.length = 0 by omega, hg]
theorem lessB_eq {a b : ByteArray} (h : a = b) : (if (!Op.bytesLess a.toList b.toList) = true then a else b) = a := by subst h; exact ite_self _
abbrev vlC (v : Vl) : List DV := [bo v.i.s.some, it v.i.s.lo, it v.i.s.hi, bo v.i.c.some, it v.i.c.m, it v.i.c.r, bo v.t.null, lst v.t.names]
abbrev vlZ : List DV := [bo false, it 0, it 0, bo false, it 0, it 0, bo false, .v (.slice none 0 0)]
def gIs (gz : List Cv -> Option Gs) (a b : List DV) (z : Vl) : Prop := ∃ p : Prop, gz [.agg a, .agg b] = some ⟨p, .va (.agg (vlC z))⟩ /\ p
structure GOk (gz : List Cv -> Option Gs) (Op : Vl -> Vl -> Vl) (Q : Vl -> Vl -> Prop) : Prop where
 both : ∀ x y, okV x -> okV y -> Q x y -> gIs gz (vlC x) (vlC y) (Op x y)
 left : ∀ x, okV x -> Q x Vl.zero -> gIs gz (vlC x) vlZ (Op x Vl.zero)
 right : ∀ y, okV y -> Q Vl.zero y -> gIs gz vlZ (vlC y) (Op Vl.zero y)
structure QOk (Q : Vl -> Vl -> Prop) (A B : List Bd) : Prop where
 both : ∀ x ∈ A, ∀ y ∈ B, Q x.v y.v
 left : ∀ x ∈ A, Q x.v Vl.zero
 right : ∀ y ∈ B, Q Vl.zero y.v
theorem lessB_nil (a : ByteArray) : (if (!Op.bytesLess a.toList (ByteArray.mk #[]).toList) = true then a else ByteArray.mk #[]) = a := by
 have : (ByteArray.mk #[]).toList = [] := by rw [kS_tl]
 rw [this]; cases a.toList <;> rfl
theorem lessB_nil2 (a : ByteArray) : (if (!Op.bytesLess (ByteArray.mk #[]).toList a.toList) = true then ByteArray.mk #[] else a) = a := by
 have : (ByteArray.mk #[]).toList = [] := by rw [kS_tl]
 rw [this]
 cases h : a.toList with
 | nil =>
   rw [kS_tl] at h
   have : a = ByteArray.mk #[] := kS_inj (h.trans rfl)
   rw [this]; rfl
 | cons x r => rfl
theorem cf_lt {x y : Bd} (h : ltB x y = true) : cfL x.name.data.toList y.name.data.toList < 0 := of_decide_eq_true h
theorem cf_gt {x y : Bd} (h : ltB y x = true) : cfL x.name.data.toList y.name.data.toList > 0 := by
 have h1 := ltB_iff.1 h
 have h2 : ¬ kS x.name < kS y.name := List.lt_asymm h1
 have h3 : ¬ cfL x.name.data.toList y.name.data.toList < 0 := fun h => h2 ((cfL_lt _ _).1 h)
 have h4 : ¬ cfL x.name.data.toList y.name.data.toList = 0 := fun h => by
  have e := kS_inj ((cfL_eq _ _).1 h)
  rw [e] at h1; exact List.lt_irrefl _ h1
 omega
theorem cf_eq {x y : Bd} (h1 : ltB x y = false) (h2 : ltB y x = false) : cfL x.name.data.toList y.name.data.toList = 0 /\ x.name = y.name := by
 have e : x.name = y.name := Decidable.byContradiction fun hn => ltB_iff'.1 h2 (kS_tri (ltB_iff'.1 h1) hn)
 exact ⟨(cfL_eq _ _).2 (by rw [e]), e⟩
def FZipN : List Ar -> Option Rs
 | [.agg [.d (.v (.string x0)), .d (.v (.bool _)), .d (.v (.int .i64 _)), .d (.v (.int .i64 _)), .d (.v (.bool _)), .d (.v (.int .i64 _)), .d (.v (.int .i64 _)), .d (.v (.bool _)), .d (.lst 1 _ _)]] => some ⟨True, .va (.c (.d (st x0))), []⟩
 | _ => none
theorem fcZipN : FC Tryz.prog 142 FZipN := by
 intro xs pre r us h hp
 unfold FZipN at h
 split at h
 . rename_i x0 s0 l0 h0 b0 m0 r0 z0 n0 f0
   cases h
   refine fcat tys_ok (l := []) trivial Tryz.func142 rfl (by kernel_rfl) false ?_
   repeat' (first | exact trivial | refine ⟨?_, ?_⟩ | intro _)
   all_goals first | (with_reducible first | apply qa | apply qb | apply qc | apply qd) | (conv => whnf)
   all_goals grind
 . cases h
def FEZip (Op : Vl -> Vl -> Vl) (Q : Vl -> Vl -> Prop) (gz : List Cv -> Option Gs) : List Ar -> Option Rs
 | [.agg [.d (.v (.bool _)), .d (.lst 9 n0 f0)], .agg [.d (.v (.bool _)), .d (.lst 9 n1 f1)], .fv g2] => some ⟨(n0 <= 1099511627776 /\ RowsOk n0 f0) /\ (n1 <= 1099511627776 /\ RowsOk n1 f1) /\ (g2 = gz /\ GOk gz Op Q /\ QOk Q (gBs n0 f0) (gBs n1 f1) /\ n0 + n1 <= 1099511627776), .va (En.ar (⟨true, mrg Op (gBs n0 f0) (gBs n1 f1)⟩)), []⟩
 | _ => none
abbrev pl2B : Plan := .all [(0, .all [(1, .all [(2, .all [(3, .all [(4, .all [(5, .done)])])]), (3, .all [(2, .all [(4, .all [(5, .done)])])])]), (2, .all [(1, .all [(3, .all [(4, .all [(5, .done)])])]), (3, .all [(1, .all [(4, .all [(5, .done)])]), (4, .all [(1, .all [(5, .done)])])])]), (3, .all [(1, .all [(2, .all [(4, .all [(5, .done)])])]), (2, .all [(1, .all [(4, .all [(5, .done)])]), (4, .all [(1, .all [(5, .done)])])])])]), (1, .all [(0, .all [(2, .all [(3, .all [(4, .all [(5, .done)])])]), (3, .all [(2, .all [(4, .all [(5, .done)])])])]), (2, .all [(0, .all [(3, .all [(4, .all [(5, .done)])])]), (3, .all [(0, .all [(4, .all [(5, .done)])])])]), (3, .all [(0, .all [(2, .all [(4, .all [(5, .done)])])]), (2, .all [(0, .all [(4, .all [(5, .done)])])])])]), (2, .all [(0, .all [(1, .all [(3, .all [(4, .all [(5, .done)])])]), (3, .all [(1, .all [(4, .all [(5, .done)])]), (4, .all [(1, .all [(5, .done)])])])]), (1, .all [(0, .all [(3, .all [(4, .all [(5, .done)])])]), (3, .all [(0, .all [(4, .all [(5, .done)])])])]), (3, .all [(0, .all [(1, .all [(4, .all [(5, .done)])]), (4, .all [(1, .all [(5, .done)])])]), (1, .all [(0, .all [(4, .all [(5, .done)])])])])]), (3, .all [(0, .all [(1, .all [(2, .all [(4, .all [(5, .done)])])]), (2, .all [(1, .all [(4, .all [(5, .done)])]), (4, .all [(1, .all [(5, .done)])])])]), (1, .all [(0, .all [(2, .all [(4, .all [(5, .done)])])]), (2, .all [(0, .all [(4, .all [(5, .done)])])])]), (2, .all [(0, .all [(1, .all [(4, .all [(5, .done)])]), (4, .all [(1, .all [(5, .done)])])]), (1, .all [(0, .all [(4, .all [(5, .done)])])])])])]
abbrev pl3B : Plan := .take 0 (.take 1 (.take 3 (.take 4 (.all [(2, .all [(5, .take 6 (.done))])]))))
abbrev sl4B : List (Nat × Sm) := [(142, ⟨[], FZipN⟩), (70, ⟨[], FStrCmp⟩)]
theorem sp4B : sumsOk Tryz.prog sl4B := ⟨fcZipN, fcStrCmp, trivial⟩
theorem fcEZip (Op : Vl -> Vl -> Vl) (Q : Vl -> Vl -> Prop) (gz : List Cv -> Option Gs) : FC Tryz.prog 94 (FEZip Op Q gz) := by
 intro xs pre r us h hp
 unfold FEZip at h
 split at h
 . rename_i e0 n0 f0 e1 n1 f1 g2
   cases h
   obtain ⟨hp0, hp1, hp2⟩ := hp
   refine FCat.deep (ys := [.agg [.d (.v (.bool e0)), .d (.lst 9 n0 (rwB (gBs n0 f0)))], .agg [.d (.v (.bool e1)), .d (.lst 9 n1 (rwB (gBs n1 f1)))], .fv g2]) ?_ ?_
   . repeat' (first | exact trivial | exact rfl | exact DvE.refl _ | refine ⟨?_, ?_⟩ | fail)
     all_goals first | first | exact canonB hp0.2.h | exact canonB hp1.2.h
   refine fcat tys_ok (l := sl4B) sp4B Tryz.func94 rfl (by kernel_rfl) true ?_
   obtain ⟨rfl, hgk, hqk, hnm⟩ := hp2
   have hn := hp0.1
   have hL := okL_rows hp0.2
   have hlen := gBs_length n0 f0
   generalize gBs n0 f0 = L at *
   clear hp0
   subst hlen
   have hrow := okL_row hL
   have hb := gBs_row L
   have hm := hp1.1
   have hM := okL_rows hp1.2
   have hlen1 := gBs_length n1 f1
   generalize gBs n1 f1 = M at *
   clear hp1
   subst hlen1
   have hrow1 := okL_row hM
   have hb1 := gBs_row M
   repeat' (first | exact trivial | refine ⟨?_, ?_⟩ | intro _)
   all_goals first | (with_reducible first | apply qa | apply qb | apply qc | apply qd) | (conv => whnf)
   all_goals first | ((with_reducible show ACall _ _ _ _ _ _); refine inl tys_ok (l := sl4B) sp4B Tryz.func141 rfl (by kernel_rfl) (by kernel_rfl) rfl ?_) | skip
   all_goals repeat' (first | exact trivial | refine ⟨?_, ?_⟩ | intro _)
   all_goals first | (with_reducible first | apply qa | apply qb | apply qc | apply qd) | (conv => whnf)
   refine loop_ids tys_ok (l := sl4B) sp4B (by kernel_rfl) (X := Nat × Nat × List Bd)
    (fun x => ⟨[(9, .va (.c (.osl 5 9 0 x.2.2.length))), (10, .va (.c (.own 4 0))), (0, .va (.c (.d (.lst 9 (L.length - x.1) fun k => rwB L (x.1 + k))))), (1, .va (.c (.d (.lst 9 (M.length - x.2.1) fun k => rwB M (x.2.1 + k))))), (2, .va (.c (.fn 142 []))), (3, .va (.c (.fn 143 [(2, 0)])))],
      [(2, .cells [.fv g2]), (3, .cells [.d (bo false), .d (.v (.slice none 0 0))]), (4, .cells [.d (.v (.string ⟨#[]⟩)), .d (bo false), .d (it 0), .d (it 0), .d (bo false), .d (it 0), .d (it 0), .d (bo false), .d (.v (.slice none 0 0))]), (5, .row 9 x.2.2.length (rwB x.2.2))], 6, 65⟩)
    (fun x => (L.length - x.1) + (M.length - x.2.1)) (fun x => x.1 <= L.length /\ x.2.1 <= M.length /\ x.2.2.length <= x.1 + x.2.1 /\ x.2.2 ++ mrg Op (L.drop x.1) (M.drop x.2.1) = mrg Op L M) [63] []
    (fun x _ _ => nxM Op L M x) (fun xs => match xs with | [t] => [0, 1, 2, 3, 4, oI t] | _ => []) [0, 1, 2, 3, 4] 0 1 (0, 0, []) ?_ ?_ ?_
   . exact ⟨Nat.zero_le _, Nat.zero_le _, Nat.le_refl _, rfl⟩
   . repeat' (first | exact trivial | exact rfl | (intro _ h; exact absurd h (Nat.not_lt_zero _)) | (intro _ _; exact rfl) | refine ⟨?_, ?_⟩ | fail)
     all_goals first | (simp; done) | (intro i _; simp; done)
   . rintro ⟨i, j, out⟩ ⟨k1, k2, k3, k4⟩
     dsimp only at k1 k2 k3 k4
     by_cases hend : i < L.length \/ j < M.length
     . have hstep := (nxM_ok (op := Op) (out := out) hend).trans k4
       rcases Nat.lt_or_ge i L.length with ci | ci
       . rcases Nat.lt_or_ge j M.length with cj | cj
         . cases hlt : ltB (atB L i) (atB M j) with
           | true =>
             have hne1 : decide (((L.length - i : Nat) : Int) > 0) = true := decide_eq_true (by omega)
             have hne2 : (((L.length - i : Nat) : Int) == 0) = false := beq_eq_false_iff_ne.2 (by omega)
             have hne3 : (((M.length - j : Nat) : Int) == 0) = false := beq_eq_false_iff_ne.2 (by omega)
             have hne4 : decide (((M.length - j : Nat) : Int) > 0) = true := decide_eq_true (by omega)
             have hne5 : decide (cfL (atB L (i + Int.toNat 0)).name.data.toList (atB M (j + Int.toNat 0)).name.data.toList <= 0) = true := decide_eq_true (Int.le_of_lt (cf_lt hlt))
             have hne6 : decide (cfL (atB L (i + Int.toNat 0)).name.data.toList (atB M (j + Int.toNat 0)).name.data.toList ≥ 0) = false := decide_eq_false (Int.not_le.2 (cf_lt hlt))
             have ht0 : Int.toNat 0 = 0 := rfl
             have e1 : nxM Op L M (i, j, out) = (i + 1, j, out ++ [⟨(atB L i).name, Op (atB L i).v Vl.zero⟩]) := by
              unfold nxM; dsimp only; rw [if_pos ci, if_pos cj, if_pos hlt]
             rw [e1] at hstep
             obtain ⟨gp, hg, hgp⟩ := hgk.left _ (okL_at hL ci) (hqk.left _ (atB_mem ci))
             simp only [vlC, vlZ] at hg
             dsimp only at hstep
             repeat' (first | exact trivial | (with_reducible first | exact (fun h => absurd (hne1.symm.trans h) (by decide)) | exact (fun h => absurd (hne2.symm.trans h) (by decide)) | exact (fun h => absurd (hne3.symm.trans h) (by decide)) | exact (fun h => absurd (hne4.symm.trans h) (by decide)) | exact (fun h => absurd (hne5.symm.trans h) (by decide)) | exact (fun h => absurd (hne6.symm.trans h) (by decide)) | exact (fun h => absurd (h : decide ((-1 : Int) <= 0) = false) (by decide)) | exact (fun h => absurd (h : decide ((-1 : Int) ≥ 0) = true) (by decide)) | exact (fun h => absurd (h : decide ((1 : Int) <= 0) = true) (by decide)) | exact (fun h => absurd (h : decide ((1 : Int) ≥ 0) = false) (by decide))) | refine ⟨?_, ?_⟩ | intro _)
             all_goals first | (with_reducible first | apply qa | apply qb | apply qc | apply qd) | (conv => whnf)
             all_goals first | ((with_reducible show ASat _ _ _ _ _); refine draw_ren tys_ok (l := sl4B) sp4B (by kernel_rfl) pl2B 6 8 [0, 1, 2, 3, 4, 5, 6, 7] [12, 13] [0, 1, 2, 3, 8, 9, 10, 11, 12, 13, 21, 33, 37, 44, 51] (by kernel_rfl) ?_; apply tail_intro; · (repeat' (first | exact trivial | refine ⟨?_, ?_⟩ | intro _)) <;> (first | exact rfl | omega | assumption | (dsimp only; omega))) | skip
             all_goals repeat' (first | exact trivial | (with_reducible first | exact (fun h => absurd (hne1.symm.trans h) (by decide)) | exact (fun h => absurd (hne2.symm.trans h) (by decide)) | exact (fun h => absurd (hne3.symm.trans h) (by decide)) | exact (fun h => absurd (hne4.symm.trans h) (by decide)) | exact (fun h => absurd (hne5.symm.trans h) (by decide)) | exact (fun h => absurd (hne6.symm.trans h) (by decide)) | exact (fun h => absurd (h : decide ((-1 : Int) <= 0) = false) (by decide)) | exact (fun h => absurd (h : decide ((-1 : Int) ≥ 0) = true) (by decide)) | exact (fun h => absurd (h : decide ((1 : Int) <= 0) = true) (by decide)) | exact (fun h => absurd (h : decide ((1 : Int) ≥ 0) = false) (by decide))) | refine ⟨?_, ?_⟩ | intro _)
             all_goals first | (with_reducible first | apply qa | apply qb | apply qc | apply qd) | (conv => whnf)
             all_goals first | ((with_reducible show ASat _ _ _ _ _); refine draw_cut tys_ok (l := sl4B) sp4B (by kernel_rfl) pl3B [0, 1, 2, 3, 8, 9, 10, 11, 12, 13, 21, 33, 37, 44, 51] (by kernel_rfl) ?_; apply tail_intro; · (repeat' (first | exact trivial | refine ⟨?_, ?_⟩ | intro _)) <;> (first | exact rfl | omega | assumption | (dsimp only; omega))) | skip
             all_goals repeat' (first | exact trivial | (with_reducible first | exact (fun h => absurd (hne1.symm.trans h) (by decide)) | exact (fun h => absurd (hne2.symm.trans h) (by decide)) | exact (fun h => absurd (hne3.symm.trans h) (by decide)) | exact (fun h => absurd (hne4.symm.trans h) (by decide)) | exact (fun h => absurd (hne5.symm.trans h) (by decide)) | exact (fun h => absurd (hne6.symm.trans h) (by decide)) | exact (fun h => absurd (h : decide ((-1 : Int) <= 0) = false) (by decide)) | exact (fun h => absurd (h : decide ((-1 : Int) ≥ 0) = true) (by decide)) | exact (fun h => absurd (h : decide ((1 : Int) <= 0) = true) (by decide)) | exact (fun h => absurd (h : decide ((1 : Int) ≥ 0) = false) (by decide))) | refine ⟨?_, ?_⟩ | intro _)
             all_goals first | (with_reducible first | apply qa | apply qb | apply qc | apply qd) | (conv => whnf)
             all_goals first | ((with_reducible show ACall _ _ _ _ _ _); refine inl tys_ok (l := sl4B) sp4B Tryz.func143 rfl (by kernel_rfl) (by kernel_rfl) rfl ?_) | skip
             all_goals repeat' (first | exact trivial | (with_reducible first | exact (fun h => absurd (hne1.symm.trans h) (by decide)) | exact (fun h => absurd (hne2.symm.trans h) (by decide)) | exact (fun h => absurd (hne3.symm.trans h) (by decide)) | exact (fun h => absurd (hne4.symm.trans h) (by decide)) | exact (fun h => absurd (hne5.symm.trans h) (by decide)) | exact (fun h => absurd (hne6.symm.trans h) (by decide)) | exact (fun h => absurd (h : decide ((-1 : Int) <= 0) = false) (by decide)) | exact (fun h => absurd (h : decide ((-1 : Int) ≥ 0) = true) (by decide)) | exact (fun h => absurd (h : decide ((1 : Int) <= 0) = true) (by decide)) | exact (fun h => absurd (h : decide ((1 : Int) ≥ 0) = false) (by decide))) | refine ⟨?_, ?_⟩ | intro _)
             all_goals first | (with_reducible first | apply qa | apply qb | apply qc | apply qd) | (conv => whnf)
             all_goals (try simp only [ht0, Nat.add_zero, hg])
             all_goals repeat' (first | exact trivial | (with_reducible first | exact (fun h => absurd (hne1.symm.trans h) (by decide)) | exact (fun h => absurd (hne2.symm.trans h) (by decide)) | exact (fun h => absurd (hne3.symm.trans h) (by decide)) | exact (fun h => absurd (hne4.symm.trans h) (by decide)) | exact (fun h => absurd (hne5.symm.trans h) (by decide)) | exact (fun h => absurd (hne6.symm.trans h) (by decide)) | exact (fun h => absurd (h : decide ((-1 : Int) <= 0) = false) (by decide)) | exact (fun h => absurd (h : decide ((-1 : Int) ≥ 0) = true) (by decide)) | exact (fun h => absurd (h : decide ((1 : Int) <= 0) = true) (by decide)) | exact (fun h => absurd (h : decide ((1 : Int) ≥ 0) = false) (by decide)) | exact hgp) | refine ⟨?_, ?_⟩ | intro _)
             all_goals first | (with_reducible first | apply qa | apply qb | apply qc | apply qd) | (conv => whnf)
             all_goals (try simp only [lessB_nil, lessB_nil2, e1])
             all_goals first | exact Nat.le_refl _ | omega | (simp only [List.length_append, List.length_cons, List.length_nil]; omega) | exact hstep | rfl | (simp; done) | (rw [show (Int.toNat 1 : Nat) = 1 from rfl]; congr 1; omega) | ((with_reducible show idsOk _ _ = true); rfl) | (exact rwB_snoc rfl ‹_›)
           | false =>
             cases hgt : ltB (atB M j) (atB L i) with
             | true =>
               have hne1 : decide (((L.length - i : Nat) : Int) > 0) = true := decide_eq_true (by omega)
               have hne2 : (((L.length - i : Nat) : Int) == 0) = false := beq_eq_false_iff_ne.2 (by omega)
               have hne3 : (((M.length - j : Nat) : Int) == 0) = false := beq_eq_false_iff_ne.2 (by omega)
               have hne4 : decide (((M.length - j : Nat) : Int) > 0) = true := decide_eq_true (by omega)
               have hne5 : decide (cfL (atB L (i + Int.toNat 0)).name.data.toList (atB M (j + Int.toNat 0)).name.data.toList <= 0) = false := decide_eq_false (Int.not_le.2 (cf_gt hgt))
               have hne6 : decide (cfL (atB L (i + Int.toNat 0)).name.data.toList (atB M (j + Int.toNat 0)).name.data.toList ≥ 0) = true := decide_eq_true (Int.le_of_lt (cf_gt hgt))
               have ht0 : Int.toNat 0 = 0 := rfl
               have e1 : nxM Op L M (i, j, out) = (i, j + 1, out ++ [⟨(atB M j).name, Op Vl.zero (atB M j).v⟩]) := by
                unfold nxM; dsimp only; rw [if_pos ci, if_pos cj, if_neg (by rw [hlt]; exact Bool.false_ne_true), if_pos hgt]
               rw [e1] at hstep
               obtain ⟨gp, hg, hgp⟩ := hgk.right _ (okL_at hM cj) (hqk.right _ (atB_mem cj))
               simp only [vlC, vlZ] at hg
               dsimp only at hstep
               repeat' (first | exact trivial | (with_reducible first | exact (fun h => absurd (hne1.symm.trans h) (by decide)) | exact (fun h => absurd (hne2.symm.trans h) (by decide)) | exact (fun h => absurd (hne3.symm.trans h) (by decide)) | exact (fun h => absurd (hne4.symm.trans h) (by decide)) | exact (fun h => absurd (hne5.symm.trans h) (by decide)) | exact (fun h => absurd (hne6.symm.trans h) (by decide)) | exact (fun h => absurd (h : decide ((-1 : Int) <= 0) = false) (by decide)) | exact (fun h => absurd (h : decide ((-1 : Int) ≥ 0) = true) (by decide)) | exact (fun h => absurd (h : decide ((1 : Int) <= 0) = true) (by decide)) | exact (fun h => absurd (h : decide ((1 : Int) ≥ 0) = false) (by decide))) | refine ⟨?_, ?_⟩ | intro _)
               all_goals first | (with_reducible first | apply qa | apply qb | apply qc | apply qd) | (conv => whnf)
               all_goals first | ((with_reducible show ASat _ _ _ _ _); refine draw_ren tys_ok (l := sl4B) sp4B (by kernel_rfl) pl2B 6 8 [0, 1, 2, 3, 4, 5, 6, 7] [12, 13] [0, 1, 2, 3, 8, 9, 10, 11, 12, 13, 21, 33, 37, 44, 51] (by kernel_rfl) ?_; apply tail_intro; · (repeat' (first | exact trivial | refine ⟨?_, ?_⟩ | intro _)) <;> (first | exact rfl | omega | assumption | (dsimp only; omega))) | skip
               all_goals repeat' (first | exact trivial | (with_reducible first | exact (fun h => absurd (hne1.symm.trans h) (by decide)) | exact (fun h => absurd (hne2.symm.trans h) (by decide)) | exact (fun h => absurd (hne3.symm.trans h) (by decide)) | exact (fun h => absurd (hne4.symm.trans h) (by decide)) | exact (fun h => absurd (hne5.symm.trans h) (by decide)) | exact (fun h => absurd (hne6.symm.trans h) (by decide)) | exact (fun h => absurd (h : decide ((-1 : Int) <= 0) = false) (by decide)) | exact (fun h => absurd (h : decide ((-1 : Int) ≥ 0) = true) (by decide)) | exact (fun h => absurd (h : decide ((1 : Int) <= 0) = true) (by decide)) | exact (fun h => absurd (h : decide ((1 : Int) ≥ 0) = false) (by decide))) | refine ⟨?_, ?_⟩ | intro _)
               all_goals first | (with_reducible first | apply qa | apply qb | apply qc | apply qd) | (conv => whnf)
               all_goals first | ((with_reducible show ASat _ _ _ _ _); refine draw_cut tys_ok (l := sl4B) sp4B (by kernel_rfl) pl3B [0, 1, 2, 3, 8, 9, 10, 11, 12, 13, 21, 33, 37, 44, 51] (by kernel_rfl) ?_; apply tail_intro; · (repeat' (first | exact trivial | refine ⟨?_, ?_⟩ | intro _)) <;> (first | exact rfl | omega | assumption | (dsimp only; omega))) | skip
               all_goals repeat' (first | exact trivial | (with_reducible first | exact (fun h => absurd (hne1.symm.trans h) (by decide)) | exact (fun h => absurd (hne2.symm.trans h) (by decide)) | exact (fun h => absurd (hne3.symm.trans h) (by decide)) | exact (fun h => absurd (hne4.symm.trans h) (by decide)) | exact (fun h => absurd (hne5.symm.trans h) (by decide)) | exact (fun h => absurd (hne6.symm.trans h) (by decide)) | exact (fun h => absurd (h : decide ((-1 : Int) <= 0) = false) (by decide)) | exact (fun h => absurd (h : decide ((-1 : Int) ≥ 0) = true) (by decide)) | exact (fun h => absurd (h : decide ((1 : Int) <= 0) = true) (by decide)) | exact (fun h => absurd (h : decide ((1 : Int) ≥ 0) = false) (by decide))) | refine ⟨?_, ?_⟩ | intro _)
               all_goals first | (with_reducible first | apply qa | apply qb | apply qc | apply qd) | (conv => whnf)
               all_goals first | ((with_reducible show ACall _ _ _ _ _ _); refine inl tys_ok (l := sl4B) sp4B Tryz.func143 rfl (by kernel_rfl) (by kernel_rfl) rfl ?_) | skip
               all_goals repeat' (first | exact trivial | (with_reducible first | exact (fun h => absurd (hne1.symm.trans h) (by decide)) | exact (fun h => absurd (hne2.symm.trans h) (by decide)) | exact (fun h => absurd (hne3.symm.trans h) (by decide)) | exact (fun h => absurd (hne4.symm.trans h) (by decide)) | exact (fun h => absurd (hne5.symm.trans h) (by decide)) | exact (fun h => absurd (hne6.symm.trans h) (by decide)) | exact (fun h => absurd (h : decide ((-1 : Int) <= 0) = false) (by decide)) | exact (fun h => absurd (h : decide ((-1 : Int) ≥ 0) = true) (by decide)) | exact (fun h => absurd (h : decide ((1 : Int) <= 0) = true) (by decide)) | exact (fun h => absurd (h : decide ((1 : Int) ≥ 0) = false) (by decide))) | refine ⟨?_, ?_⟩ | intro _)
               all_goals first | (with_reducible first | apply qa | apply qb | apply qc | apply qd) | (conv => whnf)
               all_goals (try simp only [ht0, Nat.add_zero, hg])
               all_goals repeat' (first | exact trivial | (with_reducible first | exact (fun h => absurd (hne1.symm.trans h) (by decide)) | exact (fun h => absurd (hne2.symm.trans h) (by decide)) | exact (fun h => absurd (hne3.symm.trans h) (by decide)) | exact (fun h => absurd (hne4.symm.trans h) (by decide)) | exact (fun h => absurd (hne5.symm.trans h) (by decide)) | exact (fun h => absurd (hne6.symm.trans h) (by decide)) | exact (fun h => absurd (h : decide ((-1 : Int) <= 0) = false) (by decide)) | exact (fun h => absurd (h : decide ((-1 : Int) ≥ 0) = true) (by decide)) | exact (fun h => absurd (h : decide ((1 : Int) <= 0) = true) (by decide)) | exact (fun h => absurd (h : decide ((1 : Int) ≥ 0) = false) (by decide)) | exact hgp) | refine ⟨?_, ?_⟩ | intro _)
               all_goals first | (with_reducible first | apply qa | apply qb | apply qc | apply qd) | (conv => whnf)
               all_goals (try simp only [lessB_nil, lessB_nil2, e1])
               all_goals first | exact Nat.le_refl _ | omega | (simp only [List.length_append, List.length_cons, List.length_nil]; omega) | exact hstep | rfl | (simp; done) | (rw [show (Int.toNat 1 : Nat) = 1 from rfl]; congr 1; omega) | ((with_reducible show idsOk _ _ = true); rfl) | (exact rwB_snoc rfl ‹_›)
             | false =>
               have hne1 : decide (((L.length - i : Nat) : Int) > 0) = true := decide_eq_true (by omega)
               have hne2 : (((L.length - i : Nat) : Int) == 0) = false := beq_eq_false_iff_ne.2 (by omega)
               have hne3 : (((M.length - j : Nat) : Int) == 0) = false := beq_eq_false_iff_ne.2 (by omega)
               have hne4 : decide (((M.length - j : Nat) : Int) > 0) = true := decide_eq_true (by omega)
               have hne5 : decide (cfL (atB L (i + Int.toNat 0)).name.data.toList (atB M (j + Int.toNat 0)).name.data.toList <= 0) = true := decide_eq_true (Int.le_of_eq (cf_eq hlt hgt).1)
               have hne6 : decide (cfL (atB L (i + Int.toNat 0)).name.data.toList (atB M (j + Int.toNat 0)).name.data.toList ≥ 0) = true := decide_eq_true (Int.le_of_eq (cf_eq hlt hgt).1.symm)
               have ht0 : Int.toNat 0 = 0 := rfl
               have e1 : nxM Op L M (i, j, out) = (i + 1, j + 1, out ++ [⟨(atB L i).name, Op (atB L i).v (atB M j).v⟩]) := by
                unfold nxM; dsimp only; rw [if_pos ci, if_pos cj, if_neg (by rw [hlt]; exact Bool.false_ne_true), if_neg (by rw [hgt]; exact Bool.false_ne_true)]
               rw [e1] at hstep
               obtain ⟨gp, hg, hgp⟩ := hgk.both _ _ (okL_at hL ci) (okL_at hM cj) (hqk.both _ (atB_mem ci) _ (atB_mem cj))
               simp only [vlC, vlZ] at hg
               dsimp only at hstep
               repeat' (first | exact trivial | (with_reducible first | exact (fun h => absurd (hne1.symm.trans h) (by decide)) | exact (fun h => absurd (hne2.symm.trans h) (by decide)) | exact (fun h => absurd (hne3.symm.trans h) (by decide)) | exact (fun h => absurd (hne4.symm.trans h) (by decide)) | exact (fun h => absurd (hne5.symm.trans h) (by decide)) | exact (fun h => absurd (hne6.symm.trans h) (by decide)) | exact (fun h => absurd (h : decide ((-1 : Int) <= 0) = false) (by decide)) | exact (fun h => absurd (h : decide ((-1 : Int) ≥ 0) = true) (by decide)) | exact (fun h => absurd (h : decide ((1 : Int) <= 0) = true) (by decide)) | exact (fun h => absurd (h : decide ((1 : Int) ≥ 0) = false) (by decide))) | refine ⟨?_, ?_⟩ | intro _)
               all_goals first | (with_reducible first | apply qa | apply qb | apply qc | apply qd) | (conv => whnf)
               all_goals first | ((with_reducible show ASat _ _ _ _ _); refine draw_ren tys_ok (l := sl4B) sp4B (by kernel_rfl) pl2B 6 8 [0, 1, 2, 3, 4, 5, 6, 7] [12, 13] [0, 1, 2, 3, 8, 9, 10, 11, 12, 13, 21, 33, 37, 44, 51] (by kernel_rfl) ?_; apply tail_intro; · (repeat' (first | exact trivial | refine ⟨?_, ?_⟩ | intro _)) <;> (first | exact rfl | omega | assumption | (dsimp only; omega))) | skip
               all_goals repeat' (first | exact trivial | (with_reducible first | exact (fun h => absurd (hne1.symm.trans h) (by decide)) | exact (fun h => absurd (hne2.symm.trans h) (by decide)) | exact (fun h => absurd (hne3.symm.trans h) (by decide)) | exact (fun h => absurd (hne4.symm.trans h) (by decide)) | exact (fun h => absurd (hne5.symm.trans h) (by decide)) | exact (fun h => absurd (hne6.symm.trans h) (by decide)) | exact (fun h => absurd (h : decide ((-1 : Int) <= 0) = false) (by decide)) | exact (fun h => absurd (h : decide ((-1 : Int) ≥ 0) = true) (by decide)) | exact (fun h => absurd (h : decide ((1 : Int) <= 0) = true) (by decide)) | exact (fun h => absurd (h : decide ((1 : Int) ≥ 0) = false) (by decide))) | refine ⟨?_, ?_⟩ | intro _)
               all_goals first | (with_reducible first | apply qa | apply qb | apply qc | apply qd) | (conv => whnf)
               all_goals first | ((with_reducible show ASat _ _ _ _ _); refine draw_cut tys_ok (l := sl4B) sp4B (by kernel_rfl) pl3B [0, 1, 2, 3, 8, 9, 10, 11, 12, 13, 21, 33, 37, 44, 51] (by kernel_rfl) ?_; apply tail_intro; · (repeat' (first | exact trivial | refine ⟨?_, ?_⟩ | intro _)) <;> (first | exact rfl | omega | assumption | (dsimp only; omega))) | skip
               all_goals repeat' (first | exact trivial | (with_reducible first | exact (fun h => absurd (hne1.symm.trans h) (by decide)) | exact (fun h => absurd (hne2.symm.trans h) (by decide)) | exact (fun h => absurd (hne3.symm.trans h) (by decide)) | exact (fun h => absurd (hne4.symm.trans h) (by decide)) | exact (fun h => absurd (hne5.symm.trans h) (by decide)) | exact (fun h => absurd (hne6.symm.trans h) (by decide)) | exact (fun h => absurd (h : decide ((-1 : Int) <= 0) = false) (by decide)) | exact (fun h => absurd (h : decide ((-1 : Int) ≥ 0) = true) (by decide)) | exact (fun h => absurd (h : decide ((1 : Int) <= 0) = true) (by decide)) | exact (fun h => absurd (h : decide ((1 : Int) ≥ 0) = false) (by decide))) | refine ⟨?_, ?_⟩ | intro _)
               all_goals first | (with_reducible first | apply qa | apply qb | apply qc | apply qd) | (conv => whnf)
               all_goals first | ((with_reducible show ASat _ _ _ _ _); refine draw_cut tys_ok (l := sl4B) sp4B (by kernel_rfl) pl3B [0, 1, 2, 3, 8, 9, 10, 11, 12, 13, 21, 33, 37, 44, 51] (by kernel_rfl) ?_; apply tail_intro; · (repeat' (first | exact trivial | refine ⟨?_, ?_⟩ | intro _)) <;> (first | exact rfl | omega | assumption | (dsimp only; omega))) | skip
               all_goals repeat' (first | exact trivial | (with_reducible first | exact (fun h => absurd (hne1.symm.trans h) (by decide)) | exact (fun h => absurd (hne2.symm.trans h) (by decide)) | exact (fun h => absurd (hne3.symm.trans h) (by decide)) | exact (fun h => absurd (hne4.symm.trans h) (by decide)) | exact (fun h => absurd (hne5.symm.trans h) (by decide)) | exact (fun h => absurd (hne6.symm.trans h) (by decide)) | exact (fun h => absurd (h : decide ((-1 : Int) <= 0) = false) (by decide)) | exact (fun h => absurd (h : decide ((-1 : Int) ≥ 0) = true) (by decide)) | exact (fun h => absurd (h : decide ((1 : Int) <= 0) = true) (by decide)) | exact (fun h => absurd (h : decide ((1 : Int) ≥ 0) = false) (by decide))) | refine ⟨?_, ?_⟩ | intro _)
               all_goals first | (with_reducible first | apply qa | apply qb | apply qc | apply qd) | (conv => whnf)
               all_goals first | ((with_reducible show ACall _ _ _ _ _ _); refine inl tys_ok (l := sl4B) sp4B Tryz.func143 rfl (by kernel_rfl) (by kernel_rfl) rfl ?_) | skip
               all_goals repeat' (first | exact trivial | (with_reducible first | exact (fun h => absurd (hne1.symm.trans h) (by decide)) | exact (fun h => absurd (hne2.symm.trans h) (by decide)) | exact (fun h => absurd (hne3.symm.trans h) (by decide)) | exact (fun h => absurd (hne4.symm.trans h) (by decide)) | exact (fun h => absurd (hne5.symm.trans h) (by decide)) | exact (fun h => absurd (hne6.symm.trans h) (by decide)) | exact (fun h => absurd (h : decide ((-1 : Int) <= 0) = false) (by decide)) | exact (fun h => absurd (h : decide ((-1 : Int) ≥ 0) = true) (by decide)) | exact (fun h => absurd (h : decide ((1 : Int) <= 0) = true) (by decide)) | exact (fun h => absurd (h : decide ((1 : Int) ≥ 0) = false) (by decide))) | refine ⟨?_, ?_⟩ | intro _)
               all_goals first | (with_reducible first | apply qa | apply qb | apply qc | apply qd) | (conv => whnf)
               all_goals (try simp only [ht0, Nat.add_zero, hg])
               all_goals repeat' (first | exact trivial | (with_reducible first | exact (fun h => absurd (hne1.symm.trans h) (by decide)) | exact (fun h => absurd (hne2.symm.trans h) (by decide)) | exact (fun h => absurd (hne3.symm.trans h) (by decide)) | exact (fun h => absurd (hne4.symm.trans h) (by decide)) | exact (fun h => absurd (hne5.symm.trans h) (by decide)) | exact (fun h => absurd (hne6.symm.trans h) (by decide)) | exact (fun h => absurd (h : decide ((-1 : Int) <= 0) = false) (by decide)) | exact (fun h => absurd (h : decide ((-1 : Int) ≥ 0) = true) (by decide)) | exact (fun h => absurd (h : decide ((1 : Int) <= 0) = true) (by decide)) | exact (fun h => absurd (h : decide ((1 : Int) ≥ 0) = false) (by decide)) | exact hgp) | refine ⟨?_, ?_⟩ | intro _)
               all_goals first | (with_reducible first | apply qa | apply qb | apply qc | apply qd) | (conv => whnf)
               all_goals (try simp only [lessB_nil, lessB_nil2, lessB_eq (cf_eq hlt hgt).2, e1])
               all_goals first | exact Nat.le_refl _ | omega | (simp only [List.length_append, List.length_cons, List.length_nil]; omega) | exact hstep | rfl | (simp; done) | (rw [show (Int.toNat 1 : Nat) = 1 from rfl]; congr 1; omega) | ((with_reducible show idsOk _ _ = true); rfl) | (exact rwB_snoc rfl ‹_›)
         . have hne1 : decide (((L.length - i : Nat) : Int) > 0) = true := decide_eq_true (by omega)
           have hne2 : (((L.length - i : Nat) : Int) == 0) = false := beq_eq_false_iff_ne.2 (by omega)
           have hne3 : (((M.length - j : Nat) : Int) == 0) = true := beq_iff_eq.2 (by omega)
           have hne4 : decide (((M.length - j : Nat) : Int) > 0) = false := decide_eq_false (by omega)
           have ht0 : Int.toNat 0 = 0 := rfl
           have e1 : nxM Op L M (i, j, out) = (i + 1, j, out ++ [⟨(atB L i).name, Op (atB L i).v Vl.zero⟩]) := by
            unfold nxM; dsimp only; rw [if_pos ci, if_neg (by omega)]
           rw [e1] at hstep
           obtain ⟨gp, hg, hgp⟩ := hgk.left _ (okL_at hL ci) (hqk.left _ (atB_mem ci))
           simp only [vlC, vlZ] at hg
           dsimp only at hstep
           repeat' (first | exact trivial | (with_reducible first | exact (fun h => absurd (hne1.symm.trans h) (by decide)) | exact (fun h => absurd (hne2.symm.trans h) (by decide)) | exact (fun h => absurd (hne3.symm.trans h) (by decide)) | exact (fun h => absurd (hne4.symm.trans h) (by decide)) | exact (fun h => absurd (h : decide ((-1 : Int) <= 0) = false) (by decide)) | exact (fun h => absurd (h : decide ((-1 : Int) ≥ 0) = true) (by decide)) | exact (fun h => absurd (h : decide ((1 : Int) <= 0) = true) (by decide)) | exact (fun h => absurd (h : decide ((1 : Int) ≥ 0) = false) (by decide))) | refine ⟨?_, ?_⟩ | intro _)
           all_goals first | (with_reducible first | apply qa | apply qb | apply qc | apply qd) | (conv => whnf)
           all_goals first | ((with_reducible show ASat _ _ _ _ _); refine draw_ren tys_ok (l := sl4B) sp4B (by kernel_rfl) pl2B 6 8 [0, 1, 2, 3, 4, 5, 6, 7] [12, 13] [0, 1, 2, 3, 8, 9, 10, 11, 12, 13, 21, 33, 37, 44, 51] (by kernel_rfl) ?_; apply tail_intro; · (repeat' (first | exact trivial | refine ⟨?_, ?_⟩ | intro _)) <;> (first | exact rfl | omega | assumption | (dsimp only; omega))) | skip
           all_goals repeat' (first | exact trivial | (with_reducible first | exact (fun h => absurd (hne1.symm.trans h) (by decide)) | exact (fun h => absurd (hne2.symm.trans h) (by decide)) | exact (fun h => absurd (hne3.symm.trans h) (by decide)) | exact (fun h => absurd (hne4.symm.trans h) (by decide)) | exact (fun h => absurd (h : decide ((-1 : Int) <= 0) = false) (by decide)) | exact (fun h => absurd (h : decide ((-1 : Int) ≥ 0) = true) (by decide)) | exact (fun h => absurd (h : decide ((1 : Int) <= 0) = true) (by decide)) | exact (fun h => absurd (h : decide ((1 : Int) ≥ 0) = false) (by decide))) | refine ⟨?_, ?_⟩ | intro _)
           all_goals first | (with_reducible first | apply qa | apply qb | apply qc | apply qd) | (conv => whnf)
           all_goals first | ((with_reducible show ASat _ _ _ _ _); refine draw_cut tys_ok (l := sl4B) sp4B (by kernel_rfl) pl3B [0, 1, 2, 3, 8, 9, 10, 11, 12, 13, 21, 33, 37, 44, 51] (by kernel_rfl) ?_; apply tail_intro; · (repeat' (first | exact trivial | refine ⟨?_, ?_⟩ | intro _)) <;> (first | exact rfl | omega | assumption | (dsimp only; omega))) | skip
           all_goals repeat' (first | exact trivial | (with_reducible first | exact (fun h => absurd (hne1.symm.trans h) (by decide)) | exact (fun h => absurd (hne2.symm.trans h) (by decide)) | exact (fun h => absurd (hne3.symm.trans h) (by decide)) | exact (fun h => absurd (hne4.symm.trans h) (by decide)) | exact (fun h => absurd (h : decide ((-1 : Int) <= 0) = false) (by decide)) | exact (fun h => absurd (h : decide ((-1 : Int) ≥ 0) = true) (by decide)) | exact (fun h => absurd (h : decide ((1 : Int) <= 0) = true) (by decide)) | exact (fun h => absurd (h : decide ((1 : Int) ≥ 0) = false) (by decide))) | refine ⟨?_, ?_⟩ | intro _)
           all_goals first | (with_reducible first | apply qa | apply qb | apply qc | apply qd) | (conv => whnf)
           all_goals first | ((with_reducible show ACall _ _ _ _ _ _); refine inl tys_ok (l := sl4B) sp4B Tryz.func143 rfl (by kernel_rfl) (by kernel_rfl) rfl ?_) | skip
           all_goals repeat' (first | exact trivial | (with_reducible first | exact (fun h => absurd (hne1.symm.trans h) (by decide)) | exact (fun h => absurd (hne2.symm.trans h) (by decide)) | exact (fun h => absurd (hne3.symm.trans h) (by decide)) | exact (fun h => absurd (hne4.symm.trans h) (by decide)) | exact (fun h => absurd (h : decide ((-1 : Int) <= 0) = false) (by decide)) | exact (fun h => absurd (h : decide ((-1 : Int) ≥ 0) = true) (by decide)) | exact (fun h => absurd (h : decide ((1 : Int) <= 0) = true) (by decide)) | exact (fun h => absurd (h : decide ((1 : Int) ≥ 0) = false) (by decide))) | refine ⟨?_, ?_⟩ | intro _)
           all_goals first | (with_reducible first | apply qa | apply qb | apply qc | apply qd) | (conv => whnf)
           all_goals (try simp only [ht0, Nat.add_zero, hg])
           all_goals repeat' (first | exact trivial | (with_reducible first | exact (fun h => absurd (hne1.symm.trans h) (by decide)) | exact (fun h => absurd (hne2.symm.trans h) (by decide)) | exact (fun h => absurd (hne3.symm.trans h) (by decide)) | exact (fun h => absurd (hne4.symm.trans h) (by decide)) | exact (fun h => absurd (h : decide ((-1 : Int) <= 0) = false) (by decide)) | exact (fun h => absurd (h : decide ((-1 : Int) ≥ 0) = true) (by decide)) | exact (fun h => absurd (h : decide ((1 : Int) <= 0) = true) (by decide)) | exact (fun h => absurd (h : decide ((1 : Int) ≥ 0) = false) (by decide)) | exact hgp) | refine ⟨?_, ?_⟩ | intro _)
           all_goals first | (with_reducible first | apply qa | apply qb | apply qc | apply qd) | (conv => whnf)
           all_goals (try simp only [lessB_nil, lessB_nil2, e1])
           all_goals first | exact Nat.le_refl _ | omega | (simp only [List.length_append, List.length_cons, List.length_nil]; omega) | exact hstep | rfl | (simp; done) | (rw [show (Int.toNat 1 : Nat) = 1 from rfl]; congr 1; omega) | ((with_reducible show idsOk _ _ = true); rfl) | (exact rwB_snoc rfl ‹_›)
       . have cj : j < M.length := hend.resolve_left (by omega)
         have hne1 : decide (((L.length - i : Nat) : Int) > 0) = false := decide_eq_false (by omega)
         have hne2 : (((L.length - i : Nat) : Int) == 0) = true := beq_iff_eq.2 (by omega)
         have hne3 : (((M.length - j : Nat) : Int) == 0) = false := beq_eq_false_iff_ne.2 (by omega)
         have hne4 : decide (((M.length - j : Nat) : Int) > 0) = true := decide_eq_true (by omega)
         have ht0 : Int.toNat 0 = 0 := rfl
         have e1 : nxM Op L M (i, j, out) = (i, j + 1, out ++ [⟨(atB M j).name, Op Vl.zero (atB M j).v⟩]) := by
          unfold nxM; dsimp only; rw [if_neg (by omega)]
         rw [e1] at hstep
         obtain ⟨gp, hg, hgp⟩ := hgk.right _ (okL_at hM cj) (hqk.right _ (atB_mem cj))
         simp only [vlC, vlZ] at hg
         dsimp only at hstep
         repeat' (first | exact trivial | (with_reducible first | exact (fun h => absurd (hne1.symm.trans h) (by decide)) | exact (fun h => absurd (hne2.symm.trans h) (by decide)) | exact (fun h => absurd (hne3.symm.trans h) (by decide)) | exact (fun h => absurd (hne4.symm.trans h) (by decide)) | exact (fun h => absurd (h : decide ((-1 : Int) <= 0) = false) (by decide)) | exact (fun h => absurd (h : decide ((-1 : Int) ≥ 0) = true) (by decide)) | exact (fun h => absurd (h : decide ((1 : Int) <= 0) = true) (by decide)) | exact (fun h => absurd (h : decide ((1 : Int) ≥ 0) = false) (by decide))) | refine ⟨?_, ?_⟩ | intro _)
         all_goals first | (with_reducible first | apply qa | apply qb | apply qc | apply qd) | (conv => whnf)
         all_goals first | ((with_reducible show ASat _ _ _ _ _); refine draw_ren tys_ok (l := sl4B) sp4B (by kernel_rfl) pl2B 6 8 [0, 1, 2, 3, 4, 5, 6, 7] [12, 13] [0, 1, 2, 3, 8, 9, 10, 11, 12, 13, 21, 33, 37, 44, 51] (by kernel_rfl) ?_; apply tail_intro; · (repeat' (first | exact trivial | refine ⟨?_, ?_⟩ | intro _)) <;> (first | exact rfl | omega | assumption | (dsimp only; omega))) | skip
         all_goals repeat' (first | exact trivial | (with_reducible first | exact (fun h => absurd (hne1.symm.trans h) (by decide)) | exact (fun h => absurd (hne2.symm.trans h) (by decide)) | exact (fun h => absurd (hne3.symm.trans h) (by decide)) | exact (fun h => absurd (hne4.symm.trans h) (by decide)) | exact (fun h => absurd (h : decide ((-1 : Int) <= 0) = false) (by decide)) | exact (fun h => absurd (h : decide ((-1 : Int) ≥ 0) = true) (by decide)) | exact (fun h => absurd (h : decide ((1 : Int) <= 0) = true) (by decide)) | exact (fun h => absurd (h : decide ((1 : Int) ≥ 0) = false) (by decide))) | refine ⟨?_, ?_⟩ | intro _)
         all_goals first | (with_reducible first | apply qa | apply qb | apply qc | apply qd) | (conv => whnf)
         all_goals first | ((with_reducible show ASat _ _ _ _ _); refine draw_cut tys_ok (l := sl4B) sp4B (by kernel_rfl) pl3B [0, 1, 2, 3, 8, 9, 10, 11, 12, 13, 21, 33, 37, 44, 51] (by kernel_rfl) ?_; apply tail_intro; · (repeat' (first | exact trivial | refine ⟨?_, ?_⟩ | intro _)) <;> (first | exact rfl | omega | assumption | (dsimp only; omega))) | skip
         all_goals repeat' (first | exact trivial | (with_reducible first | exact (fun h => absurd (hne1.symm.trans h) (by decide)) | exact (fun h => absurd (hne2.symm.trans h) (by decide)) | exact (fun h => absurd (hne3.symm.trans h) (by decide)) | exact (fun h => absurd (hne4.symm.trans h) (by decide)) | exact (fun h => absurd (h : decide ((-1 : Int) <= 0) = false) (by decide)) | exact (fun h => absurd (h : decide ((-1 : Int) ≥ 0) = true) (by decide)) | exact (fun h => absurd (h : decide ((1 : Int) <= 0) = true) (by decide)) | exact (fun h => absurd (h : decide ((1 : Int) ≥ 0) = false) (by decide))) | refine ⟨?_, ?_⟩ | intro _)
         all_goals first | (with_reducible first | apply qa | apply qb | apply qc | apply qd) | (conv => whnf)
         all_goals first | ((with_reducible show ACall _ _ _ _ _ _); refine inl tys_ok (l := sl4B) sp4B Tryz.func143 rfl (by kernel_rfl) (by kernel_rfl) rfl ?_) | skip
         all_goals repeat' (first | exact trivial | (with_reducible first | exact (fun h => absurd (hne1.symm.trans h) (by decide)) | exact (fun h => absurd (hne2.symm.trans h) (by decide)) | exact (fun h => absurd (hne3.symm.trans h) (by decide)) | exact (fun h => absurd (hne4.symm.trans h) (by decide)) | exact (fun h => absurd (h : decide ((-1 : Int) <= 0) = false) (by decide)) | exact (fun h => absurd (h : decide ((-1 : Int) ≥ 0) = true) (by decide)) | exact (fun h => absurd (h : decide ((1 : Int) <= 0) = true) (by decide)) | exact (fun h => absurd (h : decide ((1 : Int) ≥ 0) = false) (by decide))) | refine ⟨?_, ?_⟩ | intro _)
         all_goals first | (with_reducible first | apply qa | apply qb | apply qc | apply qd) | (conv => whnf)
         all_goals (try simp only [ht0, Nat.add_zero, hg])
         all_goals repeat' (first | exact trivial | (with_reducible first | exact (fun h => absurd (hne1.symm.trans h) (by decide)) | exact (fun h => absurd (hne2.symm.trans h) (by decide)) | exact (fun h => absurd (hne3.symm.trans h) (by decide)) | exact (fun h => absurd (hne4.symm.trans h) (by decide)) | exact (fun h => absurd (h : decide ((-1 : Int) <= 0) = false) (by decide)) | exact (fun h => absurd (h : decide ((-1 : Int) ≥ 0) = true) (by decide)) | exact (fun h => absurd (h : decide ((1 : Int) <= 0) = true) (by decide)) | exact (fun h => absurd (h : decide ((1 : Int) ≥ 0) = false) (by decide)) | exact hgp) | refine ⟨?_, ?_⟩ | intro _)
         all_goals first | (with_reducible first | apply qa | apply qb | apply qc | apply qd) | (conv => whnf)
         all_goals (try simp only [lessB_nil, lessB_nil2, e1])
         all_goals first | exact Nat.le_refl _ | omega | (simp only [List.length_append, List.length_cons, List.length_nil]; omega) | exact hstep | rfl | (simp; done) | (rw [show (Int.toNat 1 : Nat) = 1 from rfl]; congr 1; omega) | ((with_reducible show idsOk _ _ = true); rfl) | (exact rwB_snoc rfl ‹_›)
     . obtain rfl : i = L.length := by omega
       obtain rfl : j = M.length := by omega
       have hend1 : decide (((L.length - L.length : Nat) : Int) > 0) = false := decide_eq_false (by omega)
       have hend2 : decide (((M.length - M.length : Nat) : Int) > 0) = false := decide_eq_false (by omega)
       have hout : out = mrg Op L M := by
        rw [List.drop_length, List.drop_length, mrg, List.append_nil] at k4; exact k4
       subst hout
       repeat' (first | exact trivial | (with_reducible first | exact (fun h => absurd (hend1.symm.trans h) (by decide)) | exact (fun h => absurd (hend2.symm.trans h) (by decide))) | refine ⟨?_, ?_⟩ | intro _)
       all_goals first | (with_reducible first | apply qa | apply qb | apply qc | apply qd) | (conv => whnf)
       all_goals first | rfl | (simp; done) | (rename_i k _; show rwB (mrg Op L M) (0 + k) = rwB (mrg Op L M) k; rw [Nat.zero_add])
 . cases h
namespace Sp
end Sp
def Cg.tidy (c : Cg) : Prop := c = Cg.none \/ (c.some = true /\ c.red)
theorem Cg.tidy_fix {c : Cg} (h : c.tidy) : c.clean = c := by
 rcases h with rfl | ⟨h1, h2⟩
 . rfl
 . exact cg_fix h1 h2
theorem gcdJ_nn (x y : Cg) : 0 <= Cg.gcdJ x y := by unfold Cg.gcdJ; omega
theorem join_some {a b : Cg} (ha : a.some = true) (hb : b.some = true) (ra : a.red) (rb : b.red) : Cg.join a b = if Cg.gcdJ a b > 9223372036854775807 then ⟨true, 1, 0⟩ else ⟨true, Cg.gcdJ a b, md a.r (Cg.gcdJ a b)⟩ := by
 unfold Cg.join
 rw [cg_fix ha ra, cg_fix hb rb, ha, hb]
 have := gcdJ_nn a b
 simp only [Bool.not_true, Bool.false_eq_true, if_false]
 split
 . rfl
 . unfold Cg.of; rw [if_neg (by omega)]
theorem join_no1 {a b : Cg} (ha : a = Cg.none) (hb : b.tidy) : Cg.join a b = b := by
 subst ha
 have : (!Cg.none.clean.some) = true := rfl
 unfold Cg.join; rw [if_pos this, Cg.tidy_fix hb]
theorem join_no2 {a b : Cg} (ha : a.tidy) (hs : a.some = true) (hb : b = Cg.none) : Cg.join a b = a := by
 subst hb
 unfold Cg.join; rw [Cg.tidy_fix ha, hs]; rfl
theorem join_tidy {a b : Cg} (ha : a.tidy) (hb : b.tidy) : (Cg.join a b).tidy := by
 rcases ha with ha | ⟨h1, h2⟩
 . rw [join_no1 ha hb]; exact hb
 . rcases hb with hb | ⟨h3, h4⟩
   . rw [join_no2 (.inr ⟨h1, h2⟩) h1 hb]; exact .inr ⟨h1, h2⟩
   . rw [join_some h1 h3 h2 h4]
     have := gcdJ_nn a b
     split
     . right; refine ⟨rfl, ?_⟩; unfold Cg.red; dsimp only; omega
     . right; refine ⟨rfl, ?_⟩; unfold Cg.red; dsimp only
       exact ⟨this, fun h => md_bound _ _ h⟩
theorem tidy_c {i : Ig} (h : i.tidy) : i.c.tidy := by
 rcases h with rfl | ⟨⟨_, h2⟩, _, h4⟩
 . exact .inl rfl
 . exact .inr ⟨h2, h4⟩
theorem of_told {v : Vl} (h : v.i.tidy) (hs : Srt v.t.names) : v.of = v := by
 unfold Vl.of; rw [tidy_fix h, ofS_eq, cleanS_fix hs]
namespace Sp
end Sp
namespace Cg
end Cg
structure Vl.tidy (v : Vl) : Prop where
 i : v.i.tidy
 t : Srt v.t.names
theorem Vl.of_tidy (v : Vl) : v.of.tidy := ⟨by rw [of_rclean]; exact clean_tidy v.i, by rw [of_rclean]; exact cleanS_srt _⟩
theorem Vl.of_fix {v : Vl} (h : v.tidy) : v.of = v := of_told h.i h.t
theorem Vl.of_of (v : Vl) : v.of.of = v.of := Vl.of_fix (Vl.of_tidy v)
theorem ig_join_tidy {a b : Ig} (ha : a.tidy) (hb : b.tidy) : Ig.tidy ⟨a.s.join b.s, a.c.join b.c⟩ := by
 have hj := join_tidy (tidy_c ha) (tidy_c hb)
 rcases ha with rfl | ⟨⟨a1, a2⟩, a3, a4⟩
 . rcases hb with rfl | ⟨⟨b1, b2⟩, b3, b4⟩
   . exact .inl rfl
   . have e : Cg.join Ig.zero.c b.c = b.c := join_no1 rfl (.inr ⟨b2, b4⟩)
     rw [e]
     obtain ⟨⟨s, l, h⟩, c⟩ := b
     dsimp only at *
     subst b1
     right
     refine ⟨⟨?_, b2⟩, ?_, b4⟩
     . show (Sp.join ⟨false, 0, 0⟩ ⟨true, l, h⟩).some = true; grind [Sp.join, Sp.none, Sp.clean]
     . show (Sp.join ⟨false, 0, 0⟩ ⟨true, l, h⟩).lo <= (Sp.join ⟨false, 0, 0⟩ ⟨true, l, h⟩).hi; grind [Sp.join, Sp.none, Sp.clean]
 . right
   have hs : (a.s.join b.s).some = true /\ (a.s.join b.s).lo <= (a.s.join b.s).hi := by grind [Sp.join, Sp.none, Sp.clean, Sp.of]
   have hc : (a.c.join b.c).some = true := by
    rcases hb with rfl | ⟨⟨b1, b2⟩, b3, b4⟩
    . have e : Cg.join a.c Ig.zero.c = a.c := join_no2 (.inr ⟨a2, a4⟩) a2 rfl
      rw [e]; exact a2
    . rw [join_some a2 b2 a4 b4]; split <;> rfl
   refine ⟨⟨hs.1, hc⟩, hs.2, ?_⟩
   rcases hj with h | ⟨_, h⟩
   . rw [h] at hc; cases hc
   . exact h
theorem srt_ofS (l : List ByteArray) : Srt (ofS l) := by rw [ofS_eq]; exact cleanS_srt l
theorem of_names (v : Vl) : v.of.t.names = ofS v.t.names := by rw [of_rclean, ofS_eq]; rfl
theorem Vl.jn_tidy (a b : Vl) : (Vl.join a b).tidy := ⟨ig_join_tidy (Vl.of_tidy a).i (Vl.of_tidy b).i, srt_ofS _⟩
namespace En
def join (a b : En) : En := if a.clean.live = true then (if b.clean.live = true then ⟨true, mrg Vl.join a.clean.binds b.clean.binds⟩ else a.clean) else b.clean
end En
abbrev QJ (x y : Vl) : Prop := (x.t.names.length + y.t.names.length) * 16 <= 140737488351232
theorem vl_lst (v : Vl) : (⟨⟨⟨v.i.s.some, v.i.s.lo, v.i.s.hi⟩, ⟨v.i.c.some, v.i.c.m, v.i.c.r⟩⟩, ⟨v.t.null, gN v.t.names.length fun i => [st (atS v.t.names i)]⟩⟩ : Vl) = v := by rw [gN_lst]
theorem vl_nil : (⟨⟨⟨false, 0, 0⟩, ⟨false, 0, 0⟩⟩, ⟨false, gN 0 fun _ => []⟩⟩ : Vl) = Vl.zero := rfl
theorem okV_zero : okV Vl.zero := ⟨⟨Nat.zero_le _, fun i h => absurd h (Nat.not_lt_zero i)⟩, by unfold Vl.zero Ig.zero Sp.inR; decide, by unfold Vl.zero Ig.zero Cg.inR; decide⟩
abbrev gJoin : List Cv -> Option Gs := mkFv (sums [(95, ⟨[], FN 1 FVJoin⟩)]) 95 []
theorem gz_of {gz : List Cv -> Option Gs} {a b : List DV} {p : Prop} {z z' : Vl} (h : gz [.agg a, .agg b] = some ⟨p, .va (.agg (vlC z'))⟩) (hz : z' = z) (hp : p) : gIs gz a b z := by subst hz; exact ⟨p, h, hp⟩
theorem gJoin_ok : GOk gJoin Vl.join QJ where
 both x y hx hy hq := gz_of rfl (by rw [vl_lst, vl_lst]) (by unfold okV at hx hy; exact ⟨⟨⟨hx.1.1, fun _ _ => rfl⟩, hx.2⟩, ⟨⟨hy.1.1, fun _ _ => rfl⟩, hy.2⟩, hq⟩)
 left x hx hq := gz_of rfl (by rw [vl_lst, vl_nil]) (by unfold okV at hx; exact ⟨⟨⟨hx.1.1, fun _ _ => rfl⟩, hx.2⟩, ⟨⟨Nat.zero_le _, fun i h => absurd h (Nat.not_lt_zero i)⟩, okV_zero.2⟩, hq⟩)
 right y hy hq := gz_of rfl (by rw [vl_lst, vl_nil]) (by unfold okV at hy; exact ⟨⟨⟨Nat.zero_le _, fun i h => absurd h (Nat.not_lt_zero i)⟩, okV_zero.2⟩, ⟨⟨hy.1.1, fun _ _ => rfl⟩, hy.2⟩, hq⟩)
def Room (A B : List Bd) : Prop := QOk QJ A B
theorem room_dd {A A' B B' : List Bd} (h : Room A B) (ha : ∀ x ∈ A', ∃ y ∈ A, x.v.t.names.length <= y.v.t.names.length) (hb : ∀ x ∈ B', ∃ y ∈ B, x.v.t.names.length <= y.v.t.names.length) : Room A' B' where
 both x hx y hy := by
  obtain ⟨u, hu, e⟩ := ha x hx
  obtain ⟨w, hw, e'⟩ := hb y hy
  have := h.both u hu w hw
  unfold QJ at *; omega
 left x hx := by obtain ⟨u, hu, e⟩ := ha x hx; have := h.left u hu; unfold QJ at *; omega
 right y hy := by obtain ⟨w, hw, e'⟩ := hb y hy; have := h.right w hw; unfold QJ at *; omega
theorem clean_sub (e : En) : ∀ x ∈ e.clean.binds, ∃ y ∈ e.binds, x.v.t.names.length <= y.v.t.names.length := by
 intro x hx
 unfold En.clean at hx
 split at hx
 . obtain ⟨b, hb, rfl⟩ := List.mem_map.1 hx
   refine ⟨b, srt_mem.1 (dd_sub hb), ?_⟩
   show (Vl.of b.v).t.names.length <= _
   rw [of_names]; exact ofS_len _
 . cases hx
theorem room_clean {a b : En} (h : Room a.binds b.binds) : Room a.clean.binds b.clean.binds := room_dd h (clean_sub a) (clean_sub b)
def FEJoin : List Ar -> Option Rs
 | [.agg [.d (.v (.bool e0)), .d (.lst 9 n0 f0)], .agg [.d (.v (.bool e1)), .d (.lst 9 n1 f1)]] => some ⟨(n0 <= 1099511627776 /\ RowsOk n0 f0) /\ (n1 <= 1099511627776 /\ RowsOk n1 f1) /\ (Room (gBs n0 f0) (gBs n1 f1) /\ n0 + n1 <= 1099511627776), .va (En.ar (En.join (⟨e0, gBs n0 f0⟩ : En) (⟨e1, gBs n1 f1⟩ : En))), []⟩
 | _ => none
theorem fcEJoin : FC Tryz.prog 44 FEJoin := by
 intro xs pre r us h hp
 unfold FEJoin at h
 split at h
 . rename_i e0 n0 f0 e1 n1 f1
   cases h
   obtain ⟨hp0, hp1, hp2⟩ := hp
   refine FCat.deep (ys := [.agg [.d (.v (.bool e0)), .d (.lst 9 n0 (rwB (gBs n0 f0)))], .agg [.d (.v (.bool e1)), .d (.lst 9 n1 (rwB (gBs n1 f1)))]]) ?_ ?_
   . repeat' (first | exact trivial | exact rfl | exact DvE.refl _ | refine ⟨?_, ?_⟩ | fail)
     all_goals first | first | exact canonB hp0.2.h | exact canonB hp1.2.h
   refine fcat tys_ok (l := [(22, ⟨[], FEClean⟩), (94, ⟨[], (FEZip Vl.join QJ gJoin)⟩), (95, ⟨[], FN 1 FVJoin⟩)]) ⟨fcEClean, (fcEZip Vl.join QJ gJoin), fc_nil 1 fcVJoin, trivial⟩ Tryz.func44 rfl (by kernel_rfl) true ?_
   have hn := hp0.1
   have hL := okL_rows hp0.2
   have hlen := gBs_length n0 f0
   generalize gBs n0 f0 = L at *
   clear hp0
   subst hlen
   have hrow := okL_row hL
   have hb := gBs_row L
   have hc := clean_ok (e := ⟨e0, L⟩) hL
   have hcr := okL_row hc
   have hcl := clean_len ⟨e0, L⟩
   have hcs := clean_std ⟨e0, L⟩
   have hcn : (En.clean ⟨e0, L⟩).binds.length <= 1099511627776 := Nat.le_trans hcl hn
   have hm := hp1.1
   have hM := okL_rows hp1.2
   have hlen1 := gBs_length n1 f1
   generalize gBs n1 f1 = M at *
   clear hp1
   subst hlen1
   have hrow1 := okL_row hM
   have hb1 := gBs_row M
   have hd := clean_ok (e := ⟨e1, M⟩) hM
   have hdr := okL_row hd
   have hdl := clean_len ⟨e1, M⟩
   have hds := clean_std ⟨e1, M⟩
   have hdn : (En.clean ⟨e1, M⟩).binds.length <= 1099511627776 := Nat.le_trans hdl hm
   obtain ⟨hroom, hsum⟩ := hp2
   have hcroom := room_clean (a := ⟨e0, L⟩) (b := ⟨e1, M⟩) hroom
   have hnm : (En.clean ⟨e0, L⟩).binds.length + (En.clean ⟨e1, M⟩).binds.length <= 1099511627776 := by
    have h1 : (En.clean ⟨e0, L⟩).binds.length <= L.length := hcl
    have h2 : (En.clean ⟨e1, M⟩).binds.length <= M.length := hdl
    omega
   repeat' (first | exact trivial | refine ⟨?_, ?_⟩ | intro _)
   all_goals first | (with_reducible first | apply qa | apply qb | apply qc | apply qd) | (conv => whnf)
   all_goals (try simp only [gBs_row, Bool.not_eq_true', Bool.not_eq_false'] at *)
   all_goals first | exact hrow | exact hrow1 | exact hn | exact hm | exact hcr | exact hdr | exact hcn | exact hdn | exact gJoin_ok | exact hcroom | exact hnm | rfl | skip
   all_goals (have hset : En.join ⟨e0, L⟩ ⟨e1, M⟩ = if (En.clean ⟨e0, L⟩).live = true then (if (En.clean ⟨e1, M⟩).live = true then ⟨true, mrg Vl.join (En.clean ⟨e0, L⟩).binds (En.clean ⟨e1, M⟩).binds⟩ else En.clean ⟨e0, L⟩) else En.clean ⟨e1, M⟩ := rfl)
   all_goals (generalize En.join ⟨e0, L⟩ ⟨e1, M⟩ = R at *; generalize En.clean ⟨e0, L⟩ = A at *; generalize En.clean ⟨e1, M⟩ = B at *)
   all_goals first | (have hl := ‹A.live = false›; rw [hl, if_neg Bool.false_ne_true] at hset; subst hset; rfl) | (have hl := ‹A.live = true›; have hl2 := ‹B.live = false›; rw [hl, if_pos rfl, hl2, if_neg Bool.false_ne_true] at hset; subst hset; rfl) | (have hl := ‹A.live = true›; have hl2 := ‹B.live = true›; rw [hl, if_pos rfl, hl2, if_pos rfl] at hset; subst hset; rfl)
 . cases h
theorem lk_find (L : List Bd) (s : ByteArray) : lk L s = (L.find? fun b => decide (b.name = s)).map (·.v) := by
 induction L with
 | nil => rfl
 | cons x r ih =>
   rw [lk_cons, List.find?_cons]
   by_cases h : x.name = s
   . rw [if_pos h, decide_eq_true h]; rfl
   . rw [if_neg h, decide_eq_false h]; exact ih
theorem rget_lk (e : En) (s : ByteArray) : e.rget s = ((e.hold s).map Vl.rclean).getD Vl.zero := by
 unfold En.rget En.hold
 split
 . rw [lk_find]; cases List.find? (fun b => decide (b.name = s)) e.binds <;> rfl
 . rfl
theorem mem_names {e : En} {s : ByteArray} : s ∈ e.names ↔ (e.hold s).isSome = true := by
 unfold En.names En.hold
 split
 . rw [cleanS_mem, lk_isSome]
 . simp
theorem names_srt (e : En) : Srt e.names := by
 unfold En.names
 split
 . exact cleanS_srt _
 . exact srt_nil
theorem lk_fun (l : List ByteArray) (g : ByteArray -> Vl) (s : ByteArray) : lk (l.map fun n => ⟨n, g n⟩) s = if memS s l = true then some (g s) else none := by
 induction l with
 | nil => rfl
 | cons x r ih =>
   rw [List.map_cons, lk_cons, ih]
   by_cases h : x = s
   . subst h; rw [if_pos rfl, if_pos (memS_iff.2 List.mem_cons_self)]
   . rw [if_neg h]
     by_cases h2 : s ∈ r
     . rw [if_pos (memS_iff.2 h2), if_pos (memS_iff.2 (List.mem_cons_of_mem _ h2))]
     . rw [if_neg (fun h3 => h2 (memS_iff.1 h3)), if_neg]
       intro h3
       rcases List.mem_cons.1 (memS_iff.1 h3) with h4 | h4
       . exact h h4.symm
       . exact h2 h4
theorem rclean_ss (e : En) : SS e.rclean.binds := by
 unfold SS En.rclean
 rw [List.pairwise_map]
 exact names_srt e
theorem rclean_lk (e : En) (s : ByteArray) : lk e.rclean.binds s = (e.hold s).map Vl.rclean := by
 show lk (e.names.map fun n => ⟨n, e.rget n⟩) s = _
 rw [lk_fun]
 by_cases h : s ∈ e.names
 . rw [if_pos (memS_iff.2 h), rget_lk]
   have := mem_names.1 h
   cases hh : e.hold s with
   | none => rw [hh] at this; cases this
   | some v => rfl
 . rw [if_neg (fun h3 => h (memS_iff.1 h3))]
   have := mt mem_names.2 h
   cases hh : e.hold s with
   | none => rfl
   | some v => rw [hh] at this; exact absurd rfl this
theorem of_fun : Vl.of = Vl.rclean := funext of_rclean
theorem clean_rclean (e : En) : e.clean = e.rclean :=
 en_ext (eclean_live e) (clean_ss e) (rclean_ss e) fun s => by rw [clean_lk, rclean_lk, of_fun]
theorem low_split {D : List Bd} (h : SS D) (s : ByteArray) : (∀ b ∈ D.take (lowN D s), kS b.name < kS s) /\ ∀ b ∈ D.drop (lowN D s), ¬ kS b.name < kS s := by
 induction D with
 | nil => exact ⟨fun b hb => by simp at hb, fun b hb => by simp at hb⟩
 | cons x r ih =>
   have h1 := List.pairwise_cons.1 h
   obtain ⟨i1, i2⟩ := ih h1.2
   cases hc : ltB x ⟨s, Vl.zero⟩ with
   | true =>
     have e : lowN (x :: r) s = lowN r s + 1 := by unfold lowN; rw [List.countP_cons_of_pos (by exact hc)]
     rw [e, List.take_succ_cons, List.drop_succ_cons]
     refine ⟨fun b hb => ?_, i2⟩
     rcases List.mem_cons.1 hb with rfl | hb
     . exact ltB_iff.1 hc
     . exact i1 b hb
   | false =>
     have hx : ¬ kS x.name < kS s := ltB_iff'.1 hc
     have hr : ∀ b ∈ r, ¬ kS b.name < kS s := fun b hb hlt => hx (List.lt_trans (h1.1 b hb) hlt)
     have e : lowN (x :: r) s = 0 := by
      unfold lowN
      rw [List.countP_eq_zero]
      intro b hb
      rcases List.mem_cons.1 hb with rfl | hb
      . rw [hc]; exact Bool.false_ne_true
      . have := (ltB_iff' (a := b) (b := ⟨s, Vl.zero⟩)).2 (hr b hb)
        rw [this]; exact Bool.false_ne_true
     rw [e]
     refine ⟨fun b hb => by simp at hb, fun b hb => ?_⟩
     rcases List.mem_cons.1 hb with rfl | hb
     . exact hx
     . exact hr b hb
theorem found_iff {D : List Bd} {s : ByteArray} : foundN D s = true ↔ lowN D s < D.length /\ (atB D (lowN D s)).name = s := by
 unfold foundN
 rw [Bool.and_eq_true, decide_eq_true_eq, beq_iff_eq, cfL_eq]
 constructor
 . rintro ⟨h1, h2⟩; exact ⟨h1, kS_inj h2⟩
 . rintro ⟨h1, h2⟩; exact ⟨h1, by rw [h2]⟩
theorem split_at {D : List Bd} {i : Nat} (h : i < D.length) : D = D.take i ++ atB D i :: D.drop (i + 1) := by
 have hd : D.drop i = atB D i :: D.drop (i + 1) := by
  rw [List.drop_eq_getElem_cons h]
  congr 1
  unfold atB; rw [List.getD_eq_getElem?_getD, List.getElem?_eq_getElem h]; rfl
 rw [<- hd, List.take_append_drop]
theorem lk_take {D : List Bd} (h : SS D) (s : ByteArray) : lk (D.take (lowN D s)) s = none :=
 lk_none fun b hb e => by have := (low_split h s).1 b hb; rw [e] at this; exact List.lt_irrefl _ this
theorem lk_found {D : List Bd} (h : SS D) (s : ByteArray) : lk D s = if foundN D s = true then some (atB D (lowN D s)).v else none := by
 conv => lhs; rw [<- List.take_append_drop (lowN D s) D, lk_append, lk_take h]
 rw [Option.none_or]
 split
 . rename_i hf
   obtain ⟨h1, h2⟩ := found_iff.1 hf
   have e := split_at h1
   have hd : D.drop (lowN D s) = atB D (lowN D s) :: D.drop (lowN D s + 1) := by
    have := congrArg (List.drop (lowN D s)) e
    rw [List.drop_append_of_le_length (by rw [List.length_take]; omega)] at this
    rw [this, List.drop_eq_nil_of_le (by rw [List.length_take]; omega)]; rfl
   rw [hd, lk_cons, if_pos h2]
 . rename_i hf
   by_cases h1 : lowN D s < D.length
   . have e := split_at h1
     have hd : D.drop (lowN D s) = atB D (lowN D s) :: D.drop (lowN D s + 1) := by
      have := congrArg (List.drop (lowN D s)) e
      rw [List.drop_append_of_le_length (by rw [List.length_take]; omega)] at this
      rw [this, List.drop_eq_nil_of_le (by rw [List.length_take]; omega)]; rfl
     have hne : (atB D (lowN D s)).name ≠ s := fun h2 => hf (found_iff.2 ⟨h1, h2⟩)
     have hgt : ¬ kS (atB D (lowN D s)).name < kS s := (low_split h s).2 _ (by rw [hd]; exact List.mem_cons_self)
     have hlt : kS s < kS (atB D (lowN D s)).name := kS_tri hgt hne
     have hss : SS (D.drop (lowN D s)) := List.Pairwise.sublist (List.drop_sublist _ _) h
     rw [hd] at hss ⊢
     rw [lk_cons, if_neg hne, ss_head hss (List.lt_asymm hlt)]
   . rw [List.drop_eq_nil_of_le (by omega)]; rfl
theorem get_lk (e : En) (s : ByteArray) : e.get s = ((e.hold s).map Vl.of).getD Vl.zero := by
 unfold En.get
 have := lk_found (clean_ss e) s
 rw [clean_lk] at this
 rw [this]
 split <;> rfl
theorem ss_names {D E : List Bd} (h : D.map (·.name) = E.map (·.name)) (hs : SS D) : SS E := by
 have h1 : (D.map (·.name)).Pairwise fun a b => kS a < kS b := by rw [List.pairwise_map]; exact hs
 rw [h, List.pairwise_map] at h1
 exact h1
theorem setB_split {D : List Bd} (s : ByteArray) (w : Vl) (hf : foundN D s = true) : setB D s w = D.take (lowN D s) ++ ⟨s, w⟩ :: D.drop (lowN D s + 1) := by
 obtain ⟨h1, h2⟩ := found_iff.1 hf
 unfold setB
 rw [if_pos hf, h2]
 exact List.set_eq_take_append_cons_drop .. |>.trans (if_pos h1)
theorem setB_ss {D : List Bd} (h : SS D) (s : ByteArray) (w : Vl) : SS (setB D s w) := by
 by_cases hf : foundN D s = true
 . obtain ⟨h1, h2⟩ := found_iff.1 hf
   rw [setB_split s w hf]
   refine ss_names ?_ h
   conv => lhs; rw [split_at h1]
   simp [h2]
 . unfold setB
   rw [if_neg hf]
   obtain ⟨l1, l2⟩ := low_split h s
   have h0 := h
   rw [<- List.take_append_drop (lowN D s) D] at h0
   obtain ⟨p1, p2, p3⟩ := List.pairwise_append.1 h0
   have hne : ∀ b ∈ D.drop (lowN D s), b.name ≠ s := by
    intro b hb e
    have hk := lk_found h s
    rw [if_neg hf] at hk
    have := lk_of_mem h (List.mem_of_mem_drop hb)
    rw [e, hk] at this; cases this
   refine List.pairwise_append.2 ⟨p1, List.pairwise_cons.2 ⟨fun b hb => kS_tri (l2 b hb) (hne b hb), p2⟩, fun a ha b hb => ?_⟩
   rcases List.mem_cons.1 hb with rfl | hb
   . exact l1 a ha
   . exact p3 a ha b hb
theorem setB_lk {D : List Bd} (h : SS D) (s : ByteArray) (w : Vl) (t : ByteArray) : lk (setB D s w) t = if s = t then some w else lk D t := by
 by_cases hf : foundN D s = true
 . obtain ⟨h1, h2⟩ := found_iff.1 hf
   rw [setB_split s w hf, lk_append, lk_cons]
   by_cases e : s = t
   . subst e; rw [if_pos rfl, if_pos rfl, lk_take h]; rfl
   . rw [if_neg e, if_neg e]
     conv => rhs; rw [split_at h1, lk_append, lk_cons, if_neg (by rw [h2]; exact e)]
 . unfold setB
   rw [if_neg hf, lk_append, lk_cons]
   by_cases e : s = t
   . subst e; rw [if_pos rfl, if_pos rfl, lk_take h]; rfl
   . rw [if_neg e, if_neg e, <- lk_append, List.take_append_drop]
structure En.tidy (e : En) : Prop where
 s : SS e.binds
 v : ∀ x ∈ e.binds, x.v.tidy
 dead : e.live = false -> e.binds = []
theorem hold_tidy {e : En} (h : e.tidy) {s : ByteArray} {v : Vl} (hv : e.hold s = some v) : v.of = v := by
 unfold En.hold at hv
 split at hv
 . exact Vl.of_fix (h.v _ (lk_mem hv))
 . cases hv
theorem clean_fixE {e : En} (h : e.tidy) : e.clean = e := by
 refine en_ext (eclean_live e) (clean_ss e) h.s fun s => ?_
 rw [clean_lk]
 cases hh : e.hold s with
 | none =>
   unfold En.hold at hh
   split at hh
   . rw [hh]; rfl
   . rename_i hl
     rw [h.dead (by simpa using hl)]; rfl
 | some v =>
   have := hold_tidy h hh
   show some v.of = _
   rw [this]
   unfold En.hold at hh
   split at hh
   . exact hh.symm
   . cases hh
def En.zipE (op : Vl -> Vl -> Vl) (a b : En) : En := ⟨true, mrg op a.clean.binds b.clean.binds⟩
structure OpOk (op : Vl -> Vl -> Vl) : Prop where
 tidy : ∀ x y, x.tidy -> y.tidy -> (op x y).tidy
 zero : op Vl.zero Vl.zero = Vl.zero
theorem join_case (a b : En) : En.join a b = if a.live = true then (if b.live = true then En.zipE Vl.join a b else a.clean) else b.clean := by
 unfold En.join; rw [eclean_live, eclean_live]; rfl
theorem set_gen {e : En} {s : ByteArray} {v : Vl} (hl : e.live = true) (h : ∀ t, s ≠ t -> e.hold t = none) : En.set e s v = ⟨true, [⟨s, v.of⟩]⟩ := by
 have e1 : En.set e s v = ⟨true, setB e.clean.binds s v.of⟩ := by unfold En.set; rw [if_pos (by rw [eclean_live]; exact hl)]
 rw [e1]
 refine en_ext rfl (setB_ss (clean_ss e) s _) (List.pairwise_singleton _ _) fun t => ?_
 show lk (setB e.clean.binds s v.of) t = lk [⟨s, v.of⟩] t
 rw [setB_lk (clean_ss e), clean_lk, lk_cons]
 split
 . rfl
 . rename_i hn; rw [h t hn]; rfl
theorem set_one (n : Nat) (f : Nat -> List DV) (s : ByteArray) (v : Vl) (hn : n = 0) : En.set ⟨true, gBs n f⟩ s v = ⟨true, [⟨s, v.of⟩]⟩ := by
 subst hn
 exact set_gen rfl fun t _ => rfl
theorem set_two (s : ByteArray) (v w : Vl) : En.set ⟨true, [⟨s, v⟩]⟩ s w = ⟨true, [⟨s, w.of⟩]⟩ := by
 refine set_gen rfl fun t hn => ?_
 show lk [⟨s, v⟩] t = none
 rw [lk_cons, if_neg hn]; rfl
theorem get_one (s : ByteArray) (v : Vl) : En.get ⟨true, [⟨s, v⟩]⟩ s = v.of := by
 rw [get_lk]
 show ((lk [⟨s, v⟩] s).map Vl.of).getD Vl.zero = _
 rw [lk_cons, if_pos rfl]; rfl
abbrev numV (n : Int) : Vl := ⟨⟨Sp.of n n, Cg.of 0 n⟩, ⟨false, gN 0 fun _ => []⟩⟩
theorem num_of_i (n : Int) : (numV n).of.i = ⟨⟨true, n, n⟩, ⟨true, 0, n⟩⟩ := by
 rw [of_rclean]
 show Ig.clean ⟨Sp.of n n, Cg.of 0 n⟩ = _
 rw [one_eq]
 exact tidy_fix (one_tidy n)
def JV : Vl := Vl.join (numV 1).of (numV 3).of
theorem jv_i : JV.i = ⟨⟨true, 1, 3⟩, ⟨true, 2, 1⟩⟩ := by
 unfold JV Vl.join
 rw [Vl.of_of, Vl.of_of, num_of_i, num_of_i]
 show (⟨Sp.join ⟨true, 1, 1⟩ ⟨true, 3, 3⟩, Cg.join ⟨true, 0, 1⟩ ⟨true, 0, 3⟩⟩ : Ig) = _
 have e1 : Sp.join ⟨true, 1, 1⟩ ⟨true, 3, 3⟩ = ⟨true, 1, 3⟩ := by kernel_rfl
 have e2 : Cg.join ⟨true, 0, 1⟩ ⟨true, 0, 3⟩ = ⟨true, 2, 1⟩ := by kernel_rfl
 rw [e1, e2]
theorem one_tidyE (x : ByteArray) (v : Vl) (h : v.tidy) : En.tidy ⟨true, [⟨x, v⟩]⟩ := by
 refine ⟨List.pairwise_singleton _ _, fun y hy => ?_, fun h => by cases h⟩
 rcases List.mem_cons.1 hy with rfl | h2
 . exact h
 . cases h2
theorem join_num (x : ByteArray) (V W : Vl) (h : V = numV 1) (h' : W = numV 3) : En.join ⟨true, [⟨x, V.of⟩]⟩ ⟨true, [⟨x, W.of⟩]⟩ = ⟨true, [⟨x, JV⟩]⟩ := by
 subst h; subst h'
 rw [join_case, if_pos rfl, if_pos rfl]
 unfold En.zipE
 rw [clean_fixE (one_tidyE x _ (Vl.of_tidy _)), clean_fixE (one_tidyE x _ (Vl.of_tidy _))]
 have hl : ∀ v w : Vl, ltB ⟨x, v⟩ ⟨x, w⟩ = false := fun v w => ltB_iff'.2 (List.lt_irrefl _)
 rw [mrg, hl, hl, if_neg Bool.false_ne_true, if_neg Bool.false_ne_true, mrg]; rfl
theorem join_num' (x : ByteArray) : En.join ⟨true, [⟨x, Vl.of ⟨⟨⟨(Sp.of 1 1).some, (Sp.of 1 1).lo, (Sp.of 1 1).hi⟩, ⟨(Cg.of 0 1).some, (Cg.of 0 1).m, (Cg.of 0 1).r⟩⟩, ⟨false, []⟩⟩⟩]⟩ ⟨true, [⟨x, Vl.of ⟨⟨⟨(Sp.of 3 3).some, (Sp.of 3 3).lo, (Sp.of 3 3).hi⟩, ⟨(Cg.of 0 3).some, (Cg.of 0 3).m, (Cg.of 0 3).r⟩⟩, ⟨false, []⟩⟩⟩]⟩ = ⟨true, [⟨x, JV⟩]⟩ := join_num x _ _ rfl rfl
theorem get_jv (x : ByteArray) : (En.get ⟨true, [⟨x, JV⟩]⟩ x).i = ⟨⟨true, 1, 3⟩, ⟨true, 2, 1⟩⟩ := by
 rw [get_one, show JV.of = JV from Vl.of_fix (Vl.jn_tidy _ _)]; exact jv_i
theorem rows_jv (x : ByteArray) : RowsOk 1 (rwB [⟨x, JV⟩]) := okL_row (l := [⟨x, JV⟩]) fun y hy => by
 rcases List.mem_cons.1 hy with rfl | h
 . refine ⟨⟨?_, fun _ _ => rfl⟩, ?_⟩
   . show (ofS (ofS (numV 1).of.t.names ++ ofS (numV 3).of.t.names)).length * 16 <= _
     have : ofS (ofS (numV 1).of.t.names ++ ofS (numV 3).of.t.names) = [] := by
      rw [of_names, of_names]
      show ofS (ofS (ofS []) ++ ofS (ofS [])) = []
      rw [ofS_eq, ofS_eq, ofS_eq]; rfl
     rw [this]; exact Nat.zero_le _
   . rw [jv_i]; unfold Sp.inR Cg.inR; decide
 . cases h
theorem numV_names (n : Int) : (numV n).of.t.names = [] := by rw [of_names]; show ofS [] = []; rw [ofS_eq]; rfl
theorem okV_num {n : Int} (h : rI n) : okV (numV n).of := by
 refine okV_of ⟨⟨Nat.zero_le _, fun _ _ => rfl⟩, ?_⟩
 have := one_inR (n := n) h
 exact this
theorem rows_num {s : ByteArray} {V : Vl} {n : Int} (h : V = numV n) (hn : rI n) : RowsOk 1 (rwB [⟨s, Vl.of V⟩]) := by
 subst h
 exact okL_row (l := [⟨s, (numV n).of⟩]) fun x hx => by
  rcases List.mem_cons.1 hx with rfl | h
  . exact okV_num hn
  . cases h
theorem room_num {s t : ByteArray} {V W : Vl} {n m : Int} (h : V = numV n) (h' : W = numV m) : Room [⟨s, Vl.of V⟩] [⟨t, Vl.of W⟩] := by
 subst h; subst h'
 have hz : ∀ {s : ByteArray} {n : Int} {x : Bd}, x ∈ [(⟨s, (numV n).of⟩ : Bd)] -> x.v.t.names = [] := by
  intro s n x hx
  rcases List.mem_cons.1 hx with rfl | h
  . exact numV_names n
  . cases h
 refine ⟨fun x hx y hy => ?_, fun x hx => ?_, fun y hy => ?_⟩
 . unfold QJ; rw [hz hx, hz hy]; decide
 . unfold QJ; rw [hz hx]; decide
 . unfold QJ; rw [hz hy]; decide
theorem set_zero (f : Nat -> List DV) (s : ByteArray) (v : Vl) : En.set ⟨true, gBs 0 f⟩ s v = ⟨true, [⟨s, v.of⟩]⟩ := set_one 0 f s v rfl
def FELives : List Ar -> Option Rs
 | [] => some ⟨True, .va (.c (.d (bo (true)))), []⟩
 | _ => none
theorem fcELives : FC Tryz.prog 17 FELives := by
 intro xs pre r us h hp
 unfold FELives at h
 split at h
 . cases h
   refine fcat tys_ok (l := [(59, ⟨[], FVNum⟩), (18, ⟨[], FN 9 FESet⟩), (44, ⟨[], FEJoin⟩), (24, ⟨[], FEGet⟩)]) ⟨fcVNum, fc_nil 9 fcESet, fcEJoin, fcEGet, trivial⟩ Tryz.func17 rfl (by kernel_rfl) true ?_
   repeat' (first | exact trivial | refine ⟨?_, ?_⟩ | intro _)
   all_goals first | (with_reducible first | apply qa | apply qb | apply qc | apply qd) | (conv => whnf)
   all_goals (try simp only [gN_lst, gBs_row, set_zero, set_two] at *)
   all_goals (try simp only [join_num'] at *)
   all_goals (try simp only [gBs_row, get_jv] at *)
   all_goals first | decide | (simp only [List.length_cons, List.length_nil]; decide) | exact rows_num (n := 1) rfl (by unfold rI; decide) | exact rows_jv _ | exact rows_num (n := 3) rfl (by unfold rI; decide) | exact room_num (n := 1) (m := 3) rfl rfl | exact ⟨fun i h => absurd h (Nat.not_lt_zero i)⟩ | (intro h; exact absurd h (Nat.not_lt_zero _)) | rfl | (exfalso; have h := ‹(_ && _) = false›; exact absurd h (by decide))
 . cases h
end Go.Proofs.YthkknkhpfffnbaaGreat
