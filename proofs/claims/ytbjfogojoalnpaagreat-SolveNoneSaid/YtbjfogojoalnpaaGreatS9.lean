/- Calls that panic. No condition. -/
import Derived.Test.YtbjfogojoalnpaaGreatS5
import Derived.Defers
import Derived.Recover
set_option linter.all false
set_option maxHeartbeats 8000000
set_option maxRecDepth 100000
namespace Go.Sx
section
variable {P : Program} {τ : Tys} {Γ : Sums} {base : Nat}
theorem vcOps_then (hτ : TysOk P τ) (hz : ∀ t i, τ t = some i -> zeroOk i.zero) {calls : Nat -> List Va -> St -> (Tm -> St -> Prop) -> Prop} (hcalls : CallsOk P base calls)
 {ops : Array Oper} {Q : Exit -> Act -> World -> Prop} {l2 : List Nat} : ∀ (rest : List Oper) (k : Nat) (ψ : Psi) (S : Nat -> Prop) (w : World) (st : St) (a : Act) (K : St -> Prop),
 (∀ i o, rest[i]? = some o -> ops[k + i]? = some o) -> Rel P base ψ S w st a -> vcOps P τ calls ops.toList rest st K ->
 (∀ st' ψ' S' w' a', K st' -> Rel P base ψ' S' w' st' a' -> Ext base ψ S w ψ' S' w' -> wpOps P ops Q l2 a' w') -> wpOps P ops Q (List.range' k rest.length ++ l2) a w
 | [], k, ψ, S, w, st, a, K, _, hrel, hk, hq => hq _ _ _ _ _ hk hrel (Ext.refl _ _ _ _)
 | o :: rest, k, ψ, S, w, st, a, K, hall, hrel, hk, hq => by
   have ho : ops[k]? = some o := by simpa using hall 0 o (by simp)
   have hrest : ∀ (i : Nat) (x : Oper), rest[i]? = some x -> ops[k + 1 + i]? = some x := fun i x hx => by
    have := hall (i + 1) x (by simpa using hx)
    rwa [show k + (i + 1) = k + 1 + i by omega] at this
   simp only [List.length_cons, List.range'_succ, List.cons_append, wpOps, ho]
   have go : ∀ st, Rel P base ψ S w st a -> vcOp P τ calls o st (fun st => vcOps P τ calls ops.toList rest st K) -> o.wp P a w (wpOps P ops Q (List.range' (k + 1) rest.length ++ l2)) Q := by
    intro st hrel h
    refine vcOp_ok hτ hz hcalls hrel h _ _ ?_
    intro st' ψ' S' w' a' h1 h2 h3
    exact vcOps_then hτ hz hcalls rest (k + 1) ψ' S' w' st' a' K hrest h2 h1 fun st2 ψ2 S2 w2 a2 g1 g2 g3 => hq _ _ _ _ _ g1 g2 (h3.trans g3)
   rw [vcOps_cons] at hk
   split at hk
   . rename_i hg
     have : Region.wanted o (yielded ops a.tmps) = true := by simp [Region.wanted, hg]
     rw [if_pos this]
     exact .inl (go st hrel hk)
   . rename_i j want hg
     split at hk
     . exact hk.elim
     . rename_i s hs
       obtain ⟨st', b, hk, hrel', hb, _⟩ := onBool_ok hrel hk
       have hy : yielded ops a.tmps j = b := by
        have hd : (ops[j]?).bind (·.dst) = some s := by
         unfold dstOf at hs
         rw [Array.getElem?_toList] at hs
         split at hs
         . rename_i hj; rw [hj]; exact hs
         . simp at hs
        simp only [yielded, hd, Option.bind_some]
        rw [<- hb]
        split <;> simp_all
       split at hk
       . rename_i he
         have : Region.wanted o (yielded ops a.tmps) = true := by simp only [Region.wanted, hg, hy]; exact he
         rw [if_pos this]
         exact .inl (go st' hrel' hk)
       . rename_i he
         have : ¬ Region.wanted o (yielded ops a.tmps) = true := by simp only [Region.wanted, hg, hy]; simpa using he
         rw [if_neg this]
         obtain ⟨st2, h1, h2⟩ := putK_rel (v := undef) hk hrel' rfl
         exact vcOps_then hτ hz hcalls rest (k + 1) ψ S w st2 _ K hrest h2 h1 hq
variable {t : TT} {l : List (Nat × Sm)} {x y z c : Code} {st : St} {Q : Exit → St → Prop}
def thenP (K : St -> Prop) (Q : Exit -> St -> Prop) : Exit -> St -> Prop
 | .normal, st => K st
 | .outgrown, _ => False
 | e, st => Q e st
end
def plusD (ds : List Deferred) (a : Act) : Act := ⟨a.tmps, a.defers ++ ds⟩
theorem plusD_eval (ds : List Deferred) (a : Act) : (plusD ds a).eval = a.eval := by funext x; cases x <;> rfl
theorem plusD_put (ds : List Deferred) (a : Act) (d : Option Tmp) (v : Value) : (plusD ds a).put d v = plusD ds (a.put d v) := by cases d <;> rfl
section
variable {P : Program} {base : Nat} {ds : List Deferred}
theorem upon_plus {o : Oper} {a : Act} {next next' : Act -> World -> Prop} {Q Q' : Exit -> Act -> World -> Prop} (hn : ∀ a w, next a w -> next' (plusD ds a) w) (hq : ∀ e a w, Q e a w -> Q' e (plusD ds a) w)
 {r : Result Next} (h : o.upon P a next Q r) : o.upon P (plusD ds a) next' Q' r := by
 unfold Oper.upon at h ⊢
 split at h
 . show next' ((plusD ds a).put _ _) _; rw [plusD_put]; exact hn _ _ h
 . show next' ((plusD ds a).put _ _) _; rw [plusD_put]; exact hn _ _ h
 . rename_i d w'
   show next' (Act.put (plusD ds { a with defers := d :: a.defers }) _ _) _
   rw [plusD_put]; exact hn _ _ h
 . refine Calls.mono h ?_
   intro e w' he
   cases e with
   | returned v => show next' ((plusD ds a).put _ _) _; rw [plusD_put]; exact hn _ _ he
   | panicked ch => exact hq _ _ _ he
   | outgrown => obtain ⟨a0, w0, h0⟩ := he; exact ⟨_, _, hq _ _ _ h0⟩
 . refine Rows.mono h ?_
   intro v w' he
   show next' ((plusD ds a).put _ _) _; rw [plusD_put]; exact hn _ _ he
 . exact hq _ _ _ h
 . exact h.elim
theorem wpOps_plus {ops : Array Oper} {Q Q' : Exit -> Act -> World -> Prop} (hq : ∀ e a w, Q e a w -> Q' e (plusD ds a) w) : ∀ (l : List Nat) (a : Act) (w : World), wpOps P ops Q l a w -> wpOps P ops Q' l (plusD ds a) w
 | [], a, w, h => hq _ _ _ h
 | i :: rest, a, w, h => by
   simp only [wpOps] at h ⊢
   cases ho : ops[i]? with
   | none => simp only [ho] at h ⊢; exact wpOps_plus hq rest a w h
   | some o =>
     simp only [ho] at h ⊢
     have ht : (plusD ds a).tmps = a.tmps := rfl
     rw [ht]
     split at h
     . rename_i hw
       rw [if_pos hw]
       rcases h with h | ⟨h1, a0, w0, h2⟩
       . refine .inl ?_
         unfold Oper.wp at h ⊢
         rw [plusD_eval]
         exact upon_plus (fun a w h => wpOps_plus hq rest a w h) hq h
       . refine .inr ⟨?_, _, _, hq _ _ _ h2⟩
         unfold Oper.asks at h1 ⊢
         rw [plusD_eval]; exact h1
     . rename_i hw
       rw [if_neg hw, plusD_put]
       exact wpOps_plus hq rest _ w h
structure DSat (P : Program) (base : Nat) (ds : List Deferred) (c : Code) (st : St) (Q : Exit -> St -> Prop) : Prop where
 run : ∀ ψ S w a, Rel P base ψ S w st a -> c.wp P (fun e a' w' => ∃ st' ψ' S' a0, Q e st' /\ Rel P base ψ' S' w' st' a0 /\ a' = plusD ds a0 /\ Ext base ψ S w ψ' S' w') (plusD ds a) w
variable {t : TT} {l : List (Nat × Sm)} {x y c : Code} {st : St} {Q : Exit → St → Prop}
theorem DSat.region (ht : t.ok P) (hl : sumsOk P l) {id : Nat} {ops : Array Oper} (h : vcOps P t.get (vcCall P (sums l) base) ops.toList ops.toList st (Q .normal)) : DSat P base ds (.region id ops false) st Q := by
 refine ⟨fun ψ S w a hr => wp_region ?_⟩
 have := vcOps_ok (TT.tysOk ht) (TT.zeros ht) (vcCall_ok (sums_ok hl) base) (ops := ops) (Q := fun e a' w' => ∃ st' ψ' S', Q e st' /\ Rel P base ψ' S' w' st' a' /\ Ext base ψ S w ψ' S' w') ops.toList 0 ψ S w st a (Q .normal) (fun i o ho => by simpa using ho) hr h
  (fun st' ψ' S' w' a' h1 h2 h3 => ⟨st', ψ', S', h1, h2, h3⟩)
 rw [List.range_eq_range']
 refine wpOps_plus (Q := fun e a' w' => ∃ st' ψ' S', Q e st' /\ Rel P base ψ' S' w' st' a' /\ Ext base ψ S w ψ' S' w') ?_ _ _ _ (by simpa using this)
 rintro e a' w' ⟨st', ψ', S', h1, h2, h3⟩
 exact ⟨st', ψ', S', a', h1, h2, rfl, h3⟩
theorem DSat.seq (h : DSat P base ds x st (thenP (fun st => DSat P base ds y st Q) Q)) : DSat P base ds (.seq x y) st Q := by
 refine ⟨fun ψ S w a hr => wp_seq (wp_mono (h.run ψ S w a hr) ?_)⟩
 rintro e a' w' ⟨st', ψ', S', a0, hq, hr', rfl, he⟩
 cases e with
 | normal =>
   refine wp_mono ((show DSat P base ds y st' Q from hq).run ψ' S' w' a0 hr') ?_
   rintro e a2 w2 ⟨st2, ψ2, S2, a3, hq2, hr2, rfl, he2⟩
   exact ⟨st2, ψ2, S2, a3, hq2, hr2, rfl, he.trans he2⟩
 | exit id => exact ⟨st', ψ', S', a0, hq, hr', rfl, he⟩
 | goto l => exact ⟨st', ψ', S', a0, hq, hr', rfl, he⟩
 | ret => exact ⟨st', ψ', S', a0, hq, hr', rfl, he⟩
 | panic ch => exact ⟨st', ψ', S', a0, hq, hr', rfl, he⟩
 | outgrown => exact hq.elim
theorem DSat.cond {s : Nat} (h : onBool st s fun st b => match b with
 | some true => DSat P base ds x st Q
 | some false => DSat P base ds y st Q
 | none => False) : DSat P base ds (.cond (.tmp s) x y) st Q := by
 refine ⟨fun ψ S w a hr => ?_⟩
 obtain ⟨st', b, hk, hrel', _, hb⟩ := onBool_ok hr h
 split at hk
 . exact wp_cond_true (hb true rfl) (hk.run ψ S w a hrel')
 . exact wp_cond_false (hb false rfl) (hk.run ψ S w a hrel')
 . exact hk.elim
theorem DSat.ret (h : Q .ret st) : DSat P base ds .ret st Q := ⟨fun ψ S w a hr => wp_ret ⟨st, ψ, S, a, h, hr, rfl, Ext.refl _ _ _ _⟩⟩
theorem DSat.skip (h : Q .normal st) : DSat P base ds .skip st Q := ⟨fun ψ S w a hr => wp_skip ⟨st, ψ, S, a, h, hr, rfl, Ext.refl _ _ _ _⟩⟩
variable {ops : Array Oper} {k : Nat}
end
section
variable {P : Program} {τ : Tys}
def satF (P : Program) (τ : Tys) (fr : Bool) (fn : Func) (as0 : List Ar) (K : Rt -> List (Option (Nat -> List DV)) -> Prop) : Prop :=
 match fn, arsVa 0 as0 with
 | ⟨_, _, _, _, _, _, ntmps, results, some c, _, _, _, _, _, _, _⟩, (vas, h, n) => as0.length <= ntmps /\ ASat P n c ⟨zipN 0 (vas.map .va), h, n, ntmps⟩ (finQ τ fr (arsRows as0) results.toList K)
 | _, _ => False
structure EndSat (P : Program) (n : Nat) (f : Nat) (fn : Func) (vas : List Va) (h : List (Nat × Blk)) (K : St -> Prop) : Prop where
 run : ∀ ψ S w (vals : List Value), Rel P n ψ S w ⟨zipN 0 (vas.map .va), h, n, fn.ntmps⟩ { tmps := vals.toArray ++ Array.replicate (fn.ntmps - vals.toArray.size) undef, defers := [] } ->
  Calls P f vals.toArray w fun e w' => ∃ v st' ψ' S' a', e = .returned v /\ (results fn a'.tmps).run P w' = .ok v w' /\ K st' /\ Rel P n ψ' S' w' st' a' /\ Ext n ψ S w ψ' S' w'
def satE (P : Program) (τ : Tys) (fr : Bool) (f : Nat) (fn : Func) (as0 : List Ar) (K : Rt -> List (Option (Nat -> List DV)) -> Prop) : Prop :=
 match fn, arsVa 0 as0 with
 | ⟨nm, orig, targs, params, rts, nfree, ntmps, rs, some c, nr, ours, file, el, ln, met, tn⟩, (vas, h, n) => as0.length <= ntmps /\ EndSat P n f ⟨nm, orig, targs, params, rts, nfree, ntmps, rs, some c, nr, ours, file, el, ln, met, tn⟩ vas h (fin τ fr (arsRows as0) rs.toList K)
 | _, _ => False
theorem FCat_coreE (hτ : TysOk P τ)
 {f : Nat} {fn : Func} (hf : P.funcs[f]? = some fn) (hname : (fn.name == "runtime.NumGoroutine") = false) {fr : Bool} {as0 : List Ar} {r : Rt} {us : List (Option (Nat -> List DV))}
 (hk : satE P τ fr f fn as0 fun r' us' => rtEq r' r /\ usEq (arsRows as0) us' us) : FCat P f as0 r us := by
 unfold satE at hk
 split at hk
 . rename_i nm orig targs params rts nfree ntmps rs c nr ours file el ln met tn vas h n hars
   . obtain ⟨hlen, hk⟩ := hk
     intro S w vals ls hS hargs hsep
     obtain ⟨g1, g2, g3⟩ := ars_rep (ψ := psiFrom 0 ls) as0 vals ls 0 hargs (fun j l hj => by simpa [psiFrom] using hj)
     have hnx := arsVa_next as0 0
     rw [hars] at g1 g2 hnx
     simp only [Nat.zero_add] at g1 g2 hnx
     have hsim := start_sim (P := P) hS g2 hsep
     rw [g3, <- hnx] at hsim
     have hvl : vals.length = as0.length := by
      have h1 := g1.length
      have : ∀ (xs : List Ar) (i : Nat), (arsVa i xs).1.length = xs.length := by
       intro xs
       induction xs with
       | nil => intro i; rfl
       | cons x xs ih => intro i; simp [arsVa, ih]
      have h2 := this as0 0
      rw [hars] at h2
      simp only at h2
      omega
     have hrel : Rel P n (psiFrom 0 ls) S w ⟨zipN 0 (vas.map .va), h, n, ntmps⟩ { tmps := vals.toArray ++ Array.replicate (ntmps - vals.toArray.size) undef, defers := [] } :=
      ⟨Nat.le_refl _, hsim, by simp; omega, rfl, fun t => start_tmps g1 ntmps t⟩
     refine .inl ⟨⟨_, c, hf, rfl, hname⟩, Calls.mono (hk.run _ S w _ hrel) ?_⟩
     rintro e w' ⟨v, st', ψ', S', a', rfl, hv, hq, hr', he⟩
     have main : ∃ v2 S' ls', Ending.returned v = .returned v2 /\ RepRt P S' w' r v2 ls' /\ RepUs S' w' (arsRows as0) us ls /\ Sep S' w' (keptLocs us ls ++ ls') /\ ExtA S w ls S' w' ls' := by
      unfold fin at hq
      obtain ⟨xs, vs, k1, k2, k3⟩ := resVars_ok hτ hr' hq
      have hv2 := results_run (fn := ⟨nm, orig, targs, params, rts, nfree, ntmps, rs, some c, nr, ours, file, el, ln, met, tn⟩) k3
      rw [hv] at hv2
      cases hv2
      -- one state, frozen or not
      have go : ∀ (S2 : Nat -> Prop) (h2 : List (Nat × Blk)), Rel P n ψ' S2 w' ⟨st'.tmps, h2, st'.next, st'.lim⟩ a' -> Ext n (psiFrom 0 ls) S w ψ' S2 w' -> All2 (RepVa P ψ' S2 w') xs vs ->
       (resVas h2 [] xs fun xs used => restRows h2 used 0 (arsRows as0) fun us' => rtEq (rtOf xs) r /\ usEq (arsRows as0) us' us) ->
       ∃ v2 S' ls', Ending.returned (valOf vs) = .returned v2 /\ RepRt P S' w' r v2 ls' /\ RepUs S' w' (arsRows as0) us ls /\ Sep S' w' (keptLocs us ls ++ ls') /\ ExtA S w ls S' w' ls' := by
       intro S2 h2 hr2 he2 hxs hres
       obtain ⟨ars, ids, ls2, p1, p2, p3, p4⟩ := resVas_ok hr2.sim (used := []) ⟨by simp, by simp⟩ hxs hres
       simp only [List.append_nil] at p3 p4
       obtain ⟨us2, ids2, q1, q2, q3, q4, q5, q6⟩ := restRows_ok hr2.sim (i := 0) (ls := ls) (by simpa using g3.symm) (fun j l hj => by
        rw [he2.agr (0 + j) (by rw [hnx, <- g3]; simpa using (List.getElem?_eq_some_iff.1 hj).1)]
        simpa [psiFrom] using hj) p3 p4
       have hsepA : Sep S2 w' (keptLocs us2 ls ++ ls2) := by
        refine sep_of_ids (h := h2) hr2.sim (ids := ids2 ++ ids) (q2.append p2) ⟨?_, ?_⟩
        . have := q3.1
          rw [List.nodup_append] at this ⊢
          refine ⟨this.1, (List.Perm.nodup_iff (List.reverse_perm ids)).1 this.2.1, fun a ha b hb => this.2.2 a ha b (by simpa using hb)⟩
        . intro k hk; exact q3.2 k (by simpa using hk)
       have hrt : RepRt P S2 w' (rtOf ars) (valOf vs) ls2 := by
        cases ars with
        | nil => cases vs with
          | nil => exact ⟨#[], rfl, p1⟩
          | cons _ _ => exact p1.elim
        | cons x ars => cases vs with
          | nil => exact p1.elim
          | cons v vs => cases ars with
            | nil => cases vs with
              | nil =>
                obtain ⟨l1, l2, e, p5, p6⟩ := p1
                have : l2 = [] := p6
                subst this
                simp at e; subst e
                exact p5
              | cons _ _ => obtain ⟨l1, l2, e, p5, p6⟩ := p1; exact p6.elim
            | cons y ars => cases vs with
              | nil => obtain ⟨l1, l2, e, p5, p6⟩ := p1; exact p6.elim
              | cons u vs => exact ⟨(v :: u :: vs).toArray, rfl, p1⟩
       obtain ⟨ls3, r1, r2⟩ := q5.rep hrt
       obtain ⟨r3, r4⟩ := q6.rep q1
       refine ⟨_, S2, ls3, rfl, r1, r3, ?_, ?_⟩
       . exact ((Ins.refl _).append r2).sep (sep_sub (r4.append (List.Sublist.refl _)) hsepA)
       . have himg : ∀ k m b, psiFrom 0 ls k = some (.at b m) -> blkIn ls b := fun k m b hk => ⟨m, List.mem_of_getElem? (by simpa [psiFrom] using hk)⟩
         refine ⟨he2.os, he2.tape, he2.output, he2.grow, fun b hb hno => he2.old b hb fun k m hk => hno (himg k m b hk), he2.later, ?_, ?_, hr2.sim.sdom⟩
         . intro b hb
           rcases he2.newS b hb with h1 | ⟨k, m, h1⟩ | h1
           . exact .inl h1
           . exact .inr (.inl (himg k m b h1))
           . exact .inr (.inr h1)
         . intro b hb
           obtain ⟨m, hm⟩ := r2.blkIn hb
           obtain ⟨j, hj, e⟩ := List.mem_iff_getElem.1 hm
           have hlen2 := p2.length
           obtain ⟨y, e1, e2⟩ := p2.get j (ids[j]'(by omega)) (by simp)
           have e3 : ls2[j]? = some (.at b m) := by rw [List.getElem?_eq_getElem hj, e]
           rw [e3] at e1; cases e1
           rcases he2.newP _ b m e2 with ⟨k, m', h1⟩ | h1
           . exact .inl (himg k m' b h1)
           . exact .inr h1
      cases fr with
      | false => exact go S' st'.heap hr' he k1 k2
      | true =>
        obtain ⟨h2, S2, p1, p2, p3⟩ := frVas_ok (ts := st'.tmps) (n := st'.next) (m := st'.lim) xs vs st'.heap S' hr' k1 k2
        exact go S2 h2 p2 (he.trans p3) (k1.mono fun _ _ h => h.later (PsiSub.refl _) p3.later) p1
     exact main
 . exact hk.elim
theorem FCat_coreA (hτ : TysOk P τ)
 {f : Nat} {fn : Func} (hf : P.funcs[f]? = some fn) (hname : (fn.name == "runtime.NumGoroutine") = false) {fr : Bool} {as0 : List Ar} {r : Rt} {us : List (Option (Nat -> List DV))}
 (hk : satF P τ fr fn as0 fun r' us' => rtEq r' r /\ usEq (arsRows as0) us' us) : FCat P f as0 r us := by
 refine FCat_coreE (fr := fr) hτ hf hname ?_
 unfold satF at hk
 unfold satE
 split at hk
 . rename_i nm orig targs params rts nfree ntmps rs c nr ours file el ln met tn vas h n hars
   refine ⟨hk.1, ⟨fun ψ S w vals hrel => calls_of_wp hf rfl (wp_mono (hk.2.run ψ S w _ hrel) ?_)⟩⟩
   rintro e a' w' ⟨st', ψ', S', hq, hr', he⟩
   have main : fin τ fr (arsRows as0) rs.toList (fun r' us' => rtEq r' r /\ usEq (arsRows as0) us' us) st' ->
    a'.defers = [] /\ ∃ v, (results ⟨nm, orig, targs, params, rts, nfree, ntmps, rs, some c, nr, ours, file, el, ln, met, tn⟩ a'.tmps).run P w' = .ok v w' /\
     ∃ v2 st' ψ' S' a2, Ending.returned v = .returned v2 /\ (results ⟨nm, orig, targs, params, rts, nfree, ntmps, rs, some c, nr, ours, file, el, ln, met, tn⟩ a2.tmps).run P w' = .ok v2 w' /\
      fin τ fr (arsRows as0) rs.toList (fun r' us' => rtEq r' r /\ usEq (arsRows as0) us' us) st' /\ Rel P n ψ' S' w' st' a2 /\ Ext n ψ S w ψ' S' w' := by
    intro hq
    have hq' := hq
    unfold fin at hq'
    obtain ⟨xs, vs, k1, k2, k3⟩ := resVars_ok hτ hr' hq'
    exact ⟨hr'.defers, _, results_run k3, _, st', ψ', S', a', rfl, results_run k3, hq, hr', he⟩
   cases e with
   | normal => exact main hq
   | ret => exact main hq
   | exit id => exact hq.elim
   | goto l => exact hq.elim
   | panic ch => exact hq.elim
   | outgrown => exact hq.elim
 . exact hk.elim
theorem fcatA {x : TT} (hx : x.ok P) {f : Nat} {fn : Func} (hf : P.funcs[f]? = some fn) (hname : (fn.name == "runtime.NumGoroutine") = false) (fr : Bool) {as0 : List Ar} {r : Rt} {us : List (Option (Nat -> List DV))}
 (hk : satF P x.get fr fn as0 fun r' us' => rtEq r' r /\ usEq (arsRows as0) us' us) : FCat P f as0 r us := FCat_coreA (TT.tysOk hx) hf hname hk
variable {base : Nat} {x y z : Code} {st : St} {Q : Exit → St → Prop}
variable {t : TT} {l : List (Nat × Sm)}
end
section
variable {P : Program} {t : TT} {l : List (Nat × Sm)}
structure CloK (P : Program) (base : Nat) (g : Nat) (caps : List (Nat × Nat)) (x : Value) (st : St) (K : St -> Prop) : Prop where
 run : ∀ (u u' : FrameMode), (u = .returning /\ u' = .returning /\ x = .nilIface) \/ (u = .panicking [{ v := x, recovered := false }] /\ u' = .panicking [{ v := x, recovered := true }]) ->
  ∀ ψ S w a (vs : Array Value), Rel P base ψ S w st a -> All2 (RepVa P ψ S w) (caps.map fun p => .c (.own p.1 p.2)) vs.toList ->
  CallsD P g vs u w fun e u2 w' => e = .returned (.tuple #[]) /\ u2 = u' /\ ∃ st' ψ' S', K st' /\ Rel P base ψ' S' w' st' a /\ Ext base ψ S w ψ' S' w'
theorem CloK.of {g : Nat} {gn : Func} {rid rd : Nat} {rops : Array Oper} {ro : Oper} {rest : Code} {base : Nat} (hf : P.funcs[g]? = some gn) (hb : gn.body = some (.seq (.region rid rops false) rest)) (hops : rops.toList = [ro]) (hg : ro.guard = none)
 (hop : ro.op = .call { callee := .builtin .recover, args := #[], argTypes := #[] }) (hd : ro.dst = some rd) (hres : gn.results = #[]) {caps : List (Nat × Nat)} (hrd : Nat.blt rd gn.ntmps = true) (hlen : Nat.ble caps.length gn.ntmps = true)
 {x : Value} (hx : Scalar x) {ts : List (Nat × Tm)} {h : List (Nat × Blk)} {n m : Nat} {K : St -> Prop}
 (hk : ASat P n rest ⟨(rd, .va (.c (.d (.v x)))) :: zipN 0 ((caps.map fun p => .c (.own p.1 p.2)).map .va), h, n, gn.ntmps⟩ fun e st => match e, st with
   | .normal, ⟨_, h', n', _⟩ => K ⟨ts, h', n', m⟩
   | _, _ => False) : CloK P base g caps x ⟨ts, h, n, m⟩ K := by
 have hlen := Nat.le_of_ble_eq_true hlen
 refine ⟨fun u u' huu ψ S w a vs hrel hv => callsD_of_wpS hf hb fun c₀ cs hu => ?_⟩
 have hvl := hv.length
 rw [List.length_map] at hvl
 have hsz : vs.size = caps.length := by simpa using hvl.symm
 have hrel2 : Rel P n ψ S w ⟨zipN 0 ((caps.map fun p => .c (.own p.1 p.2)).map .va), h, n, gn.ntmps⟩ { tmps := vs ++ Array.replicate (gn.ntmps - vs.size) undef, defers := [] } :=
  ⟨Nat.le_refl _, hrel.sim, by simp; omega, rfl, fun t => start_tmps hv gn.ntmps t⟩
 have q0 : rops[0]? = some ro := by rw [<- Array.getElem?_toList, hops]; rfl
 have hs : rops.size = 1 := by have := congrArg List.length hops; simpa using this
 have x0 : ∀ (a : Act) (w : World), (execOp a.eval ro).run P w = .ok .recover w := by
  intro a w
  simp only [execOp, hop, resolve, Sem.run_bind, Sem.run_pure, Result.andThen_ok, invoke]
  rfl
 obtain ⟨s1, k1, r1⟩ := putK_rel (dst := some rd) (x := .va (.c (.d (.v x)))) (v := x) (K := fun s => s = ⟨(rd, .va (.c (.d (.v x)))) :: zipN 0 ((caps.map fun p => .c (.own p.1 p.2)).map .va), h, n, gn.ntmps⟩) (by unfold Go.Sx.putK; simp only [hrd, fT_eq]) hrel2 (RepD.v hx)
 subst k1
 apply wpS_seq
 apply wpS_region
 rw [hs, show List.range 1 = [0] from rfl]
 simp only [wpOpsS, q0, Region.wanted, hg, x0, if_true]
 have fin : ∀ cs', cs' = { c₀ with mode := u' } :: cs -> Exit.thenS (rest.wpS P (bodyPostS P gn c₀ cs fun e u2 w' => e = .returned (.tuple #[]) /\ u2 = u' /\ ∃ st' ψ' S', K st' /\ Rel P base ψ' S' w' st' a /\ Ext base ψ S w ψ' S' w')) (bodyPostS P gn c₀ cs fun e u2 w' => e = .returned (.tuple #[]) /\ u2 = u' /\ ∃ st' ψ' S', K st' /\ Rel P base ψ' S' w' st' a /\ Ext base ψ S w ψ' S' w') .normal
  (Act.put { tmps := vs ++ Array.replicate (gn.ntmps - vs.size) undef, defers := [] } (some rd) x) cs' w := by
  rintro cs' rfl
  refine wpS_of_wp (wp_mono (hk.run ψ S w _ r1) ?_)
  rintro e a' w' ⟨⟨ts', h', n', m'⟩, ψ', S', hq, hr', he⟩
  cases e with
  | normal =>
    have hdom : ∀ k l, ψ k = some l -> k < n := fun k l hk => by
     rcases Nat.lt_or_ge k n with h1 | h1
     . exact h1
     . have := hrel.sim.dom k h1
       rw [hk] at this; cases this
    have hsub : PsiSub ψ ψ' := fun k l hk => by rw [he.agr k (hdom k l hk)]; exact hk
    refine ⟨hr'.defers, u', rfl, .tuple #[], ?_, rfl, rfl, ⟨ts, h', n', m⟩, ψ', S', hq, ⟨Nat.le_trans hrel.bas hr'.bas, hr'.sim, hrel.lim, hrel.defers, fun t => (hrel.tmps t).later hsub he.later⟩,
     ⟨he.os, he.tape, he.output, he.grow, he.old, he.later, he.newS, he.newP, fun k hk => he.agr k (Nat.lt_of_lt_of_le hk hrel.bas)⟩⟩
    exact results_run (fn := gn) (vs := []) (by rw [hres]; rfl)
  | ret => exact hq.elim
  | exit id => exact hq.elim
  | goto l => exact hq.elim
  | panic ch => exact hq.elim
  | outgrown => exact hq.elim
 rcases huu with ⟨rfl, rfl, rfl⟩ | ⟨rfl, rfl⟩
 . rw [show recoverD (c₀ :: cs) = none by simp [recoverD, hu]]
   rw [hd]
   exact fin _ (by rw [<- hu])
 . rw [show recoverD (c₀ :: cs) = some (x, { c₀ with mode := .panicking [{ v := x, recovered := true }] } :: cs) by simp [recoverD, hu]]
   rw [hd]
   exact fin _ rfl
def QD (P : Program) (base : Nat) (g : Nat) (caps : List (Nat × Nat)) (K : St -> Prop) : Exit -> St -> Prop
 | .ret, st => CloK P base g caps .nilIface st K
 | .normal, st => CloK P base g caps .nilIface st K
 | .panic ch, st => ∃ x, ch = [{ v := x, recovered := false }] /\ CloK P base g caps x st K
 | _, _ => False
end
end Go.Sx
