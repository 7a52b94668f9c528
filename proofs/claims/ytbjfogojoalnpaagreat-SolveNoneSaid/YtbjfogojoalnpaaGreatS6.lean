/- Bodies of ranges over functions. No condition. -/
import Derived.Test.YtbjfogojoalnpaaGreatS5
import Derived.RangeFuncIn
import Derived.OrdersIn
import Derived.RangeFuncLeaves
import Derived.RangeFuncRecord
import Derived.RangeFuncOwn
import Derived.Below
import Derived.OwnWalkIn
set_option linter.all false
set_option maxHeartbeats 8000000
set_option maxRecDepth 100000
namespace Go.Sx
abbrev wd (ds : List Deferred) (a : Act) : Act := ⟨a.tmps, ds⟩
def noDefer : List Oper -> Bool
 | [] => true
 | o :: os => match o.op with
   | .defer _ => false
   | _ => noDefer os
def straight : Code -> Bool
 | .skip => true
 | .label _ => true
 | .exit _ => true
 | .goto _ => true
 | .ret => true
 | .region _ ops _ => noDefer ops.toList
 | .seq a b => straight a && straight b
 | .cond _ a b => straight a && straight b
 | .block _ c => straight c
 | _ => false
def vcR (P : Program) (τ : Tys) (Γ : Sums) (calls : Nat -> List Va -> St -> (Tm -> St -> Prop) -> Prop) (c : Code) : St -> (Exit -> St -> Prop) -> Prop :=
 Code.rec (motive := fun _ => St -> (Exit -> St -> Prop) -> Prop)
  (skip := fun st Q => Q .normal st)
  (region := fun _ ops draw st Q => match draw with
    | true => match idsBelow st.heap st.next with
      | true => vcDraw P τ Γ calls ops.toList st (Q .normal) False
      | false => False
    | false => vcOps P τ calls ops.toList ops.toList st (Q .normal))
  (seq := fun _ _ ha hb st Q => ha st fun e st => match e with
    | .normal => hb st Q
    | .exit id => Q (.exit id) st
    | .goto l => Q (.goto l) st
    | .ret => Q .ret st
    | _ => False)
  (cond := fun c _ _ ha hb st Q => condK c ha hb st Q)
  (block := fun id _ hc st Q => hc st fun e st => match e with
    | .exit id' => match Nat.beq id' id with
      | true => Q .normal st
      | false => Q (.exit id') st
    | .normal => Q .normal st
    | .goto l => Q (.goto l) st
    | .ret => Q .ret st
    | _ => False)
  (exit := fun id st Q => Q (.exit id) st)
  (goto := fun l st Q => Q (.goto l) st)
  (label := fun _ st Q => Q .normal st)
  (ret := fun st Q => Q .ret st)
  (loop := fun _ _ _ _ => False)
  (scope := fun _ _ _ _ => False)
  (rangeFunc := fun _ _ _ _ _ _ _ _ => False)
  (refuse := fun _ _ _ => False) c
def Fwide (F : Fence) : Prop := F = Fence.wide \/ ∃ l, F = Fence.wide.inRound l
section
variable {P : Program} {τ : Tys} {Γ : Sums} {base : Nat} {ψ ψ' : Psi} {S S' : Nat → Prop} {w w' : World} {st st1 : St} {a : Act} {o : Oper} {K : St → Prop} {F : Fence} {n : Nat} {ds : List Deferred}
theorem Fwide.calls (hF : Fwide F) {f : FuncId} {args : Array Value} {R : Ending -> World -> Prop} (h : Calls P f args w R) : CallsIn F n P f args w R := by
 rcases hF with rfl | ⟨l, rfl⟩
 . exact callsIn_wide.2 h
 . exact (callsIn_wide (n := n)).2 h
theorem Fwide.rows (hF : Fwide F) {r : String} {args : Array Value} {R : Value -> World -> Prop} (h : Rows P r args w R) : RowsIn F n P r args w R := by
 have go : RowsIn Fence.wide n P r args w R := fun c cs _ => let ⟨v, w', hr, hs⟩ := h c cs; ⟨v, w', hr, stepsIn_wide.2 hs⟩
 rcases hF with rfl | ⟨l, rfl⟩
 . exact go
 . exact go
theorem Fwide.fn (hF : Fwide F) (f : FuncId) : F.fn f := by
 rcases hF with rfl | ⟨l, rfl⟩ <;> exact trivial
theorem Fwide.depth (hF : Fwide F) : F.depth.isSome = true -> 1 <= n := by
 rcases hF with rfl | ⟨l, rfl⟩ <;> (intro h; cases h)
theorem put_wd (a : Act) (d : Option Tmp) (v : Value) : (wd ds a).put d v = wd ds (a.put d v) := by cases d <;> rfl
theorem op_in (hF : Fwide F) (hdf : ∀ c, o.op ≠ .defer c) {next next' : Act -> World -> Prop} {Q' : Exit -> Act -> World -> Prop} (h : o.wp P a w next fun _ _ _ => False)
 (hd : ∀ a' w', next a' w' -> a'.defers = []) (hn : ∀ a' w', next a' w' -> next' (wd ds a') w') : o.wpIn F n P (wd ds a) w next' Q' := by
 refine ⟨fun f _ => hF.fn f, ?_⟩
 rw [Oper.semAt_plain F _ o hdf]
 have he : (wd ds a).eval = a.eval := by funext x; cases x <;> rfl
 rw [he]
 unfold Oper.wp Oper.upon at h
 unfold Oper.uponIn
 generalize (execOp a.eval o).run P w = r at h ⊢
 split at h
 . simp only [put_wd]; exact hn _ _ h
 . simp only [put_wd]; exact hn _ _ h
 . rename_i d w'
   have := hd _ _ h
   cases hdst : o.dst <;> rw [hdst] at this <;> cases this
 . refine ⟨hF.depth, (hF.calls h).mono ?_⟩
   rintro e w2 hr
   cases e with
   | returned v => simp only [put_wd]; exact hn _ _ hr
   | panicked ch => exact hr.elim
   | outgrown => obtain ⟨_, _, h⟩ := hr; exact h.elim
 . refine ⟨hF.depth, (hF.rows h).mono ?_⟩
   intro v w2 hr
   simp only [put_wd]; exact hn _ _ hr
 . exact h.elim
 . exact h.elim
theorem noDefer_at : ∀ {ops : List Oper} {i : Nat} {o : Oper}, noDefer ops = true -> ops[i]? = some o -> ∀ c, o.op ≠ .defer c
 | [], i, o, _, h => by simp at h
 | x :: xs, i, o, h, h' => by
   unfold noDefer at h
   split at h
   . cases h
   . rename_i hx
     cases i with
     | zero => simp at h'; subst h'; exact fun c hc => hx c hc
     | succ i => exact noDefer_at h (by simpa using h')
abbrev wa (ds : List Deferred) (a : Act) : Act := ⟨a.tmps, a.defers ++ ds⟩
theorem put_wa (a : Act) (d : Option Tmp) (v : Value) : (wa ds a).put d v = wa ds (a.put d v) := by cases d <;> rfl
theorem op_ina (hF : Fwide F) (hdf : ∀ c, o.op ≠ .defer c) {next next' : Act -> World -> Prop} {Q Q' : Exit -> Act -> World -> Prop} (hQ : ∀ e a w, Q e a w -> e = .normal) (h : o.wp P a w next Q)
 (hn : ∀ a' w', next a' w' -> next' (wa ds a') w') : o.wpIn F n P (wa ds a) w next' Q' := by
 refine ⟨fun f _ => hF.fn f, ?_⟩
 rw [Oper.semAt_plain F _ o hdf]
 have he : (wa ds a).eval = a.eval := by funext x; cases x <;> rfl
 rw [he]
 unfold Oper.wp Oper.upon at h
 unfold Oper.uponIn
 generalize (execOp a.eval o).run P w = r at h ⊢
 split at h
 . simp only [put_wa]; exact hn _ _ h
 . simp only [put_wa]; exact hn _ _ h
 . rename_i d w'
   have := hn _ _ h
   have e : ({ wa ds a with defers := d :: (wa ds a).defers } : Act).put o.dst undef = wa ds ({ a with defers := d :: a.defers }.put o.dst undef) := by rw [<- put_wa]; rfl
   simp only [e]; exact this
 . refine ⟨hF.depth, (hF.calls h).mono ?_⟩
   rintro e w2 hr
   cases e with
   | returned v => simp only [put_wa]; exact hn _ _ hr
   | panicked ch => have := hQ _ _ _ hr; cases this
   | outgrown => obtain ⟨_, _, h⟩ := hr; have := hQ _ _ _ h; cases this
 . refine ⟨hF.depth, (hF.rows h).mono ?_⟩
   intro v w2 hr
   simp only [put_wa]; exact hn _ _ hr
 . have := hQ _ _ _ h; cases this
 . exact h.elim
theorem any_in (hF : Fwide F) {ops : Array Oper} (hnd : noDefer ops.toList = true) {Q Q' : Exit -> Act -> World -> Prop} (hQ : ∀ e a w, Q e a w -> e = .normal) (hn : ∀ a' w', Q .normal a' w' -> Q' .normal (wa ds a') w') : ∀ (fuel : Nat) (listed : Array Bool) (a : Act) (w : World),
 wpAny P .any ops Q fuel listed a w -> wpAnyIn F n P .any ops Q' fuel listed (wa ds a) w
 | 0, listed, a, w, h => ⟨h.1, hn _ _ h.2⟩
 | fuel + 1, listed, a, w, h => by
   refine ⟨fun h0 => hn _ _ (h.1 h0), fun i hi => ?_⟩
   have hop := h.2 i hi
   unfold wpOp at hop
   unfold wpOpIn
   cases ho : ops[i]? with
   | none => rw [ho] at hop; exact any_in hF hnd hQ hn fuel _ _ _ hop
   | some o =>
     rw [ho] at hop
     simp only at hop ⊢
     by_cases hw : Region.wanted o (yielded ops a.tmps) = true
     . rw [if_pos hw] at hop
       have hw' : Region.wanted o (yielded ops (wa ds a).tmps) = true := hw
       rw [if_pos hw']
       have hop : o.wp P a w (wpAny P .any ops Q fuel (listed.setIfInBounds i true)) Q := by
        rcases hop with h | ⟨_, _, _, h⟩
        . exact h
        . have := hQ _ _ _ h; cases this
       exact op_ina hF (noDefer_at hnd (by rw [Array.getElem?_toList]; exact ho)) hQ hop fun a' w' h => any_in hF hnd hQ hn fuel _ _ _ h
     . rw [if_neg hw] at hop
       have hw' : ¬ Region.wanted o (yielded ops (wa ds a).tmps) = true := hw
       rw [if_neg hw']
       refine ⟨fun f _ => hF.fn f, ?_⟩
       have := any_in hF hnd hQ hn fuel _ _ _ hop
       rw [put_wa]; exact this
abbrev InQ (P : Program) (base : Nat) (ψ : Psi) (S : Nat -> Prop) (w : World) (ds : List Deferred) (Q : Exit -> St -> Prop) : Exit -> Act -> World -> Prop :=
 fun e a' w' => ∃ a2 st' ψ' S', a' = wd ds a2 /\ Q e st' /\ Rel P base ψ' S' w' st' a2 /\ Ext base ψ S w ψ' S' w'
theorem vcOps_okR (hF : Fwide F) (hτ : TysOk P τ) (hz : ∀ t i, τ t = some i -> zeroOk i.zero) {calls : Nat -> List Va -> St -> (Tm -> St -> Prop) -> Prop} (hcalls : CallsOk P base calls)
 {ops : Array Oper} {Q : Exit -> Act -> World -> Prop} (tail : List Nat) (hnd : noDefer ops.toList = true) : ∀ (rest : List Oper) (k : Nat) (ψ : Psi) (S : Nat -> Prop) (w : World) (st : St) (a : Act) (K : St -> Prop),
 (∀ i o, rest[i]? = some o -> ops[k + i]? = some o) -> Rel P base ψ S w st a -> vcOps P τ calls ops.toList rest st K ->
 (∀ st' ψ' S' w' a', K st' -> Rel P base ψ' S' w' st' a' -> Ext base ψ S w ψ' S' w' -> wpOpsIn F n P ops Q tail (wd ds a') w') -> wpOpsIn F n P ops Q (List.range' k rest.length ++ tail) (wd ds a) w
 | [], k, ψ, S, w, st, a, K, _, hrel, hk, hq => hq _ _ _ _ _ hk hrel (Ext.refl _ _ _ _)
 | o :: rest, k, ψ, S, w, st, a, K, hall, hrel, hk, hq => by
   have ho : ops[k]? = some o := by simpa using hall 0 o (by simp)
   have hdf : ∀ c, o.op ≠ .defer c := noDefer_at (i := k) hnd (by rw [Array.getElem?_toList]; exact ho)
   have hrest : ∀ (i : Nat) (x : Oper), rest[i]? = some x -> ops[k + 1 + i]? = some x := fun i x hx => by
    have := hall (i + 1) x (by simpa using hx)
    rwa [show k + (i + 1) = k + 1 + i by omega] at this
   simp only [List.length_cons, List.range'_succ, List.cons_append, wpOpsIn, ho]
   have go : ∀ st, Rel P base ψ S w st a -> vcOp P τ calls o st (fun st => vcOps P τ calls ops.toList rest st K) -> o.wpIn F n P (wd ds a) w (wpOpsIn F n P ops Q (List.range' (k + 1) rest.length ++ tail)) Q := by
    intro st hrel h
    refine op_in hF hdf (vcOp_ok hτ hz hcalls hrel h (fun a' w' => ∃ st' ψ' S', vcOps P τ calls ops.toList rest st' K /\ Rel P base ψ' S' w' st' a' /\ Ext base ψ S w ψ' S' w') _ fun st' ψ' S' w' a' h1 h2 h3 => ⟨st', ψ', S', h1, h2, h3⟩) ?_ ?_
    . rintro a' w' ⟨st', ψ', S', h1, h2, h3⟩; exact h2.defers
    . rintro a' w' ⟨st', ψ', S', h1, h2, h3⟩
      exact vcOps_okR hF hτ hz hcalls tail hnd rest (k + 1) ψ' S' w' st' a' K hrest h2 h1 fun st2 ψ2 S2 w2 a2 g1 g2 g3 => hq _ _ _ _ _ g1 g2 (h3.trans g3)
   rw [vcOps_cons] at hk
   split at hk
   . rename_i hg
     have : Region.wanted o (yielded ops a.tmps) = true := by simp [Region.wanted, hg]
     rw [if_pos this]
     exact go st hrel hk
   . rename_i j want hg
     split at hk
     . exact hk.elim
     . rename_i s hs
       obtain ⟨st', b, hk, hrel', hb, _⟩ := onBool_ok hrel hk
       have hy : yielded ops a.tmps j = b := by
        have hd : (ops[j]?).bind (·.dst) = some s := by
         unfold dstOf at hs
         rw [Array.getElem?_toList] at hs
         split at hs
         . rename_i hj; rw [hj]; exact hs
         . simp at hs
        simp only [yielded, hd, Option.bind_some]
        rw [<- hb]
        split <;> simp_all
       split at hk
       . rename_i he
         have : Region.wanted o (yielded ops a.tmps) = true := by simp only [Region.wanted, hg, hy]; exact he
         rw [if_pos this]
         exact go st' hrel' hk
       . rename_i he
         have : ¬ Region.wanted o (yielded ops a.tmps) = true := by simp only [Region.wanted, hg, hy]; simpa using he
         rw [if_neg this]
         obtain ⟨st2, h1, h2⟩ := putK_rel (v := undef) hk hrel' rfl
         refine ⟨fun f _ => hF.fn f, ?_⟩
         rw [put_wd]
         exact vcOps_okR hF hτ hz hcalls tail hnd rest (k + 1) ψ S w st2 (a.put o.dst undef) K hrest h2 h1 hq
theorem vc_okR (hF : Fwide F) (hτ : TysOk P τ) (hz : ∀ t i, τ t = some i -> zeroOk i.zero) (hΓ : SumsOk P Γ) (hmix : P.follows .mixedOrders = true) {calls : Nat -> List Va -> St -> (Tm -> St -> Prop) -> Prop} (hcalls : CallsOk P base calls) :
 ∀ (c : Code) (st : St) (Q : Exit -> St -> Prop), straight c = true -> vcR P τ Γ calls c st Q -> ∀ ψ S w a, Rel P base ψ S w st a -> c.wpIn F n P (InQ P base ψ S w ds Q) (wd ds a) w
 | .skip, st, Q, _, h, ψ, S, w, a, hr => wpIn_skip ⟨a, st, ψ, S, rfl, h, hr, Ext.refl _ _ _ _⟩
 | .region id ops draw, st, Q, hs, h, ψ, S, w, a, hr => by
   have hs : noDefer ops.toList = true := hs
   cases draw with
   | true =>
     have h : (match idsBelow st.heap st.next with | true => vcDraw P τ Γ calls ops.toList st (Q .normal) False | false => False) := h
     split at h
     . rename_i hid
       refine wpIn_region_any hmix ?_
       have hA := draw_any (Q := fun e a' w' => e = .normal /\ ∃ st' ψ' S', Q .normal st' /\ Rel P base ψ' S' w' st' a' /\ Ext base ψ S w ψ' S' w') hτ hz hΓ hcalls hr hid h fun st' ψ' S' w' a' h1 h2 h3 => ⟨rfl, st', ψ', S', h1, h2, h3⟩
       have e : wd ds a = wa ds a := by show (⟨a.tmps, ds⟩ : Act) = ⟨a.tmps, a.defers ++ ds⟩; rw [hr.defers]; rfl
       rw [e]
       refine any_in hF hs (fun e a w h => h.1) (fun a' w' h => ?_) _ _ _ _ hA
       obtain ⟨_, st', ψ', S', h1, h2, h3⟩ := h
       refine ⟨a', st', ψ', S', ?_, h1, h2, h3⟩
       show (⟨a'.tmps, a'.defers ++ ds⟩ : Act) = ⟨a'.tmps, ds⟩
       rw [h2.defers]; rfl
     . exact h.elim
   | false =>
   have h : vcOps P τ calls ops.toList ops.toList st (Q .normal) := h
   refine wpIn_region ?_
   have := vcOps_okR hF hτ hz hcalls (n := n) (ds := ds) (ops := ops) (Q := InQ P base ψ S w ds Q) [] hs ops.toList 0 ψ S w st a (Q .normal) (fun i o ho => by simpa using ho) hr h
    (fun st' ψ' S' w' a' h1 h2 h3 => ⟨a', st', ψ', S', rfl, h1, h2, h3⟩)
   rw [List.range_eq_range']
   simpa using this
 | .seq x y, st, Q, hs, h, ψ, S, w, a, hr => by
   simp only [straight, Bool.and_eq_true] at hs
   have h : vcR P τ Γ calls x st (fun e st => match e with
    | .normal => vcR P τ Γ calls y st Q
    | .exit id => Q (.exit id) st
    | .goto l => Q (.goto l) st
    | .ret => Q .ret st
    | _ => False) := h
   refine wpIn_seq (wpIn_mono (vc_okR hF hτ hz hΓ hmix hcalls x _ _ hs.1 h ψ S w a hr) ?_)
   rintro e a' w' ⟨a2, st', ψ', S', rfl, hq, hr', he⟩
   cases e with
   | normal =>
     refine wpIn_mono (vc_okR hF hτ hz hΓ hmix hcalls y _ _ hs.2 hq ψ' S' w' a2 hr') ?_
     rintro e a3 w3 ⟨a4, st2, ψ2, S2, rfl, hq2, hr2, he2⟩
     exact ⟨a4, st2, ψ2, S2, rfl, hq2, hr2, he.trans he2⟩
   | exit id => exact ⟨a2, st', ψ', S', rfl, hq, hr', he⟩
   | goto l => exact ⟨a2, st', ψ', S', rfl, hq, hr', he⟩
   | ret => exact ⟨a2, st', ψ', S', rfl, hq, hr', he⟩
   | panic ch => exact hq.elim
   | outgrown => exact hq.elim
 | .cond c x y, st, Q, hs, h, ψ, S, w, a, hr => by
   simp only [straight, Bool.and_eq_true] at hs
   have h : condK c (vcR P τ Γ calls x) (vcR P τ Γ calls y) st Q := h
   unfold condK at h
   split at h
   . rename_i s
     obtain ⟨st', b, hk, hrel', _, hb⟩ := onBool_ok hr h
     split at hk
     . exact wpIn_cond_true (hb true rfl) (vc_okR hF hτ hz hΓ hmix hcalls x _ _ hs.1 hk ψ S w a hrel')
     . exact wpIn_cond_false (hb false rfl) (vc_okR hF hτ hz hΓ hmix hcalls y _ _ hs.2 hk ψ S w a hrel')
     . exact hk.elim
   . exact wpIn_cond_true rfl (vc_okR hF hτ hz hΓ hmix hcalls x _ _ hs.1 h ψ S w a hr)
   . exact wpIn_cond_false rfl (vc_okR hF hτ hz hΓ hmix hcalls y _ _ hs.2 h ψ S w a hr)
   . exact h.elim
 | .block id c, st, Q, hs, h, ψ, S, w, a, hr => by
   have h : vcR P τ Γ calls c st (fun e st => match e with
    | .exit id' => match Nat.beq id' id with
      | true => Q .normal st
      | false => Q (.exit id') st
    | .normal => Q .normal st
    | .goto l => Q (.goto l) st
    | .ret => Q .ret st
    | _ => False) := h
   refine wpIn_block (wpIn_mono (vc_okR hF hτ hz hΓ hmix hcalls c _ _ hs h ψ S w a hr) ?_)
   rintro e a' w' ⟨a2, st', ψ', S', rfl, hq, hr', he⟩
   cases e with
   | normal => exact ⟨a2, st', ψ', S', rfl, hq, hr', he⟩
   | exit id' =>
     simp only at hq
     simp only [Exit.inBlock]
     cases hb : Nat.beq id' id with
     | true =>
       rw [hb] at hq
       rw [if_pos (Nat.eq_of_beq_eq_true hb)]
       exact ⟨a2, st', ψ', S', rfl, hq, hr', he⟩
     | false =>
       rw [hb] at hq
       rw [if_neg (Nat.ne_of_beq_eq_false hb)]
       exact ⟨a2, st', ψ', S', rfl, hq, hr', he⟩
   | goto l => exact ⟨a2, st', ψ', S', rfl, hq, hr', he⟩
   | ret => exact ⟨a2, st', ψ', S', rfl, hq, hr', he⟩
   | panic ch => exact hq.elim
   | outgrown => exact hq.elim
 | .exit id, st, Q, _, h, ψ, S, w, a, hr => wpIn_exit ⟨a, st, ψ, S, rfl, h, hr, Ext.refl _ _ _ _⟩
 | .goto l, st, Q, _, h, ψ, S, w, a, hr => wpIn_goto ⟨a, st, ψ, S, rfl, h, hr, Ext.refl _ _ _ _⟩
 | .label l, st, Q, _, h, ψ, S, w, a, hr => wpIn_label ⟨a, st, ψ, S, rfl, h, hr, Ext.refl _ _ _ _⟩
 | .ret, st, Q, _, h, ψ, S, w, a, hr => wpIn_ret ⟨a, st, ψ, S, rfl, h, hr, Ext.refl _ _ _ _⟩
 | .loop c, st, Q, hs, _, _, _, _, _, _ => by cases hs
 | .scope c, st, Q, hs, _, _, _, _, _, _ => by cases hs
 | .rangeFunc f ps x y, st, Q, hs, _, _, _, _, _, _ => by cases hs
 | .refuse _, _, _, _, h, _, _, _, _, _ => h.elim
theorem Rel.turn (hr : Rel P base ψ S w st a) {l : Nat} (hS : ¬ S l) (hψ : ∀ k m, ψ k ≠ some (.at l m)) (o : Obj) : Rel P base ψ S (w.putObj l o) st a := by
 have hlat : Later S w S (w.putObj l o) := ⟨fun _ h => h, fun b hb => World.putObj_heap_other (fun e => hS (e ▸ hb))⟩
 have hsz : (w.putObj l o).heap.size = w.heap.size := by simp
 refine ⟨hr.bas, ⟨hr.sim.dom, ?_, hr.sim.inj, hr.sim.dis, ?_, hr.sim.sdom.later hlat fun b hb => by rw [hsz]; exact hr.sim.sdom.lt b hb⟩, hr.lim, hr.defers, fun t => (hr.tmps t).later (PsiSub.refl _) hlat⟩
 . intro k l' hk
   exact (hr.sim.blk k l' hk).later (PsiSub.refl _) hlat fun b m e => World.putObj_heap_other (fun e2 => hψ k m (by rw [hk, e, e2]))
 . intro k b m hk; rw [hsz]; exact hr.sim.pdom k b m hk
open Go.RowKit
theorem Ext0.of_below (hS : ∀ b, S b -> b < w.heap.size) (h : Below w.heap.size w w') : Ext0 S w S w' :=
 ⟨h.os, h.tape, h.output, h.size, fun b hb => h.block b hb, fun _ h => h, fun _ h => .inl h, fun b hb => Nat.lt_of_lt_of_le (hS b hb) h.size⟩
def Unm (ψ : Psi) (S : Nat -> Prop) (b : Nat) : Prop := ¬ S b /\ ∀ k m, ψ k ≠ some (.at b m)
theorem Ext.unm {b : Nat} (h : Ext base ψ S w ψ' S' w') (hU : Unm ψ S b) (hb : b < w.heap.size) : Unm ψ' S' b /\ w'.heap[b]? = w.heap[b]? := by
 refine ⟨⟨fun hs => ?_, fun k m hk => ?_⟩, h.old b hb hU.2⟩
 . rcases h.newS b hs with h1 | ⟨k, m, h1⟩ | h1
   . exact hU.1 h1
   . exact hU.2 k m h1
   . omega
 . rcases h.newP k b m hk with ⟨k', m', h1⟩ | h1
   . exact hU.2 k' m' h1
   . omega
theorem Rel.turnU (hr : Rel P base ψ S w st a) {l : Nat} (hU : Unm ψ S l) (o : Obj) : Rel P base ψ S (w.putObj l o) st a := hr.turn hU.1 hU.2 o
theorem Ext.turn2 {ψ2 : Psi} {S2 : Nat -> Prop} {w2 : World} {l : Nat} {o o2 : Obj} (h1 : Ext base ψ S w ψ' S' w') (hU : Unm ψ S l) (hb : w.heap[l]? = some o2)
 (h2 : Ext base ψ' S' (w'.putObj l o) ψ2 S2 w2) : Ext base ψ S w ψ2 S2 (w2.putObj l o2) := by
 have hl : l < w.heap.size := (Array.getElem?_eq_some_iff.1 hb).1
 have hs1 : (w'.putObj l o).heap.size = w'.heap.size := by simp
 have g1 := h1.grow
 have g2 := h2.grow
 rw [hs1] at g2
 refine ⟨h2.os.trans h1.os, h2.tape.trans h1.tape, h2.output.trans h1.output, by rw [World.putObj_size]; omega, ?_, ⟨fun b hs => h2.later.1 b (h1.later.1 b hs), ?_⟩, ?_, ?_, fun k hk => (h2.agr k hk).trans (h1.agr k hk)⟩
 . intro b hlt hp
   by_cases e : b = l
   . subst e; rw [World.putObj_heap_same (by omega), hb]
   . rw [World.putObj_heap_other e, h2.old b (by omega) ?_, World.putObj_heap_other e, h1.old b hlt hp]
     intro k m hk
     rcases h1.newP k b m hk with ⟨k', m', h⟩ | h
     . exact hp k' m' h
     . omega
 . intro b hs
   have e : b ≠ l := fun e => hU.1 (e ▸ hs)
   rw [World.putObj_heap_other e, h2.later.2 b (h1.later.1 b hs), World.putObj_heap_other e, h1.later.2 b hs]
 . intro b hs
   rcases h2.newS b hs with h | ⟨k, m, h⟩ | h
   . exact h1.newS b h
   . exact .inr (h1.newP k b m h)
   . exact .inr (.inr (by omega))
 . intro k b m hk
   rcases h2.newP k b m hk with ⟨k', m', h⟩ | h
   . exact h1.newP k' b m' h
   . exact .inr (by omega)
theorem World.putObj_putObj (w : World) (l : Nat) (o o' : Obj) : (w.putObj l o).putObj l o' = w.putObj l o' := by
 simp [World.putObj]
theorem World.putObj_same {w : World} {l : Nat} {o : Obj} (h : w.heap[l]? = some o) : w.putObj l o = w := by
 obtain ⟨hl, he⟩ := Array.getElem?_eq_some_iff.1 h
 have : w.heap.setIfInBounds l o = w.heap := by
  apply Array.ext
  . simp
  . intro i h1 h2
    rw [Array.getElem_setIfInBounds]
    split
    . rename_i e; subst e; exact he.symm
    . rfl
 unfold World.putObj
 rw [this]
theorem Ext.both {l : Nat} {o : Obj} (h : Ext base ψ S w ψ' S' w') (hU : Unm ψ S l) (hl : l < w.heap.size) : Ext base ψ S (w.putObj l o) ψ' S' (w'.putObj l o) := by
 have g := h.grow
 refine ⟨h.os, h.tape, h.output, by rw [World.putObj_size, World.putObj_size]; exact g, ?_, ⟨h.later.1, ?_⟩, ?_, ?_, h.agr⟩
 . intro b hlt hp
   rw [World.putObj_size] at hlt
   by_cases e : b = l
   . subst e; rw [World.putObj_heap_same (by omega), World.putObj_heap_same hl]
   . rw [World.putObj_heap_other e, World.putObj_heap_other e]; exact h.old b hlt hp
 . intro b hs
   have e : b ≠ l := fun e => hU.1 (e ▸ hs)
   rw [World.putObj_heap_other e, World.putObj_heap_other e]; exact h.later.2 b hs
 . intro b hs; rw [World.putObj_size]; exact h.newS b hs
 . intro k b m hk; rw [World.putObj_size]; exact h.newP k b m hk
structure Moves (U : Nat -> Prop) (w w' : World) : Prop where
 os : w'.os = w.os
 tape : w'.tape = w.tape
 output : w'.output = w.output
 grow : w.heap.size <= w'.heap.size
 same : ∀ b, b < w.heap.size -> ¬ U b -> w'.heap[b]? = w.heap[b]?
def afterY (n i : Nat) : Bool -> Nat
 | true => i + 1
 | false => n + 1
structure SeqOk (P : Program) (f : Nat) (lb : Array Value) (vs : List Value) (S : Nat -> Prop) (w : World) : Prop where
 run : ∀ (l : Nat) (J : Nat -> (Nat -> Prop) -> World -> Prop), (∀ i U W W', J i U W -> Moves U W W' -> J i (fun b => U b \/ (W.heap.size <= b /\ b < W'.heap.size)) W') ->
  (∀ i U W v, J i U W -> vs[i]? = some v -> YieldAt Fence.wide 0 P l #[v] W fun e W' => ∃ bb, e = .returned (.bool bb) /\ J (afterY vs.length i bb) U W' /\ W.heap.size <= W'.heap.size /\ ∀ b, b < W.heap.size -> U b \/ S b -> W'.heap[b]? = W.heap[b]?) ->
  J 0 (fun _ => False) w -> CallsIn Fence.wide 0 P f (#[.func (.yield l) #[] #[]] ++ lb) w fun e W' => (∃ v, e = .returned v) /\ ∃ U i, (i = vs.length \/ i = vs.length + 1) /\ J i U W'
theorem Rel.moves {U : Nat -> Prop} (hr : Rel P base ψ S w st a) (hU : ∀ b, U b -> Unm ψ S b) (hg : w.heap.size <= w'.heap.size) (hm : ∀ b, b < w.heap.size -> ¬ U b -> w'.heap[b]? = w.heap[b]?) : Rel P base ψ S w' st a /\ Later S w S w' := by
 have hlat : Later S w S w' := ⟨fun _ h => h, fun b hb => hm b (hr.sim.sdom.lt b hb) fun e => (hU b e).1 hb⟩
 refine ⟨⟨hr.bas, ⟨hr.sim.dom, ?_, hr.sim.inj, hr.sim.dis, fun k b m hk => Nat.lt_of_lt_of_le (hr.sim.pdom k b m hk) hg, hr.sim.sdom.later hlat fun b hb => Nat.lt_of_lt_of_le (hr.sim.sdom.lt b hb) hg⟩, hr.lim, hr.defers, fun t => (hr.tmps t).later (PsiSub.refl _) hlat⟩, hlat⟩
 intro k l' hk
 exact (hr.sim.blk k l' hk).later (PsiSub.refl _) hlat fun b m e => hm b (hr.sim.pdom k b m (e ▸ hk)) fun e2 => (hU b e2).2 k m (e ▸ hk)
def roundQ (n : Nat) (ids : List Nat) (nv : Nat) (ts : List (Nat × Tm)) (m : Nat) (h : List (Nat × Blk)) (nx : Nat) (Q : Exit -> St -> Prop) : Exit -> St -> Prop
 | .normal, st => leSt n ids nv ⟨ts, st.heap, st.next, m⟩ ⟨ts, h, nx, m⟩
 | .ret, st => Q .ret ⟨ts, st.heap, st.next, m⟩
 | .exit id, st => Q (.exit id) ⟨ts, st.heap, st.next, m⟩
 | .goto l, st => Q (.goto l) ⟨ts, st.heap, st.next, m⟩
 | _, _ => False
def leaveC : Exit -> Option Code
 | .ret => some .ret
 | .exit id => some (.exit id)
 | .goto l => some (.goto l)
 | _ => none
def assignQ (K : St -> Prop) : Exit -> St -> Prop
 | .normal, st => K st
 | _, _ => False
theorem Ext.less {b' : Nat} (h : Ext base ψ S w ψ' S' w') (hle : b' <= base) : Ext b' ψ S w ψ' S' w' :=
 ⟨h.os, h.tape, h.output, h.grow, h.old, h.later, h.newS, h.newP, fun k hk => h.agr k (Nat.lt_of_lt_of_le hk hle)⟩
theorem range_ok {t : TT} (ht : t.ok P) {L : List (Nat × Sm)} (hL : sumsOk P L) (hmix : P.follows .mixedOrders = true) (nb : Nat) {g p : Nat} {assign body : Code} {ts : List (Nat × Tm)} {h : List (Nat × Blk)} {n m f : Nat} {caps : List (Nat × Nat)}
 (hg : lookT ts g = .va (.c (.fn f caps))) (hc : Callable P f) (hsa : straight assign = true) (hsb : straight body = true) (hp : Nat.blt p m = true)
 (vs : List Value) (es : List Tm) (hes : ∀ (i : Nat) e v, es[i]? = some e -> vs[i]? = some v -> ∀ ψ S w, RepT P ψ S w e v) (hlen : es.length = vs.length)
 (Hs : Nat -> List (Nat × Blk)) (Ns : Nat -> Nat) (h0 : Hs 0 = h) (n0 : Ns 0 = n) (Q : Exit -> St -> Prop)
 (Inv : Nat -> Prop) (hi0 : Inv 0) (R : Nat -> List Nat -> Nat -> Exit -> St -> Prop)
 (hRn : ∀ i ids nv st, R i ids nv .normal st -> Inv (i + 1) /\ leSt nb ids nv ⟨ts, st.heap, st.next, m⟩ ⟨ts, Hs (i + 1), Ns (i + 1), m⟩)
 (hRx : ∀ i ids nv e st, R i ids nv e st -> e = .normal \/ ((leaveC e).isSome = true /\ Q e ⟨ts, st.heap, st.next, m⟩))
 (hround : ∀ (i : Nat) e, Inv i -> es[i]? = some e -> ∃ ids nv, vcR P t.get (sums L) (vcCall P (sums L) (Ns i)) assign ⟨(p, e) :: ts, Hs i, Ns i, m⟩
   (assignQ fun st1 => vcR P t.get (sums L) (vcCall P (sums L) (Ns i)) body st1 (R i ids nv)))
 (hQ : Inv vs.length -> Q .normal ⟨ts, Hs vs.length, Ns vs.length, m⟩)
 (hbb : base <= nb) (hbn : nb <= n) (hr : Rel P base ψ S w ⟨ts, h, n, m⟩ a)
 (hseq : ∀ W lb, Ext0 S w S W -> a.tmps.getD g undef = .func (.func f) #[] lb -> SeqOk P f lb vs S W) :
 (Code.rangeFunc (.tmp g) #[p] assign body).wpIn Fence.wide 0 P (fun e a' w' => ∃ st D ψ' S', Q e st /\ a' = wd (⟨.collected D, #[]⟩ :: ds) a /\ w.heap.size <= D /\ w'.heap[D]? = some (.deferred (some [])) /\
   Rel P base ψ' S' w' st a /\ Ext base ψ S w ψ' S' w' /\ Unm ψ' S' D) (wd ds a) w := by
 have hgr := hr.tmps g
 rw [show lookT (St.mk ts h n m).tmps g = _ from hg] at hgr
 obtain ⟨lb, hfv, _⟩ := hgr
 refine wpIn_rangeFunc ?_
 intro fn _
 obtain ⟨rec, hrec⟩ : ∃ rec : LoopState -> Option Code -> Loop, rec = fun st pe => { state := st, pending := pe, fn, tmps := a.tmps, params := #[p], assign, body, defers := w.heap.size } := ⟨_, rfl⟩
 obtain ⟨W1, hW1⟩ : ∃ W1, (w.alloc (.deferred (some []))).alloc (.loop (rec .ready none)) = W1 := ⟨_, rfl⟩
 have hL1 : W1.heap[w.heap.size + 1]? = some (.loop (rec .ready none)) := by
  rw [<- hW1]; have := World.alloc_heap_new (w.alloc (.deferred (some []))) (.loop (rec .ready none)); rwa [World.size_alloc] at this
 have hK1 : W1.heap[w.heap.size]? = some (.deferred (some [])) := by
  rw [<- hW1]; exact (Below.heap_alloc _ _ _ (by simp)).trans (World.alloc_heap_new w _)
 have hsz1 : W1.heap.size = w.heap.size + 2 := by rw [<- hW1]; simp
 have hb1 : Below w.heap.size w W1 := by
  rw [<- hW1]; exact (((Below.refl _ w).alloc (Nat.le_refl _) _).alloc (by simp) _)
 have hx1 : Ext0 S w S W1 := Ext0.of_below hr.sim.sdom.lt hb1
 obtain ⟨hr1, he1⟩ := hr.ext0 hx1
 have hU : ∀ b, w.heap.size <= b -> Unm ψ S b := fun b hb => ⟨fun hs => by have := hr.sim.sdom.lt b hs; omega, fun k m hk => by have := hr.sim.pdom k b m hk; omega⟩
 have hUl0 : Unm ψ S (w.heap.size + 1) := hU _ (by omega)
 have hlt1 : w.heap.size + 1 < W1.heap.size := by omega
 -- what holds between rounds: the record is ready, or a round was left for good
 obtain ⟨G, hG⟩ : ∃ G : Obj -> St -> (Nat -> Prop) -> World -> Prop, G = fun X st U W => (∀ b, U b -> W1.heap.size <= b) /\ ∃ ψ' S', Rel P nb ψ' S' W st a /\ Ext nb ψ S (W1.putObj (w.heap.size + 1) X) ψ' S' W /\ ∀ b, U b -> b < W.heap.size /\ Unm ψ' S' b := ⟨_, rfl⟩
 have hGm : ∀ X st U W W', G X st U W -> Moves U W W' -> G X st (fun b => U b \/ (W.heap.size <= b /\ b < W'.heap.size)) W' := by
  intro X st U W W' hg0 hM
  rw [hG] at hg0 ⊢
  obtain ⟨k0, ψ', S', k1, k2, k3⟩ := hg0
  have kg := k2.grow
  rw [World.putObj_size] at kg
  obtain ⟨g1, g2⟩ := k1.moves (fun b hb => (k3 b hb).2) hM.grow hM.same
  refine ⟨?_, ψ', S', g1, ⟨hM.os.trans k2.os, hM.tape.trans k2.tape, hM.output.trans k2.output, by rw [World.putObj_size]; exact Nat.le_trans kg hM.grow, ?_, k2.later.trans g2, k2.newS, k2.newP, k2.agr⟩, ?_⟩
  . rintro b (hb | hb)
    . exact k0 b hb
    . omega
  . intro b hb hp
    rw [World.putObj_size] at hb
    rw [hM.same b (by omega) fun e => by have := k0 b e; omega]; exact k2.old b (by rw [World.putObj_size]; exact hb) hp
  . rintro b (hb | hb)
    . exact ⟨Nat.lt_of_lt_of_le (k3 b hb).1 hM.grow, (k3 b hb).2⟩
    . exact ⟨hb.2, fun hs => by have := k1.sim.sdom.lt b hs; omega, fun k m hk => by have := k1.sim.pdom k b m hk; omega⟩
 have hput1 : W1.putObj (w.heap.size + 1) (.loop (rec .ready none)) = W1 := World.putObj_same hL1
 refine ⟨w.heap.size + 1, [{ target := .collected w.heap.size, args := #[] }], W1, { target := .fn (.func f) lb, args := #[.func (.yield (w.heap.size + 1)) #[] #[]] }, W1, f,
  #[.func (.yield (w.heap.size + 1)) #[] #[]] ++ lb, W1, ?_, ?_, fun _ _ => trivial, ?_, fun h => (by cases h), ?_⟩
 . rw [<- hW1, hrec]; exact run_enterLoop_outer _ _ _ _ _
 . have hev : (wd ds a).eval (.tmp g) = .func (.func f) #[] lb := hfv
   simp only [resolve, hev]
   simp [go_sem]
 . simp [invoke, go_sem, run_enter hc]
 . have hn1 : Rel P nb ψ S W1 ⟨ts, h, n, m⟩ a := ⟨hbn, hr1.sim, hr1.lim, hr1.defers, hr1.tmps⟩
   refine ((hseq W1 lb hx1 hfv).run (w.heap.size + 1) (fun i U W => ((i <= vs.length /\ Inv i) /\ G (.loop (rec .ready none)) ⟨ts, Hs i, Ns i, m⟩ U W) \/ (i = vs.length + 1 /\ ∃ e c st, leaveC e = some c /\ Q e st /\ G (.loop (rec .done (some c))) st U W)) ?_ ?_ ?_).mono ?_
   . rintro i U W W' (⟨h1, h2⟩ | ⟨h1, e, c, st, h2, h3, h4⟩) hM
     . exact .inl ⟨h1, hGm _ _ _ _ _ h2 hM⟩
     . exact .inr ⟨h1, e, c, st, h2, h3, hGm _ _ _ _ _ h4 hM⟩
   . rintro i U W v hJ hv
     have hiv : i < vs.length := (List.getElem?_eq_some_iff.1 hv).1
     obtain ⟨hinv, hJ⟩ : Inv i /\ G (.loop (rec .ready none)) ⟨ts, Hs i, Ns i, m⟩ U W := by
      rcases hJ with h1 | ⟨h1, _⟩
      . exact ⟨h1.1.2, h1.2⟩
      . omega
     rw [hG] at hJ
     obtain ⟨k0, ψ', S', k1, k2, k3⟩ := hJ
     rw [hput1] at k2
     obtain ⟨e, he⟩ : ∃ e, es[i]? = some e := ⟨_, List.getElem?_eq_getElem (by omega)⟩
     have hUl := k2.unm (b := w.heap.size + 1) hUl0 hlt1
     have hl : W.heap[w.heap.size + 1]? = some (.loop (rec .ready none)) := hUl.2.trans hL1
     have hy : (Instr.yield (w.heap.size + 1) #[v]).run P W = .ok (.round (w.heap.size + 1) fn (a.tmps.setIfInBounds p v) assign body) W := by
      have := run_yield (P := P) (args := #[v]) hl (by rw [hrec]; rfl)
      rw [hrec] at this
      simpa using this
     refine ⟨fn, _, assign, body, hy, roundIn_of_wpIn trivial ?_⟩
     have hput : putK ⟨ts, Hs i, Ns i, m⟩ (some p) e (fun st => st = ⟨(p, e) :: ts, Hs i, Ns i, m⟩) := by
      simp only [putK, hp, fT_eq]
     obtain ⟨st0, rfl, hr0⟩ := putK_rel hput k1 (hes i e v he hv ψ' S' W)
     have hr0 : Rel P (Ns i) ψ' S' W ⟨(p, e) :: ts, Hs i, Ns i, m⟩ ⟨a.tmps.setIfInBounds p v, []⟩ := by
      have : Rel P (Ns i) _ _ _ _ _ := ⟨Nat.le_refl _, hr0.sim, hr0.lim, hr0.defers, hr0.tmps⟩
      have hd := k1.defers
      obtain ⟨at_, ad⟩ := a
      cases hd
      exact this
     obtain ⟨ids, nv, hrd⟩ := hround i e hinv he
     have A := vc_okR (F := Fence.wide.inRound (w.heap.size + 1)) (n := 0) (ds := []) (.inr ⟨_, rfl⟩) (TT.tysOk ht) (TT.zeros ht) (sums_ok hL) hmix (vcCall_ok (sums_ok hL) (Ns i)) assign _ _ hsa hrd ψ' S' W _ hr0
     refine wpIn_mono A ?_
     rintro x a' w' ⟨a2, st1, ψa, Sa, rfl, hq, hra, hea⟩
     cases x with
     | normal =>
       have hq : vcR P t.get (sums L) (vcCall P (sums L) (Ns i)) body st1 (R i ids nv) := hq
       have hlt : w.heap.size + 1 < W.heap.size := (Array.getElem?_eq_some_iff.1 hl).1
       have hUa := hea.unm hUl.1 hlt
       have hla := hUa.2.trans hl
       have hlta : w.heap.size + 1 < w'.heap.size := (Array.getElem?_eq_some_iff.1 hla).1
       refine ⟨_, run_beginRound hla (by rw [hrec]), ?_⟩
       have B := vc_okR (F := Fence.wide.inRound (w.heap.size + 1)) (n := 0) (ds := []) (.inr ⟨_, rfl⟩) (TT.tysOk ht) (TT.zeros ht) (sums_ok hL) hmix (vcCall_ok (sums_ok hL) (Ns i)) body _ _ hsb hq ψa Sa _ a2 (hra.turnU hUa.1 (.loop { rec .ready none with state := .busy }))
       refine wpIn_mono B ?_
       rintro x a3 w3 ⟨a4, st2, ψ2, S2, rfl, hq2, hr2, he2⟩
       have hUb := he2.unm hUa.1 (by rw [World.putObj_size]; exact hlta)
       have hl2 := hUb.2.trans (World.putObj_heap_same hlta)
       have hlt3 : w.heap.size + 1 < w3.heap.size := (Array.getElem?_eq_some_iff.1 hl2).1
       have hsub : PsiSub ψ' ψ2 := fun k l hk => by
        have hlt : k < Ns i := by
         rcases Nat.lt_or_ge k (Ns i) with h1 | h1
         . exact h1
         . have := k1.sim.dom k h1
           rw [hk] at this; cases this
        rw [he2.agr k hlt, hea.agr k hlt]; exact hk
       have hE := Ext.turn2 (k2.trans (hea.less k1.bas)) hUl0 hL1 (he2.less k1.bas)
       -- whatever the record becomes
       have key : ∀ X : Obj, Rel P nb ψ2 S2 (w3.putObj (w.heap.size + 1) X) ⟨ts, st2.heap, st2.next, m⟩ a /\ Ext nb ψ S (W1.putObj (w.heap.size + 1) X) ψ2 S2 (w3.putObj (w.heap.size + 1) X) /\
        W.heap.size <= (w3.putObj (w.heap.size + 1) X).heap.size /\ (∀ b, U b -> Unm ψ2 S2 b /\ (w3.putObj (w.heap.size + 1) X).heap[b]? = W.heap[b]?) /\ (∀ b, b < W.heap.size -> U b \/ S b -> (w3.putObj (w.heap.size + 1) X).heap[b]? = W.heap[b]?) := by
        intro X
        have gs : W.heap.size <= (w3.putObj (w.heap.size + 1) X).heap.size := by
         have e1 := hea.grow
         have e2 := he2.grow
         rw [World.putObj_size] at e2 ⊢; omega
        have hlat2 : Later S' W S2 (w3.putObj (w.heap.size + 1) X) := ⟨fun b hb => he2.later.1 b (hea.later.1 b hb), fun b hb => by
         have e : b ≠ w.heap.size + 1 := fun e => hUl.1.1 (e ▸ hb)
         rw [World.putObj_heap_other e, he2.later.2 b (hea.later.1 b hb), World.putObj_heap_other e, hea.later.2 b hb]⟩
        have hr3 := hr2.turnU hUb.1 X
        have un : ∀ b, U b -> Unm ψ2 S2 b /\ (w3.putObj (w.heap.size + 1) X).heap[b]? = W.heap[b]? := fun b hb => by
         obtain ⟨q1, q2⟩ := k3 b hb
         have q0 := k0 b hb
         have q3 := hea.unm q2 q1
         have q4 := he2.unm q3.1 (by rw [World.putObj_size]; have := hea.grow; omega)
         exact ⟨q4.1, by rw [World.putObj_heap_other (by omega), q4.2, World.putObj_heap_other (by omega), q3.2]⟩
        refine ⟨⟨Nat.le_trans k1.bas hr3.bas, hr3.sim, hr.lim, hr.defers, fun t => (k1.tmps t).later hsub hlat2⟩, ?_, gs, un, ?_⟩
        . have := hE.both (l := w.heap.size + 1) (o := X) hUl0 hlt1
          rwa [World.putObj_putObj] at this
        . rintro b hb (hu | hs)
          . exact (un b hu).2
          . have e1 := hr.sim.sdom.lt b hs
            have e2 := k2.later.1 b hs
            rw [World.putObj_heap_other (by omega), he2.later.2 b (hea.later.1 b e2), World.putObj_heap_other (by omega), hea.later.2 b e2]
       have stop : ∀ e c, leaveC e = some c -> Q e ⟨ts, st2.heap, st2.next, m⟩ -> ∃ v w4, (Instr.endRound (w.heap.size + 1) (some c)).run P w3 = .ok v w4 /\
        ∃ bb, Ending.returned v = .returned (.bool bb) /\ (((afterY vs.length i bb <= vs.length /\ Inv (afterY vs.length i bb)) /\ G (.loop (rec .ready none)) ⟨ts, Hs (afterY vs.length i bb), Ns (afterY vs.length i bb), m⟩ U w4) \/ (afterY vs.length i bb = vs.length + 1 /\ ∃ e c st, leaveC e = some c /\ Q e st /\ G (.loop (rec .done (some c))) st U w4)) /\
         W.heap.size <= w4.heap.size /\ ∀ b, b < W.heap.size -> U b \/ S b -> w4.heap[b]? = W.heap[b]? := by
        intro e c hec hqe
        have hend := run_endRound (P := P) (some c) hl2
        have hrd : Obj.loop { { rec .ready none with state := .busy } with state := (if (some c).isNone then .ready else .done), pending := some c } = .loop (rec .done (some c)) := by rw [hrec]; rfl
        rw [hrd] at hend
        obtain ⟨q1, q2, q3, q4, q5⟩ := key (.loop (rec .done (some c)))
        refine ⟨_, _, hend, false, rfl, .inr ⟨rfl, e, c, _, hec, hqe, ?_⟩, q3, q5⟩
        rw [hG]
        exact ⟨k0, ψ2, S2, q1, q2, fun b hb => ⟨Nat.lt_of_lt_of_le (k3 b hb).1 q3, (q4 b hb).1⟩⟩
       cases x with
       | normal =>
         obtain ⟨hinv2, hle⟩ := hRn _ _ _ _ hq2
         have hend := run_endRound (P := P) none hl2
         have hrd : Obj.loop { { rec .ready none with state := .busy } with state := (if (none : Option Code).isNone then .ready else .done), pending := none } = .loop (rec .ready none) := by rw [hrec]; rfl
         rw [hrd] at hend
         obtain ⟨q1, q2, q3, q4, q5⟩ := key (.loop (rec .ready none))
         obtain ⟨g1, g2⟩ := q1.le hle
         refine ⟨_, _, hend, true, rfl, .inl ⟨⟨hiv, hinv2⟩, ?_⟩, q3, q5⟩
         rw [hG]
         exact ⟨k0, _, _, g1, q2.trans g2, fun b hb => ⟨Nat.lt_of_lt_of_le (k3 b hb).1 q3, (g2.unm (q4 b hb).1 (Nat.lt_of_lt_of_le (k3 b hb).1 q3)).1⟩⟩
       | ret => exact stop .ret _ rfl (by rcases hRx _ _ _ _ _ hq2 with h | h; cases h; exact h.2)
       | exit id => exact stop (.exit id) _ rfl (by rcases hRx _ _ _ _ _ hq2 with h | h; cases h; exact h.2)
       | goto l => exact stop (.goto l) _ rfl (by rcases hRx _ _ _ _ _ hq2 with h | h; cases h; exact h.2)
       | panic ch => rcases hRx _ _ _ _ _ hq2 with h | h; cases h; cases h.1
       | outgrown => rcases hRx _ _ _ _ _ hq2 with h | h; cases h; cases h.1
     | ret => exact hq.elim
     | exit id => exact hq.elim
     | goto l => exact hq.elim
     | panic ch => exact hq.elim
     | outgrown => exact hq.elim
   . refine .inl ⟨⟨Nat.zero_le _, hi0⟩, ?_⟩
     rw [hG]
     exact ⟨fun _ h => h.elim, ψ, S, by rw [h0, n0]; exact hn1, by rw [hput1]; exact Ext.refl _ _ _ _, fun _ h => h.elim⟩
   . rintro x W ⟨⟨v, rfl⟩, U, i, hi, hJ⟩
     -- the record as it stands at the end, and the jump
     have main : ∀ (X : Loop) (e : Exit) (st : St), G (.loop X) st U W -> X.state ≠ .busy -> Q e st ->
      ∃ o, (Instr.endLoop (w.heap.size + 1)).run P W = .ok X.pending (W.putObj (w.heap.size + 1) o) /\
       ∃ st D ψ' S', Q e st /\ wd (⟨.collected w.heap.size, #[]⟩ :: ds) a = wd (⟨.collected D, #[]⟩ :: ds) a /\ w.heap.size <= D /\ (W.putObj (w.heap.size + 1) o).heap[D]? = some (.deferred (some [])) /\
        Rel P base ψ' S' (W.putObj (w.heap.size + 1) o) st a /\ Ext base ψ S w ψ' S' (W.putObj (w.heap.size + 1) o) /\ Unm ψ' S' D := by
      intro X e st hg1 hbz hqe
      rw [hG] at hg1
      obtain ⟨k0, ψ', S', k1, k2, k3⟩ := hg1
      have hUl := k2.unm (b := w.heap.size + 1) hUl0 (by rw [World.putObj_size]; exact hlt1)
      have hUd := k2.unm (b := w.heap.size) (hU _ (Nat.le_refl _)) (by rw [World.putObj_size]; omega)
      have hl : W.heap[w.heap.size + 1]? = some (.loop X) := hUl.2.trans (World.putObj_heap_same hlt1)
      have hend := run_endLoop (P := P) hl hbz
      refine ⟨_, hend, st, w.heap.size, ψ', S', hqe, rfl, Nat.le_refl _, ?_, ?_, ?_, hUd.1⟩
      . rw [World.putObj_heap_other (by omega)]; exact hUd.2.trans ((World.putObj_heap_other (by omega)).trans hK1)
      . have hr3 := k1.turnU hUl.1 (.loop { X with state := .exhausted })
        exact ⟨Nat.le_trans hbb hr3.bas, hr3.sim, hr3.lim, hr3.defers, hr3.tmps⟩
      . have hg := k2.grow
        rw [World.putObj_size] at hg
        refine ⟨k2.os.trans he1.os, k2.tape.trans he1.tape, k2.output.trans he1.output, by rw [World.putObj_size]; omega, ?_, ⟨k2.later.1, ?_⟩, ?_, ?_, fun k hk => k2.agr k (Nat.lt_of_lt_of_le hk hbb)⟩
        . intro b hb hp
          rw [World.putObj_heap_other (by omega), k2.old b (by rw [World.putObj_size]; omega) hp, World.putObj_heap_other (by omega)]; exact hb1.block b hb
        . intro b hb
          have hlt := hr.sim.sdom.lt b hb
          rw [World.putObj_heap_other (by omega), k2.later.2 b hb, World.putObj_heap_other (by omega)]; exact hb1.block b hlt
        . intro b hs
          rcases k2.newS b hs with h | h | h
          . exact .inl h
          . exact .inr (.inl h)
          . rw [World.putObj_size] at h; exact .inr (.inr (by omega))
        . intro k b m hk
          rcases k2.newP k b m hk with h | h
          . exact .inl h
          . rw [World.putObj_size] at h; exact .inr (by omega)
     have hready : (rec .ready none).state ≠ .busy := by rw [hrec]; exact fun h => by cases h
     have hpn : (rec .ready none).pending = none := by rw [hrec]
     rcases hJ with ⟨h1, h2⟩ | ⟨h1, e, c, st, h2, h3, h4⟩
     . have hin : i = vs.length := by omega
       subst hin
       obtain ⟨o, q1, q2⟩ := main _ .normal _ h2 hready (hQ h1.2)
       rw [hpn] at q1
       exact ⟨none, _, q1, q2⟩
     . have hdone : (rec .done (some c)).state ≠ .busy := by rw [hrec]; exact fun h => by cases h
       have hpd : (rec .done (some c)).pending = some c := by rw [hrec]
       obtain ⟨o, q1, q2⟩ := main _ e _ h4 hdone h3
       rw [hpd] at q1
       refine ⟨some c, _, q1, ?_⟩
       cases e with
       | normal => cases h2
       | ret => cases h2; exact wpIn_ret q2
       | exit id => cases h2; exact wpIn_exit q2
       | goto l => cases h2; exact wpIn_goto q2
       | panic ch => cases h2
       | outgrown => cases h2
def mks : Option Nat -> List Deferred
 | none => []
 | some D => [⟨.collected D, #[]⟩]
def DOk (B : Nat) (d : Option Nat) (ψ : Psi) (S : Nat -> Prop) (w : World) : Prop := ∀ D, d = some D -> B <= D /\ w.heap[D]? = some (.deferred (some [])) /\ Unm ψ S D
theorem DOk.ext {B : Nat} {d : Option Nat} (h : DOk B d ψ S w) (he : Ext base ψ S w ψ' S' w') : DOk B d ψ' S' w' := fun D e => by
 obtain ⟨h1, h2, h3⟩ := h D e
 obtain ⟨g1, g2⟩ := he.unm h3 (Array.getElem?_eq_some_iff.1 h2).1
 exact ⟨h1, g2.trans h2, g1⟩
abbrev MQ (P : Program) (base : Nat) (ψ : Psi) (S : Nat -> Prop) (w : World) (Q : Exit -> St -> Prop) : Exit -> Act -> World -> Prop :=
 fun e a' w' => ∃ a2 st' ψ' S' d, a' = wd (mks d) a2 /\ Q e st' /\ Rel P base ψ' S' w' st' a2 /\ Ext base ψ S w ψ' S' w' /\ DOk w.heap.size d ψ' S' w'
structure MSat (P : Program) (base : Nat) (c : Code) (st : St) (Q : Exit -> St -> Prop) : Prop where
 run : ∀ ψ S w a, Rel P base ψ S w st a -> c.wpIn Fence.wide 0 P (MQ P base ψ S w Q) (wd [] a) w
def thenQ (K : St -> Prop) (Q : Exit -> St -> Prop) : Exit -> St -> Prop
 | .normal, st => K st
 | .exit id, st => Q (.exit id) st
 | .goto l, st => Q (.goto l) st
 | .ret, st => Q .ret st
 | _, _ => False
theorem MSat.seqA {t : TT} (ht : t.ok P) {L : List (Nat × Sm)} (hL : sumsOk P L) (hmix : P.follows .mixedOrders = true) {x y : Code} {Q : Exit -> St -> Prop} (hs : straight x = true)
 (h : vcR P t.get (sums L) (vcCall P (sums L) base) x st (thenQ (fun st => MSat P base y st Q) Q)) : MSat P base (.seq x y) st Q := by
 refine ⟨fun ψ S w a hr => ?_⟩
 refine wpIn_seq (wpIn_mono (vc_okR (F := Fence.wide) (n := 0) (ds := []) (.inl rfl) (TT.tysOk ht) (TT.zeros ht) (sums_ok hL) hmix (vcCall_ok (sums_ok hL) base) x _ _ hs h ψ S w a hr) ?_)
 rintro e a' w' ⟨a2, st', ψ', S', rfl, hq, hr', he⟩
 have fin : ∀ e, Q e st' -> MQ P base ψ S w Q e (wd [] a2) w' := fun e hq => ⟨a2, st', ψ', S', none, rfl, hq, hr', he, fun D h => by cases h⟩
 cases e with
 | normal =>
   refine wpIn_mono ((show MSat P base y st' Q from hq).run ψ' S' w' a2 hr') ?_
   rintro e a3 w3 ⟨a4, st2, ψ2, S2, d, rfl, hq2, hr2, he2, hd⟩
   exact ⟨a4, st2, ψ2, S2, d, rfl, hq2, hr2, he.trans he2, fun D e => let ⟨h1, h2⟩ := hd D e; ⟨Nat.le_trans he.grow h1, h2⟩⟩
 | exit id => exact fin _ hq
 | goto l => exact fin _ hq
 | ret => exact fin _ hq
 | panic ch => exact hq.elim
 | outgrown => exact hq.elim
theorem MSat.seqB {t : TT} (ht : t.ok P) {L : List (Nat × Sm)} (hL : sumsOk P L) (hmix : P.follows .mixedOrders = true) {x y : Code} {Q : Exit -> St -> Prop} (hs : straight y = true)
 (h : MSat P base x st (thenQ (fun st => vcR P t.get (sums L) (vcCall P (sums L) base) y st Q) Q)) : MSat P base (.seq x y) st Q := by
 refine ⟨fun ψ S w a hr => ?_⟩
 refine wpIn_seq (wpIn_mono (h.run ψ S w a hr) ?_)
 rintro e a' w' ⟨a2, st', ψ', S', d, rfl, hq, hr', he, hd⟩
 have fin : ∀ e, Q e st' -> MQ P base ψ S w Q e (wd (mks d) a2) w' := fun e hq => ⟨a2, st', ψ', S', d, rfl, hq, hr', he, hd⟩
 cases e with
 | normal =>
   refine wpIn_mono (vc_okR (F := Fence.wide) (n := 0) (ds := mks d) (.inl rfl) (TT.tysOk ht) (TT.zeros ht) (sums_ok hL) hmix (vcCall_ok (sums_ok hL) base) y _ _ hs hq ψ' S' w' a2 hr') ?_
   rintro e a3 w3 ⟨a4, st2, ψ2, S2, rfl, hq2, hr2, he2⟩
   exact ⟨a4, st2, ψ2, S2, d, rfl, hq2, hr2, he.trans he2, hd.ext he2⟩
 | exit id => exact fin _ hq
 | goto l => exact fin _ hq
 | ret => exact fin _ hq
 | panic ch => exact hq.elim
 | outgrown => exact hq.elim
def blockQ (id : Nat) (Q : Exit -> St -> Prop) : Exit -> St -> Prop
 | .exit id', st => match Nat.beq id' id with
   | true => Q .normal st
   | false => Q (.exit id') st
 | .normal, st => Q .normal st
 | .goto l, st => Q (.goto l) st
 | .ret, st => Q .ret st
 | _, _ => False
theorem MSat.block {id : Nat} {c : Code} {Q : Exit -> St -> Prop} (h : MSat P base c st (blockQ id Q)) : MSat P base (.block id c) st Q := by
 refine ⟨fun ψ S w a hr => wpIn_block (wpIn_mono (h.run ψ S w a hr) ?_)⟩
 rintro e a' w' ⟨a2, st', ψ', S', d, rfl, hq, hr', he, hd⟩
 have fin : ∀ e, Q e st' -> MQ P base ψ S w Q e (wd (mks d) a2) w' := fun e hq => ⟨a2, st', ψ', S', d, rfl, hq, hr', he, hd⟩
 cases e with
 | normal => exact fin _ hq
 | exit id' =>
   simp only [blockQ] at hq
   simp only [Exit.inBlock]
   cases hb : Nat.beq id' id with
   | true => rw [hb] at hq; rw [if_pos (Nat.eq_of_beq_eq_true hb)]; exact fin _ hq
   | false => rw [hb] at hq; rw [if_neg (Nat.ne_of_beq_eq_false hb)]; exact fin _ hq
 | goto l => exact fin _ hq
 | ret => exact fin _ hq
 | panic ch => exact hq.elim
 | outgrown => exact hq.elim
theorem MSat.range {t : TT} (ht : t.ok P) {L : List (Nat × Sm)} (hL : sumsOk P L) (hmix : P.follows .mixedOrders = true) (nb : Nat) {g p : Nat} {assign body : Code} {ts : List (Nat × Tm)} {h : List (Nat × Blk)} {n m f : Nat} {caps : List (Nat × Nat)} {Q : Exit -> St -> Prop}
 (hg : lookT ts g = .va (.c (.fn f caps))) (hc : Callable P f) (hsa : straight assign = true) (hsb : straight body = true) (hp : Nat.blt p m = true)
 (vs : List Value) (es : List Tm) (hes : ∀ (i : Nat) e v, es[i]? = some e -> vs[i]? = some v -> ∀ ψ S w, RepT P ψ S w e v) (hlen : es.length = vs.length)
 (Hs : Nat -> List (Nat × Blk)) (Ns : Nat -> Nat) (h0 : Hs 0 = h) (n0 : Ns 0 = n)
 (hround : ∀ (i : Nat) e, es[i]? = some e -> ∃ ids nv, vcR P t.get (sums L) (vcCall P (sums L) (Ns i)) assign ⟨(p, e) :: ts, Hs i, Ns i, m⟩
   (assignQ fun st1 => vcR P t.get (sums L) (vcCall P (sums L) (Ns i)) body st1 (roundQ nb ids nv ts m (Hs (i + 1)) (Ns (i + 1)) Q)))
 (hbb : base <= nb) (hbn : nb <= n)
 (hseq : ∀ ψ S w a, Rel P base ψ S w ⟨ts, h, n, m⟩ a -> ∀ W lb, Ext0 S w S W -> a.tmps.getD g undef = .func (.func f) #[] lb -> SeqOk P f lb vs S W)
 (hQ : Q .normal ⟨ts, Hs vs.length, Ns vs.length, m⟩) : MSat P base (.rangeFunc (.tmp g) #[p] assign body) ⟨ts, h, n, m⟩ Q := by
 refine ⟨fun ψ S w a hr => wpIn_mono (range_ok ht hL hmix nb hg hc hsa hsb hp vs es hes hlen Hs Ns h0 n0 Q (fun _ => True) trivial (fun i ids nv => roundQ nb ids nv ts m (Hs (i + 1)) (Ns (i + 1)) Q) (fun i ids nv st h => ⟨trivial, h⟩) (fun i ids nv e st h => by cases e <;> first | exact .inl rfl | exact .inr ⟨rfl, h⟩ | exact h.elim) (fun i e _ he => hround i e he) (fun _ => hQ) hbb hbn hr (hseq ψ S w a hr)) ?_⟩
 rintro e a' w' ⟨st, D, ψ', S', hq, rfl, h1, h2, h3, h4, h5⟩
 exact ⟨a, st, ψ', S', some D, rfl, hq, h3, h4, fun D' e => by cases e; exact ⟨h1, h2, h5⟩⟩
theorem MSat.le {c : Code} {st st' : St} {Q : Exit -> St -> Prop} (ids : List Nat) (nv : Nat) (h : leSt base ids nv st st') (hs : MSat P base c st' Q) : MSat P base c st Q := by
 refine ⟨fun ψ S w a hr => ?_⟩
 obtain ⟨h1, h2⟩ := hr.le h
 refine wpIn_mono (hs.run _ _ _ _ h1) ?_
 rintro e a' w' ⟨a2, st2, ψ2, S2, d, rfl, q, r, x, hd⟩
 exact ⟨a2, st2, ψ2, S2, d, rfl, q, r, h2.trans x, hd⟩
theorem acall_of_msat {t : TT} (ht : t.ok P) {f : Nat} {fn : Func} {c : Code} (hf : P.funcs[f]? = some fn) (hb : fn.body = some c) (hname : (fn.name == "runtime.NumGoroutine") = false) {vas : List Va} {ts : List (Nat × Tm)} {h : List (Nat × Blk)} {n m : Nat} {K : Tm -> St -> Prop} (hlen : Nat.ble vas.length fn.ntmps = true)
 (hk : MSat P n c ⟨zipN 0 (vas.map .va), h, n, fn.ntmps⟩ (inlQ t.get fn.results.toList ts m K)) : ACall P base f vas ⟨ts, h, n, m⟩ K := by
 refine ⟨fun ψ S w a vals hrel hvals => ?_⟩
 obtain ⟨nm, orig, targs, params, rts, nfree, ntmps, rs, body, nr, ours, file, el, ln, met, tn⟩ := fn
 have hb : body = some c := hb
 subst hb
 have hvl := hvals.length
 have hlen : vas.length <= ntmps := Nat.le_of_ble_eq_true hlen
 refine .inl ⟨⟨_, c, hf, rfl, hname⟩, callsIn_wide.1 (callsIn_of_wp_marks (n := 0) hf rfl trivial ?_)⟩
 have hrel2 : Rel P n ψ S w ⟨zipN 0 (vas.map .va), h, n, ntmps⟩ { tmps := vals.toArray ++ Array.replicate (ntmps - vals.toArray.size) undef, defers := [] } :=
  ⟨Nat.le_refl _, hrel.sim, by simp; omega, rfl, fun t => start_tmps hvals ntmps t⟩
 refine wpIn_mono (hk.run ψ S w _ hrel2) ?_
 rintro e a' w' ⟨a2, ⟨ts', h', n', m'⟩, ψ', S', d, rfl, hq, hr', he, hd⟩
 have hdom : ∀ k l, ψ k = some l -> k < n := fun k l hk => by
  rcases Nat.lt_or_ge k n with h1 | h1
  . exact h1
  . have := hrel.sim.dom k h1
    rw [hk] at this; cases this
 have hsub : PsiSub ψ ψ' := fun k l hk => by rw [he.agr k (hdom k l hk)]; exact hk
 have main : resVars t.get ⟨ts', h', n', m'⟩ rs.toList (fun xs => K (tmOf xs) ⟨ts, h', n', m⟩) ->
  LeavesInM Fence.wide 0 P ⟨nm, orig, targs, params, rts, nfree, ntmps, rs, some c, nr, ours, file, el, ln, met, tn⟩ a2.tmps
   (fun e w' => ∃ r st' v' ψ' S', e = .returned v' /\ K r st' /\ Rel P base ψ' S' w' st' a /\ RepT P ψ' S' w' r v' /\ Ext base ψ S w ψ' S' w') (mks d) .returning w' := by
  intro hq
  have last : ∀ w2, Rel P n ψ' S' w2 ⟨ts', h', n', m'⟩ a2 -> Ext n ψ S w ψ' S' w2 -> ∃ v, (results ⟨nm, orig, targs, params, rts, nfree, ntmps, rs, some c, nr, ours, file, el, ln, met, tn⟩ a2.tmps).run P w2 = .ok v w2 /\
   ∃ r st' v' ψ' S', Ending.returned v = .returned v' /\ K r st' /\ Rel P base ψ' S' w2 st' a /\ RepT P ψ' S' w2 r v' /\ Ext base ψ S w ψ' S' w2 := by
   intro w2 hr2 he2
   obtain ⟨xs, vs, k1, k2, k3⟩ := resVars_ok (TT.tysOk ht) hr2 hq
   refine ⟨_, results_run k3, _, _, _, ψ', S', rfl, k2, ⟨Nat.le_trans hrel.bas hr2.bas, hr2.sim, hrel.lim, hrel.defers, fun t => (hrel.tmps t).later hsub he2.later⟩, tmOf_rep k1, ?_⟩
   exact ⟨he2.os, he2.tape, he2.output, he2.grow, he2.old, he2.later, he2.newS, he2.newP, fun k hk => he2.agr k (Nat.lt_of_lt_of_le hk hrel.bas)⟩
  cases d with
  | none => exact last w' hr' he
  | some D =>
    obtain ⟨d1, d2, d3⟩ := hd D rfl
    refine ⟨by simp, .inl ⟨D, _, rfl, run_takeDeferred d2, ?_⟩⟩
    refine last _ (hr'.turnU d3 _) ⟨he.os, he.tape, he.output, by rw [World.putObj_size]; exact he.grow, ?_, ⟨he.later.1, ?_⟩, he.newS, he.newP, he.agr⟩
    . intro b hb hp
      rw [World.putObj_heap_other (by omega)]; exact he.old b hb hp
    . intro b hb
      have := hrel.sim.sdom.lt b hb
      rw [World.putObj_heap_other (by omega)]; exact he.later.2 b hb
 cases e with
 | normal => exact main hq
 | ret => exact main hq
 | exit id => exact hq.elim
 | goto l => exact hq.elim
 | panic ch => exact hq.elim
 | outgrown => exact hq.elim
theorem acall_fr {f : Nat} {vas : List Va} {ts : List (Nat × Tm)} {h : List (Nat × Blk)} {n m : Nat} {K : Tm -> St -> Prop} (hk : frVas h vas fun h' => ACall P base f vas ⟨ts, h', n, m⟩ K) : ACall P base f vas ⟨ts, h, n, m⟩ K := by
 refine ⟨fun ψ S w a vals hr hv => ?_⟩
 obtain ⟨h', S', g1, g2, g3⟩ := frVas_ok vas vals h S hr hv hk
 have hr := g1.run ψ S' w a vals g2 (hv.mono fun _ _ h => RepVa.later h (PsiSub.refl _) g3.later)
 have fin : ∀ e w', (∃ r st' v ψ2 S2, e = Ending.returned v /\ K r st' /\ Rel P base ψ2 S2 w' st' a /\ RepT P ψ2 S2 w' r v /\ Ext base ψ S' w ψ2 S2 w') -> ∃ r st' v ψ2 S2, e = Ending.returned v /\ K r st' /\ Rel P base ψ2 S2 w' st' a /\ RepT P ψ2 S2 w' r v /\ Ext base ψ S w ψ2 S2 w' := by
  rintro e w' ⟨r, st', v, ψ2, S2, q1, q2, q3, q4, q5⟩
  exact ⟨r, st', v, ψ2, S2, q1, q2, q3, q4, g3.trans q5⟩
 rcases hr with ⟨h1, h2⟩ | ⟨v, w', h1, h2⟩
 . exact .inl ⟨h1, h2.mono fin⟩
 . exact .inr ⟨v, w', h1, fin _ _ h2⟩
def JR (J : Nat -> (Nat -> Prop) -> World -> Prop) (S0 : Nat -> Prop) (i : Nat) (ψ : Psi) (S : Nat -> Prop) (w : World) : Prop :=
 ∃ U, J i U w /\ (∀ k b m, ψ k = some (.at b m) -> U b) /\ ∀ b, S b -> S0 b \/ U b
def Abide (J : Nat -> (Nat -> Prop) -> World -> Prop) : Prop := ∀ i U W W', J i U W -> Moves U W W' -> J i (fun b => U b \/ (W.heap.size <= b /\ b < W'.heap.size)) W'
def Hands (P : Program) (l : Nat) (vs : List Value) (S : Nat -> Prop) (J : Nat -> (Nat -> Prop) -> World -> Prop) : Prop :=
 ∀ i U W v, J i U W -> vs[i]? = some v -> YieldAt Fence.wide 0 P l #[v] W fun e W' => ∃ bb, e = .returned (.bool bb) /\ J (afterY vs.length i bb) U W' /\ W.heap.size <= W'.heap.size /\ ∀ b, b < W.heap.size -> U b \/ S b -> W'.heap[b]? = W.heap[b]?
section
variable {J : Nat → (Nat → Prop) → World → Prop} {S0 : Nat → Prop} {l : Nat} {vs : List Value}
theorem JR.ext {i : Nat} {st' : St} {a' : Act} (hab : Abide J) (h : JR J S0 i ψ S w) (he : Ext base ψ S w ψ' S' w') (hr : Rel P base ψ' S' w' st' a') : JR J S0 i ψ' S' w' := by
 obtain ⟨U, h1, h2, h3⟩ := h
 refine ⟨_, hab i U w w' h1 ⟨he.os, he.tape, he.output, he.grow, fun b hb hU => he.old b hb fun k m hk => hU (h2 k b m hk)⟩, ?_, ?_⟩
 . intro k b m hk
   rcases he.newP k b m hk with ⟨k', m', h⟩ | h
   . exact .inl (h2 k' b m' h)
   . exact .inr ⟨h, hr.sim.pdom k b m hk⟩
 . intro b hb
   rcases he.newS b hb with h | ⟨k, m, h⟩ | h
   . rcases h3 b h with h | h
     . exact .inl h
     . exact .inr (.inl h)
   . exact .inr (.inl (h2 k b m h))
   . exact .inr (.inr ⟨h, hr.sim.sdom.lt b hb⟩)
structure ISat (P : Program) (base : Nat) (J : Nat -> (Nat -> Prop) -> World -> Prop) (S0 : Nat -> Prop) (c : Code) (st : St) (i : Nat) (Q : Exit -> St -> Nat -> Prop) : Prop where
 run : ∀ ψ S w a, Rel P base ψ S w st a -> JR J S0 i ψ S w -> c.wp P (fun e a' w' => ∃ st' ψ' S' i', Q e st' i' /\ Rel P base ψ' S' w' st' a' /\ JR J S0 i' ψ' S' w') a w
theorem ISat.vc {t : TT} (ht : t.ok P) {L : List (Nat × Sm)} (hL : sumsOk P L) (hmix : P.follows .mixedOrders = true) (hab : Abide J) {c : Code} {i : Nat} {Q : Exit -> St -> Nat -> Prop}
 (h : vc P t.get (sums L) (vcCall P (sums L) base) base c st fun e st => Q e st i) : ISat P base J S0 c st i Q := by
 refine ⟨fun ψ S w a hr hj => wp_mono ((vc_ok (TT.tysOk ht) (TT.zeros ht) (sums_ok hL) hmix (vcCall_ok (sums_ok hL) base) c _ _ h).run ψ S w a hr) ?_⟩
 rintro e a' w' ⟨st', ψ', S', hq, hr', he⟩
 exact ⟨st', ψ', S', i, hq, hr', hj.ext hab he hr'⟩
def thenI (K : St -> Nat -> Prop) (Q : Exit -> St -> Nat -> Prop) : Exit -> St -> Nat -> Prop
 | .normal, st, i => K st i
 | .exit id, st, i => Q (.exit id) st i
 | .goto l, st, i => Q (.goto l) st i
 | .ret, st, i => Q .ret st i
 | _, _, _ => False
theorem ISat.seq {x y : Code} {i : Nat} {Q : Exit -> St -> Nat -> Prop} (h : ISat P base J S0 x st i (thenI (fun st i => ISat P base J S0 y st i Q) Q)) : ISat P base J S0 (.seq x y) st i Q := by
 refine ⟨fun ψ S w a hr hj => wp_seq (wp_mono (h.run ψ S w a hr hj) ?_)⟩
 rintro e a' w' ⟨st', ψ', S', i', hq, hr', hj'⟩
 cases e with
 | normal => exact (show ISat P base J S0 y st' i' Q from hq).run ψ' S' w' a' hr' hj'
 | exit id => exact ⟨st', ψ', S', i', hq, hr', hj'⟩
 | goto l => exact ⟨st', ψ', S', i', hq, hr', hj'⟩
 | ret => exact ⟨st', ψ', S', i', hq, hr', hj'⟩
 | panic ch => exact hq.elim
 | outgrown => exact hq.elim
theorem ISat.block {id : Nat} {c : Code} {i : Nat} {Q : Exit -> St -> Nat -> Prop} (h : ISat P base J S0 c st i fun e st i => blockQ id (fun e st => Q e st i) e st) : ISat P base J S0 (.block id c) st i Q := by
 refine ⟨fun ψ S w a hr hj => wp_block (wp_mono (h.run ψ S w a hr hj) ?_)⟩
 rintro e a' w' ⟨st', ψ', S', i', hq, hr', hj'⟩
 have fin : ∀ e, Q e st' i' -> ∃ st2 ψ2 S2 i2, Q e st2 i2 /\ Rel P base ψ2 S2 w' st2 a' /\ JR J S0 i2 ψ2 S2 w' := fun e hq => ⟨st', ψ', S', i', hq, hr', hj'⟩
 cases e with
 | normal => exact fin _ hq
 | exit id' =>
   simp only [blockQ] at hq
   simp only [Exit.inBlock]
   cases hb : Nat.beq id' id with
   | true => rw [hb] at hq; rw [if_pos (Nat.eq_of_beq_eq_true hb)]; exact fin _ hq
   | false => rw [hb] at hq; rw [if_neg (Nat.ne_of_beq_eq_false hb)]; exact fin _ hq
 | goto l => exact fin _ hq
 | ret => exact fin _ hq
 | panic ch => exact hq.elim
 | outgrown => exact hq.elim
theorem ISat.le {c : Code} {st st' : St} {i : Nat} {Q : Exit -> St -> Nat -> Prop} (hab : Abide J) (ids : List Nat) (nv : Nat) (h : leSt base ids nv st st') (hs : ISat P base J S0 c st' i Q) : ISat P base J S0 c st i Q := by
 refine ⟨fun ψ S w a hr hj => ?_⟩
 obtain ⟨h1, h2⟩ := hr.le h
 exact hs.run _ _ _ _ h1 (hj.ext hab h2 h1)
theorem ISat.loop {c : Code} {Q : Exit -> St -> Nat -> Prop} (hab : Abide J) {X : Type} (I : X -> St) (ix : X -> Nat) (μ : X -> Nat) (Inv : X -> Prop) (nx : X -> X) (ids : List Nat) (nv : Nat)
 (round : ∀ x, Inv x -> ISat P base J S0 c (I x) (ix x) (thenI (fun st i => Inv (nx x) /\ μ (nx x) < μ x /\ i = ix (nx x) /\ leSt base ids nv st (I (nx x))) Q)) (x : X) (hx : Inv x) {i : Nat} (hi : i = ix x) : ISat P base J S0 (.loop c) (I x) i Q := by
 subst hi
 refine ⟨fun ψ S w a hr hj => ?_⟩
 refine wp_loop_by (P := P) (fun n a' w' => ∃ x ψ' S', Inv x /\ μ x = n /\ Rel P base ψ' S' w' (I x) a' /\ JR J S0 (ix x) ψ' S' w') ?_ ⟨x, ψ, S, hx, rfl, hr, hj⟩
 rintro n a1 w1 ⟨x, ψ1, S1, hx, rfl, hr1, hj1⟩
 refine wp_mono ((round x hx).run ψ1 S1 w1 a1 hr1 hj1) ?_
 rintro e a2 w2 ⟨st, ψ2, S2, i2, hq, hr2, hj2⟩
 cases e with
 | normal =>
   obtain ⟨hx', hlt, rfl, hle⟩ := hq
   obtain ⟨g1, g2⟩ := hr2.le hle
   exact ⟨μ (nx x), hlt, nx x, _, _, hx', rfl, g1, hj2.ext hab g2 g1⟩
 | exit id => exact ⟨st, ψ2, S2, i2, hq, hr2, hj2⟩
 | goto l => exact ⟨st, ψ2, S2, i2, hq, hr2, hj2⟩
 | ret => exact ⟨st, ψ2, S2, i2, hq, hr2, hj2⟩
 | panic ch => exact hq.elim
 | outgrown => exact hq.elim
theorem yield_in {f x : Operand} {tys : Array TypeId} (hop : o.op = .call { callee := .value f, args := #[x], argTypes := tys }) (hf : a.eval f = .func (.yield l) #[] #[]) {R : Ending -> World -> Prop}
 (hy : YieldAt Fence.wide 0 P l #[a.eval x] w R) {next : Act -> World -> Prop} {Q : Exit -> Act -> World -> Prop} (hn : ∀ e w', R e w' -> ∃ v, e = .returned v /\ next (a.put o.dst v) w') : o.wpIn Fence.wide 0 P a w next Q := by
 obtain ⟨fn, tmps, assign, body, h1, h2⟩ := hy
 have e : (execOp a.eval o).run P w = (Instr.yield l #[a.eval x]).run P w := by
  simp only [execOp, hop, resolve, hf, Deferred.ofValue, Sem.run_bind, Sem.run_pure, Result.andThen_ok, invoke]
  simp
 refine ⟨fun _ _ => trivial, ?_⟩
 rw [Oper.semAt_plain Fence.wide _ o (fun c h => by rw [hop] at h; cases h), e, h1]
 refine ⟨fun h => (by cases h), RoundIn.mono h2 ?_⟩
 intro e' w' hr
 obtain ⟨v, rfl, h⟩ := hn e' w' hr
 exact h
theorem ISat.yield {t : TT} (ht : t.ok P) {L : List (Nat × Sm)} (hL : sumsOk P L) (hab : Abide J) (hY : Hands P l vs S0 J) {id : Nat} {ops : Array Oper} {o : Oper} {f x : Tmp} {tys : Array TypeId} {i : Nat} {Q : Exit -> St -> Nat -> Prop} (k : Nat) {v : Value} {x0 : Tm}
 (hk0 : ops.toList[k]? = some o) (hnd : noDefer ops.toList = true) (hg : o.guard = none) (hop : o.op = .call { callee := .value (.tmp f), args := #[.tmp x], argTypes := tys }) (hv : vs[i]? = some v) (hdet : ∀ ψ S w u, RepT P ψ S w x0 u -> u = v)
 (h : vcOps P t.get (vcCall P (sums L) base) ops.toList (ops.toList.take k) st fun st1 => lookT st1.tmps f = .va (.c (.d (.v (.func (.yield l) #[] #[])))) /\ lookT st1.tmps x = x0 /\
   (putK st1 o.dst (.va (.c (.kb true))) fun st2 => vcOps P t.get (vcCall P (sums L) base) ops.toList (ops.toList.drop (k + 1)) st2 fun st3 => Q .normal st3 (i + 1)) /\
   (putK st1 o.dst (.va (.c (.kb false))) fun st2 => vcOps P t.get (vcCall P (sums L) base) ops.toList (ops.toList.drop (k + 1)) st2 fun st3 => Q .normal st3 (vs.length + 1))) : ISat P base J S0 (.region id ops false) st i Q := by
 obtain ⟨pre, post, hops, e1, e2⟩ : ∃ pre post, ops.toList = pre ++ o :: post /\ ops.toList.take k = pre /\ ops.toList.drop (k + 1) = post := by
  obtain ⟨hlt, he⟩ := List.getElem?_eq_some_iff.1 hk0
  refine ⟨_, _, ?_, rfl, rfl⟩
  conv => lhs; rw [<- List.take_append_drop k ops.toList, List.drop_eq_getElem_cons hlt, he]
 rw [e1, e2] at h
 refine ⟨fun ψ S w a hr hj => (wpIn_wide (n := 0)).1 (wpIn_region ?_)⟩
 have hwd : ∀ {st : St} {ψ : Psi} {S : Nat -> Prop} {w : World} {a : Act}, Rel P base ψ S w st a -> wd [] a = a := fun h => by
  have := h.defers
  rename_i a
  obtain ⟨x, y⟩ := a
  cases this; rfl
 have hsz : ops.size = pre.length + (1 + post.length) := by
  have := congrArg List.length hops
  simpa [Nat.add_comm, Nat.add_left_comm] using this
 have hrg : List.range ops.size = List.range' 0 pre.length ++ (pre.length :: List.range' (pre.length + 1) post.length) := by
  rw [List.range_eq_range', hsz, <- List.range'_append_1, Nat.zero_add, Nat.add_comm 1, List.range'_succ]
 have hat : ∀ k (o' : Oper), ops[k]? = some o' ↔ (pre ++ o :: post)[k]? = some o' := fun k o' => by rw [<- hops, Array.getElem?_toList]
 rw [hrg, <- hwd hr]
 refine vcOps_okR (F := Fence.wide) (n := 0) (ds := []) (.inl rfl) (TT.tysOk ht) (TT.zeros ht) (vcCall_ok (sums_ok hL) base) _ hnd pre 0 ψ S w st a _ (fun i o ho => by
  rw [hat, Nat.zero_add, List.getElem?_append_left (List.getElem?_eq_some_iff.1 ho).1]; exact ho) hr h ?_
 rintro st1 ψ1 S1 w1 a1 ⟨hl, hx0, hkT, hkF⟩ hr1 he1
 have hj1 := hj.ext hab he1 hr1
 rw [hwd hr1]
 have ho : ops[pre.length]? = some o := by rw [hat, List.getElem?_append_right (Nat.le_refl _)]; simp
 simp only [wpOpsIn, ho]
 have hwt : Region.wanted o (yielded ops a1.tmps) = true := by simp [Region.wanted, hg]
 rw [if_pos hwt]
 obtain ⟨U, j1, j2, j3⟩ := hj1
 have hfv : a1.eval (.tmp f) = .func (.yield l) #[] #[] := by
  have := hr1.tmps f
  rw [hl] at this
  have key : ∀ u, RepD S1 w1 (.v (.func (.yield l) #[] #[])) u -> u = .func (.yield l) #[] #[] := fun u h => by cases h; rfl
  exact key _ this
 have hxv : a1.eval (.tmp x) = v := hdet ψ1 S1 w1 _ (hx0 ▸ hr1.tmps x)
 refine yield_in hop hfv (by rw [hxv]; exact hY i U w1 v j1 hv) ?_
 rintro e w2 ⟨bb, rfl, k1, k2, k3⟩
 refine ⟨_, rfl, ?_⟩
 have hk : putK st1 o.dst (.va (.c (.kb bb))) fun st2 => vcOps P t.get (vcCall P (sums L) base) ops.toList post st2 fun st3 => Q .normal st3 (afterY vs.length i bb) := by
  cases bb with
  | true => exact hkT
  | false => exact hkF
 obtain ⟨hr2, _⟩ := hr1.moves (U := fun b => ¬ (U b \/ S0 b)) (fun b hb => ⟨fun hs => hb ((j3 b hs).symm), fun k m hk => hb (.inl (j2 k b m hk))⟩) k2 fun b hb hn => k3 b hb (Classical.not_not.1 hn)
 obtain ⟨st2, hk2, hr3⟩ := putK_rel (v := .bool bb) hk hr2 rfl
 have := vcOps_okR (F := Fence.wide) (n := 0) (ds := []) (.inl rfl) (TT.tysOk ht) (TT.zeros ht) (vcCall_ok (sums_ok hL) base) (ops := ops) (Q := fun e a' w' => ∃ st' ψ' S' i', Q e st' i' /\ Rel P base ψ' S' w' st' a' /\ JR J S0 i' ψ' S' w') [] hnd post (pre.length + 1) ψ1 S1 w2 st2 _ _ (fun i o ho => by
  rw [hat, List.getElem?_append_right (by omega), show pre.length + 1 + i - pre.length = i + 1 by omega]; simpa using ho) hr3 hk2 (fun st3 ψ3 S3 w3 a3 q1 q2 q3 => ?_)
 . rw [hwd hr3, List.append_nil] at this; exact this
 . rw [hwd q2]
   exact ⟨st3, ψ3, S3, _, q1, q2, JR.ext hab ⟨U, k1, j2, j3⟩ q3 q2⟩
theorem seqOk_of {f : Nat} {fn : Func} {c : Code} (hf : P.funcs[f]? = some fn) (hb : fn.body = some c) (hn : 2 <= fn.ntmps) (hres : fn.results = #[]) {cs : List DV} {p : Value} (hS : SOk P S w) (hp : RepC P (fun _ => none) S w (.rp cs) p)
 (h : ∀ l J, Abide J -> Hands P l vs S J -> ISat P 0 J S c ⟨[(0, .va (.c (.d (.v (.func (.yield l) #[] #[]))))), (1, .va (.c (.rp cs)))], [], 0, fn.ntmps⟩ 0 fun e _ i => (e = .normal \/ e = .ret) /\ (i = vs.length \/ i = vs.length + 1)) : SeqOk P f #[p] vs S w := by
 refine ⟨fun l J hab hY h0 => callsIn_wide.2 ?_⟩
 obtain ⟨nm, orig, targs, params, rts, nfree, ntmps, rs, body, nr, ours, file, el, ln, met, tn⟩ := fn
 have hb : body = some c := hb
 subst hb
 have hres : rs = #[] := hres
 subst hres
 have hn : 2 <= ntmps := hn
 refine calls_of_wp hf rfl ?_
 have hv : All2 (RepVa P (fun _ => none) S w) [.c (.d (.v (.func (.yield l) #[] #[]))), .c (.rp cs)] [.func (.yield l) #[] #[], p] := ⟨.v trivial, hp, trivial⟩
 have hrel : Rel P 0 (fun _ => none) S w ⟨zipN 0 ([Va.c (.d (.v (.func (.yield l) #[] #[]))), Va.c (.rp cs)].map .va), [], 0, ntmps⟩ { tmps := #[.func (.yield l) #[] #[], p] ++ Array.replicate (ntmps - 2) undef, defers := [] } :=
  ⟨Nat.le_refl _, ⟨fun _ _ => rfl, fun k l hk => (by cases hk), fun _ _ _ _ _ hk => (by cases hk), fun _ _ _ hk => (by cases hk), fun _ _ _ hk => (by cases hk), hS⟩, by simp; omega, rfl, fun t => start_tmps hv ntmps t⟩
 refine wp_mono ((h l J hab hY).run _ S w _ hrel ⟨fun _ => False, h0, fun _ _ _ hk => (by cases hk), fun _ h => .inl h⟩) ?_
 rintro e a' w' ⟨st', ψ', S', i', ⟨he, hi⟩, hr', U, hj, _, _⟩
 have main : a'.defers = [] /\ ∃ v, (results ⟨nm, orig, targs, params, rts, nfree, ntmps, #[], some c, nr, ours, file, el, ln, met, tn⟩ a'.tmps).run P w' = .ok v w' /\ (∃ v', Ending.returned v = .returned v') /\ ∃ U i, (i = vs.length \/ i = vs.length + 1) /\ J i U w' :=
  ⟨hr'.defers, _, results_run (vs := []) rfl, ⟨_, rfl⟩, U, i', hi, hj⟩
 rcases he with rfl | rfl
 . exact main
 . exact main
theorem seq_rel {ts : List (Nat × Tm)} {h : List (Nat × Blk)} {n m g f kb : Nat} {cs : List DV} (hg : lookT ts g = .va (.c (.fn f [(kb, 0)]))) (hb : lookB h kb = .fz cs) (hr : Rel P base ψ S w ⟨ts, h, n, m⟩ a) {W : World} {lb : Array Value}
 (hx : Ext0 S w S W) (hlb : a.tmps.getD g undef = .func (.func f) #[] lb) : ∃ p, lb = #[p] /\ SOk P S W /\ RepC P (fun _ => none) S W (.rp cs) p := by
 have hgr := hr.tmps g
 rw [show lookT (St.mk ts h n m).tmps g = _ from hg, hlb] at hgr
 obtain ⟨lb', e, hc⟩ := hgr
 cases e
 obtain ⟨lbl⟩ := lb
 match lbl, hc with
 | [x], ⟨⟨b, mm, h1, hxe⟩, _⟩ =>
   have hxe : x = .pointer (some ⟨b, 0, none⟩) := hxe
   subst hxe
   have hbk := hr.sim.blk kb _ h1
   rw [show lookB (St.mk ts h n m).heap kb = _ from hb] at hbk
   obtain ⟨hSb, arr, e, fr, h2, h3⟩ := hbk
   have hlat : Later S w S W := ⟨fun _ h => h, fun b hb => hx.old b (hr.sim.sdom.lt b hb)⟩
   refine ⟨_, rfl, hr.sim.sdom.later hlat hx.sdom, b, 0, arr.toList, rfl, hSb, h3.mono fun _ _ h => h.later hlat, fun j y hy => ?_⟩
   have h4 : W.heap[b]? = some (.cells arr e fr) := (hlat.2 b hSb).trans h2
   simp only [World.cell?, h4, Nat.zero_add]
   rw [<- Array.getElem?_toList]; exact hy
end
end
end Go.Sx
namespace Go.Proofs.YtbjfogojoalnpaaGreat
open Go.Sx
open Go.RowKit Go.Lib Go.Sort
abbrev kyV (k : Ky) : Value := .agg #[.string k.name, .int .i64 k.node]
structure Lsts (nl : Nat) (F : Nat -> List DV) (LL : List (List Ky)) : Prop where
 len : LL.length = nl
 row : ∀ i, i < nl -> ∃ f, F i = [.lst 2 (LL.getD i []).length f] /\ (∀ j, j < (LL.getD i []).length -> f j = kyC (atK (LL.getD i []) j)) /\ (LL.getD i []).length <= 1000000000
 rng : ∀ x, x ∈ LL.flatten -> rI x.node
def kAll (LL : List (List Ky)) : List Value := LL.flatten.map fun k => kyV k.cl
def kIx (LL : List (List Ky)) (i : Nat) : Nat := (LL.take i).flatten.length
theorem kIx_succ {LL : List (List Ky)} {i : Nat} (h : i < LL.length) : kIx LL (i + 1) = kIx LL i + (LL.getD i []).length := by
 unfold kIx
 rw [List.take_succ_eq_append_getElem h, List.flatten_append, List.length_append, List.getD_eq_getElem?_getD, List.getElem?_eq_getElem h]
 simp
theorem kIx_all (LL : List (List Ky)) : kIx LL LL.length = (kAll LL).length := by unfold kIx kAll; rw [List.take_length, List.length_map]
theorem kAt {LL : List (List Ky)} {i j : Nat} (h : i < LL.length) (hj : j < (LL.getD i []).length) : (LL.flatten)[kIx LL i + j]? = some (atK (LL.getD i []) j) := by
 have e : LL.flatten = (LL.take i).flatten ++ ((LL.getD i []) ++ (LL.drop (i + 1)).flatten) := by
  conv => lhs; rw [<- List.take_append_drop i LL, List.flatten_append, List.drop_eq_getElem_cons h, List.flatten_cons]
  rw [List.getD_eq_getElem?_getD, List.getElem?_eq_getElem h]; rfl
 rw [e]
 unfold kIx
 rw [List.getElem?_append_right (by omega), Nat.add_sub_cancel_left, List.getElem?_append_left hj]
 generalize LL.getD i [] = L at *
 unfold atK
 rw [List.getD_eq_getElem?_getD, List.getElem?_eq_getElem hj]; rfl
theorem kAll_at {LL : List (List Ky)} {i j : Nat} (h : i < LL.length) (hj : j < (LL.getD i []).length) : (kAll LL)[kIx LL i + j]? = some (kyV (atK (LL.getD i []) j).cl) := by
 unfold kAll; rw [List.getElem?_map, kAt h hj]; rfl
theorem kRng {LL : List (List Ky)} {nl : Nat} {F : Nat -> List DV} (hL : Lsts nl F LL) {i j : Nat} (h : i < nl) (hj : j < (LL.getD i []).length) : rI (atK (LL.getD i []) j).node :=
 hL.rng _ (List.mem_of_getElem? (kAt (by rw [hL.len]; exact h) hj))
theorem agg_det {P : Program} {ψ : Psi} {S : Nat -> Prop} {w : World} {a b : Value} {u : Value} (h : RepT P ψ S w (.va (.agg [.d (.v a), .d (.v b)])) u) : u = .agg #[a, b] := by
 obtain ⟨arr, rfl, h⟩ := h
 obtain ⟨l⟩ := arr
 match l, h with
 | [x, y], ⟨h1, h2, _⟩ =>
   have e1 : ∀ z v, RepD S w (.v z) v -> v = z := fun z v h => by cases h; rfl
   rw [e1 _ _ h1.1, e1 _ _ h2.1]
theorem chain_seq {S : Nat -> Prop} {W : World} {nl : Nat} {F : Nat -> List DV} {LL : List (List Ky)} (hL : Lsts nl F LL) (hnl : nl <= 1000000000) {p : Value} (hS : SOk Tryz.prog S W) (hp : RepC Tryz.prog (fun _ => none) S W (.rp [.lst 1 nl F]) p) :
 SeqOk Tryz.prog 97 #[p] (kAll LL) S W := by
 refine seqOk_of Tryz.func97 rfl (by decide) rfl hS hp fun l J hab hY => ?_
 refine ISat.seq (ISat.vc tys_ok (L := [(13, ⟨[], FKyClean⟩)]) ⟨fcKyClean, trivial⟩ (by kernel_rfl) hab ?_)
 repeat' (first | exact trivial | refine ⟨?_, ?_⟩ | intro _)
 all_goals first | (with_reducible first | apply qa | apply qb | apply qc | apply qd) | (conv => whnf)
 refine ISat.block (ISat.le hab [] 0 ?_ (ISat.loop hab (X := Nat) (fun i => ⟨[(0, .va (.c (.d (.v (.func (.yield l) #[] #[]))))), (7, .va (.c (.d (.lst 1 nl F)))), (8, vx (.int .i64 nl)), (9, vx (.int .i64 i))], [], 0, 26⟩) (kIx LL) (fun i => nl - i) (fun i => i <= nl) (fun i => i + 1) [] 0 ?_ 0 (Nat.zero_le _) rfl))
 . repeat' (first | exact trivial | exact rfl | (intro _ _; exact rfl) | refine ⟨?_, ?_⟩ | fail)
 intro i hi
 refine ISat.seq (ISat.vc tys_ok (L := [(13, ⟨[], FKyClean⟩)]) ⟨fcKyClean, trivial⟩ (by kernel_rfl) hab ?_)
 repeat' (first | exact trivial | refine ⟨?_, ?_⟩ | intro _)
 all_goals first | (with_reducible first | apply qa | apply qb | apply qc | apply qd) | (conv => whnf)
 refine ISat.seq (ISat.vc tys_ok (L := [(13, ⟨[], FKyClean⟩)]) ⟨fcKyClean, trivial⟩ (by kernel_rfl) hab ?_)
 repeat' (first | exact trivial | refine ⟨?_, ?_⟩ | intro _)
 all_goals first | (with_reducible first | apply qa | apply qb | apply qc | apply qd) | (conv => whnf)
 . have hlt : i < nl := by have := of_decide_eq_true ‹decide ((i : Int) < nl) = true›; omega
   obtain ⟨f, hf, hfj, hfl⟩ := hL.row i hlt
   refine ISat.seq (ISat.block (ISat.seq (ISat.vc tys_ok (L := [(13, ⟨[], FKyClean⟩)]) ⟨fcKyClean, trivial⟩ (by kernel_rfl) hab ?_)))
   repeat' (first | exact trivial | refine ⟨?_, ?_⟩ | intro _)
   all_goals first | (with_reducible first | apply qa | apply qb | apply qc | apply qd) | (conv => whnf)
   all_goals first | omega | skip
   simp only [Int.toNat_natCast, Nat.zero_add, hf]
   repeat' (first | exact trivial | refine ⟨?_, ?_⟩ | intro _)
   all_goals first | (with_reducible first | apply qa | apply qb | apply qc | apply qd) | (conv => whnf)
   refine ISat.seq (ISat.vc tys_ok (L := [(13, ⟨[], FKyClean⟩)]) ⟨fcKyClean, trivial⟩ (by kernel_rfl) hab ?_)
   repeat' (first | exact trivial | refine ⟨?_, ?_⟩ | intro _)
   all_goals first | (with_reducible first | apply qa | apply qb | apply qc | apply qd) | (conv => whnf)
   refine ISat.block (ISat.le hab [] 0 ?_ (ISat.loop hab (X := Nat) (fun j => ⟨[(0, .va (.c (.d (.v (.func (.yield l) #[] #[]))))), (7, .va (.c (.d (.lst 1 nl F)))), (8, vx (.int .i64 nl)), (9, vx (.int .i64 i)), (13, .va (.c (.d (.lst 2 (LL.getD i []).length f)))), (14, vx (.int .i64 (LL.getD i []).length)), (15, vx (.int .i64 j))], [], 0, 26⟩) (fun j => kIx LL i + j) (fun j => (LL.getD i []).length - j) (fun j => j <= (LL.getD i []).length) (fun j => j + 1) [] 0 ?_ 0 (Nat.zero_le _) rfl))
   . repeat' (first | exact trivial | exact rfl | (intro _ _; exact rfl) | refine ⟨?_, ?_⟩ | fail)
   intro j hj
   refine ISat.seq (ISat.vc tys_ok (L := [(13, ⟨[], FKyClean⟩)]) ⟨fcKyClean, trivial⟩ (by kernel_rfl) hab ?_)
   repeat' (first | exact trivial | refine ⟨?_, ?_⟩ | intro _)
   all_goals first | (with_reducible first | apply qa | apply qb | apply qc | apply qd) | (conv => whnf)
   refine ISat.seq (ISat.vc tys_ok (L := [(13, ⟨[], FKyClean⟩)]) ⟨fcKyClean, trivial⟩ (by kernel_rfl) hab ?_)
   repeat' (first | exact trivial | refine ⟨?_, ?_⟩ | intro _)
   all_goals first | (with_reducible first | apply qa | apply qb | apply qc | apply qd) | (conv => whnf)
   . have hjl : j < (LL.getD i []).length := by have := of_decide_eq_true ‹decide ((j : Int) < (LL.getD i []).length) = true›; omega
     have hfj' := hfj j hjl
     have hri := kRng hL hlt hjl
     have hri2 := Ky.cl_r hri
     unfold rI at hri hri2
     refine ISat.seq (ISat.block (ISat.seq (ISat.vc tys_ok (L := [(13, ⟨[], FKyClean⟩)]) ⟨fcKyClean, trivial⟩ (by kernel_rfl) hab ?_)))
     repeat' (first | exact trivial | (with_reducible exact (Nat.le_refl 0)) | refine ⟨?_, ?_⟩ | intro _)
     all_goals first | (with_reducible first | apply qa | apply qb | apply qc | apply qd) | (conv => whnf)
     all_goals first | omega | skip
     simp only [Int.toNat_natCast, Nat.zero_add, hfj']
     repeat' (first | exact trivial | (with_reducible exact (Nat.le_refl 0)) | refine ⟨?_, ?_⟩ | intro _)
     all_goals first | (with_reducible first | apply qa | apply qb | apply qc | apply qd) | (conv => whnf)
     refine ISat.seq (ISat.yield tys_ok (L := [(13, ⟨[], FKyClean⟩)]) ⟨fcKyClean, trivial⟩ hab hY 3 rfl (by kernel_rfl) rfl rfl (kAll_at (by rw [hL.len]; exact hlt) hjl) (fun ψ S w u h => agg_det h) ?_)
     repeat' (first | exact trivial | (with_reducible exact (Nat.le_refl 0)) | refine ⟨?_, ?_⟩ | intro _)
     all_goals first | (with_reducible first | apply qa | apply qb | apply qc | apply qd) | (conv => whnf)
     all_goals first | exact hri.1 | exact hri.2 | exact hri2.1 | exact hri2.2 | omega | rfl | skip
     all_goals refine ISat.vc tys_ok (L := [(13, ⟨[], FKyClean⟩)]) ⟨fcKyClean, trivial⟩ (by kernel_rfl) hab ?_
     repeat' (first | exact trivial | (with_reducible exact (Nat.le_refl 0)) | refine ⟨?_, ?_⟩ | intro _)
     all_goals first | (with_reducible first | apply qa | apply qb | apply qc | apply qd) | (conv => whnf)
     all_goals first | (exact absurd ‹(!true) = true› (by decide)) | (exact absurd ‹(!false) = false› (by decide)) | exact .inr rfl | (exact ⟨.inr rfl, .inr rfl⟩) | skip
     refine ISat.vc tys_ok (L := [(13, ⟨[], FKyClean⟩)]) ⟨fcKyClean, trivial⟩ (by kernel_rfl) hab ?_
     repeat' (first | exact trivial | (with_reducible exact (Nat.le_refl 0)) | refine ⟨?_, ?_⟩ | intro _)
     all_goals first | (with_reducible first | apply qa | apply qb | apply qc | apply qd) | (conv => whnf)
     all_goals first | omega | rfl | (exact congrArg (Value.int .i64) (by first | (rw [wI_id _ (by omega) (by omega)]; omega) | omega | (dsimp only; omega))) | (have hd := of_decide_eq_false ‹decide ((j : Int) < (LL.getD i []).length) = false›; rw [kIx_succ (by rw [hL.len]; exact hlt)]; omega)
   . refine ISat.vc tys_ok (L := [(13, ⟨[], FKyClean⟩)]) ⟨fcKyClean, trivial⟩ (by kernel_rfl) hab ?_
     repeat' (first | exact trivial | (with_reducible exact (Nat.le_refl 0)) | refine ⟨?_, ?_⟩ | intro _)
     all_goals first | (with_reducible first | apply qa | apply qb | apply qc | apply qd) | (conv => whnf)
     all_goals first | omega | rfl | (exact congrArg (Value.int .i64) (by first | (rw [wI_id _ (by omega) (by omega)]; omega) | omega | (dsimp only; omega))) | (have hd := of_decide_eq_false ‹decide ((j : Int) < (LL.getD i []).length) = false›; rw [kIx_succ (by rw [hL.len]; exact hlt)]; omega)
 . exact .inl rfl
 . have hge : ¬ i < nl := by have := of_decide_eq_false ‹decide ((i : Int) < nl) = false›; omega
   have e : i = nl := by omega
   rw [e, <- kIx_all, hL.len]; exact .inl rfl
end Go.Proofs.YtbjfogojoalnpaaGreat
