/- A statement whose order is open, taken by held blocks. No condition. -/
import Derived.Test.YthkknkhpfffnbaaGreatB11
import Derived.OrdersHeld
set_option linter.all false
set_option maxHeartbeats 8000000
set_option maxRecDepth 100000
namespace Go.Sx
section
variable {P : Program} {τ : Tys} {base : Nat} {ψ : Psi} {S : Nat → Prop} {w : World} {st : St} {a : Act} {o : Oper} {K : St → Prop} {H : World → Prop}
def VRun (P : Program) (H : World -> Prop) (o : Oper) (v : Value) (a : Act) : Prop := ∀ w, H w -> (execOp a.eval o).run P w = .ok (.value v) w
def ValOk (P : Program) (H : World -> Prop) (base : Nat) (ψ : Psi) (S : Nat -> Prop) (w : World) (a : Act) (o : Oper) (K : St -> Prop) : Prop :=
 ∃ v st', VRun P H o v a /\ K st' /\ Rel P base ψ S w st' (a.put o.dst v)
theorem ValOk.of {x : Tm} {v : Value} (hr : VRun P H o v a) (hrel : Rel P base ψ S w st a) (hx : RepT P ψ S w x v) (hk : putK st o.dst x K) : ValOk P H base ψ S w a o K := by
 obtain ⟨st', h1, h2⟩ := putK_rel hk hrel hx
 exact ⟨v, st', hr, h1, h2⟩
theorem run_loadVarH (hτ : TysOk P τ) {t : TypeId} {i : TI} (ht : τ t = some i) {b off : Nat} {ys : List Value} (hlen : ys.length = i.size)
 (hc : ∀ w', H w' -> ∀ j y, ys[j]? = some y -> w'.cell? ⟨b, off + j, none⟩ = some y) {y : Va} {cs : List Cell} (hcs : All2 (RepM P ψ S w) cs ys) (hm : mkVa (wantAgg i.desc) cs = some y) :
 ∃ v, (∀ w', H w' -> (loadVar t ⟨b, off, none⟩).run P w' = .ok v w') /\ RepVa P ψ S w y v := by
 have hadd : ∀ j, (⟨b, off, none⟩ : Addr).add j = ⟨b, off + j, none⟩ := by
  intro j; unfold Addr.add; split
  . rename_i h; simp [h]
  . rfl
 cases hw : wantAgg i.desc with
 | true =>
   rw [hw] at hm
   simp only [mkVa, Option.some.injEq] at hm
   subst hm
   refine ⟨.agg ys.toArray, fun w' hH => ?_, ys.toArray, rfl, by simpa using hcs⟩
   simp only [loadVar, Sem.run_bind, run_agg hτ ht, Result.andThen_ok, hw]
   simp only [if_true, Sem.run_bind, run_size hτ ht, Result.andThen_ok, <- hlen]
   rw [run_loadCells_list (P := P) w' _ ys (fun j v hj => by rw [hadd]; exact hc w' hH j v hj)]
   rfl
 | false =>
   rw [hw] at hm
   cases cs with
   | nil => simp [mkVa] at hm
   | cons c cs =>
     cases cs with
     | cons _ _ => simp [mkVa] at hm
     | nil =>
       simp only [mkVa, Option.some.injEq] at hm
       subst hm
       cases ys with
       | nil => exact hcs.elim
       | cons y1 ys =>
         refine ⟨y1, fun w' hH => ?_, hcs.1.1⟩
         have h0 := hc w' hH 0 y1 (by simp)
         simp only [Nat.add_zero] at h0
         simp only [loadVar, Sem.run_bind, run_agg hτ ht, Result.andThen_ok, hw]
         simp [h0]
def hOp (P : Program) (τ : Tys) (s2 : Nat) (o : Oper) (st : St) (K : St -> Prop) : Prop :=
 match o.op with
 | .move x => putK st o.dst (ev st x) K
 | .assign x => putK st o.dst (ev st x) K
 | .fieldAddr s x f => match ev st x with
   | .va (.c (.own _ _)) => oFieldAddr τ s (ev st x) f fun y => putK st o.dst y K
   | _ => False
 | .load t x => match ev st (.tmp s2), ev st x with
   | .va (.c (.own kx _)), .va (.c (.own k _)) => match Nat.beq k kx, lookB st.heap k, lookB st.heap kx with
     | false, .cells _, .cells _ => oLoad τ st.heap t (ev st x) fun y => putK st o.dst y K
     | _, _, _ => False
   | _, _ => False
 | .build t parts => oBuild τ (ev st) t parts.toList fun y => putK st o.dst y K
 | .call c => match c with
   | ⟨callee, args, ts⟩ => match callee, mapO (fun x => asVa (ev st x)) args.toList with
     | .builtin .len, some [.c (.d (.lst sz n f))] => oLen P τ ts o.type (some [.c (.d (.lst sz n f))]) fun y => putK st o.dst y K
     | _, _ => False
 | _ => False
theorem hOp_ok (hτ : TysOk P τ) (hz : ∀ t i, τ t = some i -> zeroOk i.zero) {s2 b2 o2 : Nat} (hrel : Rel P base ψ S w st a) (hs2 : a.eval (.tmp s2) = .pointer (some ⟨b2, o2, none⟩))
 (hH : ∀ w', H w' -> ∀ b, b ≠ b2 -> w'.heap[b]? = w.heap[b]?) (hk : hOp P τ s2 o st K) : ValOk P H base ψ S w a o K := by
 unfold hOp at hk
 split at hk
 . rename_i x hop
   exact ValOk.of (v := a.eval x) (fun w' _ => by simp only [execOp, hop]; rfl) hrel (ev_rep hrel x) hk
 . rename_i x hop
   exact ValOk.of (v := a.eval x) (fun w' _ => by simp only [execOp, hop]; rfl) hrel (ev_rep hrel x) hk
 . rename_i s x f hop
   have hx := ev_rep hrel x
   split at hk
   . rename_i k off e
     rw [e] at hx
     obtain ⟨b, m, h1, h2⟩ := hx
     unfold oFieldAddr at hk
     split at hk
     . rename_i fs sz bt z ht
       split at hk
       . rename_i nm ty off' em tg pk bo hf
         split at hk
         . rename_i d2 s2' b2' z2 ht2
           rw [e] at hk
           refine ValOk.of (x := .va (.c (.own k (off + off')))) (v := .pointer (some ⟨b, off + off', none⟩)) (fun w' _ => ?_) hrel ⟨b, m, h1, rfl⟩ hk
           have hund := run_und hτ ht w'
           simp only at hund
           simp only [execOp, hop, Instr.fieldAt, Sem.run_bind, hund, Result.andThen_ok, hf, h2, Instr.sureAddr, Sem.run_pure]
           rw [fieldPlace_run hτ (f := ⟨nm, ty, off', em, tg, pk, bo⟩) ht2 (by simp)]
           rfl
         . exact hk.elim
       . exact hk.elim
     . exact hk.elim
   . exact hk.elim
 . rename_i t x hop
   split at hk
   . rename_i kx ox k off e2 e1
     split at hk
     . rename_i cs1 cs2 hne hl1 hl2
       have hp2 := ev_rep hrel (.tmp s2)
       rw [e2] at hp2
       obtain ⟨b', m', g1, g2⟩ := hp2
       rw [hs2] at g2
       have hp1 := ev_rep hrel x
       rw [e1] at hp1
       obtain ⟨b, m, f1, f2⟩ := hp1
       have hbb : b ≠ b2 := by
        intro h
        have hb' : b' = b2 := by cases g2; rfl
        subst h; subst hb'
        have := hrel.sim.inj k kx _ m m' f1 g1 (by rw [hl1]; trivial) (by rw [hl2]; trivial)
        subst this
        exact Nat.ne_of_beq_eq_false hne rfl
       unfold oLoad at hk
       split at hk
       . rename_i d s bb z ht
         obtain ⟨b3, off3, ys, cs, hv, hlen, hc, hcs, hk⟩ := loadAt_ok hrel.sim (ev_rep hrel x) hk
         rw [f2] at hv
         have hb3 : b3 = b := by cases hv; rfl
         have ho3 : off3 = off := by cases hv; rfl
         subst hb3; subst ho3
         split at hk
         . rename_i y hy
           obtain ⟨v, h1, h2⟩ := run_loadVarH (H := H) hτ ht hlen (fun w' hw' j y hj => by
            rw [cell_of_heap (hH w' hw' b3 hbb)]; exact hc j y hj) hcs hy
           refine ValOk.of (x := .va y) (v := v) (fun w' hw' => ?_) hrel h2 hk
           simp only [execOp, hop, Instr.loadAt, f2, Instr.sureAddr, Sem.run_bind, Sem.run_pure, Result.andThen_ok, h1 w' hw']
         . exact hk.elim
       . exact hk.elim
     . exact hk.elim
   . exact hk.elim
 . rename_i t parts hop
   unfold oBuild at hk
   split at hk
   . rename_i fs sz bt z ht
     split at hk
     . rename_i cs hall hfill
       obtain ⟨arr', h1, h2⟩ := fill_ok (P := P) hrel parts.toList _ z.cells _ (zero_cells (hz _ _ ht)) hfill
       refine ValOk.of (x := .va (.agg cs)) (v := .agg arr') (fun w' _ => ?_) hrel ⟨arr', rfl, h2⟩ hk
       have hund := run_und hτ ht w'
       have hzero := run_zeroV hτ ht w'
       simp only at hund hzero
       have hplaces : (fs.mapM (fun f => do pure (f.offset, <- sizeOf f.type)) : Sem (Array (Nat × Nat))).run P w' = .ok (fs.map fun f => (f.offset, szOf τ f.type)) w' := by
        refine run_arrMapM fs fun f hf => ?_
        have := (List.all_eq_true.1 hall) f hf
        cases hft : τ f.type with
        | none => simp [hft] at this
        | some i => simp [run_size hτ hft, szOf, hft]
       simp only [execOp, hop, Instr.build, Sem.run_bind, hund, hzero, Result.andThen_ok, hplaces]
       have : (Array.map (fun p => (p.1, a.eval p.2)) parts).toList = parts.toList.map fun p => (p.1, a.eval p.2) := by simp
       rw [this, h1]
       rfl
     . exact hk.elim
   . rename_i len e sz bt z ht
     split at hk
     . rename_i d esz b ez hte
       split at hk
       . rename_i cs hfill
         obtain ⟨arr', h1, h2⟩ := fillRow_ok (P := P) hrel parts.toList _ z.cells _ (zero_cells (hz _ _ ht)) hfill
         refine ValOk.of (x := .va (.agg cs)) (v := .agg arr') (fun w' _ => ?_) hrel ⟨arr', rfl, h2⟩ hk
         have hund := run_und hτ ht w'
         have hzero := run_zeroV hτ ht w'
         have hes := run_size (w := w') hτ hte
         simp only at hund hzero hes
         simp only [execOp, hop, Instr.build, Sem.run_bind, hund, hzero, Result.andThen_ok, hes]
         have : (Array.map (fun p => (p.1, a.eval p.2)) parts).toList = parts.toList.map fun p => (p.1, a.eval p.2) := by simp
         rw [this, h1]
         rfl
       . exact hk.elim
     . exact hk.elim
   . exact hk.elim
 . rename_i c hop
   obtain ⟨callee, args, ts⟩ := c
   simp only at hk
   split at hk
   . rename_i sz n f hm
     have hex := call_builtin (a := a) hop
     obtain ⟨v, hv1, hv2⟩ : ∃ v, args.map a.eval = #[v] /\ RepVa P ψ S w (.c (.d (.lst sz n f))) v := by
      have := args_rep hrel hm
      rw [<- Array.toList_map] at this
      generalize args.map a.eval = A at this
      obtain ⟨l⟩ := A
      cases l with
      | nil => exact this.elim
      | cons v l => cases l with
        | nil => exact ⟨v, rfl, this.1⟩
        | cons _ _ => exact this.2.elim
     unfold oLen at hk
     split at hk
     . rename_i t hts
       split at hk
       . rename_i e sz' bt z ht
         have run : ∀ a0 n c, args.map a.eval = #[.slice a0 n c] -> ∀ w', (execOp a.eval o).run P w' = .ok (.value (.int .i64 n)) w' := by
          intro a0 n c hv w'
          have hund := run_und hτ ht w'
          simp only at hund
          rw [hex, hv]
          simp only [builtin, Builtin.len_, hts, Sem.run_bind]
          simp [hund, goInt]
         cases hv2 with
         | nil => exact ValOk.of (fun w' _ => run _ _ _ hv1 w') hrel (x := vx _) (RepD.v trivial) hk
         | lst => exact ValOk.of (fun w' _ => run _ _ _ hv1 w') hrel (x := vx _) (RepD.v trivial) hk
       . rename_i i ht hne
         simp only at hk
       . exact hk.elim
     . exact hk.elim
   . exact hk.elim
 . exact hk.elim
def takeOk (ops : Array Oper) (s2 : Nat) : List Nat -> Array Bool -> Bool
 | [], _ => true
 | i :: is, listed => (Region.ready .any ops listed).contains i && Region.free .any ops listed i && (match ops[i]? with | some o => o.guard.isNone && !(o.dst == some s2) | none => false) && takeOk ops s2 is (listed.setIfInBounds i true)
def setAll : List Nat -> Array Bool -> Array Bool
 | [], l => l
 | i :: is, l => setAll is (l.setIfInBounds i true)
def hTake (P : Program) (τ : Tys) (s2 : Nat) (all : List Oper) : List Nat -> St -> (St -> Prop) -> Prop
 | [], st, K => K st
 | i :: is, st, K => match all[i]? with
   | some o => hOp P τ s2 o st fun st => hTake P τ s2 all is st K
   | none => False
def tOp (τ : Tys) (s2 : Nat) (o : Oper) (st : St) (K : St -> Prop) : Prop :=
 match o.op with
 | .move x => putK st o.dst (ev st x) K
 | .assign x => putK st o.dst (ev st x) K
 | .store t p x => match ev st (.tmp s2), ev st p with
   | .va (.c (.own kx _)), .va (.c (.own k _)) => match Nat.beq k kx with
     | true => oStore τ st o.dst t (ev st p) (ev st x) K
     | false => False
   | _, _ => False
 | _ => False
def tailOk (ops : Array Oper) (s2 : Nat) : List Nat -> Array Bool -> Bool
 | [], listed => (Region.ready .any ops listed).isEmpty
 | i :: is, listed => Region.ready .any ops listed == [i] && (match ops[i]? with | some o => o.guard.isNone && !(o.dst == some s2) | none => false) && tailOk ops s2 is (listed.setIfInBounds i true)
def tTake (τ : Tys) (s2 : Nat) (all : List Oper) : List Nat -> St -> (St -> Prop) -> Prop
 | [], st, K => K st
 | i :: is, st, K => match all[i]? with
   | some o => tOp τ s2 o st fun st => tTake τ s2 all is st K
   | none => False
variable {ops : Array Oper} {Q : Exit → Act → World → Prop} {s2 b2 o2 : Nat}
theorem put_eval {d : Option Tmp} {v : Value} (h : (d == some s2) = false) : (a.put d v).eval (.tmp s2) = a.eval (.tmp s2) := by
 cases d with
 | none => rfl
 | some t =>
   have ht : t ≠ s2 := fun e => by subst e; simp at h
   show (a.tmps.setIfInBounds t v).getD s2 undef = a.tmps.getD s2 undef
   rw [Array.getD_eq_getD_getElem?, Array.getD_eq_getD_getElem?, Array.getElem?_setIfInBounds_ne ht]
theorem hTake_ok (hτ : TysOk P τ) (hz : ∀ t i, τ t = some i -> zeroOk i.zero) (hsel : Region.noSelect ops = true) (hQ : ∀ c a w, ¬ Q (.panic c) a w) (hHw : H w)
 (hH : ∀ w', H w' -> ∀ b, b ≠ b2 -> w'.heap[b]? = w.heap[b]?) : ∀ (is : List Nat) (m : Nat) (listed : Array Bool) (st : St) (a : Act) (K : St -> Prop), takeOk ops s2 is listed = true -> Rel P base ψ S w st a ->
 a.eval (.tmp s2) = .pointer (some ⟨b2, o2, none⟩) -> hTake P τ s2 ops.toList is st K ->
 (∀ st' a', K st' -> Rel P base ψ S w st' a' -> a'.eval (.tmp s2) = .pointer (some ⟨b2, o2, none⟩) -> wpAnyH P .any ops Q H m (setAll is listed) a' w) -> wpAnyH P .any ops Q H (m + is.length) listed a w
 | [], m, listed, st, a, K, _, hr, hs, hk, hn => hn st a hk hr hs
 | i :: is, m, listed, st, a, K, hp, hr, hs, hk, hn => by
   simp only [takeOk, Bool.and_eq_true] at hp
   obtain ⟨⟨⟨h1, h2⟩, h3⟩, h4⟩ := hp
   split at h3
   . rename_i o ho
     simp only [Bool.and_eq_true, Option.isNone_iff_eq_none, Bool.not_eq_true'] at h3
     obtain ⟨hg, hd⟩ := h3
     have hk : match ops.toList[i]? with
      | some o => hOp P τ s2 o st fun st => hTake P τ s2 ops.toList is st K
      | none => False := hk
     rw [Array.getElem?_toList, ho] at hk
     obtain ⟨v, st', g1, g2, g3⟩ := hOp_ok (H := H) hτ hz hr hs hH hk
     have hy : YieldsIf P ops H o v a := .inl ⟨by simp [Region.wanted, hg], g1⟩
     exact wpAnyH_take ho hsel h2 h1 (fun c a w h => (hQ _ _ _ h).elim) hy hHw (hTake_ok hτ hz hsel hQ hHw hH is m _ st' _ K h4 g3 (by rw [put_eval hd]; exact hs) g2 hn)
   . simp at h3
theorem tOp_ok (hτ : TysOk P τ) (hrel : Rel P base ψ S w st a) (hs2 : a.eval (.tmp s2) = .pointer (some ⟨b2, o2, none⟩)) (hk : tOp τ s2 o st K) {next : Act -> World -> Prop}
 (hn : ∀ st' w' v, K st' -> Rel P base ψ S w' st' (a.put o.dst v) -> Ext base ψ S w ψ S w' -> (∀ b, b ≠ b2 -> w'.heap[b]? = w.heap[b]?) -> next (a.put o.dst v) w') : o.wp P a w next Q := by
 unfold tOp at hk
 split at hk
 . rename_i x hop
   obtain ⟨st', h1, h2⟩ := putK_rel hk hrel (ev_rep hrel x)
   have e : (execOp a.eval o).run P w = .ok (.value (a.eval x)) w := by simp only [execOp, hop]; rfl
   simp only [Oper.wp, e, Oper.upon]
   exact hn _ _ _ h1 h2 (Ext.refl _ _ _ _) fun _ _ => rfl
 . rename_i x hop
   obtain ⟨st', h1, h2⟩ := putK_rel hk hrel (ev_rep hrel x)
   have e : (execOp a.eval o).run P w = .ok (.value (a.eval x)) w := by simp only [execOp, hop]; rfl
   simp only [Oper.wp, e, Oper.upon]
   exact hn _ _ _ h1 h2 (Ext.refl _ _ _ _) fun _ _ => rfl
 . rename_i t p x hop
   have hx := ev_rep hrel x
   have hp := ev_rep hrel p
   split at hk
   . rename_i kx ox k off e2 ep
     split at hk
     . rename_i hkk
       have hkk := Nat.eq_of_beq_eq_true hkk
       subst hkk
       have hp2 := ev_rep hrel (.tmp s2)
       rw [e2] at hp2
       obtain ⟨b', m', q1, q2⟩ := hp2
       rw [hs2] at q2
       have hb' : b' = b2 := by cases q2; rfl
       subst hb'
       rw [ep] at hp
       obtain ⟨b, mm, hψ, hpv⟩ := hp
       have hbb : b = b' := by rw [hψ] at q1; cases q1; rfl
       subst hbb
       rw [ep] at hk
       unfold oStore at hk
       split at hk
       . rename_i d s bb z ht
         split at hk
         . rename_i y k2 off2 ts h n m ep2 ey
           cases ep2
           rw [ey] at hx
           split at hk
           . rename_i cs hlay hbk hsz
             have hsz := Nat.eq_of_beq_eq_true hsz
             split at hk
             . rename_i r hr
               rw [fCs_eq] at hk
               have hb := hrel.sim.blk k _ hψ
               simp only [hbk] at hb
               obtain ⟨arr, e, h1, h2⟩ := hb
               have hcells := RepVa.cells hx hlay
               obtain ⟨q1, q2, _⟩ := setAt_spec _ _ _ _ hr
               have hl2 := h2.length
               have hl3 := hcells.length
               obtain ⟨w', arr', g1, g2, g3, g4, g5, g6, g7, g8, g9⟩ := run_storeCells (P := P) (off := off) (a.eval x).cells.toList 0 w arr h1 (by
                rcases q2 with q2 | q2
                . left; rw [q2] at hl3; simpa using hl3.symm
                . right; simp at hl2 hl3 ⊢; omega) (all2_scalar hcells)
               obtain ⟨r1, r2⟩ := hrel.write (w' := w') (blk := .cells r) hψ (by simp only [hbk]; trivial) g5 g6 g7 g8 g9 (fun hl => ⟨arr', e, g2,
                all2_upd (h2.mono fun _ _ h => h.later (PsiSub.refl _) hl) (hcells.mono fun _ _ h => h.later (PsiSub.refl _) hl) hr (by simpa using g3) (fun j => by simpa using g4 j)⟩)
               have er : (execOp a.eval o).run P w = .ok .skip w' := by
                simp only [execOp, hop, Instr.storeAt, hpv, Instr.sureAddr, storeVar, Sem.run_bind, Sem.run_pure, Result.andThen_ok, run_size hτ ht]
                rw [if_neg (by simp at hl3; simp only [ne_eq, Decidable.not_not]; omega)]
                rw [g1]; rfl
               obtain ⟨st', u1, u2⟩ := putK_rel (v := undef) hk r1 rfl
               simp only [Oper.wp, er, Oper.upon]
               exact hn _ _ _ u1 u2 r2 g9
             . exact hk.elim
           . exact hk.elim
         . rename_i hne; simp_all
         . rename_i hne; simp_all
         . exact hk.elim
       . exact hk.elim
     . exact hk.elim
   . exact hk.elim
 . exact hk.elim
theorem tTake_ok (hτ : TysOk P τ) {wH : World} : ∀ (is : List Nat) (n : Nat) (listed : Array Bool) (w : World) (st : St) (a : Act) (K : St -> Prop), tailOk ops s2 is listed = true -> Rel P base ψ S w st a ->
 a.eval (.tmp s2) = .pointer (some ⟨b2, o2, none⟩) -> (∀ b, b ≠ b2 -> w.heap[b]? = wH.heap[b]?) -> tTake τ s2 ops.toList is st K ->
 (∀ st' w' a', K st' -> Rel P base ψ S w' st' a' -> Ext base ψ S w ψ S w' -> Q .normal a' w') -> wpAnyH P .any ops Q (fun w' => ∀ b, b ≠ b2 -> w'.heap[b]? = wH.heap[b]?) (n + is.length) listed a w
 | [], n, listed, w, st, a, K, hp, hr, hs, hw, hk, hn => wpAnyH_done (by simpa [tailOk] using hp) (hn _ _ _ hk hr (Ext.refl _ _ _ _)) n
 | i :: is, n, listed, w, st, a, K, hp, hr, hs, hw, hk, hn => by
   simp only [tailOk, Bool.and_eq_true, beq_iff_eq] at hp
   obtain ⟨⟨h1, h3⟩, h4⟩ := hp
   split at h3
   . rename_i o ho
     simp only [Bool.and_eq_true, Option.isNone_iff_eq_none, Bool.not_eq_true'] at h3
     obtain ⟨hg, hd⟩ := h3
     have hk2 : match ops.toList[i]? with
      | some o => tOp τ s2 o st fun st => tTake τ s2 ops.toList is st K
      | none => False := hk
     rw [Array.getElem?_toList, ho] at hk2
     clear hk
     refine wpAnyH_all h1 (by simp) fun j hj => ?_
     have hj : j = i := by simpa using hj
     subst hj
     unfold wpOp
     rw [ho]
     have hwt : Region.wanted o (yielded ops a.tmps) = true := by simp [Region.wanted, hg]
     simp only [hwt, if_true]
     refine .inl (tOp_ok hτ hr hs hk2 fun st' w' v g1 g2 g3 g4 => ?_)
     have hw' : ∀ b, b ≠ b2 -> w'.heap[b]? = wH.heap[b]? := fun b hb => (g4 b hb).trans (hw b hb)
     exact ⟨hw', tTake_ok hτ is n _ w' st' _ K h4 g2 (by rw [put_eval hd]; exact hs) hw' g1 fun st2 w2 a2 e1 e2 e3 => hn _ _ _ e1 e2 (g3.trans e3)⟩
   . simp at h3
end
theorem draw_held {P : Program} {t : TT} (ht : t.ok P) (hmix : P.follows .mixedOrders = true) {base : Nat} {ops : Array Oper} {id : Nat} {st : St} {Q : Exit -> St -> Prop} (s2 : Nat) (hd tl : List Nat)
 (hp : (Region.noSelect ops && takeOk ops s2 hd (Array.replicate ops.size false) && tailOk ops s2 tl (setAll hd (Array.replicate ops.size false)) && Nat.beq (tl.length + hd.length) ops.size) = true)
 (hs : match ev st (.tmp s2) with | .va (.c (.own _ _)) => True | _ => False)
 (hk : hTake P t.get s2 ops.toList hd st fun st => tTake t.get s2 ops.toList tl st (Q .normal)) : ASat P base (.region id ops true) st Q := by
 simp only [Bool.and_eq_true] at hp
 obtain ⟨⟨⟨h1, h2⟩, h3⟩, h4⟩ := hp
 have h4 := Nat.eq_of_beq_eq_true h4
 refine ⟨fun ψ S w a hr => ?_⟩
 obtain ⟨b2, o2, he⟩ : ∃ b2 o2, a.eval (.tmp s2) = .pointer (some ⟨b2, o2, none⟩) := by
  have := ev_rep hr (.tmp s2)
  split at hs
  . rename_i k o e
    rw [e] at this
    obtain ⟨b, m, _, h⟩ := this
    exact ⟨_, _, h⟩
  . exact hs.elim
 obtain ⟨hrel1, hext1⟩ : Rel P base ψ S { w with drawn := w.drawn + 1 } st a /\ Ext base ψ S w ψ S { w with drawn := w.drawn + 1 } :=
  hr.ext0 ⟨rfl, rfl, rfl, Nat.le_refl _, fun _ _ => rfl, fun _ h => h, fun _ h => .inl h, hr.sim.sdom.lt⟩
 have h := wp_region_held (id := id) (S := fun w' => ∀ b, b ≠ b2 -> w'.heap[b]? = ({ w with drawn := w.drawn + 1 } : World).heap[b]?) (Q := fun e a' w' => e = .normal /\ ∃ st' ψ' S', Q e st' /\ Rel P base ψ' S' w' st' a' /\ Ext base ψ S w ψ' S' w') (a := a) (w := w) hmix (by
  rw [<- h4]
  refine hTake_ok (b2 := b2) (o2 := o2) (TT.tysOk ht) (TT.zeros ht) h1 (fun c a w h => by simp at h) (fun _ _ => rfl) (fun w' hw' => hw') hd tl.length _ st a _ (by rw [h4]; exact h2) hrel1 he hk fun st' a' g1 g2 g3 => ?_
  have := tTake_ok (ops := ops) (base := base) (ψ := ψ) (S := S) (s2 := s2) (b2 := b2) (o2 := o2) (Q := fun e a' w' => e = .normal /\ ∃ st' ψ' S', Q e st' /\ Rel P base ψ' S' w' st' a' /\ Ext base ψ S w ψ' S' w') (TT.tysOk ht) (wH := { w with drawn := w.drawn + 1 }) tl 0 (setAll hd (Array.replicate ops.size false)) _ st' a' _ h3 g2 g3 (fun _ _ => rfl) g1 fun st2 w2 a2 e1 e2 e3 => ⟨rfl, st2, ψ, S, e1, e2, hext1.trans e3⟩
  rw [Nat.zero_add] at this
  rw [h4]; exact this)
 exact wp_mono h fun e a' w' h => h.2
end Go.Sx
namespace Go.Proofs.YthkknkhpfffnbaaGreat
open Go.Sx
theorem okS_row {M n : Nat} {f : Nat -> List DV} (h : okS M n f) {i : Nat} (hi : i < n) : f i = smC (gSm (f i)) := by
 cases M with
 | zero => exact absurd h (Nat.lt_irrefl 0)
 | succ M => exact (h i hi).1
theorem itM_can (F : Md -> Sm -> Md) (m : Md) (f : Nat -> List DV) : ∀ n, itM F m (fun i => smC (gSm (f i))) n = itM F m f n
 | 0 => rfl
 | n + 1 => by show F (itM F m (fun i => smC (gSm (f i))) n) (gSm (f n)) = F (itM F m f n) (gSm (f n)); rw [itM_can F m f n]
theorem allM_can (M : Nat) (m : Md) (n : Nat) (f : Nat -> List DV) : allM M m n (fun i => smC (gSm (f i))) = allM M m n f := by
 cases M with
 | zero => rfl
 | succ M => exact itM_can _ m f n
theorem cntL_can (M n : Nat) (f : Nat -> List DV) : cntL M n (fun i => smC (gSm (f i))) = cntL M n f := by cases M <;> rfl
theorem okS_can {M n : Nat} {f : Nat -> List DV} (h : okS M n f) : okS M n (fun i => smC (gSm (f i))) := by
 cases M with
 | zero => exact h
 | succ M => exact fun i hi => ⟨rfl, (h i hi).2⟩
def gBy (l : List DV) (j : Nat) : Bool := match l[j]? with
 | some (.v (.bool s)) => s
 | _ => false
abbrev vrC (l : List DV) : List DV := [st (gSy l 0), bo (gBy l 1)]
theorem canonV {n : Nat} {f : Nat -> List DV} (h : ∀ i, i < n -> f i = vrC (f i)) : DvE (.lst 2 n f) (.lst 2 n fun i => vrC (f i)) :=
 .rows fun i hi => by rw [<- h i hi]; exact ⟨rfl, fun j a b ha hb => by rw [ha] at hb; cases hb; exact .refl _⟩
def FRGraph (M : Nat) : List Ar -> Option Rs
 | [.agg [.d (.v (.string x0)), .d (.lst 2 n0 f0), .d (.lst 2 p0 g0), .d (.lst 7 k0 b0), .d (.v (.int .i64 _))]] => some ⟨(n0 <= 400000000 /\ p0 <= 400000000) /\ (okS M k0 b0 /\ cntL M k0 b0 <= 800000000), .tup [.agg [.d (.v (.string x0)), .d (it (allM M ⟨2, 0, 0, nR, 0, nR⟩ k0 b0).nodes), .d (.lst 6 ((allM M ⟨2, 0, 0, nR, 0, nR⟩ k0 b0).en + 1) fun i => appRow (allM M ⟨2, 0, 0, nR, 0, nR⟩ k0 b0).en (allM M ⟨2, 0, 0, nR, 0, nR⟩ k0 b0).ef (fun i => Sx.rowAt 6 [it (allM M ⟨2, 0, 0, nR, 0, nR⟩ k0 b0).at', it 1, it 8, st eB, st eB, .lst 5 1 fun i => Sx.rowAt 5 [it 1, it 0, st eB, .v (.slice none 0 0), it 0] (0 + i)] (0 + i)) (0 + i)), .d (.lst 2 (n0 + p0) fun i => appRow n0 f0 g0 (0 + i)), .d (it n0)], .c (.d (.lst 1 (allM M ⟨2, 0, 0, nR, 0, nR⟩ k0 b0).pn (allM M ⟨2, 0, 0, nR, 0, nR⟩ k0 b0).pf))], []⟩
 | _ => none
theorem fcRGraph (M : Nat) : FC Tryz.prog 13 (FRGraph M) := by
 intro xs pre r us h hp
 unfold FRGraph at h
 split at h
 . rename_i x0 n0 f0 p0 g0 k0 b0 a0
   cases h
   obtain ⟨hp0, hp1⟩ := hp
   refine FCat.deep (ys := [.agg [.d (.v (.string x0)), .d (.lst 2 n0 f0), .d (.lst 2 p0 g0), .d (.lst 7 k0 fun i => smC (gSm (b0 i))), .d (.v (.int .i64 a0))]]) ?_ ?_
   . repeat' (first | exact trivial | exact rfl | exact DvE.refl _ | refine ⟨?_, ?_⟩ | fail)
     all_goals first | exact canon7 fun i hi => okS_row hp1.1 hi
   refine fcat tys_ok (l := [(56, ⟨[], (FP zA2 (FRAll M))⟩), (57, ⟨[], FP zW5 FRWith⟩)]) ⟨(fc_nilp zA2 (fcRAll M)), fc_nilp zW5 fcRWith, trivial⟩ Tryz.func13 rfl (by kernel_rfl) true ?_
   obtain ⟨hok, hc⟩ := hp1
   rw [<- cntL_can] at hc
   have hok := okS_can hok
   rw [<- allM_can]
   generalize (fun i => smC (gSm (b0 i))) = B at *
   have hb1 := all_bd M ⟨2, 0, 0, nR, 0, nR⟩ k0 B
   have r1e := hb1.e
   have r1p := hb1.p
   dsimp only at r1e r1p
   repeat' (first | exact trivial | refine ⟨?_, ?_⟩ | intro _)
   all_goals first | (with_reducible first | apply qa | apply qb | apply qc | apply qd) | (conv => whnf)
   all_goals first | omega | exact hok | exact Nat.le_trans r1e (by omega) | exact Nat.le_trans r1p (by omega) | rfl | skip
   generalize allM M ⟨2, 0, 0, nR, 0, nR⟩ k0 B = A at *
   refine draw_held tys_ok (by kernel_rfl) 2 [0, 1, 2, 3, 4, 5, 6, 7, 8, 9, 10, 11, 12] [13, 14] (by kernel_rfl) trivial ?_
   all_goals repeat' (first | exact trivial | refine ⟨?_, ?_⟩ | intro _)
   all_goals first | (with_reducible first | apply qa | apply qb | apply qc | apply qd) | (conv => whnf)
   all_goals first | omega | exact hok | exact Nat.le_trans r1e (by omega) | exact Nat.le_trans r1p (by omega) | rfl | skip
   all_goals first | (intro i hi; rfl)
 . cases h
abbrev vl8 (v : Vl) : List DV := [bo v.i.s.some, it v.i.s.lo, it v.i.s.hi, bo v.i.c.some, it v.i.c.m, it v.i.c.r, bo v.t.null, lst v.t.names]
def gV8 (l : List DV) : Vl := (gB (st eB :: l)).v
def rowOk8 (l : List DV) : Prop := rowOkB (st eB :: l)
theorem rowE_8 {l : List DV} (h : rowOk8 l) : rowE l (vl8 (gV8 l)) := by
 have h1 := rowE_gB h
 refine ⟨Nat.succ.inj h1.1, fun j a b ha hb => h1.2 (j + 1) a b ha hb⟩
theorem canonL {n : Nat} {f : Nat -> List DV} (h : ∀ i, i < n -> rowOk8 (f i)) : DvE (.lst 8 n f) (.lst 8 n fun i => vl8 (gV8 (f i))) := .rows fun i hi => rowE_8 (h i hi)
def begV (g : Nat -> List DV) (m : Int) (k : Nat) (u : Nat -> List DV) (i : Nat) : Vl := if (i : Int) < m /\ i < k then gV8 (u i) else Vl.zeroV (gBy (g i) 1)
def begB (p : Nat) (g : Nat -> List DV) (m : Int) (k : Nat) (u : Nat -> List DV) : List Bd := (List.range p).map fun i => ⟨gSy (g i) 0, begV g m k u i⟩
theorem begB_len (p : Nat) (g : Nat -> List DV) (m : Int) (k : Nat) (u : Nat -> List DV) : (begB p g m k u).length = p := by simp [begB]
theorem begB_succ (p : Nat) (g : Nat -> List DV) (m : Int) (k : Nat) (u : Nat -> List DV) : begB (p + 1) g m k u = begB p g m k u ++ [⟨gSy (g p) 0, begV g m k u p⟩] := by simp [begB, List.range_succ]
theorem zeroV_ok (p : Bool) : okV (Vl.zeroV p) := by
 cases p
 . exact ⟨⟨by show (0 : Nat) * 16 <= _; omega, fun i hi => absurd hi (Nat.not_lt_zero i)⟩, by unfold Sp.inR Cg.inR; refine ⟨⟨⟨?_, ?_⟩, ?_, ?_⟩, ⟨?_, ?_⟩, ?_, ?_⟩ <;> decide⟩
 . exact ⟨⟨by show (0 : Nat) * 16 <= _; omega, fun i hi => absurd hi (Nat.not_lt_zero i)⟩, by unfold Sp.inR Cg.inR; refine ⟨⟨⟨?_, ?_⟩, ?_, ?_⟩, ⟨?_, ?_⟩, ?_, ?_⟩ <;> decide⟩
theorem beg_snoc {i : Nat} {L L' : List Bd} {x : Bd} {g : Nat -> List DV} {k : Nat} (hl : L.length = i) (hL : L' = L ++ [x]) (hg : g 0 = bdC x) (hk : k < i + 1) : appRow i (rwB L) g k = rwB L' k := by
 subst hl; subst hL; exact rwB_snoc hg hk
theorem begV_ok {g : Nat -> List DV} {m : Int} {k : Nat} {u : Nat -> List DV} (h : ∀ i, i < k -> rowOk8 (u i)) (i : Nat) : okV (begV g m k u i) := by
 unfold begV
 split
 . rename_i hc; exact (h i hc.2).2.2
 . exact zeroV_ok _
theorem begB_ok {p : Nat} {g : Nat -> List DV} {m : Int} {k : Nat} {u : Nat -> List DV} (h : ∀ i, i < k -> rowOk8 (u i)) : okL (begB p g m k u) := by
 intro x hx
 obtain ⟨i, _, rfl⟩ := List.mem_map.1 hx
 exact begV_ok h i
def FEOf : List Ar -> Option Rs
 | [.agg [.d (.v (.string _)), .d (.v (.int .i64 _)), .d (.lst 6 _ _), .d (.lst 2 p0 g0), .d (.v (.int .i64 m0))], .c (.d (.lst 8 k1 u1))] => some ⟨(p0 <= 1000000000 /\ (∀ i, i < p0 -> g0 i = vrC (g0 i))) /\ (k1 <= 1000000000 /\ (∀ i, i < k1 -> rowOk8 (u1 i))), .va (En.ar (En.clean ⟨true, (begB p0 g0 m0 k1 u1)⟩)), []⟩
 | _ => none
theorem fcEOf : FC Tryz.prog 15 FEOf := by
 intro xs pre r us h hp
 unfold FEOf at h
 split at h
 . rename_i x0 a0 n0 f0 p0 g0 m0 k1 u1
   cases h
   obtain ⟨hp0, hp1⟩ := hp
   refine FCat.deep (ys := [.agg [.d (.v (.string x0)), .d (.v (.int .i64 a0)), .d (.lst 6 n0 f0), .d (.lst 2 p0 fun i => vrC (g0 i)), .d (.v (.int .i64 m0))], .c (.d (.lst 8 k1 fun i => vl8 (gV8 (u1 i))))]) ?_ ?_
   . repeat' (first | exact trivial | exact rfl | exact DvE.refl _ | refine ⟨?_, ?_⟩ | fail)
     all_goals first | exact canonV hp0.2 | exact canonL hp1.2
   refine fcat tys_ok (l := [(58, ⟨[], FVZero⟩), (22, ⟨[], FEClean⟩)]) ⟨fcVZero, fcEClean, trivial⟩ Tryz.func15 rfl (by kernel_rfl) true ?_
   obtain ⟨hp0, hg⟩ := hp0
   obtain ⟨hk, hu⟩ := hp1
   have hok : ∀ i, okL (begB i g0 m0 k1 u1) := fun i => begB_ok hu
   have hrw := okL_row (hok p0)
   have hvk := fun i => begV_ok (g := g0) (m := m0) hu i
   have hbl := begB_len p0 g0 m0 k1 u1
   have hgb : gBs p0 (rwB (begB p0 g0 m0 k1 u1)) = begB p0 g0 m0 k1 u1 := by
    have h := gBs_row (begB p0 g0 m0 k1 u1)
    rw [begB_len] at h; exact h
   have hrw2 : RowsOk p0 (rwB (begB p0 g0 m0 k1 u1)) := by
    have h := hrw
    rw [begB_len] at h; exact h
   repeat' (first | exact trivial | refine ⟨?_, ?_⟩ | intro _)
   all_goals first | (with_reducible first | apply qa | apply qb | apply qc | apply qd) | (conv => whnf)
   refine loop_ids tys_ok (l := [(58, ⟨[], FVZero⟩), (22, ⟨[], FEClean⟩)]) ⟨fcVZero, fcEClean, trivial⟩ (by kernel_rfl) (X := Nat)
    (fun i => ⟨[(13, vx (.int .i64 i)), (12, vx (.int .i64 p0)), (11, .va (.c (.d (.lst 2 p0 fun i => vrC (g0 i))))), (1, .va (.c (.d (.lst 8 k1 fun i => vl8 (gV8 (u1 i)))))), (2, .va (.c (.own 0 0))), (4, .va (.c (.own 1 0))), (5, .va (.c (.own 2 0)))], [(0, .cells [.d (.v (.string x0)), .d (it a0), .d (.lst 6 n0 f0), .d (.lst 2 p0 fun i => vrC (g0 i)), .d (it m0)]), (1, .cells [.d (bo false), .d (.v (.slice none 0 0))]), (2, .cells [.d (bo true), .osl 3 9 0 i]), (3, .row 9 i (rwB (begB i g0 m0 k1 u1)))], 4, 47⟩)
    (fun i => p0 - i) (fun i => i <= p0) [42] [] (fun i _ _ => i + 1) (fun xs => match xs with | [t] => [0, 1, 2, oI t] | _ => []) [0, 1, 2] 0 1 0 ?_ ?_ ?_
   . exact Nat.zero_le _
   . repeat' (first | exact trivial | exact rfl | (intro _ h; exact absurd h (Nat.not_lt_zero _)) | (intro _ _; exact rfl) | refine ⟨?_, ?_⟩ | fail)
     all_goals first | (simp; done) | (intro i hi; rfl)
   . rintro i k1'
     rcases Nat.lt_or_ge i p0 with hi | hi
     . have hne : decide ((i : Int) < (p0 : Int)) = true := decide_eq_true (by omega)
       have k4 := begB_succ i g0 m0 k1 u1
       have kl := begB_len i g0 m0 k1 u1
       cases hA : decide ((i : Int) < m0) with
       | true =>
         have hA' := of_decide_eq_true hA
         cases hB : decide ((i : Int) < (k1 : Int)) with
         | true =>
           have hB' := of_decide_eq_true hB
           have k6 : begV g0 m0 k1 u1 i = gV8 (u1 i) := if_pos ⟨hA', by omega⟩
           rw [k6] at k4
           repeat' (first | exact trivial | (with_reducible first | exact (fun h => absurd (hne.symm.trans h) (by decide)) | exact (fun h => absurd (hA.symm.trans h) (by decide)) | exact (fun h => absurd (hB.symm.trans h) (by decide))) | refine ⟨?_, ?_⟩ | intro _)
           all_goals first | (with_reducible first | apply qa | apply qb | apply qc | apply qd) | (conv => whnf)
           all_goals (try dsimp only)
           all_goals (try simp only [Int.toNat_natCast])
           all_goals first | omega | (with_reducible rfl) | ((with_reducible show idsOk _ _ = true); rfl) | (exact congrArg (Value.int .i64) (by first | (rw [wI_id _ (by omega) (by omega)]; omega) | omega | (dsimp only; omega))) | (dsimp only; omega) | (rw [begB_len, begB_len]; done) | (rw [begB_len]; omega) | exact k4 | (simp; done) | exact beg_snoc kl k4 rfl ‹_› | rfl
         | false =>
           have hB' := of_decide_eq_false hB
           have k6 : begV g0 m0 k1 u1 i = Vl.zeroV (gBy (g0 i) 1) := if_neg fun h => by omega
           rw [k6] at k4
           repeat' (first | exact trivial | (with_reducible first | exact (fun h => absurd (hne.symm.trans h) (by decide)) | exact (fun h => absurd (hA.symm.trans h) (by decide)) | exact (fun h => absurd (hB.symm.trans h) (by decide))) | refine ⟨?_, ?_⟩ | intro _)
           all_goals first | (with_reducible first | apply qa | apply qb | apply qc | apply qd) | (conv => whnf)
           all_goals (try dsimp only)
           all_goals (try simp only [Int.toNat_natCast])
           all_goals first | omega | (with_reducible rfl) | ((with_reducible show idsOk _ _ = true); rfl) | (exact congrArg (Value.int .i64) (by first | (rw [wI_id _ (by omega) (by omega)]; omega) | omega | (dsimp only; omega))) | (dsimp only; omega) | (rw [begB_len, begB_len]; done) | (rw [begB_len]; omega) | exact k4 | (simp; done) | exact beg_snoc kl k4 rfl ‹_› | rfl
       | false =>
         have hA' := of_decide_eq_false hA
         have k6 : begV g0 m0 k1 u1 i = Vl.zeroV (gBy (g0 i) 1) := if_neg fun h => hA' h.1
         rw [k6] at k4
         repeat' (first | exact trivial | (with_reducible first | exact (fun h => absurd (hne.symm.trans h) (by decide)) | exact (fun h => absurd (hA.symm.trans h) (by decide))) | refine ⟨?_, ?_⟩ | intro _)
         all_goals first | (with_reducible first | apply qa | apply qb | apply qc | apply qd) | (conv => whnf)
         all_goals (try dsimp only)
         all_goals (try simp only [Int.toNat_natCast])
         all_goals first | omega | (with_reducible rfl) | ((with_reducible show idsOk _ _ = true); rfl) | (exact congrArg (Value.int .i64) (by first | (rw [wI_id _ (by omega) (by omega)]; omega) | omega | (dsimp only; omega))) | (dsimp only; omega) | (rw [begB_len, begB_len]; done) | (rw [begB_len]; omega) | exact k4 | (simp; done) | exact beg_snoc kl k4 rfl ‹_› | rfl
     . have hne : decide ((i : Int) < (p0 : Int)) = false := decide_eq_false (by omega)
       obtain rfl : i = p0 := by omega
       repeat' (first | exact trivial | (with_reducible exact (fun h => absurd (hne.symm.trans h) (by decide))) | refine ⟨?_, ?_⟩ | intro _)
       all_goals first | (with_reducible first | apply qa | apply qb | apply qc | apply qd) | (conv => whnf)
       all_goals (try simp only [Nat.zero_add])
       all_goals first | omega | exact hrw2 | rfl | (rw [hgb]; done) | (rw [hgb]; rfl)
 . cases h
abbrev zrow (s : ByteArray) (p : Bool) : List DV := [st s, bo (!p), it 0, it 0, bo (!p), it 0, it 0, bo p, .v (.slice none 0 0)]
def rwR (g : Nat -> List DV) (m : Int) (k : Nat) (u : Nat -> List DV) (i : Nat) : List DV := if (i : Int) < m /\ i < k then bdC ⟨gSy (g i) 0, gV8 (u i)⟩ else zrow (gSy (g i) 0) (gBy (g i) 1)
theorem zrow_gB (s : ByteArray) (p : Bool) : gB (zrow s p) = ⟨s, Vl.zeroV p⟩ := by cases p <;> rfl
theorem zrow_ok (s : ByteArray) (p : Bool) : rowOkB (zrow s p) := ⟨.inr rfl, fun i hi => absurd hi (Nat.not_lt_zero i), by rw [zrow_gB]; exact zeroV_ok p⟩
theorem rwR_gB {g : Nat -> List DV} {m : Int} {k : Nat} {u : Nat -> List DV} (i : Nat) : gB (rwR g m k u i) = ⟨gSy (g i) 0, begV g m k u i⟩ := by
 unfold rwR begV
 split
 . exact gB_bdC _
 . exact zrow_gB _ _
theorem rwR_ok {g : Nat -> List DV} {m : Int} {k : Nat} {u : Nat -> List DV} (h : ∀ i, i < k -> rowOk8 (u i)) (i : Nat) : rowOkB (rwR g m k u i) := by
 unfold rwR
 split
 . rename_i hc
   have h1 := rowSB_bdC ⟨gSy (g i) 0, gV8 (u i)⟩
   exact ⟨h1.1, h1.2, by rw [gB_bdC]; exact (h i hc.2).2.2⟩
 . exact zrow_ok _ _
theorem rwR_gBs (p : Nat) (g : Nat -> List DV) (m : Int) (k : Nat) (u : Nat -> List DV) : gBs p (rwR g m k u) = begB p g m k u := by
 unfold gBs begB
 refine List.map_congr_left fun i _ => ?_
 exact rwR_gB i
theorem app_self {n : Nat} {f g : Nat -> List DV} {k : Nat} (hg : g 0 = f n) (hk : k < n + 1) : appRow n f g k = f k := by
 unfold appRow
 split
 . rfl
 . have : k = n := by omega
   subst this
   rw [Nat.sub_self]; exact hg
def FREOf : List Ar -> Option Rs
 | [.agg [.d (.v (.string _)), .d (.v (.int .i64 _)), .d (.lst 6 _ _), .d (.lst 2 p0 g0), .d (.v (.int .i64 m0))], .c (.d (.lst 8 k1 u1))] => some ⟨(p0 <= 1000000000 /\ (∀ i, i < p0 -> g0 i = vrC (g0 i))) /\ (k1 <= 1000000000 /\ (∀ i, i < k1 -> rowOk8 (u1 i))), .va (En.ar (En.rclean ⟨true, (begB p0 g0 m0 k1 u1)⟩)), []⟩
 | _ => none
theorem fcREOf : FC Tryz.prog 16 FREOf := by
 intro xs pre r us h hp
 unfold FREOf at h
 split at h
 . rename_i x0 a0 n0 f0 p0 g0 m0 k1 u1
   cases h
   obtain ⟨hp0, hp1⟩ := hp
   refine FCat.deep (ys := [.agg [.d (.v (.string x0)), .d (.v (.int .i64 a0)), .d (.lst 6 n0 f0), .d (.lst 2 p0 fun i => vrC (g0 i)), .d (.v (.int .i64 m0))], .c (.d (.lst 8 k1 fun i => vl8 (gV8 (u1 i))))]) ?_ ?_
   . repeat' (first | exact trivial | exact rfl | exact DvE.refl _ | refine ⟨?_, ?_⟩ | fail)
     all_goals first | exact canonV hp0.2 | exact canonL hp1.2
   refine fcat tys_ok (l := [(20, ⟨[], FREClean⟩)]) ⟨fcREClean, trivial⟩ Tryz.func16 rfl (by kernel_rfl) true ?_
   obtain ⟨hp0, hg⟩ := hp0
   obtain ⟨hk, hu⟩ := hp1
   have hrw : RowsOk p0 (rwR g0 m0 k1 u1) := ⟨fun i _ => rwR_ok hu i⟩
   have hgb := rwR_gBs p0 g0 m0 k1 u1
   repeat' (first | exact trivial | refine ⟨?_, ?_⟩ | intro _)
   all_goals first | (with_reducible first | apply qa | apply qb | apply qc | apply qd) | (conv => whnf)
   refine loop_ids tys_ok (l := [(20, ⟨[], FREClean⟩)]) ⟨fcREClean, trivial⟩ (by kernel_rfl) (X := Nat)
    (fun i => ⟨[(6, vx (.int .i64 i)), (1, .va (.c (.d (.lst 8 k1 fun i => vl8 (gV8 (u1 i)))))), (2, .va (.c (.own 0 0))), (4, .va (.c (.own 1 0))), (5, .va (.c (.own 2 0)))], [(0, .cells [.d (.v (.string x0)), .d (it a0), .d (.lst 6 n0 f0), .d (.lst 2 p0 fun i => vrC (g0 i)), .d (it m0)]), (1, .cells [.d (bo false), .d (.v (.slice none 0 0))]), (2, .cells [.d (bo true), .osl 3 9 0 i]), (3, .row 9 i (rwR g0 m0 k1 u1))], 4, 56⟩)
    (fun i => p0 - i) (fun i => i <= p0) [52] [] (fun i _ _ => i + 1) (fun xs => match xs with | [t] => [0, 1, 2, oI t] | _ => []) [0, 1, 2] 0 1 0 ?_ ?_ ?_
   . exact Nat.zero_le _
   . repeat' (first | exact trivial | exact rfl | (intro _ h; exact absurd h (Nat.not_lt_zero _)) | (intro _ _; exact rfl) | refine ⟨?_, ?_⟩ | fail)
     all_goals first | (simp; done) | (intro i hi; rfl)
   . rintro i k1'
     rcases Nat.lt_or_ge i p0 with hi | hi
     . have hne : decide ((i : Int) < (p0 : Int)) = true := decide_eq_true (by omega)
       cases hP : gBy (g0 i) 1 with
       | true =>
         have hP' : gBy (g0 (Int.toNat (i : Int))) 1 = true := hP
         cases hA : decide ((i : Int) < m0) with
         | true =>
           have hA' := of_decide_eq_true hA
           cases hB : decide ((i : Int) < (k1 : Int)) with
           | true =>
             have hB' := of_decide_eq_true hB
             have k6 : rwR g0 m0 k1 u1 i = bdC ⟨gSy (g0 i) 0, gV8 (u1 i)⟩ := if_pos ⟨hA', by omega⟩
             repeat' (first | exact trivial | (with_reducible first | exact (fun h => absurd (hne.symm.trans h) (by decide)) | exact (fun h => absurd (hA.symm.trans h) (by decide)) | exact (fun h => absurd (hB.symm.trans h) (by decide)) | exact (fun h => absurd (hP'.symm.trans h) (by decide)) | exact (fun h => absurd (hP.symm.trans h) (by decide))) | refine ⟨?_, ?_⟩ | intro _)
             all_goals first | (with_reducible first | apply qa | apply qb | apply qc | apply qd) | (conv => whnf)
             all_goals (try dsimp only)
             all_goals (try simp only [Int.toNat_natCast])
             all_goals first | omega | (with_reducible rfl) | ((with_reducible show idsOk _ _ = true); rfl) | (exact congrArg (Value.int .i64) (by first | (rw [wI_id _ (by omega) (by omega)]; omega) | omega | (dsimp only; omega))) | (dsimp only; omega) | (simp; done) | exact app_self (by rw [k6]; rfl) ‹_› | rfl
           | false =>
             have hB' := of_decide_eq_false hB
             have k6 : rwR g0 m0 k1 u1 i = zrow (gSy (g0 i) 0) (gBy (g0 i) 1) := if_neg fun h => by omega
             rw [hP] at k6
             repeat' (first | exact trivial | (with_reducible first | exact (fun h => absurd (hne.symm.trans h) (by decide)) | exact (fun h => absurd (hA.symm.trans h) (by decide)) | exact (fun h => absurd (hB.symm.trans h) (by decide)) | exact (fun h => absurd (hP'.symm.trans h) (by decide)) | exact (fun h => absurd (hP.symm.trans h) (by decide))) | refine ⟨?_, ?_⟩ | intro _)
             all_goals first | (with_reducible first | apply qa | apply qb | apply qc | apply qd) | (conv => whnf)
             all_goals (try dsimp only)
             all_goals (try simp only [Int.toNat_natCast])
             all_goals first | omega | (with_reducible rfl) | ((with_reducible show idsOk _ _ = true); rfl) | (exact congrArg (Value.int .i64) (by first | (rw [wI_id _ (by omega) (by omega)]; omega) | omega | (dsimp only; omega))) | (dsimp only; omega) | (simp; done) | exact app_self (by rw [k6]; rfl) ‹_› | rfl
         | false =>
           have hA' := of_decide_eq_false hA
           have k6 : rwR g0 m0 k1 u1 i = zrow (gSy (g0 i) 0) (gBy (g0 i) 1) := if_neg fun h => hA' h.1
           rw [hP] at k6
           repeat' (first | exact trivial | (with_reducible first | exact (fun h => absurd (hne.symm.trans h) (by decide)) | exact (fun h => absurd (hA.symm.trans h) (by decide)) | exact (fun h => absurd (hP'.symm.trans h) (by decide)) | exact (fun h => absurd (hP.symm.trans h) (by decide))) | refine ⟨?_, ?_⟩ | intro _)
           all_goals first | (with_reducible first | apply qa | apply qb | apply qc | apply qd) | (conv => whnf)
           all_goals (try dsimp only)
           all_goals (try simp only [Int.toNat_natCast])
           all_goals first | omega | (with_reducible rfl) | ((with_reducible show idsOk _ _ = true); rfl) | (exact congrArg (Value.int .i64) (by first | (rw [wI_id _ (by omega) (by omega)]; omega) | omega | (dsimp only; omega))) | (dsimp only; omega) | (simp; done) | exact app_self (by rw [k6]; rfl) ‹_› | rfl
       | false =>
         have hP' : gBy (g0 (Int.toNat (i : Int))) 1 = false := hP
         cases hA : decide ((i : Int) < m0) with
         | true =>
           have hA' := of_decide_eq_true hA
           cases hB : decide ((i : Int) < (k1 : Int)) with
           | true =>
             have hB' := of_decide_eq_true hB
             have k6 : rwR g0 m0 k1 u1 i = bdC ⟨gSy (g0 i) 0, gV8 (u1 i)⟩ := if_pos ⟨hA', by omega⟩
             repeat' (first | exact trivial | (with_reducible first | exact (fun h => absurd (hne.symm.trans h) (by decide)) | exact (fun h => absurd (hA.symm.trans h) (by decide)) | exact (fun h => absurd (hB.symm.trans h) (by decide)) | exact (fun h => absurd (hP'.symm.trans h) (by decide)) | exact (fun h => absurd (hP.symm.trans h) (by decide))) | refine ⟨?_, ?_⟩ | intro _)
             all_goals first | (with_reducible first | apply qa | apply qb | apply qc | apply qd) | (conv => whnf)
             all_goals (try dsimp only)
             all_goals (try simp only [Int.toNat_natCast])
             all_goals first | omega | (with_reducible rfl) | ((with_reducible show idsOk _ _ = true); rfl) | (exact congrArg (Value.int .i64) (by first | (rw [wI_id _ (by omega) (by omega)]; omega) | omega | (dsimp only; omega))) | (dsimp only; omega) | (simp; done) | exact app_self (by rw [k6]; rfl) ‹_› | rfl
           | false =>
             have hB' := of_decide_eq_false hB
             have k6 : rwR g0 m0 k1 u1 i = zrow (gSy (g0 i) 0) (gBy (g0 i) 1) := if_neg fun h => by omega
             rw [hP] at k6
             repeat' (first | exact trivial | (with_reducible first | exact (fun h => absurd (hne.symm.trans h) (by decide)) | exact (fun h => absurd (hA.symm.trans h) (by decide)) | exact (fun h => absurd (hB.symm.trans h) (by decide)) | exact (fun h => absurd (hP'.symm.trans h) (by decide)) | exact (fun h => absurd (hP.symm.trans h) (by decide))) | refine ⟨?_, ?_⟩ | intro _)
             all_goals first | (with_reducible first | apply qa | apply qb | apply qc | apply qd) | (conv => whnf)
             all_goals (try dsimp only)
             all_goals (try simp only [Int.toNat_natCast])
             all_goals first | omega | (with_reducible rfl) | ((with_reducible show idsOk _ _ = true); rfl) | (exact congrArg (Value.int .i64) (by first | (rw [wI_id _ (by omega) (by omega)]; omega) | omega | (dsimp only; omega))) | (dsimp only; omega) | (simp; done) | exact app_self (by rw [k6]; rfl) ‹_› | rfl
         | false =>
           have hA' := of_decide_eq_false hA
           have k6 : rwR g0 m0 k1 u1 i = zrow (gSy (g0 i) 0) (gBy (g0 i) 1) := if_neg fun h => hA' h.1
           rw [hP] at k6
           repeat' (first | exact trivial | (with_reducible first | exact (fun h => absurd (hne.symm.trans h) (by decide)) | exact (fun h => absurd (hA.symm.trans h) (by decide)) | exact (fun h => absurd (hP'.symm.trans h) (by decide)) | exact (fun h => absurd (hP.symm.trans h) (by decide))) | refine ⟨?_, ?_⟩ | intro _)
           all_goals first | (with_reducible first | apply qa | apply qb | apply qc | apply qd) | (conv => whnf)
           all_goals (try dsimp only)
           all_goals (try simp only [Int.toNat_natCast])
           all_goals first | omega | (with_reducible rfl) | ((with_reducible show idsOk _ _ = true); rfl) | (exact congrArg (Value.int .i64) (by first | (rw [wI_id _ (by omega) (by omega)]; omega) | omega | (dsimp only; omega))) | (dsimp only; omega) | (simp; done) | exact app_self (by rw [k6]; rfl) ‹_› | rfl
     . have hne : decide ((i : Int) < (p0 : Int)) = false := decide_eq_false (by omega)
       obtain rfl : i = p0 := by omega
       repeat' (first | exact trivial | (with_reducible exact (fun h => absurd (hne.symm.trans h) (by decide))) | refine ⟨?_, ?_⟩ | intro _)
       all_goals first | (with_reducible first | apply qa | apply qb | apply qc | apply qd) | (conv => whnf)
       all_goals (try simp only [Nat.zero_add])
       all_goals first | omega | exact hrw | rfl | (rw [hgb]; done) | (rw [hgb]; rfl)
 . cases h
theorem app_vr {n p : Nat} {f h : Nat -> List DV} (hf : ∀ i, i < n -> f i = vrC (f i)) (hh : ∀ i, i < p -> h i = vrC (h i)) (i : Nat) (hi : i < n + p) : appRow n f h i = vrC (appRow n f h i) := by
 unfold appRow
 split
 . exact hf i ‹_›
 . exact hh _ (by omega)
theorem rowOk8_vl {v : Vl} (h : okV v) : rowOk8 (vl8 v) := by
 have h1 := rowSB_bdC ⟨eB, v⟩
 exact ⟨h1.1, h1.2, by show okB (gB (bdC ⟨eB, v⟩)); rw [gB_bdC]; exact h⟩
def FEnvBegins (M : Nat) : List Ar -> Option Rs
 | [.agg [.d (.v (.string _)), .d (.lst 2 n0 f0), .d (.lst 2 p0 g0), .d (.lst 7 k0 b0), .d (.v (.int .i64 _))], .c (.d (.lst 8 k1 u1))] => some ⟨(n0 <= 400000000 /\ p0 <= 400000000) /\ (k1 <= 1000000000 /\ (∀ i, i < k1 -> rowOk8 (u1 i))) /\ (okS M k0 b0 /\ cntL M k0 b0 <= 800000000 /\ (∀ i, i < n0 -> f0 i = vrC (f0 i)) /\ ∀ i, i < p0 -> g0 i = vrC (g0 i)), .va (.c (.d (bo (true)))), []⟩
 | _ => none
theorem fcEnvBegins (M : Nat) : FC Tryz.prog 3 (FEnvBegins M) := by
 intro xs pre r us h hp
 unfold FEnvBegins at h
 split at h
 . rename_i x0 n0 f0 p0 g0 k0 b0 a0 k1 u1
   cases h
   obtain ⟨hp0, hp1, hp2⟩ := hp
   refine FCat.deep (ys := [.agg [.d (.v (.string x0)), .d (.lst 2 n0 f0), .d (.lst 2 p0 g0), .d (.lst 7 k0 fun i => smC (gSm (b0 i))), .d (.v (.int .i64 a0))], .c (.d (.lst 8 k1 fun i => vl8 (gV8 (u1 i))))]) ?_ ?_
   . repeat' (first | exact trivial | exact rfl | exact DvE.refl _ | refine ⟨?_, ?_⟩ | fail)
     all_goals first | exact canonL hp1.2 | exact canon7 fun i hi => okS_row hp2.1 hi
   refine fcat tys_ok (l := [(13, ⟨[], (FRGraph M)⟩), (15, ⟨[], FEOf⟩), (16, ⟨[], FREOf⟩), (14, ⟨[], FREExact⟩), (17, ⟨[], FELives⟩)]) ⟨(fcRGraph M), fcEOf, fcREOf, fcREExact, fcELives, trivial⟩ Tryz.func3 rfl (by kernel_rfl) true ?_
   obtain ⟨hok, hc, hvf, hvg⟩ := hp2
   obtain ⟨hk, hu⟩ := hp1
   obtain ⟨hn0, hp0⟩ := hp0
   rw [<- cntL_can] at hc
   have hok := okS_can hok
   generalize (fun i => smC (gSm (b0 i))) = B at *
   have hU : ∀ i, i < k1 -> rowOk8 ((fun i => vl8 (gV8 (u1 i))) i) := fun i hi => rowOk8_vl (hu i hi).2.2
   generalize (fun i => vl8 (gV8 (u1 i))) = U at *
   have hV : ∀ i, i < n0 + p0 -> (fun i => appRow n0 f0 g0 (0 + i)) i = vrC ((fun i => appRow n0 f0 g0 (0 + i)) i) := fun i hi => app_vr hvf hvg (0 + i) (by omega)
   have hB := begB_ok (p := n0 + p0) (g := (fun i => appRow n0 f0 g0 (0 + i))) (m := (n0 : Int)) hU
   have hrw := okL_row hB
   have hbl := begB_len (n0 + p0) (fun i => appRow n0 f0 g0 (0 + i)) (n0 : Int) k1 U
   have eC := clean_rclean ⟨true, (begB (n0 + p0) (fun i => appRow n0 f0 g0 (0 + i)) (n0 : Int) k1 U)⟩
   have oC := okL_row (l := (En.rclean ⟨true, (begB (n0 + p0) (fun i => appRow n0 f0 g0 (0 + i)) (n0 : Int) k1 U)⟩).binds) (by rw [<- clean_rclean]; exact clean_ok (e := ⟨true, (begB (n0 + p0) (fun i => appRow n0 f0 g0 (0 + i)) (n0 : Int) k1 U)⟩) hB)
   have lC : (En.rclean ⟨true, (begB (n0 + p0) (fun i => appRow n0 f0 g0 (0 + i)) (n0 : Int) k1 U)⟩).binds.length <= (begB (n0 + p0) (fun i => appRow n0 f0 g0 (0 + i)) (n0 : Int) k1 U).length := by rw [<- clean_rclean]; exact clean_len ⟨true, (begB (n0 + p0) (fun i => appRow n0 f0 g0 (0 + i)) (n0 : Int) k1 U)⟩
   have oB := okL_row (l := (En.clean ⟨true, (begB (n0 + p0) (fun i => appRow n0 f0 g0 (0 + i)) (n0 : Int) k1 U)⟩).binds) (clean_ok (e := ⟨true, (begB (n0 + p0) (fun i => appRow n0 f0 g0 (0 + i)) (n0 : Int) k1 U)⟩) hB)
   have lB := clean_len ⟨true, (begB (n0 + p0) (fun i => appRow n0 f0 g0 (0 + i)) (n0 : Int) k1 U)⟩
   repeat' (first | exact trivial | (with_reducible first | exact hok | exact hV | exact hU | exact oB | exact oC) | refine ⟨?_, ?_⟩ | intro _)
   all_goals first | (with_reducible first | apply qa | apply qb | apply qc | apply qd) | (conv => whnf)
   all_goals first | omega | exact hV _ ‹_› | exact hU _ ‹_› | exact oC | exact oB | exact hrw | exact eC | (rw [eC]; exact oC) | rfl | exact absurd ‹true = false› (by decide) | skip
   all_goals (try simp only [gBs_row, Nat.zero_add] at *)
   all_goals first | omega | exact hV _ ‹_› | exact hU _ ‹_› | exact oC | exact oB | exact hrw | exact eC | (rw [eC]; exact oC) | rfl | exact absurd ‹true = false› (by decide) | skip
   all_goals trace_state
 . cases h
end Go.Proofs.YthkknkhpfffnbaaGreat
