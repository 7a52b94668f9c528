/- A symbolic executor for function bodies of the model, and that it is right: whatever it computes of a body is so of every call: part 2 of 3. No condition. -/
import Derived.Test.YtbjfogojoalnpaaGreatS1
import GoSem.Core.Utf8
import Derived.Laws.BytesString
import Derived.Orders
set_option linter.all false
set_option maxHeartbeats 8000000
set_option maxRecDepth 100000
namespace Go.Sx
section
variable {P : Program} {τ : Tys} {base : Nat} {ψ : Psi} {S : Nat → Prop} {w : World} {st : St} {a : Act} {o : Oper} {K : St → Prop}
theorem oRange_ok (hτ : TysOk P τ) (hrel : Rel P base ψ S w st a) {t : TypeId} {x : Operand} (hop : o.op = .range t x) (hk : oRange τ st o.dst t (ev st x) K) : OpOk P base ψ S w a o K := by
 have hx := ev_rep hrel x
 unfold oRange at hk
 split at hk
 . rename_i sz bt z s ts h n m ht hxe
   rw [hxe] at hx
   have hx : RepD S w (.v (.string s)) (a.eval x) := hx
   have hev : a.eval x = .string s := by generalize a.eval x = v at hx; cases hx; rfl
   obtain ⟨r1, r2⟩ := Rel.allocO (o := .stringIter s 0) (mm := 0) (blk := .it s 0) hrel (heap_alloc_new _)
   refine OpOk.value (x := .va (.c (.own n 0))) (v := .pointer (some ⟨w.heap.size, 0, none⟩)) ?_ r1 ⟨w.heap.size, 0, by simp [Psi.set], rfl⟩ hk r2
   simp only [execOp, hop, Instr.range, Sem.run_bind, run_und hτ ht, hev, Result.andThen_ok, Sem.run_pure, run_newObj]
   rfl
 . exact hk.elim
theorem run_getObj_iter {r : Nat} {s : ByteArray} {p : Nat} (h : w.heap[r]? = some (.stringIter s p)) : (getObj r).run P w = .ok (.stringIter s p) w := by simp [getObj, Sem.run, h]
theorem run_setObj_iter {r : Nat} {s : ByteArray} {p : Nat} (o : Obj) (h : w.heap[r]? = some (.stringIter s p)) : (setObj r o).run P w = .ok () { w with heap := w.heap.setIfInBounds r o } := by simp [setObj, Sem.run, h]
theorem oNext_ok (hrel : Rel P base ψ S w st a) {x : Operand} {b : Bool} (hop : o.op = .next x b) (hk : oNext st o.dst (ev st x) b K) : OpOk P base ψ S w a o K := by
 have hx := ev_rep hrel x
 unfold oNext at hk
 split at hk
 . rename_i k off ts h n m hxe
   rw [hxe] at hx
   obtain ⟨bl, mm, h1, h2⟩ := hx
   split at hk
   . rename_i s p hoff hb
     have hoff := Nat.eq_of_beq_eq_true hoff
     subst hoff
     have hbk := hrel.sim.blk k _ h1
     simp only [hb] at hbk
     have hbk : w.heap[bl]? = some (.stringIter s p) := hbk
     by_cases hp : p < s.size
     . have hk := hk.1 hp
       have hbs := (Array.getElem?_eq_some_iff.1 hbk).1
       obtain ⟨r1, r2⟩ := hrel.write (w' := { w with heap := w.heap.setIfInBounds bl (.stringIter s (p + (Utf8.decode s p).2)) }) (blk := .it s (p + (Utf8.decode s p).2)) h1 (by simp only [hb]; trivial) rfl rfl rfl (by simp)
        (fun b' hb' => by simp [Array.getElem?_setIfInBounds, Ne.symm hb']) (fun _ => by
          show (w.heap.setIfInBounds bl _)[bl]? = _
          simp [Array.getElem?_setIfInBounds, hbs])
       refine OpOk.value (x := .tup [.c (.kb true), .c (.d (.v (.int .i64 p))), .c (.d (.v (.int .i32 (Utf8.decode s p).1)))]) (v := .tuple #[.bool true, goInt p, .int .i32 (Utf8.decode s p).1]) ?_ r1 ⟨_, rfl, rfl, .v trivial, .v trivial, trivial⟩ hk r2
       simp only [execOp, hop, h2, Instr.next, Sem.run_bind, run_getObj_iter hbk, Result.andThen_ok, if_pos hp, run_setObj_iter _ hbk, Sem.run_pure]
     . have hk := hk.2 hp
       refine OpOk.value (x := .tup [.c (.kb false)]) (v := .tuple #[.bool false]) ?_ hrel ⟨_, rfl, rfl, trivial⟩ hk (Ext.refl _ _ _ _)
       simp only [execOp, hop, h2, Instr.next, Sem.run_bind, run_getObj_iter hbk, Result.andThen_ok, if_neg hp, Sem.run_pure]
   . exact hk.elim
 . exact hk.elim
theorem run_getObj_map {r : Nat} {es : Array MapEntry} {c : Nat} (h : w.heap[r]? = some (.map es c)) : (getObj r).run P w = .ok (.map es c) w := by simp [getObj, Sem.run, h]
theorem run_setObj_map {r : Nat} {es : Array MapEntry} {c : Nat} (o : Obj) (h : w.heap[r]? = some (.map es c)) : (setObj r o).run P w = .ok () { w with heap := w.heap.setIfInBounds r o } := by simp [setObj, Sem.run, h]
theorem checkKey_flat (hτ : TysOk P τ) {kt : TypeId} {fs : Array Field} {sz : Nat} {nb : TX} {z : Value} {xs : List Value} (ht : τ kt = some ⟨.struct fs, sz, nb, z⟩) (h : fs.toList.all (keyF τ xs) = true) (e : Bool) :
 (Instr.checkKey e 10000 kt (.agg xs.toArray)).run P w = .ok () w := by
 rw [show (10000 : Nat) = 9999 + 1 from rfl, Instr.checkKey]
 simp only [Sem.run_bind, run_und hτ ht, Result.andThen_ok]
 rw [<- Array.forIn_toList]
 generalize fs.toList = L at h
 induction L with
 | nil => simp
 | cons f L ih =>
   simp only [List.all_cons, Bool.and_eq_true] at h
   obtain ⟨hf, hL⟩ := h
   unfold keyF at hf
   split at hf
   . rename_i d s b' z' hty
     simp only [Bool.and_eq_true] at hf
     obtain ⟨hd, hx⟩ := hf
     split at hx
     . rename_i y ys hy
       have hp := part_run (w := w) hτ hty hy (.inr (by simp))
       have hc : ∀ v, (Instr.checkKey e 9999 f.type v).run P w = .ok () w := by
        intro v
        rw [show (9999 : Nat) = 9998 + 1 from rfl, Instr.checkKey]
        simp only [Sem.run_bind, run_und hτ hty, Result.andThen_ok]
        cases d <;> first | rfl | (simp at hd; done)
       by_cases hn : f.name = "_"
       . simp only [List.forIn_cons, Sem.run_bind, hn, ne_eq, not_true_eq_false, if_false, Result.andThen_ok, Sem.run_pure]
         exact ih hL
       . simp only [List.forIn_cons, Sem.run_bind, hn, ne_eq, not_false_eq_true, if_true, Result.andThen_ok, hp, hc, Sem.run_pure]
         exact ih hL
     . simp at hx
   . simp at hf
theorem kVal_agg {xs : List Value} (h : one1 xs = false) : kVal xs = .agg xs.toArray := by
 unfold kVal
 split
 . cases h
 . rfl
theorem bytes_eq (a b : ByteArray) : (a == b) = (a.toList == b.toList) := by
 obtain ⟨x⟩ := a; obtain ⟨y⟩ := b
 rw [ByteArray.toList_eq, ByteArray.toList_eq]
 show (x == y) = (x.toList == y.toList)
 rw [Bool.eq_iff_iff, beq_iff_eq, beq_iff_eq, Array.toList_inj]
def EntR (P : Program) (ψ : Psi) (S : Nat -> Prop) (w : World) (p : List Value × Va) (e : MapEntry) : Prop := e.key = kVal p.1 /\ RepVa P ψ S w p.2 e.val
theorem findK_ok (hτ : TysOk P τ) {kt : TypeId} {fs : Array Field} {sz nb : Nat} {z : Value} (ht : τ kt = some ⟨.struct fs, sz, ⟨nb, true⟩, z⟩) {xs : List Value} (h1x : one1 xs = false) {K : Option (Nat × List Value × Va) -> Prop} :
 ∀ {es : List (List Value × Va)} {arr : List MapEntry} {i : Nat}, All2 (EntR P ψ S w) es arr -> findK τ kt xs es i K ->
  ((Instr.findAsking kt (kVal xs) arr i).run P w = .ok none w /\ K none) \/
  ∃ j ys v e, (Instr.findAsking kt (kVal xs) arr i).run P w = .ok (some (i + j, e.val)) w /\ K (some (i + j, ys, v)) /\ arr[j]? = some e /\ EntR P ψ S w (ys, v) e
 | [], [], i, _, h => .inl ⟨rfl, h⟩
 | (ys, v) :: es, e :: arr, i, ⟨⟨h1, h2⟩, h3⟩, h => by
   unfold findK at h
   split at h
   . rename_i b h0 hb
     rw [h1x] at h0
     have h1y : one1 ys = false := by simpa using h0
     obtain ⟨hrun, _⟩ := eqAt_ok (w := w) hτ 50 10000 kt xs ys b _ (by omega) ht hb
     have hrun : (Op.equal kt (kVal xs) e.key).run P w = .ok b w := by
      rw [h1, show kVal ((ys, v) : List Value × Va).1 = .agg ys.toArray from kVal_agg h1y, kVal_agg h1x]; exact hrun
     cases b with
     | true =>
       refine .inr ⟨0, ys, v, e, ?_, h.1 rfl, rfl, h1, h2⟩
       simp only [Instr.findAsking, Sem.run_bind, hrun, Result.andThen_ok, if_true, Sem.run_pure]; rfl
     | false =>
       have hf : (Instr.findAsking kt (kVal xs) (e :: arr) i).run P w = (Instr.findAsking kt (kVal xs) arr (i + 1)).run P w := by
        simp only [Instr.findAsking, Sem.run_bind, hrun, Result.andThen_ok, Bool.false_eq_true, if_false]
       rw [hf]
       rcases findK_ok hτ ht h1x h3 (h.2 rfl) with g | ⟨j, ys', v', e', g1, g2, g3, g4⟩
       . exact .inl g
       . refine .inr ⟨j + 1, ys', v', e', ?_, ?_, by simpa using g3, g4⟩
         . rw [g1]; congr 3; omega
         . have : i + 1 + j = i + (j + 1) := by omega
           rw [this] at g2; exact g2
   . exact h.elim
theorem findKey_eq (hτ : TysOk P τ) {kt : TypeId} {fs : Array Field} {sz : Nat} {nb : TX} {z : Value} (ht : τ kt = some ⟨.struct fs, sz, nb, z⟩) (x : Value) (es : List MapEntry) :
 (Instr.findKey kt x es).run P w = (Instr.findAsking kt x es).run P w := by
 cases es with
 | nil => simp [Instr.findKey, run_und hτ ht, Instr.findNow, Instr.findAsking]
 | cons e es => simp [Instr.findKey, run_und hτ ht, Instr.findNow, Instr.sameNow]
theorem findK_str {kt : TypeId} {sz : Nat} {nb : TX} {z : Value} (ht : τ kt = some ⟨.string, sz, nb, z⟩) {s : ByteArray} {K : Option (Nat × List Value × Va) -> Prop} :
 ∀ {es : List (List Value × Va)} {arr : List MapEntry} {i : Nat}, All2 (EntR P ψ S w) es arr -> findK τ kt [.string s] es i K ->
  (Instr.findNow .string (.string s) arr i = some none /\ K none) \/
  ∃ j ys v e, Instr.findNow .string (.string s) arr i = some (some (i + j, e.val)) /\ K (some (i + j, ys, v)) /\ arr[j]? = some e /\ EntR P ψ S w (ys, v) e
 | [], [], i, _, h => .inl ⟨rfl, h⟩
 | (ys, v) :: es, e :: arr, i, ⟨⟨h1, h2⟩, h3⟩, h => by
   unfold findK at h
   split at h
   . rename_i b h0 hb
     obtain ⟨s', rfl⟩ : ∃ s', ys = [.string s'] := by
      have h0 : one1 ys = true := by simpa [one1] using h0
      unfold one1 at h0
      split at h0
      . exact ⟨_, rfl⟩
      . cases h0
     have hb : b = (s == s') := by
      rw [bytes_eq]
      rw [show (50 : Nat) = 49 + 1 from rfl] at hb
      simp only [eqAt, ht, Option.some.injEq] at hb
      exact hb.symm
     have h1 : e.key = .string s' := h1
     cases hc : s == s' with
     | true =>
       rw [hc] at hb
       refine .inr ⟨0, _, v, e, ?_, h.1 hb, rfl, h1, h2⟩
       simp only [Instr.findNow, h1, Instr.sameNow, hc]; rfl
     | false =>
       rw [hc] at hb
       have hf : Instr.findNow .string (.string s) (e :: arr) i = Instr.findNow .string (.string s) arr (i + 1) := by
        simp only [Instr.findNow, h1, Instr.sameNow, hc]
       rw [hf]
       rcases findK_str ht h3 (h.2 hb) with g | ⟨j, ys', v', e', g1, g2, g3, g4⟩
       . exact .inl g
       . refine .inr ⟨j + 1, ys', v', e', ?_, ?_, by simpa using g3, g4⟩
         . rw [g1]; congr 3; omega
         . have : i + 1 + j = i + (j + 1) := by omega
           rw [this] at g2; exact g2
   . exact h.elim
structure KeyFit (P : Program) (τ : Tys) (kt : TypeId) (xs : List Value) : Prop where
 chk : ∀ e w, (Instr.checkKey e 10000 kt (kVal xs)).run P w = .ok () w
 find : ∀ {ψ : Psi} {S : Nat -> Prop} {w : World} {K : Option (Nat × List Value × Va) -> Prop} {es : List (List Value × Va)} {arr : List MapEntry}, All2 (EntR P ψ S w) es arr -> findK τ kt xs es 0 K ->
  ((Instr.findKey kt (kVal xs) arr).run P w = .ok none w /\ K none) \/
  ∃ j ys v e, (Instr.findKey kt (kVal xs) arr).run P w = .ok (some (j, e.val)) w /\ K (some (j, ys, v)) /\ arr[j]? = some e /\ EntR P ψ S w (ys, v) e
 stay : Instr.sameBits 10000 (kVal xs) (kVal xs) = true
theorem sameBits_plain {xs : List Value} (h : xs.all plnV = true) : Instr.sameBits 10000 (.agg xs.toArray) (.agg xs.toArray) = true := by
 rw [show (10000 : Nat) = 9999 + 1 from rfl]
 simp only [Instr.sameBits, BEq.rfl, Bool.true_and]
 induction xs with
 | nil => rfl
 | cons x xs ih =>
   simp only [List.all_cons, Bool.and_eq_true] at h
   simp only [List.zip_cons_cons, List.all_cons, Bool.and_eq_true]
   refine ⟨?_, ih h.2⟩
   cases x <;> first | (simp [plnV] at h; done) | (simp [Instr.sameBits]; done) | (rename_i s; cases s; exact beq_self_eq_true (α := Array UInt8) _)
theorem keyOf_spec (hτ : TysOk P τ) {kt : TypeId} {x : Tm} {v : Value} {xs : List Value} (hx : RepT P ψ S w x v) (h : keyOf τ kt x = some xs) : v = kVal xs /\ KeyFit P τ kt xs := by
 unfold keyOf at h
 split at h
 . rename_i cs
   split at h
   . rename_i ys hm
     split at h
     . rename_i hok
       cases h
       obtain ⟨arr, e1, e2⟩ := hx
       have e3 := plains_cells hm e2
       unfold keyOk at hok
       split at hok
       . rename_i fs sz nb z ht
         simp only [Bool.and_eq_true, Bool.not_eq_true'] at hok
         obtain ⟨ho, hall, hpl⟩ := hok
         rw [kVal_agg ho]
         refine ⟨by rw [e1]; congr 1; apply Array.ext'; simpa using e3, ⟨fun e w => by rw [kVal_agg ho]; exact checkKey_flat hτ ht hall e, fun h1 h2 => ?_, by rw [kVal_agg ho]; exact sameBits_plain hpl⟩⟩
         simp only [findKey_eq hτ ht]
         rcases findK_ok hτ ht ho h1 h2 with g | ⟨j, ys, v, e, g1, g2, g3⟩
         . exact .inl g
         . rw [Nat.zero_add] at g1 g2; exact .inr ⟨j, ys, v, e, g1, g2, g3⟩
       . simp at hok
     . cases h
   . cases h
 . rename_i s
   split at h
   . rename_i sz nb z ht
     cases h
     have hx : RepD S w (.v (.string s)) v := hx
     cases hx
     refine ⟨rfl, ⟨fun e w => ?_, fun h1 h2 => ?_, ?_⟩⟩
     . rw [show (10000 : Nat) = 9999 + 1 from rfl, Instr.checkKey]
       simp only [kVal, Sem.run_bind, run_und hτ ht, Result.andThen_ok]; rfl
     . rcases findK_str ht h1 h2 with ⟨g1, g2⟩ | ⟨j, ys, v, e, g1, g2, g3⟩
       . refine .inl ⟨?_, g2⟩
         simp only [kVal, Instr.findKey, Sem.run_bind, run_und hτ ht, Result.andThen_ok, g1, Sem.run_pure]
       . rw [Nat.zero_add] at g1 g2
         refine .inr ⟨j, ys, v, e, ?_, g2, g3⟩
         simp only [kVal, Instr.findKey, Sem.run_bind, run_und hτ ht, Result.andThen_ok, g1, Sem.run_pure]
     . cases s; exact beq_self_eq_true (α := Array UInt8) _
   . cases h
 . cases h
theorem fVl_eq {α : Type} : ∀ (l : List Value) (k : List Value -> α), fVl l k = k l
 | [], _ => rfl
 | x :: xs, k => by simp only [fVl, fV_eq, fVl_eq xs]
theorem fEs_eq {α : Type} : ∀ (l : List (List Value × Va)) (k : List (List Value × Va) -> α), fEs l k = k l
 | [], _ => rfl
 | (a, v) :: l, k => by simp only [fEs, fVl_eq, fVa_eq, fEs_eq l]
theorem oMakeMap_ok (hrel : Rel P base ψ S w st a) {t : TypeId} (hop : o.op = .makeMap t none) (hk : oMakeMap st o.dst K) : OpOk P base ψ S w a o K := by
 unfold oMakeMap at hk
 split at hk
 rename_i ts h n m
 obtain ⟨r1, r2⟩ := Rel.allocO (o := .map #[] 0) (mm := 0) (blk := .map [] [0]) hrel ⟨#[], 0, heap_alloc_new _, rfl, trivial⟩
 refine OpOk.value (x := .va (.c (.mp n))) (v := .map (some w.heap.size)) ?_ r1 ⟨w.heap.size, 0, by simp [Psi.set], rfl⟩ hk r2
 simp only [execOp, hop, Instr.makeMap, Option.map_none, Sem.run_bind, Sem.run_pure, Result.andThen_ok, run_newObj]
 rfl
theorem zeroVa_rep {z : Value} (hz : zeroOk z) : RepVa P ψ S w (zeroVa z) z := by
 cases z with
 | agg cs =>
   refine ⟨cs, rfl, ?_⟩
   have hz : ∀ x ∈ cs.toList, Scalar x := fun x hx => hz x (by simpa using hx)
   generalize cs.toList = l at hz
   induction l with
   | nil => trivial
   | cons y ys ih => exact ⟨⟨.v (hz y (by simp)), hz y (by simp)⟩, ih fun x hx => hz x (by simp [hx])⟩
 | tuple _ => exact hz.elim
 | _ => exact RepD.v trivial
theorem okTm_rep {x : Va} {v : Value} (ok b : Bool) (h : RepVa P ψ S w x v) : RepT P ψ S w (okTm ok x b) (if ok then .tuple #[v, .bool b] else v) := by
 cases ok with
 | true => exact ⟨_, rfl, h, rfl, trivial⟩
 | false => exact h
theorem oLookup_ok (hτ : TysOk P τ) (hz : ∀ t i, τ t = some i -> zeroOk i.zero) (hrel : Rel P base ψ S w st a) {t : TypeId} {x k : Operand} {ok : Bool} (hop : o.op = .lookup t x k ok) (hk : oLookup τ st.heap t (ev st x) (ev st k) ok fun y => putK st o.dst y K) : OpOk P base ψ S w a o K := by
 have hx := ev_rep hrel x
 unfold oLookup at hk
 split at hk
 . rename_i kt et s0 b0 z0 b ht hxe
   rw [hxe] at hx
   obtain ⟨bl, mm, h1, h2⟩ := hx
   split at hk
   . rename_i xs es bc d1 s1 b1 z1 hko hbk hte
     obtain ⟨hkv, hfit⟩ := keyOf_spec hτ (ev_rep hrel k) hko
     have hb := hrel.sim.blk b _ h1
     simp only [hbk] at hb
     obtain ⟨arr, c, g1, g0, g2⟩ := hb
     have hrun : ∀ (r : Option (Nat × Value)), (Instr.findKey kt (kVal xs) arr.toList).run P w = .ok r w -> (execOp a.eval o).run P w = .ok (.value (if ok then .tuple #[(r.map (·.2)).getD z1, .bool r.isSome] else (r.map (·.2)).getD z1)) w := by
      intro r hr
      simp only [execOp, hop, h2, hkv, Instr.lookup, Sem.run_bind, run_und hτ ht, Result.andThen_ok, run_getObj_map g1, Sem.run_pure, hfit.chk, hr]
      cases r with
      | none => simp only [Sem.run_bind, run_zeroV hτ hte, Result.andThen_ok, Sem.run_pure]; rfl
      | some p => obtain ⟨_, v⟩ := p; rfl
     rcases hfit.find g2 hk with ⟨f1, f2⟩ | ⟨j, ys, v, e, f1, f2, f3, f4, f5⟩
     . exact OpOk.value (hrun _ f1) hrel (okTm_rep ok false (zeroVa_rep (hz _ _ hte))) f2 (Ext.refl _ _ _ _)
     . exact OpOk.value (hrun _ f1) hrel (okTm_rep ok true f5) f2 (Ext.refl _ _ _ _)
   . exact hk.elim
 . exact hk.elim
theorem setE_rep {R : List Value × Va -> MapEntry -> Prop} : ∀ {es : List (List Value × Va)} {arr : List MapEntry} {x : List Value × Va} {f : MapEntry -> MapEntry} (j : Nat), All2 R es arr -> (∀ e, arr[j]? = some e -> R x (f e)) -> All2 R (setE es j x) (arr.modify j f)
 | [], [], _, _, _, _, _ => by simp [setE]; trivial
 | _ :: es, e :: arr, x, f, 0, ⟨_, h2⟩, h => by simpa [setE] using ⟨h e rfl, h2⟩
 | _ :: es, e :: arr, x, f, j + 1, ⟨h1, h2⟩, h => by
   rw [List.modify_succ_cons]
   exact ⟨h1, setE_rep j h2 fun e he => h e (by simpa using he)⟩
theorem delE_rep {R : List Value × Va -> MapEntry -> Prop} : ∀ {es : List (List Value × Va)} {arr : List MapEntry} (j : Nat), All2 R es arr -> All2 R (delE es j) (arr.eraseIdx j)
 | [], [], _, _ => trivial
 | _ :: es, e :: arr, 0, ⟨_, h2⟩ => h2
 | _ :: es, e :: arr, j + 1, ⟨h1, h2⟩ => ⟨h1, delE_rep j h2⟩
theorem all2_snoc {α β : Type} {R : α -> β -> Prop} : ∀ {xs : List α} {ys : List β} {x : α} {y : β}, All2 R xs ys -> R x y -> All2 R (xs ++ [x]) (ys ++ [y])
 | [], [], _, _, _, h => ⟨h, trivial⟩
 | _ :: _, _ :: _, _, _, ⟨h1, h2⟩, h => ⟨h1, all2_snoc h2 h⟩
end
section
variable {P : Program} {τ : Tys} {base : Nat} {ψ ψ' : Psi} {S S' : Nat → Prop} {w w' : World} {a : Act} {st : St} {o : Oper} {K : St → Prop}
def FrOk (P : Program) (base : Nat) (ψ : Psi) (S : Nat -> Prop) (w : World) (a : Act) (ts : List (Nat × Tm)) (n m : Nat) (K : List (Nat × Blk) -> Prop) : Prop :=
 ∃ h' S', K h' /\ Rel P base ψ S' w ⟨ts, h', n, m⟩ a /\ Ext base ψ S w ψ S' w
theorem Rel.freeze {ts : List (Nat × Tm)} {h : List (Nat × Blk)} {n m k : Nat} {old new : Blk} (hr : Rel P base ψ S w ⟨ts, h, n, m⟩ a) (ho : lookB h k = old) (hlive : old.live) (hnew : ¬ new.live)
 (hv : BlkRep P ψ S w old .virt -> BlkRep P ψ S w new .virt)
 (hb : ∀ b mm S', ψ k = some (.at b mm) -> Later S w S' w -> S' b -> BlkRep P ψ S w old (.at b mm) -> BlkRep P ψ S' w new (.at b mm)) :
 ∃ S', Rel P base ψ S' w ⟨ts, (k, new) :: h, n, m⟩ a /\ Ext base ψ S w ψ S' w := by
 let S' : Nat -> Prop := fun b => S b \/ ∃ mm, ψ k = some (.at b mm)
 have hl : Later S w S' w := ⟨fun _ h => .inl h, fun _ _ => rfl⟩
 refine ⟨S', ⟨hr.bas, ⟨hr.sim.dom, ?_, ?_, ?_, hr.sim.pdom, ?_⟩, hr.lim, hr.defers, fun t => (hr.tmps t).later (PsiSub.refl _) hl⟩,
  ⟨rfl, rfl, rfl, Nat.le_refl _, fun _ _ _ => rfl, hl, ?_, fun k b m h => .inl ⟨k, m, h⟩, fun _ _ => rfl⟩⟩
 . intro k' l hk'
   rw [lookB_cons]
   by_cases e : k = k'
   . subst e
     rw [if_pos rfl]
     have := hr.sim.blk k l hk'
     simp only [ho] at this
     cases l with
     | virt => exact (hv this).later (PsiSub.refl _) hl (fun b m e => by cases e)
     | «at» b mm => exact hb b mm S' hk' hl (.inr ⟨mm, hk'⟩) this
   . rw [if_neg e]
     exact (hr.sim.blk k' l hk').later (PsiSub.refl _) hl fun _ _ _ => rfl
 . intro k1 k2 b m1 m2 h1 h2 l1 l2
   rw [lookB_cons] at l1 l2
   by_cases e1 : k = k1
   . rw [if_pos e1] at l1; exact absurd l1 hnew
   . by_cases e2 : k = k2
     . rw [if_pos e2] at l2; exact absurd l2 hnew
     . rw [if_neg e1] at l1; rw [if_neg e2] at l2; exact hr.sim.inj k1 k2 b m1 m2 h1 h2 l1 l2
 . intro k1 b m1 h1 l1 hS
   rw [lookB_cons] at l1
   by_cases e1 : k = k1
   . rw [if_pos e1] at l1; exact hnew l1
   . rw [if_neg e1] at l1
     rcases hS with hS | ⟨mm, hS⟩
     . exact hr.sim.dis k1 b m1 h1 l1 hS
     . exact e1 (hr.sim.inj k k1 b mm m1 hS h1 (by simp only [ho]; exact hlive) l1)
 . refine hr.sim.sdom.later hl fun b hS => ?_
   rcases hS with hS | ⟨mm, hS⟩
   . exact hr.sim.sdom b hS
   . exact hr.sim.pdom k b mm hS
 . intro b hS
   rcases hS with hS | ⟨mm, hS⟩
   . exact .inl hS
   . exact .inr (.inl ⟨k, mm, hS⟩)
theorem frCell_ok {ts : List (Nat × Tm)} {h : List (Nat × Blk)} {n m : Nat} {c : Cell} {K : List (Nat × Blk) -> Prop} (hr : Rel P base ψ S w ⟨ts, h, n, m⟩ a) (hk : frCell h c K) :
 FrOk P base ψ S w a ts n m K := by
 unfold frCell at hk
 split at hk
 . rename_i k _ _ _
   split at hk
   . rename_i sz nn f hb
     obtain ⟨S', h1, h2⟩ := hr.freeze (new := .fzr sz nn f) hb trivial (by simp [Blk.live]) (fun h => h)
      (fun b mm S' _ hl hS ⟨arr, e, g1, g2, g3, g4, g5⟩ => ⟨hS, arr, e, _, g1, g2, g3, g4, fun i j hi hj => (g5 i j hi hj).later hl⟩)
     exact ⟨_, S', hk, h1, h2⟩
   . exact ⟨_, S, hk, hr, Ext.refl _ _ _ _⟩
 . exact ⟨_, S, hk, hr, Ext.refl _ _ _ _⟩
theorem frCells_ok {ts : List (Nat × Tm)} {n m : Nat} : ∀ (cs : List Cell) (h : List (Nat × Blk)) (S : Nat -> Prop) {K : List (Nat × Blk) -> Prop}, Rel P base ψ S w ⟨ts, h, n, m⟩ a -> frCells h cs K ->
 FrOk P base ψ S w a ts n m K
 | [], h, S, K, hr, hk => ⟨h, S, hk, hr, Ext.refl _ _ _ _⟩
 | c :: cs, h, S, K, hr, hk => by
   obtain ⟨h1, S1, g1, g2, g3⟩ := frCell_ok hr hk
   obtain ⟨h2, S2, g4, g5, g6⟩ := frCells_ok cs h1 S1 g2 g1
   exact ⟨h2, S2, g4, g5, g3.trans g6⟩
theorem OpOk.thaw (h : OpOk P base ψ S' w a o K) (he : Ext base ψ S w ψ S' w) : OpOk P base ψ S w a o K :=
 fun next Q hn => h next Q fun st' ψ' S2 w' a' h1 h2 h3 => hn st' ψ' S2 w' a' h1 h2 (he.trans h3)
theorem oBuildSliceF_ok (hτ : TysOk P τ) (hz : ∀ t i, τ t = some i -> zeroOk i.zero) (hrel : Rel P base ψ S w st a) {t : TypeId} {len : Nat} {parts : Array (Nat × Operand)} (hop : o.op = .buildSlice t len parts)
 (hk : oBuildSliceF τ st o.dst t len parts.toList K) : OpOk P base ψ S w a o K := by
 unfold oBuildSliceF at hk
 split at hk
 . split at hk
   . split at hk
     . obtain ⟨h', S1, g1, g2, g3⟩ := frCells_ok _ _ _ hrel hk
       exact (oBuildSlice_ok hτ hz g2 hop g1).thaw g3
     . exact hk.elim
   . exact hk.elim
 . exact hk.elim
end
section
variable {P : Program} {τ : Tys} {base : Nat} {ψ ψ' : Psi} {S S' : Nat → Prop} {w w' : World} {a : Act} {st : St} {o : Oper} {K : St → Prop}
theorem Rel.ext0 (hr : Rel P base ψ S w st a) (h : Ext0 S w S' w') : Rel P base ψ S' w' st a /\ Ext base ψ S w ψ S' w' := by
 have he := Ext0.ext (base := base) (ψ := ψ) hr.sim.sdom h
 refine ⟨⟨hr.bas, ⟨hr.sim.dom, ?_, hr.sim.inj, ?_, ?_, hr.sim.sdom.later he.later h.sdom⟩, hr.lim, hr.defers, fun t => (hr.tmps t).later (PsiSub.refl _) he.later⟩, he⟩
 . intro k l hk
   exact (hr.sim.blk k l hk).later (PsiSub.refl _) he.later fun b m e => h.old b (hr.sim.pdom k b m (e ▸ hk))
 . intro k b m hk hl hS
   rcases h.newS b hS with h1 | h1
   . exact hr.sim.dis k b m hk hl h1
   . have := hr.sim.pdom k b m hk; omega
 . intro k b m hk; have := hr.sim.pdom k b m hk; have := h.grow; omega
theorem foldl_push (ns : List Int) : ∀ (s : ByteArray), ns.foldl (fun r n => r.push (UInt8.ofNat n.toNat)) s = ⟨s.data ++ (ns.map fun n => UInt8.ofNat n.toNat).toArray⟩ := by
 induction ns with
 | nil => intro s; simp
 | cons n ns ih =>
   intro s
   rw [List.foldl_cons, ih]
   show ByteArray.mk _ = _
   congr 1
   simp [ByteArray.push]
theorem bytes_run {n c : Nat} {f : Nat -> List DV} {ad : Addr} (h : ∀ j, j < n -> w.cell? (ad.add j) = some (.int .u8 (bI (f j)))) : (Conv.bytesToString (.slice (some ad) n c)).run P w = .ok (.string (bytesOf n f)) w := by
 have h1 := run_loadCells_list (P := P) (w := w) ad (((List.range n).map fun j => bI (f j)).map (Value.int .u8)) (fun j v hj => by
  simp only [List.getElem?_map, Option.map_eq_some_iff] at hj
  obtain ⟨x, ⟨y, hy, rfl⟩, rfl⟩ := hj
  have hlt : j < n := by have := (List.getElem?_eq_some_iff.1 hy).1; simpa using this
  rw [List.getElem?_range hlt] at hy
  cases hy
  exact h j hlt)
 have e : (((List.range n).map fun j => bI (f j)).map (Value.int .u8)).length = n := by simp
 rw [e] at h1
 rw [run_bytesToString w ad n c _ h1, foldl_push]
 unfold bytesOf
 simp [List.map_map]
theorem bytes_none {c : Nat} {ad : Option Addr} {f : Nat -> List DV} : (Conv.bytesToString (.slice ad 0 c)).run P w = .ok (.string (bytesOf 0 f)) w := by
 cases ad with
 | none => rfl
 | some ad => exact bytes_run (n := 0) fun j hj => absurd hj (Nat.not_lt_zero j)
theorem und_of (hτ : TysOk P τ) {t : TypeId} {i : TI} (h : τ t = some i) : P.underlying t = some i.desc := by
 obtain ⟨_, _, h2, _⟩ := hτ.ok t i h; exact h2
theorem isU8_iff {d : TypeDesc} (h : isU8 d = true) : d = .int .u8 := by
 unfold isU8 at h; split at h <;> first | rfl | cases h
theorem isStr_iff {d : TypeDesc} (h : isStr d = true) : d = .string := by
 unfold isStr at h; split at h <;> first | rfl | cases h
theorem run_row1 {arr : Array Value} {e : TypeId} {fr : Nat × Nat} {b m o len n off c : Nat} {f : Nat -> List DV} (hh : w.heap[b]? = some (.cells arr e fr)) (hm : arr.size = m) (hnm : n * 1 <= m)
 (hrep : ∀ i j, i < n -> j < 1 -> RepD S w ((f i).getD j (.v (.bool false))) (arr.getD (i * 1 + j) undef)) (ho : o + len <= n) (hoff : 0 < c -> off = o * 1 /\ (o + c) * 1 <= m) (hlc : len <= c)
 (hb : ∀ i, i < len -> f (o + i) = [.v (.int .u8 (bI (f (o + i))))]) : (Conv.bytesToString (.slice (some ⟨b, off, none⟩) len c)).run P w = .ok (.string (bytesOf len fun i => f (o + i))) w := by
 refine bytes_run fun j hj => ?_
 obtain ⟨h1, _⟩ := hoff (by omega)
 have h2 := hrep (o + j) 0 (by omega) (by omega)
 rw [hb j hj] at h2
 have h3 : arr.getD ((o + j) * 1 + 0) undef = .int .u8 (bI (f (o + j))) := by
  generalize arr.getD _ undef = v at h2 ⊢
  have h2 : RepD S w (.v (.int .u8 (bI (f (o + j))))) v := h2
  cases h2; rfl
 have hlt : o + j < arr.size := by omega
 rw [addr_add]
 simp only [World.cell?, hh]
 rw [show off + j = (o + j) * 1 + 0 by omega]
 rw [Array.getD_eq_getD_getElem?] at h3
 rw [Array.getElem?_eq_getElem (by omega)] at h3 ⊢
 exact congrArg some h3
theorem oConvB_ok (hτ : TysOk P τ) (hrel : Rel P base ψ S w st a) {s t : TypeId} {x : Operand} (hop : o.op = .convert s t x)
 (hk : oConvB τ st.heap s t (ev st x) fun y => putK st o.dst y K) : OpOk P base ψ S w a o K := by
 have hx := ev_rep hrel x
 unfold oConvB at hk
 split at hk
 . rename_i e _ _ _ dt _ _ _ hs ht
   split at hk
   . rename_i de _ _ _ he
     split at hk
     . rename_i hb
       simp only [Bool.and_eq_true] at hb
       have e1 := isU8_iff hb.1
       have e2 := isStr_iff hb.2
       subst e1 e2
       have us := und_of hτ hs
       have ut := und_of hτ ht
       have ue := und_of hτ he
       have fin : ∀ (ad : Option Addr) (l c : Nat) (b : ByteArray), a.eval x = .slice ad l c -> (Conv.bytesToString (.slice ad l c)).run P w = .ok (.string b) w -> putK st o.dst (vx (.string b)) K -> OpOk P base ψ S w a o K := by
        intro ad l c b h1 h2 h3
        refine OpOk.value (v := .string b) (x := vx (.string b)) ?_ hrel (show RepD S w (.v (.string b)) (.string b) from .v trivial) h3 (Ext.refl _ _ _ _)
        simp only [execOp, hop, h1, Sem.run_bind]
        rw [run_convert_bytes_string w s t e ad l c us ue ut, h2]; rfl
       split at hk
       . rename_i z n f hev
         rw [hev] at hx
         obtain ⟨rfl, hby, hk⟩ := hk
         have hx : RepD S w (.lst 1 n f) (a.eval x) := hx
         generalize hv : a.eval x = v at hx
         cases hx with
         | nil => exact fin _ _ _ _ hv bytes_none hk
         | lst g hS hl hc hr hn =>
           rename_i b off c
           refine fin _ _ _ _ hv (bytes_run fun j hj => ?_) hk
           have h1 := hc j 0 hj (by omega)
           have h2 := hr j 0 hj (by omega)
           rw [hby j hj] at h2
           have h3 : g j 0 = .int .u8 (bI (f j)) := by
            generalize g j 0 = v at h2 ⊢
            have h2 : RepD S w (.v (.int .u8 (bI (f j)))) v := h2
            cases h2; rfl
           rw [h3] at h1
           rw [addr_add]; simpa using h1
       . rename_i k z oo len hev
         rw [hev] at hx
         have hx : RepC P ψ S w (.osl k z oo len) (a.eval x) := hx
         generalize hv : a.eval x = v at hx
         split at hk
         . rename_i sz n f hblk
           obtain ⟨⟨rfl, rfl, hle⟩, hby, hk⟩ := hk
           rcases hx with ⟨hψ, rfl, ad, rfl⟩ | ⟨b, m, c, off, hψ, rfl, hlc, hoff⟩
           . exact fin _ _ _ _ hv bytes_none hk
           . have hb := hrel.sim.blk k _ hψ
             rw [hblk] at hb
             obtain ⟨arr, e, g1, g2, g3, g4, g5⟩ := hb
             exact fin _ _ _ _ hv (run_row1 g1 g2 g3 g5 hle hoff hlc hby) hk
         . rename_i sz n f hblk
           obtain ⟨⟨rfl, rfl, hle⟩, hby, hk⟩ := hk
           rcases hx with ⟨hψ, rfl, ad, rfl⟩ | ⟨b, m, c, off, hψ, rfl, hlc, hoff⟩
           . exact fin _ _ _ _ hv bytes_none hk
           . have hb := hrel.sim.blk k _ hψ
             rw [hblk] at hb
             obtain ⟨hSb, arr, e, fr, g1, g2, g3, g4, g5⟩ := hb
             exact fin _ _ _ _ hv (run_row1 g1 g2 g3 g5 hle hoff hlc hby) hk
         . exact hk.elim
       . exact hk.elim
     . exact hk.elim
   . exact hk.elim
 . exact hk.elim
theorem run_s2b (b : ByteArray) (e : TypeId) : ∃ (arr : Array Value) (fr : Nat × Nat) (w3 : World) (c : Nat), (Conv.stringToBytes e b).run P w = .ok (.slice (some ⟨w.heap.size, 0, none⟩) b.size c) w3 /\ b.size <= c /\ (∀ j, j < b.size -> arr[j]? = some (.int .u8 (byteAt b j))) /\
 w3.os = w.os /\ w3.tape = w.tape /\ w3.output = w.output /\ w3.heap.size = w.heap.size + 1 /\ w3.heap[w.heap.size]? = some (.cells arr e fr) /\ ∀ k, k < w.heap.size -> w3.heap[k]? = w.heap[k]? := by
 obtain ⟨c, hc⟩ : ∃ c, c = (Question.appendCap b.size 0 e).cut (w.tape w.drawn (.appendCap b.size 0 e)) := ⟨_, rfl⟩
 have hle : b.size <= c := by rw [hc]; simp [Question.cut]
 obtain ⟨arr, harr⟩ : ∃ arr : Array Value, arr = (b.data.map fun x => Value.int .u8 x.toNat) ++ Array.replicate (c - b.size) (.int .u8 0) := ⟨_, rfl⟩
 have hnew := heap_alloc_new (w := w.drew) (.cells arr e)
 have hsz : w.drew.heap.size = w.heap.size := rfl
 refine ⟨arr, (arr.size, arr.size + 1), ((w.drew.alloc (.cells arr e)).freeze ⟨w.heap.size, arr.size, none⟩ 1), c, ?_, hle, ?_, rfl, rfl, rfl, ?_, ?_, ?_⟩
 . have hsh : (w.drew.alloc (.cells arr e)).shape? w.heap.size = some (e, arr.size) := by
    unfold World.shape?; rw [show (w.drew.alloc (.cells arr e)).heap[w.heap.size]? = _ from hnew]
   have e1 : (choose (.appendCap b.size 0 e)).run P w = .ok c w.drew := by rw [hc]; rfl
   have e2 : ∀ (o : Obj) (w' : World), (newObj o).run P w' = .ok w'.heap.size (w'.alloc o) := fun _ _ => rfl
   simp only [Conv.stringToBytes, markStringish, Sem.run_bind, e1, Result.andThen_ok, newRow, e2, <- harr, Sem.run_pure, run_shape, hsz, hsh, run_freeze]
 . intro j hj
   rw [harr, Array.getElem?_append_left (by simp; exact hj)]
   simp only [Array.getElem?_map]
   have hj' : j < b.data.size := hj
   rw [Array.getElem?_eq_getElem hj']
   unfold byteAt
   rw [getElem?_pos b j hj]
   rfl
 . simp [World.freeze, World.alloc, hsz]
 . simp only [World.freeze, Nat.succ_ne_zero, if_false, Array.getElem?_modify]
   rw [show (w.drew.alloc (.cells arr e)).heap[w.heap.size]? = _ from hnew]
   simp
 . intro k hk
   simp only [World.freeze, Nat.succ_ne_zero, if_false, Array.getElem?_modify]
   rw [if_neg (by omega)]
   exact heap_alloc_lt (w := w.drew) _ hk
theorem oConvS_ok (hτ : TysOk P τ) (hrel : Rel P base ψ S w st a) {s t : TypeId} {x : Operand} (hop : o.op = .convert s t x)
 (hk : oConvS τ st o.dst s t (ev st x) K) : OpOk P base ψ S w a o K := by
 have hx := ev_rep hrel x
 unfold oConvS at hk
 split at hk
 . rename_i ds _ _ _ e _ _ _ hs ht
   split at hk
   . rename_i de _ _ _ he
     have us := und_of hτ hs
     have ut := und_of hτ ht
     have ue := und_of hτ he
     split at hk
     . rename_i b hu8 hev
       have e1 := isU8_iff hu8
       subst e1
       split at hk
       . rename_i hstr
         have e2 := isStr_iff hstr
         subst e2
         rw [hev] at hx
         have hv : a.eval x = .string b := by
          have hx : RepD S w (.v (.string b)) (a.eval x) := hx
          generalize a.eval x = v at hx
          cases hx; rfl
         obtain ⟨arr, fr, w3, c, h1, h2, h3, h4, h5, h6, h7, h8, h9⟩ := run_s2b (P := P) (w := w) b e
         obtain ⟨k1, k2⟩ := hrel.ext0 (S' := fun b => S b \/ b = w.heap.size) (w' := w3) ⟨h4, h5, h6, by omega, h9, fun _ h => .inl h, fun b hb => by rcases hb with h | rfl; exact .inl h; exact .inr (Nat.le_refl _), fun b hb => by rcases hb with h | rfl; have := hrel.sim.sdom b h; omega; omega⟩
         have hrep : RepD (fun b => S b \/ b = w.heap.size) w3 (.lst 1 b.size (strRow b)) (.slice (some ⟨w.heap.size, 0, none⟩) b.size c) := by
          refine .lst (fun i _ => .int .u8 (byteAt b i)) (.inr rfl) (fun i hi => rfl) (fun i j hi hj => ?_) (fun i j hi hj => ?_) h2
          . obtain rfl : j = 0 := by omega
            rw [cell_at h8]
            simpa using h3 i hi
          . obtain rfl : j = 0 := by omega
            exact .v trivial
         refine OpOk.value (v := .slice (some ⟨w.heap.size, 0, none⟩) b.size c) (x := .va (.c (.d (.lst 1 b.size (strRow b))))) ?_ k1 hrep hk k2
         simp only [execOp, hop, hv, convert, Sem.run_bind, run_underlying us, run_underlying ut, run_underlying ue, Result.andThen_ok, h1, Sem.run_pure]
       . exact hk.elim
     . rename_i k z oo len ts h n m hu8 hev
       have e1 := isU8_iff hu8
       subst e1
       split at hk
       . rename_i sz ln f hst hlen hblk
         have hst := Nat.eq_of_beq_eq_true hst
         subst hst
         have hlen : 0 < len := by simpa [Nat.blt_eq] using hlen
         rw [hev] at hx
         have hx : RepC P ψ S w (.osl k z oo len) (a.eval x) := hx
         rcases hx with ⟨hψ, rfl, ad, _⟩ | ⟨b, mm, c, off, hψ, hv, hlc, hoff⟩
         . omega
         have hb := hrel.sim.blk k _ hψ
         have hblk' : lookB (St.mk ts h n m).heap k = .row sz ln f := hblk
         rw [hblk'] at hb
         obtain ⟨arr, e', g1, g2, g3, g4, g5⟩ := hb
         have hU : ¬ S b := hrel.sim.dis k b mm hψ (by rw [hblk']; trivial)
         -- first the freezing of the block in the model's sense
         have hblt : b < w.heap.size := (Array.getElem?_eq_some_iff.1 g1).1
         obtain ⟨w2, hw2⟩ : ∃ w2 : World, w2 = w.freeze ⟨b, arr.size, none⟩ 1 := ⟨_, rfl⟩
         have h2b : w2.heap[b]? = some (.cells arr e' (arr.size, arr.size + 1)) := by
          rw [hw2]; simp only [World.freeze, Nat.succ_ne_zero, if_false, Array.getElem?_modify, g1]
          simp
         have h2o : ∀ b', b' ≠ b -> w2.heap[b']? = w.heap[b']? := fun b' hb' => by
          rw [hw2]; simp only [World.freeze, Nat.succ_ne_zero, if_false, Array.getElem?_modify]
          rw [if_neg (fun e => hb' e.symm)]
         have h2s : w2.heap.size = w.heap.size := by rw [hw2]; simp [World.freeze]
         have hlat : Later S w (fun b' => S b' \/ b' = b) w2 := ⟨fun _ h => .inl h, fun b' hb' => h2o b' fun e => hU (e ▸ hb')⟩
         have hrel2 : Rel P base ψ (fun b' => S b' \/ b' = b) w2 ⟨ts, (k, .fzr sz ln f) :: h, n, m⟩ a := by
          refine ⟨hrel.bas, ⟨hrel.sim.dom, ?_, ?_, ?_, fun k' b' m' h' => by rw [h2s]; exact hrel.sim.pdom k' b' m' h', hrel.sim.sdom.later hlat fun b' hb' => by rw [h2s]; rcases hb' with h | rfl; exact hrel.sim.sdom b' h; exact hblt⟩, hrel.lim, hrel.defers, fun t => (hrel.tmps t).later (PsiSub.refl _) hlat⟩
          . intro k' l hk'
            show BlkRep P ψ _ w2 (lookB ((k, Blk.fzr sz ln f) :: h) k') l
            rw [lookB_cons]
            by_cases ek : k = k'
            . subst ek
              rw [if_pos rfl]
              rw [hψ] at hk'
              cases hk'
              exact ⟨.inr rfl, arr, e', _, h2b, g2, g3, g4, fun i j hi hj => (g5 i j hi hj).later hlat⟩
            . rw [if_neg ek]
              have hold := hrel.sim.blk k' l hk'
              cases hlv : lookB h k' with
              | gone => cases l <;> trivial
              | fz cs =>
                rw [show lookB (St.mk ts h n m).heap k' = _ from hlv] at hold
                cases l with
                | virt => exact hold.elim
                | «at» b' m' => exact hold.later (PsiSub.refl _) hlat fun b2 m2 e2 => by cases e2; exact h2o _ fun e3 => hU (e3 ▸ hold.1)
              | fzr z2 n2 f2 =>
                rw [show lookB (St.mk ts h n m).heap k' = _ from hlv] at hold
                cases l with
                | virt => exact hold
                | «at» b' m' => exact hold.later (PsiSub.refl _) hlat fun b2 m2 e2 => by cases e2; exact h2o _ fun e3 => hU (e3 ▸ hold.1)
              | _ =>
                rw [show lookB (St.mk ts h n m).heap k' = _ from hlv] at hold
                refine hold.later (PsiSub.refl _) hlat fun b2 m2 e2 => h2o _ fun e3 => ?_
                subst e2 e3
                exact ek (hrel.sim.inj k k' b2 mm m2 hψ hk' (by rw [hblk']; trivial) (by rw [show lookB (St.mk ts h n m).heap k' = _ from hlv]; trivial))
          . intro k1 k2 b' m1 m2 q1 q2 l1 l2
            have l1 : (lookB ((k, Blk.fzr sz ln f) :: h) k1).live := l1
            have l2 : (lookB ((k, Blk.fzr sz ln f) :: h) k2).live := l2
            rw [lookB_cons] at l1 l2
            by_cases e1 : k = k1
            . rw [if_pos e1] at l1; exact l1.elim
            . by_cases e2 : k = k2
              . rw [if_pos e2] at l2; exact l2.elim
              . rw [if_neg e1] at l1; rw [if_neg e2] at l2; exact hrel.sim.inj k1 k2 b' m1 m2 q1 q2 l1 l2
          . intro k1 b' m1 q1 l1 hS
            have l1 : (lookB ((k, Blk.fzr sz ln f) :: h) k1).live := l1
            rw [lookB_cons] at l1
            by_cases e1 : k = k1
            . rw [if_pos e1] at l1; exact l1.elim
            . rw [if_neg e1] at l1
              rcases hS with hS | rfl
              . exact hrel.sim.dis k1 b' m1 q1 l1 hS
              . exact e1 (hrel.sim.inj k k1 b' mm m1 hψ q1 (by rw [hblk']; trivial) l1)
         have hext : Ext base ψ S w ψ (fun b' => S b' \/ b' = b) w2 := by
          refine ⟨by rw [hw2]; rfl, by rw [hw2]; rfl, by rw [hw2]; rfl, by omega, fun b' _ hp => h2o b' fun e => hp k mm (e ▸ hψ), hlat, fun b' hb' => ?_, fun k' b' m' hk' => .inl ⟨k', m', hk'⟩, fun _ _ => rfl⟩
          rcases hb' with h | rfl
          . exact .inl h
          . exact .inr (.inl ⟨k, mm, hψ⟩)
         have hrc : RepC P ψ (fun b' => S b' \/ b' = b) w2 (.osl k z oo len) (.slice (some ⟨b, off, none⟩) len c) := .inr ⟨b, mm, c, off, hψ, rfl, hlc, hoff⟩
         refine OpOk.value (v := .slice (some ⟨b, off, none⟩) len c) (x := .va (.c (.osl k z oo len))) ?_ hrel2 hrc hk hext
         have hds : ds = .slice e := Option.some.inj (us.symm.trans ut)
         subst hds
         have hsh : w.shape? b = some (e', arr.size) := by unfold World.shape?; rw [g1]
         simp only [execOp, hop, hv, convert, Sem.run_bind, run_underlying us, run_underlying ut, run_underlying ue, Result.andThen_ok, markStringish, run_shape, hsh, run_freeze, Sem.run_pure, beq_self_eq_true, <- hw2]
       . exact hk.elim
     . exact hk.elim
   . exact hk.elim
 . exact hk.elim
end
theorem cv_rep {P : Program} {ψ : Psi} {S : Nat -> Prop} {w : World} {c : Cv} {v : Value} (h : RepCv S w c v) : RepVa P ψ S w (cvVa c) v := by
 cases c with
 | c x => exact h
 | agg xs => obtain ⟨arr, h1, h2⟩ := h; exact ⟨arr, h1, all2_dmap h2⟩
theorem ct_rep {P : Program} {ψ : Psi} {S : Nat -> Prop} {w : World} {c : Ct} {v : Value} (h : RepCt S w c v) : RepT P ψ S w (ctTm c) v := by
 cases c with
 | va x => exact cv_rep h
 | tup xs => obtain ⟨arr, h1, h2⟩ := h; exact ⟨arr, h1, h2.map_left _ fun _ _ h => cv_rep h⟩
section
variable {P : Program} {τ : Tys} {base : Nat} {ψ ψ' : Psi} {S S' : Nat → Prop} {w w' : World} {st st1 : St} {a : Act} {o : Oper} {K : St → Prop}
theorem closeVa_rep {h : List (Nat × Blk)} {next : Nat} (hs : Sim P ψ S w h next) {c : Va} {v : Value} {K : Cv -> Prop} (hc : closeVa h c K) (hv : RepVa P ψ S w c v) : ∃ x, RepCv S w x v /\ K x := by
 cases c with
 | c c =>
   simp only [closeVa] at hc
   obtain ⟨x, g1, g2⟩ := closeCell_rep hs hc hv
   exact ⟨.c x, g1, g2⟩
 | agg cs =>
   simp only [closeVa] at hc
   obtain ⟨arr, rfl, hv⟩ := hv
   obtain ⟨xs, g1, g2⟩ := closeCells_rep hs hc hv
   exact ⟨.agg xs, ⟨arr, rfl, g1⟩, g2⟩
theorem closeVas_rep {h : List (Nat × Blk)} {next : Nat} (hs : Sim P ψ S w h next) : ∀ {cs : List Va} {vs : List Value} {K : List Cv -> Prop}, closeVas h cs K -> All2 (RepVa P ψ S w) cs vs ->
 ∃ xs, All2 (RepCv S w) xs vs /\ K xs
 | [], [], _, hc, _ => ⟨[], trivial, hc⟩
 | _ :: _, _ :: _, _, hc, ⟨h1, h2⟩ => by
   obtain ⟨x, g1, g2⟩ := closeVa_rep hs hc h1
   obtain ⟨xs, g3, g4⟩ := closeVas_rep hs g2 h2
   exact ⟨x :: xs, ⟨g1, g3⟩, g4⟩
theorem fnOf_rep {x : Tm} {v : Value} (h : RepT P ψ S w x v) : RepT P ψ S w (fnOf x) v := by
 unfold fnOf
 split
 . have h : RepD S w (.v (.func (.func _) #[] #[])) v := h
   cases h
   exact ⟨#[], rfl, trivial⟩
 . exact h
theorem oCallFv_ok (hrel : Rel P base ψ S w st a) {f : Operand} {args : Array Operand} {ts : Array TypeId} {g : List Cv -> Option Gs} {as : List Va}
 (hop : o.op = .call { callee := .value f, args, argTypes := ts }) (hf : fnOf (ev st f) = .va (.c (.fv g))) (ha : mapO (fun x => asVa (ev st x)) args.toList = some as)
 (hk : closeVas st.heap as fun cs => match g cs with
   | some ⟨pre, r⟩ => pre /\ (pre -> putK st o.dst (ctTm r) K)
   | none => False) : OpOk P base ψ S w a o K := by
 have hargs := args_rep hrel ha
 obtain ⟨cs, hcv, hk⟩ := closeVas_rep hrel.sim hk hargs
 have : ∃ pre r, g cs = some ⟨pre, r⟩ /\ pre /\ putK st o.dst (ctTm r) K := by
  split at hk
  . rename_i pre r hg; exact ⟨pre, r, hg, hk.1, hk.2 hk.1⟩
  . exact hk.elim
 obtain ⟨pre, r, hg, hpre, hk⟩ := this
 have hfv := fnOf_rep (ev_rep hrel f)
 rw [hf] at hfv
 obtain ⟨fid, first, caps, hv, hfn⟩ := hfv
 have := hfn S w (Later.refl _ _) hrel.sim.sdom cs pre r hg hpre _ hcv
 intro next Q hn
 have e : first ++ (args.toList.map a.eval).toArray ++ caps = first ++ args.map a.eval ++ caps := by
  congr 2; apply Array.ext'; simp
 rw [e] at this
 refine wp_runs hop hv this ?_
 rintro e w' ⟨v, S', rfl, hrep, hext⟩
 obtain ⟨h1, h2⟩ := hrel.ext0 hext
 obtain ⟨st', h3, h4⟩ := putK_rel hk h1 (ct_rep hrep)
 exact ⟨v, rfl, hn _ _ _ _ _ h3 h4 h2⟩
theorem oCall_ok {calls : Nat -> List Va -> St -> (Tm -> St -> Prop) -> Prop} (hcalls : CallsOk P base calls) (hrel : Rel P base ψ S w st a) {f : Operand} {args : Array Operand} {ts : Array TypeId}
 {g : Nat} {caps : List (Nat × Nat)} {as : List Va}
 (hop : o.op = .call { callee := .value f, args, argTypes := ts }) (hf : fnOf (ev st f) = .va (.c (.fn g caps))) (ha : mapO (fun x => asVa (ev st x)) args.toList = some as)
 (hk : calls g (as ++ caps.map fun p => .c (.own p.1 p.2)) st fun r st => putK st o.dst r K) : OpOk P base ψ S w a o K := by
 have hfv := fnOf_rep (ev_rep hrel f)
 rw [hf] at hfv
 obtain ⟨vs, hv, hcaps⟩ := hfv
 have hargs := args_rep hrel ha
 have hall : All2 (RepVa P ψ S w) (as ++ caps.map fun p => .c (.own p.1 p.2)) (args.toList.map a.eval ++ vs.toList) :=
  hargs.append (All2.map_left (R' := RepVa P ψ S w) (fun p : Nat × Nat => Va.c (.own p.1 p.2)) (fun p y h => h) hcaps)
 have hcall := hcalls _ _ _ _ hk ψ S w a _ hrel hall
 intro next Q hn
 have e : (args.toList.map a.eval ++ vs.toList).toArray = #[] ++ args.map a.eval ++ vs := by apply Array.ext'; simp
 rw [e] at hcall
 refine wp_runs hop hv hcall ?_
 rintro e w' ⟨r, st', v, ψ', S', rfl, hK, h1, h2, h3⟩
 obtain ⟨st2, h4, h5⟩ := putK_rel hK h1 h2
 exact ⟨v, rfl, hn _ _ _ _ _ h4 h5 h3⟩
theorem oCallFb_ok {calls : Nat -> List Va -> St -> (Tm -> St -> Prop) -> Prop} (hcalls : CallsOk P base calls) (hrel : Rel P base ψ S w st a) {f : Operand} {args : Array Operand} {ts : Array TypeId}
 {g k off : Nat} {as : List Va}
 (hop : o.op = .call { callee := .value f, args, argTypes := ts }) (hf : fnOf (ev st f) = .va (.c (.fb g k off))) (ha : mapO (fun x => asVa (ev st x)) args.toList = some as)
 (hk : calls g (.c (.own k off) :: as) st fun r st => putK st o.dst r K) : OpOk P base ψ S w a o K := by
 have hfv := fnOf_rep (ev_rep hrel f)
 rw [hf] at hfv
 obtain ⟨b, m, hψ, hv⟩ := hfv
 have hargs := args_rep hrel ha
 have hall : All2 (RepVa P ψ S w) (.c (.own k off) :: as) (.pointer (some ⟨b, off, none⟩) :: args.toList.map a.eval) := ⟨⟨b, m, hψ, rfl⟩, hargs⟩
 have hcall := hcalls _ _ _ _ hk ψ S w a _ hrel hall
 intro next Q hn
 have e : (Value.pointer (some ⟨b, off, none⟩) :: args.toList.map a.eval).toArray = #[.pointer (some ⟨b, off, none⟩)] ++ args.map a.eval ++ #[] := by apply Array.ext'; simp
 rw [e] at hcall
 refine wp_runs hop hv hcall ?_
 rintro e w' ⟨r, st', v, ψ', S', rfl, hK, h1, h2, h3⟩
 obtain ⟨st2, h4, h5⟩ := putK_rel hK h1 h2
 exact ⟨v, rfl, hn _ _ _ _ _ h4 h5 h3⟩
theorem oBound_ok (hrel : Rel P base ψ S w st a) {f : Nat} {x : Operand} (hop : o.op = .makeFunc (.func f) #[x] #[]) (hk : oBound st o.dst f (ev st x) K) : OpOk P base ψ S w a o K := by
 have hx := ev_rep hrel x
 unfold oBound at hk
 split at hk
 . rename_i k off e
   rw [e] at hx
   obtain ⟨b, m, h1, h2⟩ := hx
   refine OpOk.value (v := .func (.func f) #[a.eval x] #[]) ?_ hrel (x := .va (.c (.fb f k off))) ⟨b, m, h1, by rw [show a.eval x = _ from h2]⟩ hk (Ext.refl _ _ _ _)
   simp only [execOp, hop, Instr.makeFunc, Sem.run_bind, Sem.run_pure, Result.andThen_ok]
   simp
 . exact hk.elim
theorem onBool_ok {s : Nat} {k : St -> Option Bool -> Prop} (hrel : Rel P base ψ S w st a) (hk : onBool st s k) :
 ∃ st' b, k st' b /\ Rel P base ψ S w st' a /\ (match a.tmps[s]? with | some (.bool b') => some b' | _ => none) = b /\ (∀ b', b = some b' -> a.tmps.getD s undef = .bool b') := by
 have hs := hrel.tmps s
 unfold onBool at hk
 have get : ∀ v, v ≠ undef -> a.tmps.getD s undef = v -> a.tmps[s]? = some v := by
  intro v hv h
  rw [Array.getD_eq_getD_getElem?] at h
  cases hg : a.tmps[s]? with
  | none => rw [hg] at h; exact absurd h.symm hv
  | some x => rw [hg] at h; simp at h; rw [h]
 have getu : a.tmps.getD s undef = undef -> (match a.tmps[s]? with | some (.bool b') => some b' | _ => none) = none := by
  intro h
  rw [Array.getD_eq_getD_getElem?] at h
  cases hg : a.tmps[s]? with
  | none => rfl
  | some x => rw [hg] at h; simp at h; subst h; rfl
 split at hk
 . rename_i h; rw [h] at hs
   exact ⟨_, _, hk, hrel, by rw [get _ (by simp [undef]) hs], fun b' e => by cases e; exact hs⟩
 . rename_i h; rw [h] at hs
   exact ⟨_, _, hk, hrel, by rw [get _ (by simp [undef]) hs], fun b' e => by cases e; exact hs⟩
 . rename_i h; rw [h] at hs
   exact ⟨_, _, hk, hrel, getu hs, fun b' e => by cases e⟩
 . rename_i b ts hp n m h
   have hlook : lookT ts s = .va (.c (.d (.v (.bool b)))) := h
   rw [hlook] at hs
   have hv : a.tmps.getD s undef = .bool b := by generalize a.tmps.getD s undef = q at hs; cases hs; rfl
   have hrel' : ∀ b', b = b' -> Rel P base ψ S w ⟨(s, .va (.c (.kb b'))) :: ts, hp, n, m⟩ a := by
    intro b' e
    refine ⟨hrel.bas, hrel.sim, hrel.lim, hrel.defers, fun t => ?_⟩
    simp only [lookT]
    cases hbe : Nat.beq s t with
    | true =>
      have := Nat.eq_of_beq_eq_true hbe
      subst this
      show a.tmps.getD s undef = .bool b'
      rw [hv, e]
    | false => exact hrel.tmps t
   cases hb : b with
   | true => exact ⟨_, _, hk.1 hb, hrel' true hb, by rw [get _ (by simp [undef]) hv, hb], fun b' e => by cases e; rw [hv, hb]⟩
   | false => exact ⟨_, _, hk.2 hb, hrel' false hb, by rw [get _ (by simp [undef]) hv, hb], fun b' e => by cases e; rw [hv, hb]⟩
 . exact hk.elim
theorem vOp_ok (hτ : TysOk P τ) (hz : ∀ t i, τ t = some i -> zeroOk i.zero) (hrel : Rel P base ψ S w st a) {op : Op} (hop : o.op = op)
 (hk : vOp P τ op o.type (ev st) st.heap fun x => putK st o.dst x K) : OpOk P base ψ S w a o K := by
 unfold vOp at hk
 split at hk
 . rename_i x
   exact OpOk.value (x := ev st x) (v := a.eval x) (by simp only [execOp, hop]; rfl) hrel (ev_rep hrel x) hk (Ext.refl _ _ _ _)
 . rename_i x
   exact OpOk.value (x := ev st x) (v := a.eval x) (by simp only [execOp, hop]; rfl) hrel (ev_rep hrel x) hk (Ext.refl _ _ _ _)
 . rename_i c x y
   have hc := ev_rep hrel c
   split at hk
   . rename_i e
     rw [e] at hc
     have hc : a.eval c = .bool true := hc
     refine OpOk.value (x := ev st x) (v := a.eval x) ?_ hrel (ev_rep hrel x) hk (Ext.refl _ _ _ _)
     simp only [execOp, hop, hc, asBool]; rfl
   . rename_i e
     rw [e] at hc
     have hc : a.eval c = .bool false := hc
     refine OpOk.value (x := ev st y) (v := a.eval y) ?_ hrel (ev_rep hrel y) hk (Ext.refl _ _ _ _)
     simp only [execOp, hop, hc, asBool]; rfl
   . exact hk.elim
 . exact oLoad_ok hτ hrel hop hk
 . exact oFieldAddr_ok hτ hrel hop hk
 . exact oBuild_ok hτ hz hrel hop hk
 . exact oIndexAddr_ok hτ hrel hop hk
 . exact oField_ok hτ hrel hop hk
 . split at hk
   . rename_i xs ys hx hy; exact oEq_ok hτ hrel hop hx hy hk
   . rename_i hx hy; exact oPtr_ok hτ hrel hop hx hy hk
   . exact oBin_ok hrel hop hk
 . split at hk
   . rename_i u hu; exact oUn_ok hrel hop hu hk
   . exact hk.elim
 . split at hk
   . rename_i u hu; exact oConvert_ok hrel hop hu hk
   . exact oConvB_ok hτ hrel hop hk
 . exact oLookup_ok hτ hz hrel hop hk
 . split at hk
   . rename_i xs hx
     split at hk
     . rename_i y hy; exact oExtract_ok hrel hop hx hy hk
     . exact hk.elim
   . exact hk.elim
 . rename_i c
   obtain ⟨callee, args, ts⟩ := c
   simp only at hk
   split at hk
   . exact oLen_ok hτ hrel hop hk
   . split at hk
     . rename_i as ha; exact oMin_ok hrel hop ha hk
     . exact hk.elim
   . split at hk
     . rename_i as ha; exact oMax_ok hrel hop ha hk
     . exact hk.elim
   . exact oCap_ok hτ hrel hop hk
   . split at hk
     . rename_i as ha; exact oReal_ok hrel hop ha hk
     . exact hk.elim
   . split at hk
     . rename_i as ha; exact oImag_ok hrel hop ha hk
     . exact hk.elim
   . split at hk
     . rename_i as ha; exact oComplex_ok hrel hop ha hk
     . exact hk.elim
   . exact hk.elim
 . exact vOp2_ok hτ hrel hop hk
theorem born_modify {f : MapEntry -> MapEntry} : ∀ (l : List MapEntry) (j : Nat), (∀ e, (f e).born = e.born) -> (l.modify j f).map (·.born) = l.map (·.born)
 | [], j, _ => by simp
 | e :: l, 0, h => by simp [h]
 | e :: l, j + 1, h => by rw [List.modify_succ_cons, List.map_cons, List.map_cons, born_modify l j h]
theorem map_eraseIdx' {α β : Type} {f : α -> β} : ∀ (l : List α) (j : Nat), (l.eraseIdx j).map f = (l.map f).eraseIdx j
 | [], _ => by simp
 | _ :: l, 0 => by simp
 | _ :: l, j + 1 => by simp [map_eraseIdx' l j]
theorem map_write (hrel : Rel P base ψ S w st a) {b bl mm c0 : Nat} {es : List (List Value × Va)} {bc0 : List Nat} {arr : Array MapEntry} (h1 : ψ b = some (.at bl mm)) (hbk : lookB st.heap b = .map es bc0) (g1 : w.heap[bl]? = some (.map arr c0)) (es' : List (List Value × Va)) (o' : Array MapEntry) (c' : Nat)
 (hr : ∀ w', Later S w S w' -> All2 (EntR P ψ S w') es' o'.toList) :
 Rel P base ψ S { w with heap := w.heap.setIfInBounds bl (.map o' c') } ⟨st.tmps, (b, .map es' (c' :: o'.toList.map (·.born))) :: st.heap, st.next, st.lim⟩ a /\ Ext base ψ S w ψ S { w with heap := w.heap.setIfInBounds bl (.map o' c') } := by
 have hbs := (Array.getElem?_eq_some_iff.1 g1).1
 exact hrel.write (w' := { w with heap := w.heap.setIfInBounds bl (.map o' c') }) (blk := .map es' (c' :: o'.toList.map (·.born))) h1 (by simp only [hbk]; trivial) rfl rfl rfl (by simp) (fun b' hb' => by simp [Array.getElem?_setIfInBounds, Ne.symm hb']) (fun hl => ⟨o', c', by
  simp [Array.getElem?_setIfInBounds, hbs], rfl, hr _ hl⟩)
theorem oMapUpd_ok (hτ : TysOk P τ) (hrel : Rel P base ψ S w st a) {t : TypeId} {m k x : Operand} (hop : o.op = .mapUpdate t m k x) (hk : oMapUpd τ st o.dst t (ev st m) (ev st k) (ev st x) K) : OpOk P base ψ S w a o K := by
 have hm := ev_rep hrel m
 have hx := ev_rep hrel x
 unfold oMapUpd at hk
 split at hk
 . rename_i kt et s0 b0 z0 b ts h n l ht hme
   rw [hme] at hm
   obtain ⟨bl, mm, h1, h2⟩ := hm
   split at hk
   . rename_i xs es bc y hko hbk hxe
     rw [hxe] at hx
     obtain ⟨hkv, hfit⟩ := keyOf_spec hτ (ev_rep hrel k) hko
     have hb := hrel.sim.blk b _ h1
     simp only [hbk] at hb
     obtain ⟨arr, c, g1, g0, g2⟩ := hb
     subst g0
     rcases hfit.find g2 hk with ⟨f1, f2⟩ | ⟨j, ys, v', e, f1, f2, f3, f4, f5⟩
     . rw [fEs_eq] at f2
       obtain ⟨r1, r2⟩ := map_write hrel h1 hbk g1 (es ++ [(xs, y)]) (arr.push ⟨kVal xs, a.eval x, c⟩) (c + 1) (fun w' hl => by
        rw [Array.toList_push]
        exact all2_snoc (g2.mono fun _ _ h => ⟨h.1, h.2.later (PsiSub.refl _) hl⟩) ⟨rfl, hx.later (PsiSub.refl _) hl⟩)
       have f2' : putK ⟨ts, (b, .map (es ++ [(xs, y)]) ((c + 1) :: (arr.push ⟨kVal xs, a.eval x, c⟩).toList.map (·.born))) :: h, n, l⟩ o.dst undT K := by
        simpa [bcNew] using f2
       refine OpOk.skip ?_ r1 f2' r2
       simp only [execOp, hop, h2, hkv, Instr.mapUpdate, Sem.run_bind, run_und hτ ht, Result.andThen_ok, run_getObj_map g1, Sem.run_pure, hfit.chk, f1, run_setObj_map _ g1]
     . obtain ⟨rfl, f2⟩ := f2
       rw [fEs_eq] at f2
       obtain ⟨r1, r2⟩ := map_write hrel h1 hbk g1 (setE es j (ys, y)) (arr.modify j fun e => { e with key := kVal ys, val := a.eval x }) c (fun w' hl => by
        rw [Array.toList_modify]
        exact setE_rep j (g2.mono fun _ _ h => ⟨h.1, h.2.later (PsiSub.refl _) hl⟩) fun e _ => ⟨rfl, hx.later (PsiSub.refl _) hl⟩)
       have f3 : arr[j]? = some e := by simpa using f3
       have f4 : e.key = kVal ys := f4
       have eb : (arr.modify j fun e => { e with key := kVal ys, val := a.eval x }).toList.map (·.born) = arr.toList.map (·.born) := by
        rw [Array.toList_modify]; exact born_modify _ _ (fun _ => rfl)
       rw [eb] at r1
       refine OpOk.skip ?_ r1 f2 r2
       simp only [execOp, hop, h2, hkv, Instr.mapUpdate, Sem.run_bind, run_und hτ ht, Result.andThen_ok, run_getObj_map g1, Sem.run_pure, hfit.chk, f1, f3, Option.map_some, Option.getD_some, f4, Instr.keyThatStays, hfit.stay, if_true, run_setObj_map _ g1]
   . exact hk.elim
 . exact hk.elim
theorem oDelete_ok (hτ : TysOk P τ) (hrel : Rel P base ψ S w st a) {args : Array Operand} {ts : Array TypeId} (hop : o.op = .call { callee := .builtin .delete, args, argTypes := ts })
 (hk : oDelete τ st o.dst ts.toList (mapO (fun x => asVa (ev st x)) args.toList) K) : OpOk P base ψ S w a o K := by
 unfold oDelete at hk
 split at hk
 . rename_i t tr b k tms h n l hts has
   have hargs := args_rep hrel has
   obtain ⟨v1, v2, hav, hs, hkr⟩ : ∃ v1 v2, args.map a.eval = #[v1, v2] /\ RepVa P ψ S w (.c (.mp b)) v1 /\ RepVa P ψ S w k v2 := by
    generalize hl : args.toList.map a.eval = l at hargs
    match l, hargs with
    | [v1, v2], hargs => exact ⟨v1, v2, by apply Array.ext'; simpa using hl, hargs.1, hargs.2.1⟩
   have hts0 : ts[0]? = some t := by rw [<- Array.getElem?_toList, hts]; rfl
   obtain ⟨bl, mm, h1, h2⟩ := hs
   have h2 : v1 = .map (some bl) := h2
   subst h2
   split at hk
   . rename_i kt et s0 b0 z0 ht
     split at hk
     . rename_i xs es bc hko hbk
       obtain ⟨hkv, hfit⟩ := keyOf_spec hτ (x := .va k) hkr hko
       subst hkv
       have hb := hrel.sim.blk b _ h1
       simp only [hbk] at hb
       obtain ⟨arr, c, g1, g0, g2⟩ := hb
       subst g0
       have htup : ∀ ψ w, RepT P ψ S w (.tup []) (.tuple #[]) := fun ψ w => ⟨#[], rfl, trivial⟩
       have hrun : ∀ w2, (Builtin.delete_ ts o.type #[.map (some bl), kVal xs]).run P w = .ok (.tuple #[]) w2 -> (execOp a.eval o).run P w = .ok (.value (.tuple #[])) w2 := by
        intro w2 hr
        rw [call_builtin hop, hav]
        simp only [builtin, Sem.run_bind, hr, Result.andThen_ok, Sem.run_pure]
       rcases hfit.find g2 hk with ⟨f1, f2⟩ | ⟨j, ys, v', e, f1, f2, f3, f4, f5⟩
       . obtain ⟨r1, r2⟩ := map_write hrel h1 hbk g1 es arr c (fun w' hl => g2.mono fun _ _ h => ⟨h.1, h.2.later (PsiSub.refl _) hl⟩)
         have f2' : putK ⟨tms, (b, .map es (c :: arr.toList.map (·.born))) :: h, n, l⟩ o.dst (.tup []) K := f2
         refine OpOk.value (hrun _ ?_) r1 (htup _ _) f2' r2
         simp [Builtin.delete_, hts0, Sem.run_bind, run_und hτ ht, Result.andThen_ok, run_getObj_map g1, Sem.run_pure, hfit.chk, f1, run_setObj_map _ g1]
       . have f2 : putK ⟨tms, (b, .map (delE es j) (c :: (arr.toList.map (·.born)).eraseIdx j)) :: h, n, l⟩ o.dst (.tup []) K := by simpa only [fEs_eq, bcDel] using f2
         have hj : j < arr.size := by
          have := (List.getElem?_eq_some_iff.1 f3).1; simpa using this
         obtain ⟨r1, r2⟩ := map_write hrel h1 hbk g1 (delE es j) (arr.eraseIdxIfInBounds j) c (fun w' hl => by
          have e2 : (arr.eraseIdxIfInBounds j).toList = arr.toList.eraseIdx j := by
           unfold Array.eraseIdxIfInBounds; rw [dif_pos hj, Array.toList_eraseIdx]
          rw [e2]
          exact delE_rep j (g2.mono fun _ _ h => ⟨h.1, h.2.later (PsiSub.refl _) hl⟩))
         have eb : (arr.eraseIdxIfInBounds j).toList.map (·.born) = (arr.toList.map (·.born)).eraseIdx j := by
          unfold Array.eraseIdxIfInBounds; rw [dif_pos hj, Array.toList_eraseIdx, map_eraseIdx']
         rw [eb] at r1
         refine OpOk.value (hrun _ ?_) r1 (htup _ _) f2 r2
         simp [Builtin.delete_, hts0, Sem.run_bind, run_und hτ ht, Result.andThen_ok, run_getObj_map g1, Sem.run_pure, hfit.chk, f1, run_setObj_map _ g1]
     . exact hk.elim
   . exact hk.elim
 . exact hk.elim
theorem setV_rep {R : List Value × Va -> MapEntry -> Prop} {f : MapEntry -> MapEntry} {v : Va} : ∀ {es : List (List Value × Va)} {arr : List MapEntry} (j : Nat), All2 R es arr -> (∀ k x e, R (k, x) e -> R (k, v) (f e)) -> All2 R (setV es j v) (arr.modify j f)
 | [], [], _, _, _ => by simp [setV]; trivial
 | (k, x) :: es, e :: arr, 0, ⟨h1, h2⟩, h => by simpa [setV] using ⟨h k x e h1, h2⟩
 | y :: es, e :: arr, j + 1, ⟨h1, h2⟩, h => by
   rw [List.modify_succ_cons]
   exact ⟨h1, setV_rep j h2 h⟩
theorem idxI_ok {s : Int} : ∀ {arr : List MapEntry} {i j : Nat}, idxI s (arr.map (·.born)) i = some j -> i <= j /\ arr.findIdx? (fun e => (e.born : Int) == s) = some (j - i)
 | [], i, j, h => by cases h
 | e :: arr, i, j, h => by
   simp only [List.map_cons, idxI] at h
   split at h
   . rename_i hd
     cases h
     refine ⟨Nat.le_refl _, ?_⟩
     have : ((e.born : Int) == s) = true := by simpa using hd
     simp [List.findIdx?_cons, this]
   . rename_i hd
     obtain ⟨h1, h2⟩ := idxI_ok h
     refine ⟨by omega, ?_⟩
     have : ((e.born : Int) == s) = false := by simpa using hd
     rw [List.findIdx?_cons, this, h2]
     simp; omega
theorem oMapEntry_ok (hτ : TysOk P τ) (hz : ∀ t i, τ t = some i -> zeroOk i.zero) (hrel : Rel P base ψ S w st a) {t : TypeId} {m k : Operand} (hop : o.op = .mapEntry t m k) (hk : oMapEntry τ st o.dst t (ev st m) (ev st k) K) : OpOk P base ψ S w a o K := by
 have hm := ev_rep hrel m
 unfold oMapEntry at hk
 split at hk
 . rename_i kt et s0 b0 z0 b ts h n l ht hme
   rw [hme] at hm
   obtain ⟨bl, mm, h1, h2⟩ := hm
   split at hk
   . rename_i xs es bc d1 s1 b1 z1 hko hbk hte
     obtain ⟨hkv, hfit⟩ := keyOf_spec hτ (ev_rep hrel k) hko
     have hb := hrel.sim.blk b _ h1
     simp only [hbk] at hb
     obtain ⟨arr, c, g1, g0, g2⟩ := hb
     subst g0
     rcases hfit.find g2 hk with ⟨f1, f2⟩ | ⟨j, ys, v', e, f1, f2, f3, f4, f5⟩
     . rw [fEs_eq] at f2
       obtain ⟨r1, r2⟩ := map_write hrel h1 hbk g1 (es ++ [(xs, zeroVa z1)]) (arr.push ⟨kVal xs, z1, c⟩) (c + 1) (fun w' hl => by
        rw [Array.toList_push]
        exact all2_snoc (g2.mono fun _ _ h => ⟨h.1, h.2.later (PsiSub.refl _) hl⟩) ⟨rfl, zeroVa_rep (hz _ _ hte)⟩)
       have f2' : putK ⟨ts, (b, .map (es ++ [(xs, zeroVa z1)]) ((c + 1) :: (arr.push ⟨kVal xs, z1, c⟩).toList.map (·.born))) :: h, n, l⟩ o.dst (.tup [zeroVa z1, .c (.d (.v (.int .i64 c)))]) K := by
        simpa [bcNew, bcClock] using f2
       refine OpOk.value (v := .tuple #[z1, .int .i64 c]) ?_ r1 (by exact ⟨_, rfl, zeroVa_rep (hz _ _ hte), RepD.v trivial, trivial⟩) f2' r2
       simp only [execOp, hop, h2, hkv, Instr.mapEntry, Sem.run_bind, run_und hτ ht, run_zeroV hτ hte, Result.andThen_ok, run_getObj_map g1, Sem.run_pure, hfit.chk, f1, run_setObj_map _ g1, goInt]
     . obtain ⟨rfl, f2⟩ := f2
       have f3 : arr[j]? = some e := by simpa using f3
       have f4 : e.key = kVal ys := f4
       obtain ⟨r1, r2⟩ := map_write hrel h1 hbk g1 es (arr.modify j fun e => { e with key := kVal ys }) c (fun w' hl => by
        rw [Array.toList_modify]
        have hid : ∀ (es : List (List Value × Va)) (l : List MapEntry) (j : Nat), All2 (EntR P ψ S w') es l -> (∀ e, l[j]? = some e -> e.key = kVal ys) -> All2 (EntR P ψ S w') es (l.modify j fun e => { e with key := kVal ys }) := by
         intro es
         induction es with
         | nil => intro l j h _; cases l with
           | nil => simp; trivial
           | cons _ _ => exact h.elim
         | cons p es ih =>
           intro l j h he
           cases l with
           | nil => exact h.elim
           | cons e l =>
             cases j with
             | zero =>
               have := he e rfl
               simp only [List.modify_zero_cons]
               exact ⟨⟨by rw [<- this]; exact h.1.1, h.1.2⟩, h.2⟩
             | succ j =>
               rw [List.modify_succ_cons]
               exact ⟨h.1, ih l j h.2 fun e h => he e (by simpa using h)⟩
        exact hid es _ j (g2.mono fun _ _ h => ⟨h.1, h.2.later (PsiSub.refl _) hl⟩) fun e' he' => by
         have : arr[j]? = some e' := by simpa using he'
         rw [f3] at this; cases this; exact f4)
       have eb : (arr.modify j fun e => { e with key := kVal ys }).toList.map (·.born) = arr.toList.map (·.born) := by
        rw [Array.toList_modify]; exact born_modify _ _ (fun _ => rfl)
       rw [eb] at r1
       have eb2 : bcAt (c :: arr.toList.map (·.born)) j = e.born := by
        simp [bcAt, List.getD_eq_getElem?_getD, f3]
       rw [eb2] at f2
       refine OpOk.value (v := .tuple #[e.val, .int .i64 e.born]) ?_ r1 (by exact ⟨_, rfl, f5.later (PsiSub.refl _) r2.later, RepD.v trivial, trivial⟩) f2 r2
       simp only [execOp, hop, h2, hkv, Instr.mapEntry, Sem.run_bind, run_und hτ ht, Result.andThen_ok, run_getObj_map g1, Sem.run_pure, hfit.chk, f1, f3, Option.map_some, Option.getD_some, f4, Instr.keyThatStays, hfit.stay, if_true, run_setObj_map _ g1, goInt]
   . exact hk.elim
 . exact hk.elim
theorem oEntryStore_ok (hrel : Rel P base ψ S w st a) {t : TypeId} {m s x : Operand} (hop : o.op = .entryStore t m s x) (hk : oEntryStore st o.dst (ev st m) (ev st s) (ev st x) K) : OpOk P base ψ S w a o K := by
 have hm := ev_rep hrel m
 have hx := ev_rep hrel x
 unfold oEntryStore at hk
 split at hk
 . rename_i b kd sv v ts h n l hme hs hxe
   rw [hme] at hm
   rw [hxe] at hx
   have hs := plain_rep (ev_rep hrel s) hs
   obtain ⟨bl, mm, h1, h2⟩ := hm
   split at hk
   . rename_i es c bs hbk
     have hb := hrel.sim.blk b _ h1
     simp only [hbk] at hb
     obtain ⟨arr, c', g1, g0, g2⟩ := hb
     cases g0
     split at hk
     . rename_i i hi
       rw [fEs_eq] at hk
       obtain ⟨_, hidx⟩ := idxI_ok hi
       rw [Nat.sub_zero] at hidx
       obtain ⟨r1, r2⟩ := map_write hrel h1 hbk g1 (setV es i v) (arr.modify i fun e => { e with val := a.eval x }) c (fun w' hl => by
        rw [Array.toList_modify]
        exact setV_rep i (g2.mono fun _ _ h => ⟨h.1, h.2.later (PsiSub.refl _) hl⟩) fun k x e h => ⟨h.1, hx.later (PsiSub.refl _) hl⟩)
       have eb : (arr.modify i fun e => { e with val := a.eval x }).toList.map (·.born) = arr.toList.map (·.born) := by
        rw [Array.toList_modify]; exact born_modify _ _ (fun _ => rfl)
       rw [eb] at r1
       refine OpOk.skip ?_ r1 hk r2
       have hi2 : arr.findIdx? (fun e => (e.born : Int) == sv) = some i := by rw [<- hidx]; cases arr; simp
       simp only [execOp, hop, h2, hs, Instr.entryStore, Sem.run_bind, asInt, asIntOf, Sem.run_pure, Result.andThen_ok, run_getObj_map g1, hi2, run_setObj_map _ g1]
     . exact hk.elim
   . exact hk.elim
 . exact hk.elim
theorem oMakeSlice_ok (hτ : TysOk P τ) (hz : ∀ t i, τ t = some i -> zeroOk i.zero) (hrel : Rel P base ψ S w st a) {t : TypeId} {l c : Operand} (hop : o.op = .makeSlice t l c)
 (hk : oMakeSlice τ st o.dst t (ev st l) (ev st c) K) : OpOk P base ψ S w a o K := by
 have hl0 := ev_rep hrel l
 have hc0 := ev_rep hrel c
 unfold oMakeSlice at hk
 split at hk
 . rename_i e s1 b1 z1 kl L kc C ht hpl hpc
   have hl1 := plain_rep hl0 hpl
   have hc1 := plain_rep hc0 hpc
   split at hk
   . rename_i desc sz by' cm z hte
     split at hk
     . rename_i hd hzl hpos
       obtain ⟨d1, d2, d3, d4⟩ := of_decide_eq_true hd
       have hzl := Nat.eq_of_beq_eq_true hzl
       have hpos : 0 < sz := by simpa [Nat.blt_eq] using hpos
       obtain ⟨C, rfl⟩ := Int.eq_ofNat_of_zero_le (Int.le_trans d1 d2)
       obtain ⟨L, rfl⟩ := Int.eq_ofNat_of_zero_le d1
       simp only [Int.toNat_natCast] at hk
       have hund := run_und hτ ht w
       have hsize := run_size hτ hte w
       have hzero := run_zeroV hτ hte w
       obtain ⟨info, hinfo, _, hbys, _⟩ := run_info hτ hte w
       simp only at hund hsize hzero
       have h2 := zeroRow_ok (P := P) (ψ := ψ) (S := S) (w := w) (hz _ _ hte) (n := C * sz) hzl hpos
       generalize harr : (Array.range (C * sz)).map (z.cells[· % z.cells.size]!) = arr at h2
       obtain ⟨ds, h3, h4⟩ := closeCells_rep hrel.sim hk h2
       rw [fDs_eq] at h4
       obtain ⟨ts, h, n, m⟩ := st
       simp only [newRowK] at h4
       have hlen : ds.length = C * sz := by
        have e1 := h3.length
        have e2 := h2.length
        rw [e1, <- e2]; simp [zeroRow]
       have hn : ψ n = none := hrel.sim.dom n (Nat.le_refl _)
       have hl := later_alloc hrel.sim.sdom (Obj.cells arr e)
       have hasz : arr.size = C * sz := by have := h3.length; simp at this; omega
       have hLC : L <= C := by omega
       have hLs : L * sz <= C * sz := Nat.mul_le_mul_right sz hLC
       have hrep : BlkRep P (ψ.set n (.at w.heap.size arr.size)) S (w.alloc (.cells arr e)) (.row sz L (rowAt sz ds)) (.at w.heap.size arr.size) := by
        refine ⟨arr, e, heap_alloc_new _, rfl, by omega, ?_, ?_⟩
        . intro i hi
          have := Nat.mul_le_mul_right sz (Nat.succ_le_of_lt hi)
          rw [Nat.succ_mul] at this
          simp [rowAt]; omega
        . intro i j hi hj
          have := Nat.mul_le_mul_right sz (Nat.succ_le_of_lt hi)
          rw [Nat.succ_mul] at this
          have hlt : i * sz + j < ds.length := by omega
          obtain ⟨v, g1, g2⟩ := h3.get (i * sz + j) (ds[i * sz + j]) (by simp [hlt])
          have e1 : (rowAt sz ds i).getD j (.v (.bool false)) = ds[i * sz + j] := by
           simp [rowAt, List.getD, List.getElem?_drop, hj, hlt]
          have e2 : arr.getD (i * sz + j) undef = v := by
           rw [Array.getElem?_toList] at g1
           simp [Array.getD_eq_getD_getElem?, g1]
          rw [e1, e2]; exact g2.later hl
       obtain ⟨k1, k2⟩ := hrel.alloc (blk := .row sz L (rowAt sz ds)) (arr := arr) (e := e) hrep
       refine OpOk.value (v := .slice (some ⟨w.heap.size, 0, none⟩) L C) ?_ k1 ?_ h4 k2
       . have wl : IntKind.i64.wrap (L : Int) = L := by rw [IntKind.wrap_i64]; omega
         have wc : IntKind.i64.wrap (C : Int) = C := by rw [IntKind.wrap_i64]; omega
         have hby : (info.bytes : Int) * (C : Int) <= 281474976710656 := by rw [hbys, Int.mul_comm]; exact d3
         have n1 : ¬ ((C : Int) < 0) := by omega
         have n2 : ¬ (281474976710656 < (info.bytes : Int) * (C : Int)) := by omega
         have n5 : ¬ (C < L) := by omega
         have n3 : ¬ ((L : Int) < 0) := by omega
         have n4 : ¬ ((L : Int) > (C : Int)) := by omega
         by_cases h0 : C * sz = 0
         . have harr0 : (Array.range 0).map ((#[] : Array Value)[· % (#[] : Array Value).size]!) = arr := by rw [<- harr, h0]; simp
           simp [execOp, hop, Instr.makeSlice, hl1, hc1, asInt, asIntOf, hund, hinfo, wl, wc, n1, n2, n3, n4, n5, hsize, h0, newRow, <- harr0]
         . simp [execOp, hop, Instr.makeSlice, hl1, hc1, asInt, asIntOf, hund, hinfo, wl, wc, n1, n2, n3, n4, n5, hsize, hzero, h0, harr, newRow]
       . exact .inr ⟨w.heap.size, arr.size, C, 0, by simp [Psi.set], rfl, hLC, fun _ => ⟨by simp, by simp [hasz]⟩⟩
     . exact hk.elim
   . exact hk.elim
 . exact hk.elim
theorem oStoreF_ok (hτ : TysOk P τ) (hrel : Rel P base ψ S w st a) {t : TypeId} {p x : Operand} (hop : o.op = .store t p x) (hk : oStoreF τ st o.dst t (ev st p) (ev st x) K) : OpOk P base ψ S w a o K := by
 unfold oStoreF at hk
 split at hk
 . rename_i y k z i off ts h n l e1 e2
   obtain ⟨h', S1, g1, g2, g3⟩ := frCells_ok _ _ _ hrel hk
   rw [<- e1, <- e2] at g1
   exact (oStore_ok hτ g2 hop g1).thaw g3
 . exact oStore_ok hτ hrel hop hk
theorem vcOp_ok (hτ : TysOk P τ) (hz : ∀ t i, τ t = some i -> zeroOk i.zero) {calls : Nat -> List Va -> St -> (Tm -> St -> Prop) -> Prop} (hcalls : CallsOk P base calls)
 (hrel : Rel P base ψ S w st a) (hk : vcOp P τ calls o st K) : OpOk P base ψ S w a o K := by
 unfold vcOp at hk
 split at hk
 . rename_i c x y hop
   split at hk
   . rename_i s
     obtain ⟨st', b, hk, hrel', _, hb⟩ := onBool_ok hrel hk
     split at hk
     . have hb := hb true rfl
       refine OpOk.value (x := ev st' x) (v := a.eval x) ?_ hrel' (ev_rep hrel' x) hk (Ext.refl _ _ _ _)
       have : a.eval (.tmp s) = .bool true := hb
       simp only [execOp, hop, this, asBool]; rfl
     . have hb := hb false rfl
       refine OpOk.value (x := ev st' y) (v := a.eval y) ?_ hrel' (ev_rep hrel' y) hk (Ext.refl _ _ _ _)
       have : a.eval (.tmp s) = .bool false := hb
       simp only [execOp, hop, this, asBool]; rfl
     . exact hk.elim
   . exact hk.elim
 . rename_i e hop; exact oAlloc_ok hτ hz hrel hop hk
 . rename_i e x hop; exact oBox_ok hrel hop hk
 . rename_i t x y hop; exact oStoreF_ok hτ hrel hop hk
 . rename_i t len parts hop; exact oBuildSliceF_ok hτ hz hrel hop hk
 . rename_i t x hop; exact oRange_ok hτ hrel hop hk
 . rename_i s t x hop
   split at hk
   . exact oConvS_ok hτ hrel hop hk
   . exact vOp_ok hτ hz hrel hop hk
 . rename_i x b hop; exact oNext_ok hrel hop hk
 . rename_i t hop; exact oMakeMap_ok hrel hop hk
 . rename_i f x hop; exact oBound_ok hrel hop hk
 . rename_i t m k hop; exact oMapEntry_ok hτ hz hrel hop hk
 . rename_i t l c hop; exact oMakeSlice_ok hτ hz hrel hop hk
 . rename_i t m s x hop; exact oEntryStore_ok hrel hop hk
 . rename_i t m k x hop; exact oMapUpd_ok hτ hrel hop hk
 . rename_i c hop
   obtain ⟨callee, args, ts⟩ := c
   simp only at hk
   split at hk
   . split at hk
     . rename_i g caps as hf ha
       rw [fVas_eq] at hk
       exact oCall_ok hcalls hrel hop hf ha hk
     . rename_i g k off as hf ha
       rw [fVas_eq] at hk
       exact oCallFb_ok hcalls hrel hop hf ha hk
     . rename_i g as hf ha
       exact oCallFv_ok hrel hop hf ha hk
     . exact hk.elim
   . split at hk
     . rename_i k z o' len cap q ha; exact oAppMake_ok hτ hz hrel hop ha hk
     . rename_i as _ ha
       split at hk
       . rename_i he; exact oAppNil_ok hτ hrel hop ha he hk
       . exact oAppend_ok hτ hz hrel hop ha hk
     . exact hk.elim
   . split at hk
     . rename_i as ha; exact oCopy_ok hτ hrel hop ha hk
     . exact hk.elim
   . exact oDelete_ok hτ hrel hop hk
   . exact oClear_ok hτ hz hrel hop hk
   . exact vOp_ok hτ hz hrel hop hk
 . rename_i op t x y ty hop
   split at hk
   . rename_i hy; exact oNil_ok hτ hrel hop hy hk
   . exact vOp_ok hτ hz hrel hop hk
 . exact vOp_ok hτ hz hrel rfl hk
theorem vcOps_ok (hτ : TysOk P τ) (hz : ∀ t i, τ t = some i -> zeroOk i.zero) {calls : Nat -> List Va -> St -> (Tm -> St -> Prop) -> Prop} (hcalls : CallsOk P base calls)
 {ops : Array Oper} {Q : Exit -> Act -> World -> Prop} : ∀ (rest : List Oper) (k : Nat) (ψ : Psi) (S : Nat -> Prop) (w : World) (st : St) (a : Act) (K : St -> Prop),
 (∀ i o, rest[i]? = some o -> ops[k + i]? = some o) -> Rel P base ψ S w st a -> vcOps P τ calls ops.toList rest st K ->
 (∀ st' ψ' S' w' a', K st' -> Rel P base ψ' S' w' st' a' -> Ext base ψ S w ψ' S' w' -> Q .normal a' w') -> wpOps P ops Q (List.range' k rest.length) a w
 | [], k, ψ, S, w, st, a, K, _, hrel, hk, hq => hq _ _ _ _ _ hk hrel (Ext.refl _ _ _ _)
 | o :: rest, k, ψ, S, w, st, a, K, hall, hrel, hk, hq => by
   have ho : ops[k]? = some o := by simpa using hall 0 o (by simp)
   have hrest : ∀ (i : Nat) (x : Oper), rest[i]? = some x -> ops[k + 1 + i]? = some x := fun i x hx => by
    have := hall (i + 1) x (by simpa using hx)
    rwa [show k + (i + 1) = k + 1 + i by omega] at this
   simp only [List.length_cons, List.range'_succ, wpOps, ho]
   have go : ∀ st, Rel P base ψ S w st a -> vcOp P τ calls o st (fun st => vcOps P τ calls ops.toList rest st K) -> o.wp P a w (wpOps P ops Q (List.range' (k + 1) rest.length)) Q := by
    intro st hrel h
    refine vcOp_ok hτ hz hcalls hrel h _ _ ?_
    intro st' ψ' S' w' a' h1 h2 h3
    exact vcOps_ok hτ hz hcalls rest (k + 1) ψ' S' w' st' a' K hrest h2 h1 fun st2 ψ2 S2 w2 a2 g1 g2 g3 => hq _ _ _ _ _ g1 g2 (h3.trans g3)
   rw [vcOps_cons] at hk
   split at hk
   . rename_i hg
     have : Region.wanted o (yielded ops a.tmps) = true := by simp [Region.wanted, hg]
     rw [if_pos this]
     exact .inl (go st hrel hk)
   . rename_i j want hg
     split at hk
     . exact hk.elim
     . rename_i s hs
       obtain ⟨st', b, hk, hrel', hb, _⟩ := onBool_ok hrel hk
       have hy : yielded ops a.tmps j = b := by
        have hd : (ops[j]?).bind (·.dst) = some s := by
         unfold dstOf at hs
         rw [Array.getElem?_toList] at hs
         split at hs
         . rename_i hj; rw [hj]; exact hs
         . simp at hs
        simp only [yielded, hd, Option.bind_some]
        rw [<- hb]
        split <;> simp_all
       split at hk
       . rename_i he
         have : Region.wanted o (yielded ops a.tmps) = true := by simp only [Region.wanted, hg, hy]; exact he
         rw [if_pos this]
         exact .inl (go st' hrel' hk)
       . rename_i he
         have : ¬ Region.wanted o (yielded ops a.tmps) = true := by simp only [Region.wanted, hg, hy]; simpa using he
         rw [if_neg this]
         obtain ⟨st2, h1, h2⟩ := putK_rel (v := undef) hk hrel' rfl
         exact vcOps_ok hτ hz hcalls rest (k + 1) ψ S w st2 (a.put o.dst undef) K hrest h2 h1 hq
theorem oBuildFr_ok (hτ : TysOk P τ) (hz : ∀ t i, τ t = some i -> zeroOk i.zero) (hrel : Rel P base ψ S w st a) {t : TypeId} {len : Nat} {parts : Array (Nat × Operand)} (hop : o.op = .buildSlice t len parts)
 (hk : oBuildFr τ st.heap (ev st) t len parts.toList fun x => putK st o.dst x K) : OpOk P base ψ S w a o K := by
 unfold oBuildFr at hk
 split at hk
 . rename_i e sz' bt' z' ht
   split at hk
   . rename_i desc sz bt z hte
     split at hk
     . rename_i cs hle hzl hpos hfill
       have hle := Nat.le_of_ble_eq_true hle
       have hzl := Nat.eq_of_beq_eq_true hzl
       have hpos : 0 < sz := by simpa [Nat.blt_eq] using hpos
       have hund := run_und hτ ht w
       have hsize := run_size hτ hte w
       have hzero := run_zeroV hτ hte w
       simp only at hund hsize hzero
       obtain ⟨arr, h1, h2⟩ := fillRow_ok (P := P) hrel parts.toList _ _ _ (zeroRow_ok (hz _ _ hte) (n := len * sz) hzl hpos) hfill
       obtain ⟨ds, h3, h4⟩ := closeCells_rep hrel.sim hk h2
       rw [fDs_eq] at h4
       obtain ⟨ts, h, n, m⟩ := st
       have hlen : ds.length = len * sz := by
        have e1 := h3.length
        have e2 := h2.length
        have : ∀ (ps : List (Nat × Operand)) (c r : List Cell), fillRow sz (ev ⟨ts, h, n, m⟩) ps c = some r -> r.length = c.length := by
         intro ps
         induction ps with
         | nil => intro c r hf; simp [fillRow] at hf; rw [hf]
         | cons p ps ih =>
           intro c r hf
           simp only [fillRow] at hf
           split at hf
           . split at hf
             . rename_i hset
               rw [ih _ _ hf]
               exact (setAt_spec _ _ _ _ hset).1
             . simp at hf
           . simp at hf
        have e3 := this _ _ _ hfill
        rw [e1, <- e2, e3]; simp [zeroRow]
       have hasz : arr.size = len * sz := by have := h3.length; simp at this; omega
       obtain ⟨k1, k2⟩ := hrel.ext0 (S' := fun b => S b \/ b = w.heap.size) (w' := w.alloc (.cells arr e)) ⟨rfl, rfl, rfl, by simp, fun b hb => heap_alloc_lt _ hb, fun _ h => .inl h, fun b hb => by rcases hb with h | rfl; exact .inl h; exact .inr (Nat.le_refl _), fun b hb => by rcases hb with h | rfl; have := hrel.sim.sdom b h; simp; omega; simp⟩
       have hl := k2.later
       have hrep : RepD (fun b => S b \/ b = w.heap.size) (w.alloc (.cells arr e)) (.lst sz len (rowAt sz ds)) (.slice (some ⟨w.heap.size, 0, none⟩) len len) := by
        refine .lst (fun i j => arr.getD (i * sz + j) undef) (.inr rfl) ?_ ?_ ?_ (Nat.le_refl _)
        . intro i hi
          have := Nat.mul_le_mul_right sz (Nat.succ_le_of_lt hi)
          rw [Nat.succ_mul] at this
          simp [rowAt]; omega
        . intro i j hi hj
          have := Nat.mul_le_mul_right sz (Nat.succ_le_of_lt hi)
          rw [Nat.succ_mul] at this
          rw [cell_at (heap_alloc_new _)]
          have : i * sz + j < arr.size := by omega
          simp [Array.getD, this]
        . intro i j hi hj
          have := Nat.mul_le_mul_right sz (Nat.succ_le_of_lt hi)
          rw [Nat.succ_mul] at this
          have hlt : i * sz + j < ds.length := by omega
          obtain ⟨v, g1, g2⟩ := h3.get (i * sz + j) (ds[i * sz + j]) (by simp [hlt])
          have e1 : (rowAt sz ds i).getD j (.v (.bool false)) = ds[i * sz + j] := by
           simp [rowAt, List.getD, List.getElem?_drop, hj, hlt]
          have e2 : arr.getD (i * sz + j) undef = v := by
           rw [Array.getElem?_toList] at g1
           simp [Array.getD_eq_getD_getElem?, g1]
          rw [e1, e2]; exact g2.later hl
       refine OpOk.value (v := .slice (some ⟨w.heap.size, 0, none⟩) len len) (x := .va (.c (.d (.lst sz len (rowAt sz ds))))) ?_ k1 hrep h4 k2
       . have hp : (Array.map (fun p => (p.1, a.eval p.2)) parts).toList = parts.toList.map fun p => (p.1, a.eval p.2) := by simp
         have hgt : ¬ len * sz > 2 ^ 24 := by omega
         by_cases h0 : len * sz = 0
         . have : (Array.range (len * sz)).map ((z.cells[· % z.cells.size]!)) = (Array.range (len * sz)).map ((#[] : Array Value)[· % (#[] : Array Value).size]!) := by rw [h0]; simp
           rw [this] at h1
           simp only [execOp, hop, Instr.buildSlice, Sem.run_bind, hund, hsize, Result.andThen_ok, if_neg hgt, if_pos h0, Sem.run_pure, hp, h1, newRow, run_newObj]
           rfl
         . simp only [execOp, hop, Instr.buildSlice, Sem.run_bind, hund, hsize, hzero, Result.andThen_ok, if_neg hgt, if_neg h0, Sem.run_pure, hp, h1, newRow, run_newObj]
           rfl
     . exact hk.elim
   . exact hk.elim
 . exact hk.elim
end
def OslV (sz o len : Nat) (l : Loc) (x : Value) : Prop := match l with
 | .virt => len = 0 /\ ∃ a, x = .slice a 0 0
 | .at b m => ∃ c off, x = .slice (some ⟨b, off, none⟩) len c /\ len <= c /\ (0 < c -> off = o * sz /\ (o + c) * sz <= m)
def RowRep (S : Nat -> Prop) (w : World) (sz n : Nat) (f : Nat -> List DV) : Loc -> Prop
 | .virt => n = 0
 | .at b m => ∃ arr e, w.heap[b]? = some (.cells arr e (0, 0)) /\ arr.size = m /\ n * sz <= m /\ (∀ i, i < n -> (f i).length = sz) /\
    ∀ i j, i < n -> j < sz -> RepD S w ((f i).getD j (.v (.bool false))) (arr.getD (i * sz + j) undef)
def RepIcs (S : Nat -> Prop) (w : World) : List Ic -> List Value -> List Loc -> Prop
 | [], [], [] => True
 | .d x :: xs, v :: vs, ls => RepD S w x v /\ RepIcs S w xs vs ls
 | .ow sz n f :: xs, v :: vs, l :: ls => OslV sz 0 n l v /\ RowRep S w sz n f l /\ RepIcs S w xs vs ls
 | _, _, _ => False
def RepAr (P : Program) (S : Nat -> Prop) (w : World) : Ar -> Value -> List Loc -> Prop
 | .c x, v, ls => RepIcs S w [x] [v] ls
 | .agg xs, v, ls => ∃ arr : Array Value, v = .agg arr /\ RepIcs S w xs arr.toList ls
 | .rp cs, v, ls => ls = [] /\ RepC P (fun _ => none) S w (.rp cs) v
 | .fv g, v, ls => ls = [] /\ FnOk P g v S w
def RepArs (P : Program) (S : Nat -> Prop) (w : World) : List Ar -> List Value -> List Loc -> Prop
 | [], [], ls => ls = []
 | x :: xs, v :: vs, ls => ∃ l1 l2, ls = l1 ++ l2 /\ RepAr P S w x v l1 /\ RepArs P S w xs vs l2
 | _, _, _ => False
def RepRt (P : Program) (S : Nat -> Prop) (w : World) : Rt -> Value -> List Loc -> Prop
 | .va x, v, ls => RepAr P S w x v ls
 | .tup xs, v, ls => ∃ arr : Array Value, v = .tuple arr /\ RepArs P S w xs arr.toList ls
def blkIn (ls : List Loc) (b : Nat) : Prop := ∃ m, Loc.at b m ∈ ls
def Sep (S : Nat -> Prop) (w : World) : List Loc -> Prop
 | [] => True
 | .virt :: ls => Sep S w ls
 | .at b _ :: ls => ¬ S b /\ b < w.heap.size /\ ¬ blkIn ls b /\ Sep S w ls
def icRows : List Ic -> List (Nat × Nat)
 | [] => []
 | .d _ :: xs => icRows xs
 | .ow sz n _ :: xs => (sz, n) :: icRows xs
def arRows : Ar -> List (Nat × Nat)
 | .c x => icRows [x]
 | .agg xs => icRows xs
 | _ => []
def arsRows : List Ar -> List (Nat × Nat)
 | [] => []
 | x :: xs => arRows x ++ arsRows xs
def RepUs (S : Nat -> Prop) (w : World) : List (Nat × Nat) -> List (Option (Nat -> List DV)) -> List Loc -> Prop
 | (sz, n) :: rs, some f :: us, l :: ls => RowRep S w sz n f l /\ RepUs S w rs us ls
 | _ :: rs, none :: us, _ :: ls => RepUs S w rs us ls
 | [], [], [] => True
 | _, _, _ => False
def keptLocs : List (Option (Nat -> List DV)) -> List Loc -> List Loc
 | some _ :: us, l :: ls => l :: keptLocs us ls
 | none :: us, _ :: ls => keptLocs us ls
 | _, _ => []
structure ExtA (S : Nat -> Prop) (w : World) (ls : List Loc) (S' : Nat -> Prop) (w' : World) (ls' : List Loc) : Prop where
 os : w'.os = w.os
 tape : w'.tape = w.tape
 output : w'.output = w.output
 grow : w.heap.size <= w'.heap.size
 old : ∀ b, b < w.heap.size -> ¬ blkIn ls b -> w'.heap[b]? = w.heap[b]?
 later : Later S w S' w'
 newS : ∀ b, S' b -> S b \/ blkIn ls b \/ w.heap.size <= b
 newL : ∀ b, blkIn ls' b -> blkIn ls b \/ w.heap.size <= b
 sdom : ∀ b, S' b -> b < w'.heap.size
def FCat (P : Program) (f : Nat) (as : List Ar) (r : Rt) (us : List (Option (Nat -> List DV))) : Prop :=
 ∀ (S : Nat -> Prop) (w : World) (vals : List Value) (ls : List Loc), SOk P S w -> RepArs P S w as vals ls -> Sep S w ls ->
  Runs P f vals.toArray w fun e w' => ∃ v S' ls', e = .returned v /\ RepRt P S' w' r v ls' /\ RepUs S' w' (arsRows as) us ls /\
   Sep S' w' (keptLocs us ls ++ ls') /\ ExtA S w ls S' w' ls'
def FC (P : Program) (f : Nat) (F : List Ar -> Option Rs) : Prop :=
 ∀ as pre r us, F as = some ⟨pre, r, us⟩ -> pre -> FCat P f as r us
def icsCells : Nat -> List Ic -> List Cell × List (Nat × Blk) × Nat
 | i, [] => ([], [], i)
 | i, .d x :: xs => match icsCells i xs with
   | (a, b, c) => (.d x :: a, b, c)
 | i, .ow sz n f :: xs => match icsCells (i + 1) xs with
   | (a, b, c) => (.osl i sz 0 n :: a, (i, .row sz n f) :: b, c)
def arVa : Nat -> Ar -> Va × List (Nat × Blk) × Nat
 | i, .c (.d x) => (.c (.d x), [], i)
 | i, .c (.ow sz n f) => (.c (.osl i sz 0 n), [(i, .row sz n f)], i + 1)
 | i, .agg cs => match icsCells i cs with
   | (a, b, c) => (.agg a, b, c)
 | i, .rp cs => (.c (.rp cs), [], i)
 | i, .fv g => (.c (.fv g), [], i)
def arsVa : Nat -> List Ar -> List Va × List (Nat × Blk) × Nat
 | i, [] => ([], [], i)
 | i, x :: xs => match arVa i x with
   | (a, b, j) => match arsVa j xs with
     | (as, bs, k) => (a :: as, b ++ bs, k)
section
variable {P : Program} {S S' : Nat → Prop} {w w' : World}
theorem icsCells_next : ∀ (xs : List Ic) (i : Nat), (icsCells i xs).2.2 = i + (icRows xs).length
 | [], i => rfl
 | .d x :: xs, i => by simp [icsCells, icRows, icsCells_next xs i]
 | .ow sz n f :: xs, i => by simp [icsCells, icRows, icsCells_next xs (i + 1)]; omega
theorem arVa_next : ∀ (x : Ar) (i : Nat), (arVa i x).2.2 = i + (arRows x).length
 | .c (.d x), i => rfl
 | .c (.ow sz n f), i => rfl
 | .agg xs, i => by simp [arVa, arRows, icsCells_next]
 | .rp _, _ => rfl
 | .fv _, _ => rfl
theorem arsVa_next : ∀ (xs : List Ar) (i : Nat), (arsVa i xs).2.2 = i + (arsRows xs).length
 | [], i => rfl
 | x :: xs, i => by simp [arsVa, arsRows, arVa_next, arsVa_next xs]; omega
inductive Ents (S : Nat -> Prop) (w : World) : Nat -> List (Nat × Blk) -> List Loc -> Prop
 | nil {i : Nat} : Ents S w i [] []
 | cons {i sz n : Nat} {f : Nat -> List DV} {l : Loc} {h : List (Nat × Blk)} {ls : List Loc} : RowRep S w sz n f l -> Ents S w (i + 1) h ls -> Ents S w i ((i, .row sz n f) :: h) (l :: ls)
theorem Ents.append {i : Nat} {h h' : List (Nat × Blk)} {ls ls' : List Loc} (a : Ents S w i h ls) (b : Ents S w (i + ls.length) h' ls') : Ents S w i (h ++ h') (ls ++ ls') := by
 induction a with
 | nil => simpa using b
 | cons r _ ih => exact .cons r (ih (by simpa [Nat.add_assoc, Nat.add_comm 1] using b))
def psiFrom (i : Nat) (ls : List Loc) : Psi := fun k => if k < i then none else ls[k - i]?
theorem oslV_rep {ψ : Psi} {k sz n : Nat} {l : Loc} {v : Value} (hψ : ψ k = some l) (h : OslV sz 0 n l v) : RepC P ψ S w (.osl k sz 0 n) v := by
 cases l with
 | virt => exact .inl ⟨hψ, h⟩
 | «at» b m => obtain ⟨c, off, h1, h2, h3⟩ := h; exact .inr ⟨b, m, c, off, hψ, h1, h2, h3⟩
theorem ics_rep {ψ : Psi} : ∀ (xs : List Ic) (vs : List Value) (ls : List Loc) (i : Nat), RepIcs S w xs vs ls -> (∀ j l, ls[j]? = some l -> ψ (i + j) = some l) ->
 All2 (RepM P ψ S w) (icsCells i xs).1 vs /\ Ents S w i (icsCells i xs).2.1 ls /\ ls.length = (icRows xs).length
 | [], [], [], i, _, _ => ⟨trivial, .nil, rfl⟩
 | [], [], _ :: _, i, h, _ => by simp [RepIcs] at h
 | [], _ :: _, _, i, h, _ => by simp [RepIcs] at h
 | .d x :: xs, [], ls, i, h, _ => by simp [RepIcs] at h
 | .d x :: xs, v :: vs, ls, i, h, hψ => by
   simp only [RepIcs] at h
   obtain ⟨h1, h2⟩ := h
   obtain ⟨g1, g2, g3⟩ := ics_rep xs vs ls i h2 hψ
   exact ⟨⟨⟨h1, h1.scalar⟩, g1⟩, g2, g3⟩
 | .ow sz n f :: xs, [], ls, i, h, _ => by simp [RepIcs] at h
 | .ow sz n f :: xs, v :: vs, [], i, h, _ => by simp [RepIcs] at h
 | .ow sz n f :: xs, v :: vs, l :: ls, i, h, hψ => by
   simp only [RepIcs] at h
   obtain ⟨h1, h2, h3⟩ := h
   obtain ⟨g1, g2, g3⟩ := ics_rep xs vs ls (i + 1) h3 (fun j l hj => by have := hψ (j + 1) l (by simpa using hj); rwa [show i + (j + 1) = i + 1 + j by omega] at this)
   refine ⟨⟨⟨oslV_rep (hψ 0 l (by simp)) h1, ?_⟩, g1⟩, .cons h2 g2, by simp [icRows, g3]⟩
   cases l with
   | virt => obtain ⟨_, a, e⟩ := h1; rw [e]; trivial
   | «at» b m => obtain ⟨c, off, e, _⟩ := h1; rw [e]; trivial
theorem ar_rep {ψ : Psi} (x : Ar) (v : Value) (ls : List Loc) (i : Nat) (h : RepAr P S w x v ls) (hψ : ∀ j l, ls[j]? = some l -> ψ (i + j) = some l) :
 RepVa P ψ S w (arVa i x).1 v /\ Ents S w i (arVa i x).2.1 ls /\ ls.length = (arRows x).length := by
 cases x with
 | c x =>
   obtain ⟨g1, g2, g3⟩ := ics_rep (P := P) (ψ := ψ) [x] [v] ls i h hψ
   cases x with
   | d x => exact ⟨g1.1.1, g2, g3⟩
   | ow sz n f => exact ⟨g1.1.1, g2, g3⟩
 | agg xs =>
   obtain ⟨arr, rfl, h⟩ := h
   obtain ⟨g1, g2, g3⟩ := ics_rep (P := P) (ψ := ψ) xs _ ls i h hψ
   exact ⟨⟨arr, rfl, g1⟩, g2, g3⟩
 | rp cs => obtain ⟨rfl, h⟩ := h; exact ⟨h, .nil, rfl⟩
 | fv g => obtain ⟨rfl, h⟩ := h; exact ⟨h, .nil, rfl⟩
theorem ars_rep {ψ : Psi} : ∀ (xs : List Ar) (vs : List Value) (ls : List Loc) (i : Nat), RepArs P S w xs vs ls -> (∀ j l, ls[j]? = some l -> ψ (i + j) = some l) ->
 All2 (RepVa P ψ S w) (arsVa i xs).1 vs /\ Ents S w i (arsVa i xs).2.1 ls /\ ls.length = (arsRows xs).length
 | [], [], ls, i, h, _ => by have : ls = [] := h; subst this; exact ⟨trivial, .nil, rfl⟩
 | [], _ :: _, _, _, h, _ => by simp [RepArs] at h
 | _ :: _, [], _, _, h, _ => by simp [RepArs] at h
 | x :: xs, v :: vs, ls, i, h, hψ => by
   obtain ⟨l1, l2, rfl, h1, h2⟩ := h
   obtain ⟨g1, g2, g3⟩ := ar_rep (ψ := ψ) x v l1 i h1 (fun j l hj => hψ j l (by rw [List.getElem?_append_left (List.getElem?_eq_some_iff.1 hj).1]; exact hj))
   have e : (arVa i x).2.2 = i + l1.length := by rw [arVa_next, g3]
   obtain ⟨g4, g5, g6⟩ := ars_rep (ψ := ψ) xs vs l2 (i + l1.length) h2 (fun j l hj => by
    have := hψ (l1.length + j) l (by rw [List.getElem?_append_right (by omega)]; simpa using hj)
    rwa [show i + (l1.length + j) = i + l1.length + j by omega] at this)
   simp only [arsVa, e]
   refine ⟨⟨g1, g4⟩, g2.append g5, by simp [arsRows, g3, g6]⟩
theorem Ents.look {h : List (Nat × Blk)} {i : Nat} {ls : List Loc} (he : Ents S w i h ls) : ∀ j l, ls[j]? = some l -> ∃ sz n f, lookB h (i + j) = .row sz n f /\ RowRep S w sz n f l := by
 induction he with
 | nil => intro j l h; simp at h
 | @cons i sz n f l h ls r _ ih =>
   intro j l' hj
   cases j with
   | zero => simp at hj; subst hj; exact ⟨sz, n, f, by rw [lookB_cons]; simp, r⟩
   | succ j =>
     obtain ⟨sz', n', f', h1, h2⟩ := ih j l' (by simpa using hj)
     exact ⟨sz', n', f', by rw [lookB_cons, if_neg (by omega), show i + (j + 1) = i + 1 + j by omega]; exact h1, h2⟩
theorem RowRep.blk {ψ : Psi} {sz n : Nat} {f : Nat -> List DV} {l : Loc} : RowRep S w sz n f l ↔ BlkRep P ψ S w (.row sz n f) l := by cases l <;> exact Iff.rfl
theorem Sep.get {ls : List Loc} (h : Sep S w ls) : ∀ (j b m : Nat), ls[j]? = some (.at b m) -> ¬ S b /\ b < w.heap.size /\ ∀ j' m', ls[j']? = some (.at b m') -> j = j' := by
 induction ls with
 | nil => intro j b m h; simp at h
 | cons l ls ih =>
   intro j b m hj
   have h2 : Sep S w ls := by cases l with | virt => exact h | «at» b m => exact h.2.2.2
   cases j with
   | zero =>
     simp at hj; subst hj
     obtain ⟨h1, h3, h4, h5⟩ := h
     refine ⟨h1, h3, fun j' m' hj' => ?_⟩
     cases j' with
     | zero => rfl
     | succ j' => exact absurd ⟨m', List.mem_of_getElem? (by simpa using hj')⟩ h4
   | succ j =>
     obtain ⟨g1, g2, g3⟩ := ih h2 j b m (by simpa using hj)
     refine ⟨g1, g2, fun j' m' hj' => ?_⟩
     cases j' with
     | zero => simp at hj'; subst hj'; exact absurd ⟨m, List.mem_of_getElem? (by simpa using hj)⟩ h.2.2.1
     | succ j' => rw [g3 j' m' (by simpa using hj')]
theorem start_sim {h : List (Nat × Blk)} {ls : List Loc} (hs : SOk P S w) (he : Ents S w 0 h ls) (hsep : Sep S w ls) : Sim P (psiFrom 0 ls) S w h ls.length where
 dom k hk := by simp [psiFrom, hk]
 blk k l hk := by
  simp only [psiFrom, Nat.not_lt_zero, if_false, Nat.sub_zero] at hk
  obtain ⟨sz, n, f, h1, h2⟩ := he.look k l hk
  rw [Nat.zero_add] at h1
  rw [h1]; exact RowRep.blk.1 h2
 inj k k' b m m' hk hk' _ _ := by
  simp only [psiFrom, Nat.not_lt_zero, if_false, Nat.sub_zero] at hk hk'
  exact (hsep.get k b m hk).2.2 k' m' hk'
 dis k b m hk _ := by
  simp only [psiFrom, Nat.not_lt_zero, if_false, Nat.sub_zero] at hk
  exact (hsep.get k b m hk).1
 pdom k b m hk := by
  simp only [psiFrom, Nat.not_lt_zero, if_false, Nat.sub_zero] at hk
  exact (hsep.get k b m hk).2.1
 sdom := hs
end
def frOwn (h : List (Nat × Blk)) (k : Nat) (K : List (Nat × Blk) -> Prop) : Prop :=
 match lookB h k with
 | .cells cs => frCells h cs fun h => closeCells h cs fun ds => fDs ds fun ds => K ((k, .fz ds) :: h)
 | _ => K h
def frOwns : List (Nat × Blk) -> List (Nat × Nat) -> (List (Nat × Blk) -> Prop) -> Prop
 | h, [], K => K h
 | h, p :: ps, K => frOwn h p.1 fun h => frOwns h ps K
def frVa (h : List (Nat × Blk)) (x : Va) (K : List (Nat × Blk) -> Prop) : Prop :=
 match x with
 | .c (.own k _) => frOwn h k K
 | .c (.fn _ caps) => frOwns h caps K
 | .c c => frCell h c K
 | .agg cs => frCells h cs K
def frVas : List (Nat × Blk) -> List Va -> (List (Nat × Blk) -> Prop) -> Prop
 | h, [], K => K h
 | h, c :: cs, K => frVa h c fun h => frVas h cs K
section
variable {P : Program} {τ : Tys} {base : Nat} {ψ ψ' : Psi} {S S' : Nat → Prop} {w w' : World} {a : Act}
theorem frCells_look {k : Nat} {cs0 : List Cell} : ∀ (cs : List Cell) (h : List (Nat × Blk)) {K : List (Nat × Blk) -> Prop}, lookB h k = .cells cs0 -> frCells h cs K -> frCells h cs (fun h' => K h' /\ lookB h' k = .cells cs0)
 | [], h, K, hc, hk => ⟨hk, hc⟩
 | c :: cs, h, K, hc, hk => by
   have step : ∀ h', lookB h' k = .cells cs0 -> frCells h' cs K -> frCells h' cs (fun h' => K h' /\ lookB h' k = .cells cs0) := fun h' => frCells_look cs h'
   show frCell h c fun h => frCells h cs (fun h' => K h' /\ lookB h' k = .cells cs0)
   have hk : frCell h c fun h => frCells h cs K := hk
   cases c with
   | osl k' z o l =>
     simp only [frCell] at hk ⊢
     cases hb : lookB h k' with
     | row sz nn f =>
       simp only [hb] at hk ⊢
       refine step _ ?_ hk
       rw [lookB_cons, if_neg]
       . exact hc
       . rintro rfl; rw [hc] at hb; cases hb
     | _ => simp only [hb] at hk ⊢; exact step _ hc hk
   | _ => exact step _ hc hk
theorem frOwn_ok {ts : List (Nat × Tm)} {h : List (Nat × Blk)} {n m k : Nat} {K : List (Nat × Blk) -> Prop} (hr : Rel P base ψ S w ⟨ts, h, n, m⟩ a) (hψ : ∃ b mm, ψ k = some (.at b mm)) (hk : frOwn h k K) :
 FrOk P base ψ S w a ts n m K := by
 obtain ⟨b, mm, hψ⟩ := hψ
 unfold frOwn at hk
 split at hk
 . rename_i cs hb
   obtain ⟨h1, S1, ⟨g1, gl⟩, g2, g3⟩ := frCells_ok cs h S hr (frCells_look cs h hb hk)
   have hbk := g2.sim.blk k _ hψ
   simp only [gl] at hbk
   obtain ⟨arr, e, q1, q2⟩ := hbk
   obtain ⟨ds, q3, q4⟩ := closeCells_rep g2.sim g1 q2
   rw [fDs_eq] at q4
   obtain ⟨S', h1', h2'⟩ := g2.freeze (new := .fz ds) gl trivial (by simp [Blk.live]) (fun h => h.elim)
    (fun b' mm' S' e' hl hS _ => by
      rw [hψ] at e'; cases e'
      exact ⟨hS, arr, e, _, q1, q3.mono fun _ _ h => h.later hl⟩)
   exact ⟨_, S', q4, h1', g3.trans h2'⟩
 . exact ⟨_, S, hk, hr, Ext.refl _ _ _ _⟩
theorem frOwns_ok {ts : List (Nat × Tm)} {n m : Nat} : ∀ (ps : List (Nat × Nat)) (h : List (Nat × Blk)) (S : Nat -> Prop) {K : List (Nat × Blk) -> Prop}, Rel P base ψ S w ⟨ts, h, n, m⟩ a ->
 (∀ p ∈ ps, ∃ b mm, ψ p.1 = some (.at b mm)) -> frOwns h ps K -> FrOk P base ψ S w a ts n m K
 | [], h, S, K, hr, _, hk => ⟨h, S, hk, hr, Ext.refl _ _ _ _⟩
 | p :: ps, h, S, K, hr, hp, hk => by
   obtain ⟨h1, S1, g1, g2, g3⟩ := frOwn_ok hr (hp p (by simp)) hk
   obtain ⟨h2, S2, g4, g5, g6⟩ := frOwns_ok ps h1 S1 g2 (fun q hq => hp q (by simp [hq])) g1
   exact ⟨h2, S2, g4, g5, g3.trans g6⟩
theorem caps_psi : ∀ {caps : List (Nat × Nat)} {vs : List Value}, All2 (fun (p : Nat × Nat) y => ∃ b m, ψ p.1 = some (.at b m) /\ y = Value.pointer (some ⟨b, p.2, none⟩)) caps vs -> ∀ p ∈ caps, ∃ b mm, ψ p.1 = some (.at b mm)
 | [], [], _, p, hp => by simp at hp
 | c :: cs, v :: vs, ⟨⟨b, m, h1, _⟩, h⟩, p, hp => by
   simp at hp
   rcases hp with rfl | hp
   . exact ⟨b, m, h1⟩
   . exact caps_psi h p hp
theorem frVa_ok {ts : List (Nat × Tm)} {h : List (Nat × Blk)} {n m : Nat} {x : Va} {v : Value} {K : List (Nat × Blk) -> Prop} (hr : Rel P base ψ S w ⟨ts, h, n, m⟩ a) (hx : RepVa P ψ S w x v) (hk : frVa h x K) :
 FrOk P base ψ S w a ts n m K := by
 unfold frVa at hk
 split at hk
 . obtain ⟨b, mm, h1, _⟩ := hx; exact frOwn_ok hr ⟨b, mm, h1⟩ hk
 . obtain ⟨vs, _, h1⟩ := hx; exact frOwns_ok _ _ _ hr (caps_psi h1) hk
 . exact frCell_ok hr hk
 . exact frCells_ok _ _ _ hr hk
theorem frVas_ok {ts : List (Nat × Tm)} {n m : Nat} : ∀ (xs : List Va) (vs : List Value) (h : List (Nat × Blk)) (S : Nat -> Prop) {K : List (Nat × Blk) -> Prop}, Rel P base ψ S w ⟨ts, h, n, m⟩ a ->
 All2 (RepVa P ψ S w) xs vs -> frVas h xs K -> FrOk P base ψ S w a ts n m K
 | [], [], h, S, K, hr, _, hk => ⟨h, S, hk, hr, Ext.refl _ _ _ _⟩
 | x :: xs, v :: vs, h, S, K, hr, ⟨hx, hxs⟩, hk => by
   obtain ⟨h1, S1, g1, g2, g3⟩ := frVa_ok hr hx hk
   obtain ⟨h2, S2, g4, g5, g6⟩ := frVas_ok xs vs h1 S1 g2 (hxs.mono fun _ _ h => h.later (PsiSub.refl _) g3.later) g1
   exact ⟨h2, S2, g4, g5, g3.trans g6⟩
def resCell (h : List (Nat × Blk)) (used : List Nat) (c : Cell) (K : Ic -> List Nat -> Prop) : Prop :=
 match c with
 | .kb b => K (.d (.v (.bool b))) used
 | .d x => K (.d x) used
 | .osc k z o len _ => match lookB h k with
   | .row sz n f => match Nat.beq sz z, Nat.beq o 0, used.contains k with
     | true, true, false => len <= n /\ K (.ow sz len f) (k :: used)
     | _, _, _ => False
   | _ => False
 | .osl k z o len => match lookB h k with
   | .row sz n f => match Nat.beq sz z, Nat.beq o 0, used.contains k with
     | true, true, false => len <= n /\ K (.ow sz len f) (k :: used)
     | _, _, _ => False
   | .fzr sz n f => match Nat.beq sz z with
     | true => o + len <= n /\ K (.d (.lst sz len fun i => f (o + i))) used
     | false => False
   | _ => False
 | _ => False
def resCells (h : List (Nat × Blk)) : List Nat -> List Cell -> (List Ic -> List Nat -> Prop) -> Prop
 | used, [], K => K [] used
 | used, c :: cs, K => resCell h used c fun x used => resCells h used cs fun xs used => K (x :: xs) used
def resVa (h : List (Nat × Blk)) (used : List Nat) (x : Va) (K : Ar -> List Nat -> Prop) : Prop :=
 match x with
 | .c c => resCell h used c fun x used => K (.c x) used
 | .agg cs => resCells h used cs fun xs used => K (.agg xs) used
def resVas (h : List (Nat × Blk)) : List Nat -> List Va -> (List Ar -> List Nat -> Prop) -> Prop
 | used, [], K => K [] used
 | used, c :: cs, K => resVa h used c fun x used => resVas h used cs fun xs used => K (x :: xs) used
def restRows (h : List (Nat × Blk)) (used : List Nat) : Nat -> List (Nat × Nat) -> (List (Option (Nat -> List DV)) -> Prop) -> Prop
 | _, [], K => K []
 | i, (sz0, n0) :: l, K => match used.contains i, lookB h i with
   | false, .row sz n f => match Nat.beq sz sz0 with
     | true => n0 <= n /\ restRows h used (i + 1) l fun us => K (some f :: us)
     | false => False
   | _, _ => restRows h used (i + 1) l fun us => K (none :: us)
def UsedOk (ψ : Psi) (h : List (Nat × Blk)) (used : List Nat) : Prop := used.Nodup /\ ∀ k ∈ used, (lookB h k).live /\ ∃ l, ψ k = some l
theorem resCell_ok {h : List (Nat × Blk)} {next : Nat} (hs : Sim P ψ S w h next) {used : List Nat} {c : Cell} {v : Value} {K : Ic -> List Nat -> Prop} (hu : UsedOk ψ h used) (hv : RepC P ψ S w c v) (hk : resCell h used c K) :
 ∃ x ids ls, RepIcs S w [x] [v] ls /\ All2 (fun k l => ψ k = some l) ids ls /\ UsedOk ψ h (ids.reverse ++ used) /\ K x (ids.reverse ++ used) := by
 unfold resCell at hk
 split at hk
 . rename_i b
   exact ⟨.d (.v (.bool b)), [], [], And.intro (by rw [show v = _ from hv]; exact .v trivial) trivial, trivial, hu, hk⟩
 . rename_i y
   exact ⟨.d y, [], [], And.intro hv trivial, trivial, hu, hk⟩
 . rename_i k z o len cc
   split at hk
   . rename_i sz n f hb
     split at hk
     . rename_i h1 h2 h3
       have h1 := Nat.eq_of_beq_eq_true h1
       have h2 := Nat.eq_of_beq_eq_true h2
       subst h1; subst h2
       obtain ⟨hle, hk⟩ := hk
       have hnot : k ∉ used := by simpa using h3
       have fin : ∀ l, ψ k = some l -> OslV sz 0 len l v -> RowRep S w sz len f l -> ∃ x ids ls, RepIcs S w [x] [v] ls /\ All2 (fun k l => ψ k = some l) ids ls /\ UsedOk ψ h (ids.reverse ++ used) /\ K x (ids.reverse ++ used) := by
        intro l hl ho hrow
        refine ⟨.ow sz len f, [k], [l], ⟨ho, hrow, trivial⟩, ⟨hl, trivial⟩, ⟨by simpa using ⟨hnot, hu.1⟩, ?_⟩, hk⟩
        intro k' hk'
        simp at hk'
        rcases hk' with rfl | hk'
        . exact ⟨by rw [hb]; trivial, l, hl⟩
        . exact hu.2 k' hk'
       rcases hv with ⟨g1, g2, _, g3⟩ | ⟨b, m, off, g1, g2, g3, g4⟩
       . exact fin .virt g1 ⟨g2, g3⟩ g2
       . have hbk := hs.blk k _ g1
         rw [hb] at hbk
         obtain ⟨arr, e, q1, q2, q3, q4, q5⟩ := hbk
         refine fin (.at b m) g1 ⟨cc, off, g2, g3, g4⟩ ⟨arr, e, q1, q2, ?_, fun i hi => q4 i (by omega), fun i j hi hj => q5 i j (by omega) hj⟩
         have := Nat.mul_le_mul_right sz hle
         omega
     . exact hk.elim
   . exact hk.elim
 . rename_i k z o len
   split at hk
   . rename_i sz n f hb
     split at hk
     . rename_i h1 h2 h3
       have h1 := Nat.eq_of_beq_eq_true h1
       have h2 := Nat.eq_of_beq_eq_true h2
       subst h1; subst h2
       obtain ⟨hle, hk⟩ := hk
       have hnot : k ∉ used := by simpa using h3
       have fin : ∀ l, ψ k = some l -> OslV sz 0 len l v -> RowRep S w sz len f l -> ∃ x ids ls, RepIcs S w [x] [v] ls /\ All2 (fun k l => ψ k = some l) ids ls /\ UsedOk ψ h (ids.reverse ++ used) /\ K x (ids.reverse ++ used) := by
        intro l hl ho hrow
        refine ⟨.ow sz len f, [k], [l], ⟨ho, hrow, trivial⟩, ⟨hl, trivial⟩, ⟨by simpa using ⟨hnot, hu.1⟩, ?_⟩, hk⟩
        intro k' hk'
        simp at hk'
        rcases hk' with rfl | hk'
        . exact ⟨by rw [hb]; trivial, l, hl⟩
        . exact hu.2 k' hk'
       rcases hv with ⟨g1, g2, g3⟩ | ⟨b, m, c, off, g1, g2, g3, g4⟩
       . exact fin .virt g1 ⟨g2, g3⟩ g2
       . have hbk := hs.blk k _ g1
         rw [hb] at hbk
         obtain ⟨arr, e, q1, q2, q3, q4, q5⟩ := hbk
         refine fin (.at b m) g1 ⟨c, off, g2, g3, g4⟩ ⟨arr, e, q1, q2, ?_, fun i hi => q4 i (by omega), fun i j hi hj => q5 i j (by omega) hj⟩
         have := Nat.mul_le_mul_right sz hle
         omega
     . exact hk.elim
   . rename_i sz n f hb
     split at hk
     . rename_i h1
       obtain ⟨x, g1, g2⟩ := closeCell_rep (c := .osl k z o len) (K := fun d => K (.d d) used) hs (by simp only [closeCell, hb, h1]; exact hk) hv
       exact ⟨.d x, [], [], And.intro g1 trivial, trivial, hu, g2⟩
     . exact hk.elim
   . exact hk.elim
 . exact hk.elim
theorem RepIcs.append : ∀ {xs : List Ic} {vs : List Value} {ls : List Loc} {ys : List Ic} {us : List Value} {ms : List Loc}, RepIcs S w xs vs ls -> RepIcs S w ys us ms -> RepIcs S w (xs ++ ys) (vs ++ us) (ls ++ ms)
 | [], [], [], _, _, _, _, h => h
 | [], [], _ :: _, _, _, _, h, _ => by simp [RepIcs] at h
 | [], _ :: _, _, _, _, _, h, _ => by simp [RepIcs] at h
 | .d x :: xs, [], _, _, _, _, h, _ => by simp [RepIcs] at h
 | .d x :: xs, v :: vs, ls, _, _, _, h, h' => by
   simp only [RepIcs] at h
   exact And.intro h.1 (RepIcs.append h.2 h')
 | .ow _ _ _ :: xs, [], _, _, _, _, h, _ => by simp [RepIcs] at h
 | .ow _ _ _ :: xs, _ :: _, [], _, _, _, h, _ => by simp [RepIcs] at h
 | .ow _ _ _ :: xs, v :: vs, l :: ls, _, _, _, h, h' => by
   simp only [RepIcs] at h
   exact And.intro h.1 (And.intro h.2.1 (RepIcs.append h.2.2 h'))
theorem resCells_ok {h : List (Nat × Blk)} {next : Nat} (hs : Sim P ψ S w h next) : ∀ {cs : List Cell} {vs : List Value} {used : List Nat} {K : List Ic -> List Nat -> Prop}, UsedOk ψ h used -> All2 (RepM P ψ S w) cs vs -> resCells h used cs K ->
 ∃ xs ids ls, RepIcs S w xs vs ls /\ All2 (fun k l => ψ k = some l) ids ls /\ UsedOk ψ h (ids.reverse ++ used) /\ K xs (ids.reverse ++ used)
 | [], [], used, K, hu, _, hk => ⟨[], [], [], trivial, trivial, hu, hk⟩
 | c :: cs, v :: vs, used, K, hu, ⟨h1, h2⟩, hk => by
   obtain ⟨x, ids, ls, g1, g2, g3, g4⟩ := resCell_ok hs hu h1.1 hk
   obtain ⟨xs, ids', ls', g5, g6, g7, g8⟩ := resCells_ok hs g3 h2 g4
   have e : (ids ++ ids').reverse ++ used = ids'.reverse ++ (ids.reverse ++ used) := by simp
   exact ⟨x :: xs, ids ++ ids', ls ++ ls', RepIcs.append (xs := [x]) (vs := [v]) g1 g5, g2.append g6, e ▸ g7, e ▸ g8⟩
theorem resVa_ok {h : List (Nat × Blk)} {next : Nat} (hs : Sim P ψ S w h next) {y : Va} {v : Value} {used : List Nat} {K : Ar -> List Nat -> Prop} (hu : UsedOk ψ h used) (hv : RepVa P ψ S w y v) (hk : resVa h used y K) :
 ∃ x ids ls, RepAr P S w x v ls /\ All2 (fun k l => ψ k = some l) ids ls /\ UsedOk ψ h (ids.reverse ++ used) /\ K x (ids.reverse ++ used) := by
 cases y with
 | c c =>
   simp only [resVa] at hk
   obtain ⟨x, ids, ls, g1, g2, g3, g4⟩ := resCell_ok hs hu hv hk
   exact ⟨.c x, ids, ls, g1, g2, g3, g4⟩
 | agg cs =>
   obtain ⟨arr, rfl, hv⟩ := hv
   obtain ⟨xs, ids, ls, g1, g2, g3, g4⟩ := resCells_ok hs hu hv hk
   exact ⟨.agg xs, ids, ls, ⟨arr, rfl, g1⟩, g2, g3, g4⟩
theorem resVas_ok {h : List (Nat × Blk)} {next : Nat} (hs : Sim P ψ S w h next) : ∀ {cs : List Va} {vs : List Value} {used : List Nat} {K : List Ar -> List Nat -> Prop}, UsedOk ψ h used -> All2 (RepVa P ψ S w) cs vs -> resVas h used cs K ->
 ∃ xs ids ls, RepArs P S w xs vs ls /\ All2 (fun k l => ψ k = some l) ids ls /\ UsedOk ψ h (ids.reverse ++ used) /\ K xs (ids.reverse ++ used)
 | [], [], used, K, hu, _, hk => ⟨[], [], [], rfl, trivial, hu, hk⟩
 | c :: cs, v :: vs, used, K, hu, ⟨h1, h2⟩, hk => by
   obtain ⟨x, ids, ls, g1, g2, g3, g4⟩ := resVa_ok hs hu h1 hk
   obtain ⟨xs, ids', ls', g5, g6, g7, g8⟩ := resVas_ok hs g3 h2 g4
   have e : (ids ++ ids').reverse ++ used = ids'.reverse ++ (ids.reverse ++ used) := by simp
   exact ⟨x :: xs, ids ++ ids', ls ++ ls', ⟨ls, ls', rfl, g1, g5⟩, g2.append g6, e ▸ g7, e ▸ g8⟩
theorem restRows_ok {h : List (Nat × Blk)} {next : Nat} (hs : Sim P ψ S w h next) {used : List Nat} : ∀ {rs : List (Nat × Nat)} {ls : List Loc} {i : Nat} {K : List (Option (Nat -> List DV)) -> Prop},
 rs.length = ls.length -> (∀ j l, ls[j]? = some l -> ψ (i + j) = some l) -> UsedOk ψ h used -> restRows h used i rs K ->
 ∃ us ids, RepUs S w rs us ls /\ All2 (fun k l => ψ k = some l) ids (keptLocs us ls) /\ UsedOk ψ h (ids ++ used) /\ (∀ k ∈ ids, i <= k) /\ K us
 | [], [], i, K, _, _, hu, hk => ⟨[], [], trivial, trivial, hu, by simp, hk⟩
 | (sz0, n0) :: rs, l :: ls, i, K, hlen, hψ, hu, hk => by
   have h0 := hψ 0 l (by simp)
   have hψ' : ∀ j l, ls[j]? = some l -> ψ (i + 1 + j) = some l := fun j l hj => by
    have := hψ (j + 1) l (by simpa using hj); rwa [show i + (j + 1) = i + 1 + j by omega] at this
   have skip : restRows h used (i + 1) rs (fun us => K (none :: us)) -> ∃ us ids, RepUs S w ((sz0, n0) :: rs) us (l :: ls) /\ All2 (fun k l => ψ k = some l) ids (keptLocs us (l :: ls)) /\ UsedOk ψ h (ids ++ used) /\ (∀ k ∈ ids, i <= k) /\ K us := by
    intro hk
    obtain ⟨us, ids, g1, g2, g3, g4, g5⟩ := restRows_ok hs (by simpa using hlen) hψ' hu hk
    exact ⟨none :: us, ids, g1, g2, g3, fun k hk => by have := g4 k hk; omega, g5⟩
   simp only [restRows] at hk
   split at hk
   . rename_i sz n f hc hb
     split at hk
     . rename_i hz
       have hz := Nat.eq_of_beq_eq_true hz
       subst hz
       obtain ⟨hle, hk⟩ := hk
       obtain ⟨us, ids, g1, g2, g3, g4, g5⟩ := restRows_ok hs (by simpa using hlen) hψ' hu hk
       have hrow : RowRep S w sz n0 f l := by
        have hbk := hs.blk i _ h0
        rw [hb] at hbk
        cases l with
        | virt => have : n = 0 := hbk; show n0 = 0; omega
        | «at» b m =>
          obtain ⟨arr, e, q1, q2, q3, q4, q5⟩ := hbk
          have := Nat.mul_le_mul_right sz hle
          exact ⟨arr, e, q1, q2, by omega, fun i hi => q4 i (by omega), fun i j hi hj => q5 i j (by omega) hj⟩
       refine ⟨some f :: us, i :: ids, ⟨hrow, g1⟩, ⟨h0, g2⟩, ⟨?_, ?_⟩, ?_, g5⟩
       . simp only [List.cons_append, List.nodup_cons]
         refine ⟨?_, g3.1⟩
         simp only [List.mem_append, not_or]
         refine ⟨fun hi => by have := g4 i hi; omega, by simpa using hc⟩
       . intro k hk
         simp only [List.cons_append, List.mem_cons] at hk
         rcases hk with rfl | hk
         . exact ⟨by rw [hb]; trivial, l, h0⟩
         . exact g3.2 k hk
       . intro k hk
         simp only [List.mem_cons] at hk
         rcases hk with rfl | hk
         . omega
         . have := g4 k hk; omega
     . exact hk.elim
   . exact skip hk
theorem sep_of_ids {h : List (Nat × Blk)} {next : Nat} (hs : Sim P ψ S w h next) : ∀ {ids : List Nat} {ls : List Loc}, All2 (fun k l => ψ k = some l) ids ls -> UsedOk ψ h ids -> Sep S w ls
 | [], [], _, _ => trivial
 | k :: ids, l :: ls, ⟨h1, h2⟩, hu => by
   have hu' : UsedOk ψ h ids := ⟨(List.nodup_cons.1 hu.1).2, fun k hk => hu.2 k (by simp [hk])⟩
   have ih := sep_of_ids hs h2 hu'
   cases l with
   | virt => exact ih
   | «at» b m =>
     have hl := (hu.2 k (by simp)).1
     refine ⟨hs.dis k b m h1 hl, hs.pdom k b m h1, ?_, ih⟩
     rintro ⟨m', hm⟩
     obtain ⟨j, hj, e⟩ := List.mem_iff_getElem.1 hm
     have hlen := h2.length
     obtain ⟨y, e1, e2⟩ := h2.get j (ids[j]'(by omega)) (by simp)
     have : ls[j]? = some (.at b m') := by rw [List.getElem?_eq_getElem hj, e]
     rw [this] at e1; cases e1
     have hmem : ids[j]'(by omega) ∈ ids := List.getElem_mem _
     have hl2 := (hu.2 _ (List.mem_cons_of_mem _ hmem)).1
     have := hs.inj k _ b m m' h1 e2 hl hl2
     exact (List.nodup_cons.1 hu.1).1 (this ▸ hmem)
def resVar (τ : Tys) (st : St) (r : ResultVar) (K : Va -> Prop) : Prop :=
 match r with
 | .tmp t => match lookT st.tmps t with
   | .va x => K x
   | _ => False
 | .cell a t => match τ t with
   | some ⟨desc, size, _, _⟩ => loadAt st.heap (lookT st.tmps a) size fun cs => match mkVa (wantAgg desc) cs with
     | some y => K y
     | none => False
   | none => False
def resVars (τ : Tys) (st : St) : List ResultVar -> (List Va -> Prop) -> Prop
 | [], K => K []
 | r :: rs, K => resVar τ st r fun x => resVars τ st rs fun xs => fVa x fun x => K (x :: xs)
def rtOf : List Ar -> Rt
 | [x] => .va x
 | xs => .tup xs
def fin (τ : Tys) (fr : Bool) (rows : List (Nat × Nat)) (rs : List ResultVar) (K : Rt -> List (Option (Nat -> List DV)) -> Prop) (st : St) : Prop :=
 resVars τ st rs fun vs => match fr with
  | true => frVas st.heap vs fun h => resVas h [] vs fun xs used => restRows h used 0 rows fun us => K (rtOf xs) us
  | false => resVas st.heap [] vs fun xs used => restRows st.heap used 0 rows fun us => K (rtOf xs) us
def finQ (τ : Tys) (fr : Bool) (rows : List (Nat × Nat)) (rs : List ResultVar) (K : Rt -> List (Option (Nat -> List DV)) -> Prop) : Exit -> St -> Prop
 | .ret, st => fin τ fr rows rs K st
 | .normal, st => fin τ fr rows rs K st
 | _, _ => False
def valOf : List Value -> Value
 | [v] => v
 | vs => .tuple vs.toArray
def resRun (a : Act) : ResultVar -> Sem Value
 | .tmp t => pure (a.tmps.getD t undef)
 | .cell c t => do loadVar t (<- asAddr (a.tmps.getD c undef))
theorem resVar_ok (hτ : TysOk P τ) {st : St} (hr : Rel P base ψ S w st a) {r : ResultVar} {K : Va -> Prop} (hk : resVar τ st r K) :
 ∃ x v, RepVa P ψ S w x v /\ K x /\ (resRun a r).run P w = .ok v w := by
 cases r with
 | tmp t =>
   simp only [resVar] at hk
   split at hk
   . rename_i x hx
     have := hr.tmps t
     rw [hx] at this
     exact ⟨x, _, this, hk, rfl⟩
   . exact hk.elim
 | cell c t =>
   simp only [resVar] at hk
   split at hk
   . rename_i d s b z ht
     obtain ⟨bb, off, ys, cs, hv, hlen, hc, hcs, hk⟩ := loadAt_ok hr.sim (hr.tmps c) hk
     split at hk
     . rename_i y hy
       obtain ⟨v, h1, h2⟩ := run_loadVar hτ ht hlen hc hcs hy
       exact ⟨y, v, h2, hk, by simp only [resRun, hv, asAddr, Sem.run_bind, Sem.run_pure, Result.andThen_ok, h1]⟩
     . exact hk.elim
   . exact hk.elim
theorem resVars_ok (hτ : TysOk P τ) {st : St} (hr : Rel P base ψ S w st a) : ∀ {rs : List ResultVar} {K : List Va -> Prop}, resVars τ st rs K ->
 ∃ xs vs, All2 (RepVa P ψ S w) xs vs /\ K xs /\ (rs.mapM (resRun a)).run P w = .ok vs w
 | [], K, hk => ⟨[], [], trivial, hk, rfl⟩
 | r :: rs, K, hk => by
   obtain ⟨x, v, g1, g2, g3⟩ := resVar_ok hτ hr hk
   obtain ⟨xs, vs, g4, g5, g6⟩ := resVars_ok hτ hr g2
   rw [fVa_eq] at g5
   refine ⟨x :: xs, v :: vs, ⟨g1, g4⟩, g5, ?_⟩
   simp only [List.mapM_cons, Sem.run_bind, g3, Result.andThen_ok, g6, Sem.run_pure]
theorem results_run {fn : Func} {vs : List Value} (h : (fn.results.toList.mapM (resRun a)).run P w = .ok vs w) :
 (results fn a.tmps).run P w = .ok (valOf vs) w := by
 have e : results fn a.tmps = (do let vs <- fn.results.mapM (resRun a); pure (if h : vs.size = 1 then vs[0] else .tuple vs)) := by
  unfold results
  congr 1
 rw [e, Array.mapM_eq_mapM_toList]
 simp only [Sem.run_bind, Sem.run_map, h, Result.andThen_ok, Sem.run_pure]
 cases vs with
 | nil => rfl
 | cons v vs => cases vs with
   | nil => rfl
   | cons _ _ => simp [valOf]
end
def dvEq : DV -> DV -> Prop
 | .v x, .v y => x = y
 | .v x, .lst _ n _ => x = .slice none 0 0 /\ n = 0
 | .lst sz n f, .lst sz' n' f' => sz = sz' /\ n = n' /\ ∀ i, i < n -> f i = f' i
 | _, _ => False
def icEq : Ic -> Ic -> Prop
 | .d x, .d y => dvEq x y
 | .ow sz n f, .ow sz' n' f' => sz = sz' /\ n = n' /\ ∀ i, i < n -> f i = f' i
 | .d (.v x), .ow _ n _ => x = .slice none 0 0 /\ n = 0
 | _, _ => False
def icsEq : List Ic -> List Ic -> Prop
 | [], [] => True
 | x :: xs, y :: ys => icEq x y /\ icsEq xs ys
 | _, _ => False
def arEq : Ar -> Ar -> Prop
 | .c x, .c y => icEq x y
 | .agg xs, .agg ys => icsEq xs ys
 | .rp cs, .rp cs' => cs = cs'
 | .fv g, .fv g' => g = g'
 | _, _ => False
def arsEq : List Ar -> List Ar -> Prop
 | [], [] => True
 | x :: xs, y :: ys => arEq x y /\ arsEq xs ys
 | _, _ => False
def rtEq : Rt -> Rt -> Prop
 | .va x, .va y => arEq x y
 | .tup xs, .tup ys => arsEq xs ys
 | _, _ => False
def usEq : List (Nat × Nat) -> List (Option (Nat -> List DV)) -> List (Option (Nat -> List DV)) -> Prop
 | [], [], [] => True
 | _ :: rs, _ :: us, none :: us' => usEq rs us us'
 | (_, n) :: rs, some f :: us, some f' :: us' => (∀ i, i < n -> f i = f' i) /\ usEq rs us us'
 | _, _, _ => False
section
variable {P : Program} {τ : Tys} {base : Nat} {ψ ψ' : Psi} {S S' : Nat → Prop} {w w' : World} {a : Act}
theorem dvEq.rep {x y : DV} {v : Value} (h : dvEq x y) (hx : RepD S w x v) : RepD S w y v := by
 cases x with
 | v x => cases y with
   | v y => have : x = y := h; subst this; exact hx
   | lst sz n f => obtain ⟨rfl, rfl⟩ := h; cases hx; exact .nil
 | lst sz n f => cases y with
   | v y => exact h.elim
   | lst sz' n' f' =>
     obtain ⟨rfl, rfl, h⟩ := h
     cases hx with
     | nil => exact .nil
     | lst g h1 h2 h3 h4 h5 => exact .lst g h1 (fun i hi => by rw [<- h i hi]; exact h2 i hi) h3 (fun i j hi hj => by rw [<- h i hi]; exact h4 i j hi hj) h5
theorem RowRep.congr {sz n : Nat} {f f' : Nat -> List DV} {l : Loc} (h : ∀ i, i < n -> f i = f' i) (hr : RowRep S w sz n f l) : RowRep S w sz n f' l := by
 cases l with
 | virt => exact hr
 | «at» b m => obtain ⟨arr, e, h1, h2, h3, h4, h5⟩ := hr; exact ⟨arr, e, h1, h2, h3, fun i hi => by rw [<- h i hi]; exact h4 i hi, fun i j hi hj => by rw [<- h i hi]; exact h5 i j hi hj⟩
inductive Ins : List Loc -> List Loc -> Prop
 | nil : Ins [] []
 | cons {a b : List Loc} (l : Loc) : Ins a b -> Ins (l :: a) (l :: b)
 | virt {a b : List Loc} : Ins a b -> Ins a (.virt :: b)
theorem Ins.append {a b a' b' : List Loc} (h : Ins a b) (h' : Ins a' b') : Ins (a ++ a') (b ++ b') := by
 induction h with
 | nil => exact h'
 | cons l _ ih => exact .cons l ih
 | virt _ ih => exact .virt ih
theorem Ins.blkIn {a b : List Loc} (h : Ins a b) {k : Nat} (hb : blkIn b k) : blkIn a k := by
 obtain ⟨m, hm⟩ := hb
 refine ⟨m, ?_⟩
 induction h with
 | nil => exact hm
 | cons l _ ih => simp at hm ⊢; rcases hm with hm | hm; exact .inl hm; exact .inr (ih hm)
 | virt _ ih => simp at hm; exact ih hm
theorem Ins.refl : ∀ (a : List Loc), Ins a a
 | [] => .nil
 | l :: a => .cons l (Ins.refl a)
theorem Ins.sep {a b : List Loc} (h : Ins a b) (hs : Sep S w a) : Sep S w b := by
 induction h with
 | nil => trivial
 | cons l hab ih =>
   cases l with
   | virt => exact ih hs
   | «at» b m => exact ⟨hs.1, hs.2.1, fun hb => hs.2.2.1 (hab.blkIn hb), ih hs.2.2.2⟩
 | virt _ ih => exact ih hs
theorem icsEq.rep : ∀ {xs ys : List Ic} {vs : List Value} {ls : List Loc}, icsEq xs ys -> RepIcs S w xs vs ls -> ∃ ls', RepIcs S w ys vs ls' /\ Ins ls ls'
 | [], [], vs, ls, _, h => ⟨ls, h, Ins.refl ls⟩
 | [], _ :: _, _, _, h, _ => h.elim
 | _ :: _, [], _, _, h, _ => h.elim
 | .d x :: xs, y :: ys, [], ls, _, h' => by simp [RepIcs] at h'
 | .d x :: xs, y :: ys, v :: vs, ls, h, h' => by
   simp only [RepIcs] at h'
   obtain ⟨h1, h2⟩ := h
   obtain ⟨ls', g1, g2⟩ := icsEq.rep h2 h'.2
   cases y with
   | d y => exact ⟨ls', And.intro (dvEq.rep h1 h'.1) g1, g2⟩
   | ow sz n f =>
     cases x with
     | lst _ _ _ => exact h1.elim
     | v x =>
       obtain ⟨rfl, rfl⟩ := h1
       have hv := h'.1
       cases hv
       exact ⟨.virt :: ls', And.intro ⟨rfl, none, rfl⟩ (And.intro rfl g1), .virt g2⟩
 | .ow _ _ _ :: xs, y :: ys, [], ls, _, h' => by simp [RepIcs] at h'
 | .ow _ _ _ :: xs, y :: ys, v :: vs, [], _, h' => by simp [RepIcs] at h'
 | .ow sz n f :: xs, y :: ys, v :: vs, l :: ls, h, h' => by
   simp only [RepIcs] at h'
   obtain ⟨h1, h2⟩ := h
   obtain ⟨ls', g1, g2⟩ := icsEq.rep h2 h'.2.2
   cases y with
   | d y => exact h1.elim
   | ow sz' n' f' =>
     obtain ⟨rfl, rfl, h1⟩ := h1
     exact ⟨l :: ls', And.intro h'.1 (And.intro (h'.2.1.congr h1) g1), .cons l g2⟩
theorem arEq.rep {x y : Ar} {v : Value} {ls : List Loc} (h : arEq x y) (h' : RepAr P S w x v ls) : ∃ ls', RepAr P S w y v ls' /\ Ins ls ls' := by
 cases x with
 | c x => cases y with
   | c y => exact icsEq.rep (xs := [x]) (ys := [y]) ⟨h, trivial⟩ h'
   | _ => exact h.elim
 | agg xs => cases y with
   | agg ys => obtain ⟨arr, rfl, h'⟩ := h'; obtain ⟨ls', g1, g2⟩ := icsEq.rep h h'; exact ⟨ls', ⟨arr, rfl, g1⟩, g2⟩
   | _ => exact h.elim
 | rp cs => cases y with
   | rp cs' => have : cs = cs' := h; subst this; exact ⟨ls, h', Ins.refl ls⟩
   | _ => exact h.elim
 | fv g => cases y with
   | fv g' => have : g = g' := h; subst this; exact ⟨ls, h', Ins.refl ls⟩
   | _ => exact h.elim
theorem arsEq.rep : ∀ {xs ys : List Ar} {vs : List Value} {ls : List Loc}, arsEq xs ys -> RepArs P S w xs vs ls -> ∃ ls', RepArs P S w ys vs ls' /\ Ins ls ls'
 | [], [], vs, ls, _, h => ⟨ls, h, Ins.refl ls⟩
 | [], _ :: _, _, _, h, _ => h.elim
 | _ :: _, [], _, _, h, _ => h.elim
 | x :: xs, y :: ys, [], ls, _, h' => by simp [RepArs] at h'
 | x :: xs, y :: ys, v :: vs, ls, h, h' => by
   obtain ⟨l1, l2, rfl, h1, h2⟩ := h'
   obtain ⟨l1', g1, g2⟩ := arEq.rep h.1 h1
   obtain ⟨l2', g3, g4⟩ := arsEq.rep h.2 h2
   exact ⟨l1' ++ l2', ⟨l1', l2', rfl, g1, g3⟩, g2.append g4⟩
theorem rtEq.rep {x y : Rt} {v : Value} {ls : List Loc} (h : rtEq x y) (h' : RepRt P S w x v ls) : ∃ ls', RepRt P S w y v ls' /\ Ins ls ls' := by
 cases x with
 | va x => cases y with
   | va y => exact arEq.rep (P := P) h h'
   | tup _ => exact h.elim
 | tup xs => cases y with
   | va _ => exact h.elim
   | tup ys => obtain ⟨arr, rfl, h'⟩ := h'; obtain ⟨ls', g1, g2⟩ := arsEq.rep (P := P) h h'; exact ⟨ls', ⟨arr, rfl, g1⟩, g2⟩
theorem sep_sub {a b : List Loc} (h : a.Sublist b) (hs : Sep S w b) : Sep S w a := by
 induction h with
 | slnil => exact hs
 | cons x h ih => cases x with
   | virt => exact ih hs
   | «at» b m => exact ih hs.2.2.2
 | cons_cons x h ih => cases x with
   | virt => exact ih hs
   | «at» b m => exact ⟨hs.1, hs.2.1, fun ⟨m', hm⟩ => hs.2.2.1 ⟨m', h.subset hm⟩, ih hs.2.2.2⟩
theorem usEq.rep : ∀ {rs : List (Nat × Nat)} {us us' : List (Option (Nat -> List DV))} {ls : List Loc}, usEq rs us us' -> RepUs S w rs us ls -> RepUs S w rs us' ls /\ (keptLocs us' ls).Sublist (keptLocs us ls)
 | [], [], [], ls, _, h => ⟨h, List.Sublist.refl _⟩
 | [], [], _ :: _, _, h, _ => h.elim
 | [], _ :: _, _, _, h, _ => h.elim
 | _ :: _, [], _, _, h, _ => by simp [usEq] at h
 | _ :: _, none :: _, [], _, h, _ => by simp [usEq] at h
 | _ :: _, some _ :: _, [], _, h, _ => by simp [usEq] at h
 | _ :: rs, none :: us, some _ :: us', _, h, _ => by simp [usEq] at h
 | (sz, n) :: rs, some f :: us, none :: us', [], h, h' => by simp [RepUs] at h'
 | (sz, n) :: rs, some f :: us, none :: us', l :: ls, h, h' => by
   obtain ⟨g1, g2⟩ := usEq.rep (rs := rs) (us := us) (us' := us') (ls := ls) h h'.2
   exact ⟨g1, g2.cons _⟩
 | (sz, n) :: rs, none :: us, none :: us', [], h, h' => by simp [RepUs] at h'
 | (sz, n) :: rs, none :: us, none :: us', l :: ls, h, h' => by
   obtain ⟨g1, g2⟩ := usEq.rep (rs := rs) (us := us) (us' := us') (ls := ls) h h'
   exact ⟨g1, g2⟩
 | (sz, n) :: rs, some f :: us, some f' :: us', [], h, h' => by simp [RepUs] at h'
 | (sz, n) :: rs, some f :: us, some f' :: us', l :: ls, h, h' => by
   obtain ⟨g1, g2⟩ := usEq.rep (rs := rs) (us := us) (us' := us') (ls := ls) h.2 h'.2
   exact ⟨⟨h'.1.congr h.1, g1⟩, g2.cons_cons _⟩
end
def cvAr : Cv -> Ar
 | .c x => .c (.d x)
 | .agg xs => .agg (xs.map .d)
def icsDs : List Ic -> Option (List DV)
 | [] => some []
 | .d x :: xs => match icsDs xs with
   | some ds => some (x :: ds)
   | none => none
 | _ => none
def arCv : Ar -> Option Cv
 | .c (.d x) => some (.c x)
 | .agg xs => match icsDs xs with
   | some ds => some (.agg ds)
   | none => none
 | _ => none
def arsCvs : List Ar -> Option (List Cv)
 | [] => some []
 | x :: xs => match arCv x, arsCvs xs with
   | some c, some cs => some (c :: cs)
   | _, _ => none
def rtCt : Rt -> Option Ct
 | .va x => match arCv x with
   | some c => some (.va c)
   | none => none
 | .tup xs => match arsCvs xs with
   | some cs => some (.tup cs)
   | none => none
def mkFv (Γ : Sums) (f : Nat) (rps : List Ar) : List Cv -> Option Gs := fun cs =>
 match Γ f with
 | some ⟨_, F⟩ => match F (cs.map cvAr ++ rps) with
   | some ⟨pre, rt, []⟩ => match rtCt rt with
     | some ct => some ⟨pre, ct⟩
     | none => none
   | _ => none
 | none => none
def capsK (h : List (Nat × Blk)) : List (Nat × Nat) -> (List Ar -> Prop) -> Prop
 | [], K => K []
 | (k, off) :: ps, K => match lookB h k with
   | .fz cs => capsK h ps fun as => fDs (cs.drop off) fun cs => K (.rp cs :: as)
   | _ => False
def argK (Γ : Sums) (h : List (Nat × Blk)) (own : Bool) (x : Va) (K : Ar -> List (Nat × Nat × Nat) -> Prop) : Prop :=
 match own, x with
 | true, .c (.osl k z o len) => match lookB h k with
   | .row sz n f => match Nat.beq sz z, Nat.beq o 0 with
     | true, true => len <= n /\ K (.c (.ow sz len f)) [(k, sz, len)]
     | _, _ => False
   | _ => False
 | true, _ => False
 | false, .c (.rp cs) => K (.rp cs) []
 | false, .c (.fv g) => K (.fv g) []
 | false, .c (.fn f caps) => match Γ f with
   | some _ => capsK h caps fun rps => K (.fv (mkFv Γ f rps)) []
   | none => False
 | false, .c (.own k off) => match lookB h k with
   | .fz cs => fDs (cs.drop off) fun cs => K (.rp cs) []
   | _ => False
 | false, .c c => closeCell h c fun d => fD d fun d => K (.c (.d d)) []
 | false, .agg cs => closeCells h cs fun ds => fDs ds fun ds => K (.agg (ds.map .d)) []
def argsK (Γ : Sums) (h : List (Nat × Blk)) : List Bool -> List Va -> (List Ar -> List (Nat × Nat × Nat) -> Prop) -> Prop
 | _, [], K => K [] []
 | [], x :: xs, K => argK Γ h false x fun a ids => argsK Γ h [] xs fun as ids' => K (a :: as) (ids ++ ids')
 | b :: bs, x :: xs, K => argK Γ h b x fun a ids => argsK Γ h bs xs fun as ids' => K (a :: as) (ids ++ ids')
def frArgs : List Bool -> List Va -> List Va
 | _, [] => []
 | [], xs => xs
 | true :: bs, _ :: xs => frArgs bs xs
 | false :: bs, x :: xs => x :: frArgs bs xs
def updK : List (Nat × Nat × Nat) -> List (Option (Nat -> List DV)) -> List (Nat × Blk) -> (List (Nat × Blk) -> Prop) -> Prop
 | [], [], h, K => K h
 | (k, sz, n) :: ks, some f :: us, h, K => updK ks us ((k, .row sz n f) :: h) K
 | (k, _, _) :: ks, none :: us, h, K => updK ks us ((k, .gone) :: h) K
 | _, _, _, _ => False
def retIcs : List Ic -> St -> (List Cell -> St -> Prop) -> Prop
 | [], st, K => K [] st
 | .d x :: xs, st, K => fD x fun x => retIcs xs st fun cs st => K (.d x :: cs) st
 | .ow sz n f :: xs, ⟨ts, h, i, m⟩, K => retIcs xs ⟨ts, (i, .row sz n f) :: h, i + 1, m⟩ fun cs st => K (.osl i sz 0 n :: cs) st
def retAr : Ar -> St -> (Va -> St -> Prop) -> Prop
 | .c x, st, K => retIcs [x] st fun cs st => match cs with
   | [c] => K (.c c) st
   | _ => False
 | .agg xs, st, K => retIcs xs st fun cs st => K (.agg cs) st
 | .rp cs, st, K => K (.c (.rp cs)) st
 | .fv g, st, K => K (.c (.fv g)) st
def retArs : List Ar -> St -> (List Va -> St -> Prop) -> Prop
 | [], st, K => K [] st
 | x :: xs, st, K => retAr x st fun v st => retArs xs st fun vs st => K (v :: vs) st
def retRt : Rt -> St -> (Tm -> St -> Prop) -> Prop
 | .va x, st, K => retAr x st fun v st => K (.va v) st
 | .tup xs, st, K => retArs xs st fun vs st => K (.tup vs) st
def noDups : List (Nat × Nat × Nat) -> Bool
 | [] => true
 | (k, _, _) :: ks => match ks.any (fun p => Nat.beq p.1 k) with
   | true => false
   | false => noDups ks
structure ACall (P : Program) (base : Nat) (f : Nat) (as : List Va) (st : St) (K : Tm -> St -> Prop) : Prop where
 run : ∀ ψ S w a vals, Rel P base ψ S w st a -> All2 (RepVa P ψ S w) as vals ->
  Runs P f vals.toArray w fun e w' => ∃ r st' v ψ' S', e = .returned v /\ K r st' /\ Rel P base ψ' S' w' st' a /\ RepT P ψ' S' w' r v /\ Ext base ψ S w ψ' S' w'
def vcCall (P : Program) (Γ : Sums) (base : Nat) (f : Nat) (as : List Va) (st : St) (K : Tm -> St -> Prop) : Prop :=
 match Γ f, st with
 | some ⟨own, F⟩, ⟨ts, h, n, m⟩ => frVas h (frArgs own as) fun h => argsK Γ h own as fun ars ids => match noDups ids, F ars with
   | true, some ⟨pre, r, us⟩ => pre /\ (pre -> updK ids us h fun h => retRt r ⟨ts, h, n, m⟩ K)
   | _, _ => False
 | none, st => ACall P base f as st K
def SumsOk (P : Program) (Γ : Sums) : Prop := ∀ f sm, Γ f = some sm -> FC P f sm.F
section
variable {P : Program} {τ : Tys} {Γ : Sums} {base : Nat} {ψ ψ' : Psi} {S S' : Nat → Prop} {w w' : World} {a : Act}
theorem icsDs_rep : ∀ {xs : List Ic} {ds : List DV} {vs : List Value} {ls : List Loc}, icsDs xs = some ds -> RepIcs S w xs vs ls -> All2 (RepD S w) ds vs
 | [], ds, [], _, h, _ => by simp [icsDs] at h; subst h; trivial
 | [], ds, _ :: _, ls, h, h' => by cases ls <;> simp [RepIcs] at h'
 | .d x :: xs, ds, [], _, _, h' => by simp [RepIcs] at h'
 | .d x :: xs, ds, v :: vs, ls, h, h' => by
   simp only [icsDs] at h
   split at h
   . rename_i ds' hd
     simp at h; subst h
     simp only [RepIcs] at h'
     exact ⟨h'.1, icsDs_rep hd h'.2⟩
   . simp at h
 | .ow _ _ _ :: _, _, _, _, h, _ => by simp [icsDs] at h
theorem arCv_rep {x : Ar} {c : Cv} {v : Value} {ls : List Loc} (h : arCv x = some c) (h' : RepAr P S w x v ls) : RepCv S w c v := by
 unfold arCv at h
 split at h
 . simp at h; subst h
   have := icsDs_rep (xs := [.d _]) (ds := [_]) rfl h'
   exact this.1
 . split at h
   . rename_i ds hd
     simp at h; subst h
     obtain ⟨arr, rfl, h'⟩ := h'
     exact ⟨arr, rfl, icsDs_rep hd h'⟩
   . simp at h
 . simp at h
theorem arsCvs_rep : ∀ {xs : List Ar} {cs : List Cv} {vs : List Value} {ls : List Loc}, arsCvs xs = some cs -> RepArs P S w xs vs ls -> All2 (RepCv S w) cs vs
 | [], cs, [], _, h, _ => by simp [arsCvs] at h; subst h; trivial
 | [], _, _ :: _, _, _, h' => by simp [RepArs] at h'
 | _ :: _, _, [], _, _, h' => by simp [RepArs] at h'
 | x :: xs, cs, v :: vs, ls, h, h' => by
   simp only [arsCvs] at h
   split at h
   . rename_i c cs' hc hcs
     simp at h; subst h
     obtain ⟨l1, l2, _, h1, h2⟩ := h'
     exact ⟨arCv_rep hc h1, arsCvs_rep hcs h2⟩
   . simp at h
theorem rtCt_rep {x : Rt} {c : Ct} {v : Value} {ls : List Loc} (h : rtCt x = some c) (h' : RepRt P S w x v ls) : RepCt S w c v := by
 unfold rtCt at h
 split at h
 . split at h
   . rename_i c' hc; simp at h; subst h; exact arCv_rep (P := P) hc h'
   . simp at h
 . split at h
   . rename_i cs hc
     simp at h; subst h
     obtain ⟨arr, rfl, h'⟩ := h'
     exact ⟨arr, rfl, arsCvs_rep (P := P) hc h'⟩
   . simp at h
theorem cvAr_rep {c : Cv} {v : Value} (h : RepCv S w c v) : RepAr P S w (cvAr c) v [] := by
 cases c with
 | c x => exact And.intro h trivial
 | agg xs =>
   obtain ⟨arr, rfl, h⟩ := h
   refine ⟨arr, rfl, ?_⟩
   generalize arr.toList = l at h
   induction xs generalizing l with
   | nil => cases l with | nil => trivial | cons _ _ => exact h.elim
   | cons x xs ih => cases l with
     | nil => exact h.elim
     | cons v l => exact And.intro h.1 (ih l h.2)
theorem RepArs.append : ∀ {xs : List Ar} {vs : List Value} {ls : List Loc} {ys : List Ar} {us : List Value} {ms : List Loc}, RepArs P S w xs vs ls -> RepArs P S w ys us ms -> RepArs P S w (xs ++ ys) (vs ++ us) (ls ++ ms)
 | [], [], ls, _, _, _, h, h' => by have : ls = [] := h; subst this; exact h'
 | [], _ :: _, _, _, _, _, h, _ => by simp [RepArs] at h
 | _ :: _, [], _, _, _, _, h, _ => by simp [RepArs] at h
 | x :: xs, v :: vs, ls, _, _, _, h, h' => by
   obtain ⟨l1, l2, rfl, h1, h2⟩ := h
   exact ⟨l1, l2 ++ _, by simp, h1, h2.append h'⟩
theorem cvArs_rep : ∀ {cs : List Cv} {vs : List Value}, All2 (RepCv S w) cs vs -> RepArs P S w (cs.map cvAr) vs []
 | [], [], _ => rfl
 | _ :: _, _ :: _, ⟨h1, h2⟩ => ⟨[], [], rfl, cvAr_rep h1, cvArs_rep h2⟩
theorem rps_later : ∀ {rps : List Ar} {vs : List Value}, RepArs P S w rps vs [] -> (∀ x ∈ rps, ∃ cs, x = .rp cs) -> Later S w S' w' -> RepArs P S' w' rps vs []
 | [], [], h, _, _ => h
 | [], _ :: _, h, _, _ => by simp [RepArs] at h
 | _ :: _, [], h, _, _ => by simp [RepArs] at h
 | x :: xs, v :: vs, h, hr, l => by
   obtain ⟨l1, l2, e, h1, h2⟩ := h
   obtain ⟨rfl, rfl⟩ : l1 = [] /\ l2 = [] := List.append_eq_nil_iff.1 e.symm
   obtain ⟨cs, rfl⟩ := hr x (by simp)
   exact ⟨[], [], rfl, ⟨rfl, h1.2.later (PsiSub.refl _) l⟩, rps_later h2 (fun y hy => hr y (by simp [hy])) l⟩
theorem mkFv_ok (hΓ : SumsOk P Γ) {f : Nat} {rps : List Ar} {caps : List Value} (hr : RepArs P S w rps caps []) (hrp : ∀ x ∈ rps, ∃ cs, x = .rp cs) :
 FnOk P (mkFv Γ f rps) (.func (.func f) #[] caps.toArray) S w := by
 refine ⟨f, #[], caps.toArray, rfl, ?_⟩
 intro S' w' hl hsd as pre r hg hpre vals hvals
 unfold mkFv at hg
 split at hg
 . rename_i own F hΓf
   split at hg
   . rename_i pre' rt hF
     split at hg <;> rename_i hct
     rotate_left
     . simp at hg
     simp only [Option.some.injEq, Gs.mk.injEq] at hg
     obtain ⟨rfl, rfl⟩ := hg
     have hfc := hΓ f _ hΓf _ _ _ _ hF hpre
     have hall := (cvArs_rep (P := P) hvals).append (rps_later hr hrp hl)
     have := hfc S' w' _ [] hsd (by simpa using hall) trivial
     have e : (vals ++ caps).toArray = #[] ++ vals.toArray ++ caps.toArray := by simp
     rw [e] at this
     refine this.mono ?_
     rintro e w'' ⟨v, S'', ls', rfl, h1, _, _, h2⟩
     exact ⟨v, S'', rfl, rtCt_rep hct h1, ⟨h2.os, h2.tape, h2.output, h2.grow, fun b hb => h2.old b hb (by rintro ⟨m, hm⟩; simp at hm), h2.later.1, fun b hb => by
      rcases h2.newS b hb with h | ⟨m, hm⟩ | h
      . exact .inl h
      . simp at hm
      . exact .inr h, h2.sdom⟩⟩
   . simp at hg
 . simp at hg
theorem capsK_ok {h : List (Nat × Blk)} {next : Nat} (hs : Sim P ψ S w h next) : ∀ {caps : List (Nat × Nat)} {vs : List Value} {K : List Ar -> Prop}, capsK h caps K ->
 All2 (fun (p : Nat × Nat) y => ∃ b m, ψ p.1 = some (.at b m) /\ y = Value.pointer (some ⟨b, p.2, none⟩)) caps vs -> ∃ rps, RepArs P S w rps vs [] /\ (∀ x ∈ rps, ∃ cs, x = .rp cs) /\ K rps
 | [], [], K, hk, _ => ⟨[], rfl, by simp, hk⟩
 | (k, off) :: ps, v :: vs, K, hk, ⟨⟨b, m, h1, h2⟩, h3⟩ => by
   simp only [capsK] at hk
   split at hk
   . rename_i cs hb
     obtain ⟨rps, g1, g2, g3⟩ := capsK_ok hs hk h3
     rw [fDs_eq] at g3
     have hbk := hs.blk k _ h1
     rw [hb] at hbk
     obtain ⟨hS, arr, e, fr, q1, q2⟩ := hbk
     refine ⟨.rp (cs.drop off) :: rps, ⟨[], [], rfl, ⟨rfl, b, off, arr.toList.drop off, h2, hS, q2.drop off, ?_⟩, g1⟩, ?_, g3⟩
     . intro j y hj
       rw [cell_at q1, <- Array.getElem?_toList]
       simpa [List.getElem?_drop] using hj
     . intro x hx
       simp at hx
       rcases hx with rfl | hx
       . exact ⟨_, rfl⟩
       . exact g2 x hx
   . exact hk.elim
def IdsOk (ψ : Psi) (h : List (Nat × Blk)) (ids : List (Nat × Nat × Nat)) (rows : List (Nat × Nat)) (ls : List Loc) : Prop :=
 ids.map (fun p => (p.2.1, p.2.2)) = rows /\ All2 (fun (p : Nat × Nat × Nat) l => ψ p.1 = some l) ids ls /\ ∀ p ∈ ids, (lookB h p.1).live
theorem IdsOk.append {h : List (Nat × Blk)} {ids ids' : List (Nat × Nat × Nat)} {rows rows' : List (Nat × Nat)} {ls ls' : List Loc} (a : IdsOk ψ h ids rows ls) (b : IdsOk ψ h ids' rows' ls') :
 IdsOk ψ h (ids ++ ids') (rows ++ rows') (ls ++ ls') :=
 ⟨by simp [a.1, b.1], a.2.1.append b.2.1, fun p hp => by simp at hp; rcases hp with hp | hp; exact a.2.2 p hp; exact b.2.2 p hp⟩
theorem icRows_d : ∀ (ds : List DV), icRows (ds.map Ic.d) = []
 | [] => rfl
 | _ :: ds => icRows_d ds
theorem RepIcs_d : ∀ {ds : List DV} {vs : List Value}, All2 (RepD S w) ds vs -> RepIcs S w (ds.map Ic.d) vs []
 | [], [], _ => trivial
 | _ :: _, _ :: _, ⟨h1, h2⟩ => And.intro h1 (RepIcs_d h2)
theorem argK_ok (hΓ : SumsOk P Γ) {h : List (Nat × Blk)} {next : Nat} (hs : Sim P ψ S w h next) {own : Bool} {x : Va} {v : Value} {K : Ar -> List (Nat × Nat × Nat) -> Prop} (hx : RepVa P ψ S w x v) (hk : argK Γ h own x K) :
 ∃ ar ids ls, RepAr P S w ar v ls /\ IdsOk ψ h ids (arRows ar) ls /\ K ar ids := by
 have nil : IdsOk ψ h [] [] [] := ⟨rfl, trivial, by simp⟩
 unfold argK at hk
 split at hk
 . rename_i k z o len
   split at hk
   . rename_i sz n f hb
     split at hk
     . rename_i h1 h2
       have h1 := Nat.eq_of_beq_eq_true h1
       have h2 := Nat.eq_of_beq_eq_true h2
       subst h1; subst h2
       obtain ⟨hle, hk⟩ := hk
       rcases hx with ⟨g1, g2, g3⟩ | ⟨b, m, c, off, g1, g2, g3, g4⟩
       . exact ⟨.c (.ow sz len f), [(k, sz, len)], [.virt], And.intro ⟨g2, g3⟩ (And.intro g2 trivial), ⟨rfl, ⟨g1, trivial⟩, by simp [hb, Blk.live]⟩, hk⟩
       . have hbk := hs.blk k _ g1
         rw [hb] at hbk
         obtain ⟨arr, e, q1, q2, q3, q4, q5⟩ := hbk
         have hm := Nat.mul_le_mul_right sz hle
         exact ⟨.c (.ow sz len f), [(k, sz, len)], [.at b m], And.intro ⟨c, off, g2, g3, g4⟩ (And.intro ⟨arr, e, q1, q2, by omega, fun i hi => q4 i (by omega), fun i j hi hj => q5 i j (by omega) hj⟩ trivial),
          ⟨rfl, ⟨g1, trivial⟩, by simp [hb, Blk.live]⟩, hk⟩
     . exact hk.elim
   . exact hk.elim
 . exact hk.elim
 . rename_i cs; exact ⟨.rp cs, [], [], ⟨rfl, hx⟩, nil, hk⟩
 . rename_i g; exact ⟨.fv g, [], [], ⟨rfl, hx⟩, nil, hk⟩
 . rename_i f caps
   split at hk
   . rename_i sm hsm
     obtain ⟨vs, rfl, hx⟩ := hx
     obtain ⟨rps, g1, g2, g3⟩ := capsK_ok hs hk hx
     exact ⟨.fv (mkFv Γ f rps), [], [], ⟨rfl, by simpa using mkFv_ok hΓ g1 g2⟩, nil, g3⟩
   . exact hk.elim
 . rename_i k off
   split at hk
   . rename_i cs hb
     rw [fDs_eq] at hk
     obtain ⟨b, m, h1, h2⟩ := hx
     have hbk := hs.blk k _ h1
     rw [hb] at hbk
     obtain ⟨hS, arr, e, fr, q1, q2⟩ := hbk
     refine ⟨.rp (cs.drop off), [], [], ⟨rfl, b, off, arr.toList.drop off, h2, hS, q2.drop off, ?_⟩, nil, hk⟩
     intro j y hj
     rw [cell_at q1, <- Array.getElem?_toList]
     simpa [List.getElem?_drop] using hj
   . exact hk.elim
 . obtain ⟨d, g1, g2⟩ := closeCell_rep hs hk hx
   rw [fD_eq] at g2
   exact ⟨.c (.d d), [], [], And.intro g1 trivial, nil, g2⟩
 . obtain ⟨arr, rfl, hx⟩ := hx
   obtain ⟨ds, g1, g2⟩ := closeCells_rep hs hk hx
   rw [fDs_eq] at g2
   exact ⟨.agg (ds.map .d), [], [], ⟨arr, rfl, RepIcs_d g1⟩, by simp only [arRows, icRows_d]; exact nil, g2⟩
theorem argsK_ok (hΓ : SumsOk P Γ) {h : List (Nat × Blk)} {next : Nat} (hs : Sim P ψ S w h next) : ∀ {xs : List Va} {own : List Bool} {vs : List Value} {K : List Ar -> List (Nat × Nat × Nat) -> Prop},
 All2 (RepVa P ψ S w) xs vs -> argsK Γ h own xs K -> ∃ ars ids ls, RepArs P S w ars vs ls /\ IdsOk ψ h ids (arsRows ars) ls /\ K ars ids
 | [], own, [], K, _, hk => ⟨[], [], [], rfl, ⟨rfl, trivial, by simp⟩, by cases own <;> exact hk⟩
 | x :: xs, own, v :: vs, K, ⟨h1, h2⟩, hk => by
   have main : ∀ b bs, (argK Γ h b x fun a ids => argsK Γ h bs xs fun as ids' => K (a :: as) (ids ++ ids')) -> ∃ ars ids ls, RepArs P S w ars (v :: vs) ls /\ IdsOk ψ h ids (arsRows ars) ls /\ K ars ids := by
    intro b bs hk
    obtain ⟨ar, ids, ls, g1, g2, g3⟩ := argK_ok hΓ hs h1 hk
    obtain ⟨ars, ids', ls', g4, g5, g6⟩ := argsK_ok hΓ hs h2 g3
    exact ⟨ar :: ars, ids ++ ids', ls ++ ls', ⟨ls, ls', rfl, g1, g4⟩, g2.append g5, g6⟩
   cases own with
   | nil => exact main false [] hk
   | cons b bs => exact main b bs hk
theorem frArgs_rep : ∀ {own : List Bool} {xs : List Va} {vs : List Value}, All2 (RepVa P ψ S w) xs vs -> ∃ vs', All2 (RepVa P ψ S w) (frArgs own xs) vs'
 | [], [], _, _ => ⟨[], trivial⟩
 | [], x :: xs, vs, h => ⟨vs, h⟩
 | true :: bs, [], _, _ => ⟨[], trivial⟩
 | false :: bs, [], _, _ => ⟨[], trivial⟩
 | true :: bs, x :: xs, v :: vs, h => frArgs_rep (own := bs) h.2
 | false :: bs, x :: xs, v :: vs, h => by obtain ⟨vs', g⟩ := frArgs_rep (own := bs) h.2; exact ⟨v :: vs', h.1, g⟩
def updBlk (sz n : Nat) : Option (Nat -> List DV) -> Blk
 | some f => .row sz n f
 | none => .gone
theorem updK_ok : ∀ {ids : List (Nat × Nat × Nat)} {us : List (Option (Nat -> List DV))} {h : List (Nat × Blk)} {K : List (Nat × Blk) -> Prop}, updK ids us h K -> noDups ids = true ->
 ∃ h', K h' /\ (∀ k, (∀ p ∈ ids, p.1 ≠ k) -> lookB h' k = lookB h k) /\
  ∀ (j : Nat) p, ids[j]? = some p -> lookB h' p.1 = updBlk p.2.1 p.2.2 (us.getD j none)
 | [], [], h, K, hk, _ => ⟨h, hk, fun _ _ => rfl, fun j p hp => by simp at hp⟩
 | [], _ :: _, h, K, hk, _ => hk.elim
 | (k, sz, n) :: ids, [], h, K, hk, _ => hk.elim
 | (k, sz, n) :: ids, u :: us, h, K, hk, hd => by
   have hd' : (∀ p ∈ ids, p.1 ≠ k) /\ noDups ids = true := by
    simp only [noDups] at hd
    split at hd
    . simp at hd
    . rename_i ha
      refine ⟨fun p hp e => ?_, hd⟩
      have : ids.any (fun p => Nat.beq p.1 k) = true := List.any_eq_true.2 ⟨p, hp, by rw [e]; exact Nat.beq_refl k⟩
      rw [ha] at this; cases this
   have hk2 : updK ids us ((k, updBlk sz n u) :: h) K := by cases u <;> exact hk
   obtain ⟨h', g1, g2, g3⟩ := updK_ok hk2 hd'.2
   refine ⟨h', g1, fun k' hk' => ?_, fun j p hp => ?_⟩
   . have hne : k ≠ k' := hk' (k, sz, n) (by simp)
     rw [g2 k' fun p hp => hk' p (by simp [hp]), lookB_cons, if_neg hne]
   . cases j with
     | zero =>
       simp at hp; subst hp
       rw [g2 k fun p hp => hd'.1 p hp, lookB_cons, if_pos rfl]
       rfl
     | succ j => simpa using g3 j p (by simpa using hp)
theorem noDups_inj : ∀ {ids : List (Nat × Nat × Nat)}, noDups ids = true -> ∀ (i j : Nat) p q, ids[i]? = some p -> ids[j]? = some q -> p.1 = q.1 -> i = j
 | [], _, i, j, p, q, hp, _, _ => by simp at hp
 | (k, sz, n) :: ids, hd, i, j, p, q, hp, hq, e => by
   have hd' : (∀ p ∈ ids, p.1 ≠ k) /\ noDups ids = true := by
    simp only [noDups] at hd
    split at hd
    . simp at hd
    . rename_i ha
      refine ⟨fun p hp e => ?_, hd⟩
      have : ids.any (fun p => Nat.beq p.1 k) = true := List.any_eq_true.2 ⟨p, hp, by rw [e]; exact Nat.beq_refl k⟩
      rw [ha] at this; cases this
   cases i with
   | zero => cases j with
     | zero => rfl
     | succ j =>
       simp at hp hq; subst hp
       exact absurd e.symm (hd'.1 q (List.mem_of_getElem? hq))
   | succ i => cases j with
     | zero =>
       simp at hp hq; subst hq
       exact absurd e (hd'.1 p (List.mem_of_getElem? hp))
     | succ j => rw [noDups_inj hd'.2 i j p q (by simpa using hp) (by simpa using hq) e]
def Pend (ψ : Psi) (S : Nat -> Prop) (w : World) (h : List (Nat × Blk)) (ls : List Loc) : Prop :=
 Sep S w ls /\ ∀ b, blkIn ls b -> ∀ k m, ψ k = some (.at b m) -> ¬ (lookB h k).live
theorem Rel.take {ts : List (Nat × Tm)} {h : List (Nat × Blk)} {n m sz nn : Nat} {f : Nat -> List DV} {l : Loc} {ls : List Loc}
 (hr : Rel P base ψ S w ⟨ts, h, n, m⟩ a) (hrow : RowRep S w sz nn f l) (hp : Pend ψ S w h (l :: ls)) :
 Rel P base (ψ.set n l) S w ⟨ts, (n, .row sz nn f) :: h, n + 1, m⟩ a /\ Pend (ψ.set n l) S w ((n, .row sz nn f) :: h) ls := by
 have hn : ψ n = none := hr.sim.dom n (Nat.le_refl _)
 have hsub : PsiSub ψ (ψ.set n l) := Psi.sub_set hn
 have hl := Later.refl S w
 have get : ∀ k l', (ψ.set n l) k = some l' -> (k = n /\ l' = l) \/ (k ≠ n /\ ψ k = some l') := by
  intro k l' hk
  simp only [Psi.set] at hk
  by_cases e : k = n
  . rw [if_pos e] at hk; simp at hk; exact .inl ⟨e, hk.symm⟩
  . rw [if_neg e] at hk; exact .inr ⟨e, hk⟩
 have look : ∀ k, k ≠ n -> lookB ((n, Blk.row sz nn f) :: h) k = lookB h k := fun k hk => by rw [lookB_cons, if_neg fun e => hk e.symm]
 refine ⟨⟨Nat.le_succ_of_le hr.bas, ⟨?_, ?_, ?_, ?_, ?_, hr.sim.sdom⟩, hr.lim, hr.defers, fun t => (hr.tmps t).later hsub hl⟩, ?_, ?_⟩
 . intro k hk
   have h1 : k ≠ n := by simp at hk; omega
   have h2 : n <= k := by simp at hk; omega
   simp [Psi.set, h1, hr.sim.dom k h2]
 . intro k l' hk
   rcases get k l' hk with ⟨rfl, rfl⟩ | ⟨h1, h2⟩
   . rw [lookB_cons, if_pos rfl]; exact RowRep.blk.1 hrow
   . rw [look k h1]; exact (hr.sim.blk k l' h2).later hsub hl fun _ _ _ => rfl
 . intro k k' b m1 m2 hk hk' h1 h2
   rcases get k _ hk with ⟨rfl, e⟩ | ⟨g1, g2⟩
   . rcases get k' _ hk' with ⟨rfl, _⟩ | ⟨g3, g4⟩
     . rfl
     . rw [look k' g3] at h2
       exact absurd h2 (hp.2 b ⟨m1, by rw [e]; simp⟩ k' m2 g4)
   . rw [look k g1] at h1
     rcases get k' _ hk' with ⟨rfl, e⟩ | ⟨g3, g4⟩
     . exact absurd h1 (hp.2 b ⟨m2, by rw [e]; simp⟩ k m1 g2)
     . rw [look k' g3] at h2
       exact hr.sim.inj k k' b m1 m2 g2 g4 h1 h2
 . intro k b m1 hk h1
   rcases get k _ hk with ⟨rfl, e⟩ | ⟨g1, g2⟩
   . subst e; exact hp.1.1
   . rw [look k g1] at h1; exact hr.sim.dis k b m1 g2 h1
 . intro k b m1 hk
   rcases get k _ hk with ⟨rfl, e⟩ | ⟨g1, g2⟩
   . subst e; exact hp.1.2.1
   . exact hr.sim.pdom k b m1 g2
 . have := hp.1
   cases l with
   | virt => exact this
   | «at» b m => exact this.2.2.2
 . intro b hb k m1 hk
   rcases get k _ hk with ⟨rfl, e⟩ | ⟨g1, g2⟩
   . subst e; exact absurd hb hp.1.2.2.1
   . rw [look k g1]
     obtain ⟨m', hm'⟩ := hb
     exact hp.2 b ⟨m', by simp [hm']⟩ k m1 g2
def Way (base : Nat) (ψ0 : Psi) (S0 : Nat -> Prop) (w0 : World) (ψ : Psi) (S : Nat -> Prop) (w : World) (ls : List Loc) : Prop :=
 Ext base ψ0 S0 w0 ψ S w /\ ∀ b, blkIn ls b -> (∃ k m, ψ0 k = some (.at b m)) \/ w0.heap.size <= b
theorem retIcs_ok {ψ0 : Psi} {S0 : Nat -> Prop} {w0 : World} : ∀ {xs : List Ic} {vs : List Value} {ls ls2 : List Loc} {ψ : Psi} {st : St} {K : List Cell -> St -> Prop}, RepIcs S w xs vs ls -> Rel P base ψ S w st a ->
 Pend ψ S w st.heap (ls ++ ls2) -> Way base ψ0 S0 w0 ψ S w (ls ++ ls2) -> retIcs xs st K ->
 ∃ cs st' ψ', K cs st' /\ Rel P base ψ' S w st' a /\ All2 (RepM P ψ' S w) cs vs /\ PsiSub ψ ψ' /\ Pend ψ' S w st'.heap ls2 /\ Way base ψ0 S0 w0 ψ' S w ls2
 | [], [], [], ls2, ψ, st, K, _, hr, hp, hw, hk => ⟨[], st, ψ, hk, hr, trivial, PsiSub.refl _, hp, hw⟩
 | [], [], _ :: _, _, _, _, _, h, _, _, _, _ => by simp [RepIcs] at h
 | [], _ :: _, _, _, _, _, _, h, _, _, _, _ => by simp [RepIcs] at h
 | .d x :: xs, [], _, _, _, _, _, h, _, _, _, _ => by simp [RepIcs] at h
 | .d x :: xs, v :: vs, ls, ls2, ψ, st, K, h, hr, hp, hw, hk => by
   simp only [RepIcs] at h
   simp only [retIcs, fD_eq] at hk
   obtain ⟨cs, st', ψ', g1, g2, g3, g4, g5, g6⟩ := retIcs_ok h.2 hr hp hw hk
   exact ⟨_, st', ψ', g1, g2, ⟨⟨h.1, h.1.scalar⟩, g3⟩, g4, g5, g6⟩
 | .ow _ _ _ :: xs, [], _, _, _, _, _, h, _, _, _, _ => by simp [RepIcs] at h
 | .ow _ _ _ :: xs, _ :: _, [], _, _, _, _, h, _, _, _, _ => by simp [RepIcs] at h
 | .ow sz n f :: xs, v :: vs, l :: ls, ls2, ψ, ⟨ts, h, i, m⟩, K, hrep, hr, hp, hw, hk => by
   simp only [RepIcs] at hrep
   obtain ⟨h1, h2, h3⟩ := hrep
   simp only [retIcs] at hk
   have hn : ψ i = none := hr.sim.dom i (Nat.le_refl _)
   obtain ⟨t1, t2⟩ := hr.take h2 hp
   have hw2 : Way base ψ0 S0 w0 (ψ.set i l) S w (ls ++ ls2) := by
    obtain ⟨he, hb⟩ := hw
    refine ⟨⟨he.os, he.tape, he.output, he.grow, he.old, he.later, he.newS, ?_, ?_⟩, fun b ⟨mm, hm⟩ => hb b ⟨mm, by simp at hm ⊢; exact .inr hm⟩⟩
    . intro k b mm hk
      simp only [Psi.set] at hk
      by_cases e : k = i
      . rw [if_pos e] at hk; simp at hk; exact hb b ⟨mm, by rw [hk]; simp⟩
      . rw [if_neg e] at hk; exact he.newP k b mm hk
    . intro k hk
      have := hr.bas
      have : k ≠ i := by simp at this; omega
      simp only [Psi.set, if_neg this]; exact he.agr k hk
   obtain ⟨cs, st', ψ', g1, g2, g3, g4, g5, g6⟩ := retIcs_ok (st := ⟨ts, (i, .row sz n f) :: h, i + 1, m⟩) h3 t1 t2 hw2 hk
   have hψ : ψ' i = some l := g4 i l (by simp [Psi.set])
   refine ⟨_, st', ψ', g1, g2, ⟨⟨oslV_rep hψ h1, ?_⟩, g3⟩, fun k l' hk => g4 k l' (Psi.sub_set hn k l' hk), g5, g6⟩
   cases l with
   | virt => obtain ⟨_, a0, e0⟩ := h1; rw [e0]; trivial
   | «at» b m => obtain ⟨c, off, e, _⟩ := h1; rw [e]; trivial
theorem retAr_ok {ψ0 : Psi} {S0 : Nat -> Prop} {w0 : World} {x : Ar} {v : Value} {ls ls2 : List Loc} {ψ : Psi} {st : St} {K : Va -> St -> Prop} (h : RepAr P S w x v ls) (hr : Rel P base ψ S w st a)
 (hp : Pend ψ S w st.heap (ls ++ ls2)) (hw : Way base ψ0 S0 w0 ψ S w (ls ++ ls2)) (hk : retAr x st K) :
 ∃ y st' ψ', K y st' /\ Rel P base ψ' S w st' a /\ RepVa P ψ' S w y v /\ PsiSub ψ ψ' /\ Pend ψ' S w st'.heap ls2 /\ Way base ψ0 S0 w0 ψ' S w ls2 := by
 cases x with
 | c x =>
   obtain ⟨cs, st', ψ', g1, g2, g3, g4, g5, g6⟩ := retIcs_ok h hr hp hw hk
   split at g1
   . rename_i c; exact ⟨.c c, st', ψ', g1, g2, g3.1.1, g4, g5, g6⟩
   . exact g1.elim
 | agg xs =>
   obtain ⟨arr, rfl, h⟩ := h
   obtain ⟨cs, st', ψ', g1, g2, g3, g4, g5, g6⟩ := retIcs_ok h hr hp hw hk
   exact ⟨.agg cs, st', ψ', g1, g2, ⟨arr, rfl, g3⟩, g4, g5, g6⟩
 | rp cs => obtain ⟨rfl, h⟩ := h; exact ⟨_, st, ψ, hk, hr, h, PsiSub.refl _, hp, hw⟩
 | fv g => obtain ⟨rfl, h⟩ := h; exact ⟨.c (.fv g), st, ψ, hk, hr, h, PsiSub.refl _, hp, hw⟩
theorem retArs_ok {ψ0 : Psi} {S0 : Nat -> Prop} {w0 : World} : ∀ {xs : List Ar} {vs : List Value} {ls ls2 : List Loc} {ψ : Psi} {st : St} {K : List Va -> St -> Prop}, RepArs P S w xs vs ls -> Rel P base ψ S w st a ->
 Pend ψ S w st.heap (ls ++ ls2) -> Way base ψ0 S0 w0 ψ S w (ls ++ ls2) -> retArs xs st K ->
 ∃ ys st' ψ', K ys st' /\ Rel P base ψ' S w st' a /\ All2 (RepVa P ψ' S w) ys vs /\ PsiSub ψ ψ' /\ Pend ψ' S w st'.heap ls2 /\ Way base ψ0 S0 w0 ψ' S w ls2
 | [], [], ls, ls2, ψ, st, K, h, hr, hp, hw, hk => by have : ls = [] := h; subst this; exact ⟨[], st, ψ, hk, hr, trivial, PsiSub.refl _, hp, hw⟩
 | [], _ :: _, _, _, _, _, _, h, _, _, _, _ => by simp [RepArs] at h
 | _ :: _, [], _, _, _, _, _, h, _, _, _, _ => by simp [RepArs] at h
 | x :: xs, v :: vs, ls, ls2, ψ, st, K, h, hr, hp, hw, hk => by
   obtain ⟨l1, l2, rfl, h1, h2⟩ := h
   simp only [List.append_assoc] at hp hw
   obtain ⟨y, st', ψ', g1, g2, g3, g4, g5, g6⟩ := retAr_ok h1 hr hp hw hk
   obtain ⟨ys, st2, ψ2, k1, k2, k3, k4, k5, k6⟩ := retArs_ok h2 g2 g5 g6 g1
   exact ⟨y :: ys, st2, ψ2, k1, k2, ⟨g3.later k4 (Later.refl _ _), k3⟩, fun k l hk => k4 k l (g4 k l hk), k5, k6⟩
theorem retRt_ok {ψ0 : Psi} {S0 : Nat -> Prop} {w0 : World} {x : Rt} {v : Value} {ls : List Loc} {ψ : Psi} {st : St} {K : Tm -> St -> Prop} (h : RepRt P S w x v ls) (hr : Rel P base ψ S w st a)
 (hp : Pend ψ S w st.heap ls) (hw : Way base ψ0 S0 w0 ψ S w ls) (hk : retRt x st K) :
 ∃ y st' ψ', K y st' /\ Rel P base ψ' S w st' a /\ RepT P ψ' S w y v /\ Ext base ψ0 S0 w0 ψ' S w := by
 cases x with
 | va x =>
   obtain ⟨y, st', ψ', g1, g2, g3, g4, g5, g6⟩ := retAr_ok (ls2 := []) h hr (by simpa using hp) (by simpa using hw) hk
   exact ⟨.va y, st', ψ', g1, g2, g3, g6.1⟩
 | tup xs =>
   obtain ⟨arr, rfl, h⟩ := h
   obtain ⟨ys, st', ψ', g1, g2, g3, g4, g5, g6⟩ := retArs_ok (ls2 := []) h hr (by simpa using hp) (by simpa using hw) hk
   exact ⟨.tup ys, st', ψ', g1, g2, ⟨arr, rfl, g3⟩, g6.1⟩
theorem repUs_get : ∀ {rs : List (Nat × Nat)} {us : List (Option (Nat -> List DV))} {ls : List Loc}, RepUs S w rs us ls ->
 us.length = ls.length /\ ∀ (j : Nat) r f l, rs[j]? = some r -> us[j]? = some (some f) -> ls[j]? = some l -> RowRep S w r.1 r.2 f l /\ l ∈ keptLocs us ls
 | [], [], [], _ => ⟨rfl, fun j r f l h => by simp at h⟩
 | [], [], _ :: _, h => by simp [RepUs] at h
 | [], _ :: _, _, h => by simp [RepUs] at h
 | _ :: _, [], _, h => by simp [RepUs] at h
 | _ :: _, none :: _, [], h => by simp [RepUs] at h
 | _ :: _, some _ :: _, [], h => by simp [RepUs] at h
 | (sz, n) :: rs, none :: us, l :: ls, h => by
   obtain ⟨h1, h2⟩ := repUs_get (rs := rs) (us := us) (ls := ls) h
   refine ⟨by simp [h1], fun j r f l' hr hu hl => ?_⟩
   cases j with
   | zero => simp at hu
   | succ j => exact h2 j r f l' (by simpa using hr) (by simpa using hu) (by simpa using hl)
 | (sz, n) :: rs, some f0 :: us, l :: ls, h => by
   obtain ⟨h1, h2⟩ := repUs_get (rs := rs) (us := us) (ls := ls) h.2
   refine ⟨by simp [h1], fun j r f l' hr hu hl => ?_⟩
   cases j with
   | zero => simp at hr hu hl; subst hr; subst hu; subst hl; exact ⟨h.1, by simp [keptLocs]⟩
   | succ j =>
     obtain ⟨g1, g2⟩ := h2 j r f l' (by simpa using hr) (by simpa using hu) (by simpa using hl)
     exact ⟨g1, by simp [keptLocs, g2]⟩
theorem sep_append_right {ls ls' : List Loc} (h : Sep S w (ls ++ ls')) : Sep S w ls' := by
 induction ls with
 | nil => exact h
 | cons l ls ih => cases l with
   | virt => exact ih h
   | «at» b m => exact ih h.2.2.2
theorem sep_kept {ls ls' : List Loc} (h : Sep S w (ls ++ ls')) {b m : Nat} (hb : Loc.at b m ∈ ls) : ¬ S b /\ ¬ blkIn ls' b := by
 induction ls with
 | nil => simp at hb
 | cons l ls ih => cases l with
   | virt => exact ih h (by simpa using hb)
   | «at» b' m' =>
     simp only [List.mem_cons, Loc.at.injEq] at hb
     rcases hb with ⟨rfl, rfl⟩ | hb
     . exact ⟨h.1, fun ⟨q, hq⟩ => h.2.2.1 ⟨q, by simp [hq]⟩⟩
     . exact ih h.2.2.2 hb
theorem vcCall_ok (hΓ : SumsOk P Γ) (base : Nat) : CallsOk P base (vcCall P Γ base) := by
 intro f as st K hk ψ S w a vals hrel hvals
 obtain ⟨ts, h, n, m⟩ := st
 unfold vcCall at hk
 split at hk
 . rename_i own F ts0 h0 n0 m0 hΓf hst
   cases hst
   have hfc := hΓ f _ hΓf
   obtain ⟨vs', hvs'⟩ := frArgs_rep (own := own) hvals
   obtain ⟨h1, S1, hk, hrel1, hext1⟩ := frVas_ok _ _ _ _ hrel hvs' hk
   have hvals1 := hvals.mono fun _ _ h => RepVa.later h (PsiSub.refl ψ) hext1.later
   obtain ⟨ars, ids, ls, hars, ⟨hid1, hid2, hid3⟩, hk⟩ := argsK_ok hΓ hrel1.sim hvals1 hk
   split at hk
   . rename_i pre r us hnd hF
     obtain ⟨hpre, hk⟩ := hk
     have hk := hk hpre
     have hf := hfc _ _ _ _ hF hpre
     -- the rows lie apart
     have idx : ∀ (j : Nat) l, ls[j]? = some l -> ∃ p, ids[j]? = some p /\ ψ p.1 = some l /\ (lookB h1 p.1).live := by
      intro j l hj
      have hlen := hid2.length
      have hjl := (List.getElem?_eq_some_iff.1 hj).1
      have hp : ids[j]? = some (ids[j]'(by omega)) := by simp
      obtain ⟨y, e1, e2⟩ := hid2.get j _ hp
      rw [hj] at e1; cases e1
      exact ⟨_, hp, e2, hid3 _ (List.getElem_mem _)⟩
     have hin : ∀ b, blkIn ls b -> ∃ (j : Nat) (p : Nat × Nat × Nat) (m : Nat), ids[j]? = some p /\ ls[j]? = some (Loc.at b m) /\ ψ p.1 = some (Loc.at b m) /\ (lookB h1 p.1).live := by
      rintro b ⟨m, hm⟩
      obtain ⟨j, hj, e⟩ := List.mem_iff_getElem.1 hm
      have e' : ls[j]? = some (.at b m) := by rw [List.getElem?_eq_getElem hj, e]
      obtain ⟨p, p1, p2, p3⟩ := idx j _ e'
      exact ⟨j, p, m, p1, e', p2, p3⟩
     have hsep : Sep S1 w ls := by
      have : ∀ (ls' : List Loc) (i : Nat), (∀ (j : Nat) l, ls'[j]? = some l -> ls[i + j]? = some l) -> Sep S1 w ls' := by
       intro ls'
       induction ls' with
       | nil => intro i _; trivial
       | cons l ls' ih =>
         intro i hi
         have ih' := ih (i + 1) fun j l hj => by have := hi (j + 1) l (by simpa using hj); rwa [show i + (j + 1) = i + 1 + j by omega] at this
         cases l with
         | virt => exact ih'
         | «at» b mm =>
           have h0 : ls[i]? = some (.at b mm) := by simpa using hi 0 _ (by simp)
           obtain ⟨p, p1, p2, p3⟩ := idx i _ h0
           refine ⟨hrel1.sim.dis _ b mm p2 p3, hrel1.sim.pdom _ b mm p2, ?_, ih'⟩
           rintro ⟨m2, hm2⟩
           obtain ⟨j, hj, e⟩ := List.mem_iff_getElem.1 hm2
           have e' : ls[i + (j + 1)]? = some (.at b m2) := hi (j + 1) _ (by simp only [List.getElem?_cons_succ]; rw [List.getElem?_eq_getElem hj, e])
           obtain ⟨q, q1, q2, q3⟩ := idx _ _ e'
           have := noDups_inj hnd i (i + (j + 1)) p q p1 q1 (hrel1.sim.inj _ _ b mm m2 p2 q2 p3 q3)
           omega
      exact this ls 0 fun j l hj => by simpa using hj
     refine (hf S1 w vals ls hrel1.sim.sdom hars hsep).mono ?_
     rintro e w' ⟨v, S', ls', rfl, hrt, hus, hsep', hxa⟩
     obtain ⟨h2, hk, hother, hupd⟩ := updK_ok hk hnd
     obtain ⟨hul, hget⟩ := repUs_get hus
     -- which blocks may have turned: those of the rows alone
     have notin : ∀ k b mm, ψ k = some (.at b mm) -> (lookB h1 k).live -> (∀ p ∈ ids, p.1 ≠ k) -> ¬ blkIn ls b := by
      intro k b mm hkψ hl hne hb
      obtain ⟨j, p, m2, p1, p2, p3, p4⟩ := hin b hb
      exact hne p (List.mem_of_getElem? p1) (hrel1.sim.inj _ _ b m2 mm p3 hkψ p4 hl)
     have live1 : ∀ k, (lookB h2 k).live -> (lookB h1 k).live := by
      intro k hl
      by_cases hk : ∃ p ∈ ids, p.1 = k
      . obtain ⟨p, hp, rfl⟩ := hk; exact hid3 p hp
      . rw [hother k fun p hp e => hk ⟨p, hp, e⟩] at hl; exact hl
     have kept : ∀ k b mm, ψ k = some (.at b mm) -> (lookB h2 k).live -> (∃ p ∈ ids, p.1 = k) -> Loc.at b mm ∈ keptLocs us ls := by
      rintro k b mm hkψ hl ⟨p, hp, rfl⟩
      obtain ⟨j, hj, e⟩ := List.mem_iff_getElem.1 hp
      have hpj : ids[j]? = some p := by rw [List.getElem?_eq_getElem hj, e]
      obtain ⟨l, e1, e2⟩ := hid2.get j p hpj
      rw [hkψ] at e2; cases e2
      rw [hupd j p hpj] at hl
      cases hu : us[j]? with
      | none =>
        have : us.getD j none = none := by simp [List.getD, hu]
        rw [this] at hl; exact hl.elim
      | some u => cases u with
        | none => have : us.getD j none = none := by simp [List.getD, hu]
                  rw [this] at hl; exact hl.elim
        | some f' =>
          have hr : (arsRows ars)[j]? = some (p.2.1, p.2.2) := by rw [<- hid1]; simp [hpj]
          exact (hget j _ f' _ hr hu e1).2
     have hrel2 : Rel P base ψ S' w' ⟨ts, h2, n, m⟩ a := by
      refine ⟨hrel1.bas, ⟨hrel1.sim.dom, ?_, ?_, ?_, ?_, hrel1.sim.sdom.later hxa.later hxa.sdom⟩, hrel1.lim, hrel1.defers, fun t => (hrel1.tmps t).later (PsiSub.refl _) hxa.later⟩
      . intro k l hkψ
        by_cases hk : ∃ p ∈ ids, p.1 = k
        . obtain ⟨p, hp, rfl⟩ := hk
          obtain ⟨j, hj, e⟩ := List.mem_iff_getElem.1 hp
          have hpj : ids[j]? = some p := by rw [List.getElem?_eq_getElem hj, e]
          obtain ⟨l', e1, e2⟩ := hid2.get j p hpj
          rw [hkψ] at e2; cases e2
          rw [hupd j p hpj]
          cases hu : us[j]? with
          | none => have : us.getD j none = none := by simp [List.getD, hu]
                    rw [this]; cases l <;> trivial
          | some u => cases u with
            | none => have : us.getD j none = none := by simp [List.getD, hu]
                      rw [this]; cases l <;> trivial
            | some f' =>
              have hr : (arsRows ars)[j]? = some (p.2.1, p.2.2) := by rw [<- hid1]; simp [hpj]
              have : us.getD j none = some f' := by simp [List.getD, hu]
              rw [this]
              exact RowRep.blk.1 (hget j _ f' _ hr hu e1).1
        . have hne : ∀ p ∈ ids, p.1 ≠ k := fun p hp e => hk ⟨p, hp, e⟩
          rw [hother k hne]
          have hb := hrel1.sim.blk k l hkψ
          have viaS : ∀ b mm, l = .at b mm -> S1 b -> w'.heap[b]? = w.heap[b]? := fun b mm _ hS => hxa.later.2 b hS
          cases hbk : lookB h1 k with
          | gone => cases l <;> trivial
          | cells cs => exact (hbk ▸ hb).later (PsiSub.refl _) hxa.later fun b mm e => hxa.old b (hrel1.sim.pdom k b mm (e ▸ hkψ)) (notin k b mm (e ▸ hkψ) (by rw [hbk]; trivial) hne)
          | row sz nn f' => exact (hbk ▸ hb).later (PsiSub.refl _) hxa.later fun b mm e => hxa.old b (hrel1.sim.pdom k b mm (e ▸ hkψ)) (notin k b mm (e ▸ hkψ) (by rw [hbk]; trivial) hne)
          | it sI pI => exact (hbk ▸ hb).later (PsiSub.refl _) hxa.later fun b mm e => hxa.old b (hrel1.sim.pdom k b mm (e ▸ hkψ)) (notin k b mm (e ▸ hkψ) (by rw [hbk]; trivial) hne)
          | map eI bcI => exact (hbk ▸ hb).later (PsiSub.refl _) hxa.later fun b mm e => hxa.old b (hrel1.sim.pdom k b mm (e ▸ hkψ)) (notin k b mm (e ▸ hkψ) (by rw [hbk]; trivial) hne)
          | fz cs =>
            rw [hbk] at hb
            exact BlkRep.later hb (PsiSub.refl _) hxa.later fun b mm e => by subst e; exact viaS b mm rfl hb.1
          | fzr sz nn f' =>
            rw [hbk] at hb
            exact BlkRep.later hb (PsiSub.refl _) hxa.later fun b mm e => by subst e; exact viaS b mm rfl hb.1
      . intro k k' b m1 m2 e1 e2 l1 l2
        exact hrel1.sim.inj k k' b m1 m2 e1 e2 (live1 k l1) (live1 k' l2)
      . intro k b mm hkψ hl hS
        by_cases hk : ∃ p ∈ ids, p.1 = k
        . exact (sep_kept hsep' (kept k b mm hkψ hl hk)).1 hS
        . have hne : ∀ p ∈ ids, p.1 ≠ k := fun p hp e => hk ⟨p, hp, e⟩
          rcases hxa.newS b hS with h | h | h
          . exact hrel1.sim.dis k b mm hkψ (live1 k hl) h
          . exact notin k b mm hkψ (live1 k hl) hne h
          . have := hrel1.sim.pdom k b mm hkψ; omega
      . intro k b mm hkψ; have := hrel1.sim.pdom k b mm hkψ; have := hxa.grow; omega
     have hpend : Pend ψ S' w' h2 ls' := by
      refine ⟨sep_append_right hsep', ?_⟩
      intro b hb k mm hkψ hl
      by_cases hk : ∃ p ∈ ids, p.1 = k
      . exact (sep_kept hsep' (kept k b mm hkψ hl hk)).2 hb
      . have hne : ∀ p ∈ ids, p.1 ≠ k := fun p hp e => hk ⟨p, hp, e⟩
        rcases hxa.newL b hb with h | h
        . exact notin k b mm hkψ (live1 k hl) hne h
        . have := hrel1.sim.pdom k b mm hkψ; omega
     have himg : ∀ b, blkIn ls b -> ∃ k m, ψ k = some (.at b m) := fun b hb => by
      obtain ⟨j, p, mm, _, _, p3, _⟩ := hin b hb; exact ⟨p.1, mm, p3⟩
     have hway : Way base ψ S w ψ S' w' ls' := by
      refine ⟨⟨hxa.os, hxa.tape, hxa.output, hxa.grow, fun b hb hno => hxa.old b hb fun hbl => ?_, hext1.later.trans hxa.later, ?_, fun k b mm hk => .inl ⟨k, mm, hk⟩, fun _ _ => rfl⟩, ?_⟩
      . obtain ⟨k, mm, hk⟩ := himg b hbl; exact hno k mm hk
      . intro b hb
        rcases hxa.newS b hb with h | h | h
        . exact hext1.newS b h
        . exact .inr (.inl (himg b h))
        . exact .inr (.inr h)
      . intro b hb
        rcases hxa.newL b hb with h | h
        . exact .inl (himg b h)
        . exact .inr h
     obtain ⟨y, st', ψ', g1, g2, g3, g4⟩ := retRt_ok hrt hrel2 hpend hway hk
     exact ⟨y, st', v, ψ', S', rfl, g1, g2, g3, g4⟩
   . exact hk.elim
 . exact hk.run ψ S w a vals hrel hvals
end
def icFr : Ic -> DV
 | .d x => x
 | .ow sz n f => .lst sz n f
def arFr : Ar -> Option Cv
 | .c x => some (.c (icFr x))
 | .agg xs => some (.agg (xs.map icFr))
 | _ => none
def arsFr : List Ar -> Option (List Cv)
 | [] => some []
 | x :: xs => match arFr x, arsFr xs with
   | some c, some cs => some (c :: cs)
   | _, _ => none
def rtFr : Rt -> Option Ct
 | .va x => match arFr x with
   | some c => some (.va c)
   | none => none
 | .tup xs => match arsFr xs with
   | some cs => some (.tup cs)
   | none => none
def dCall (Γ : Sums) (f : Nat) (as : List Va) (h : List (Nat × Blk)) (K : Tm -> Prop) : Prop :=
 match Γ f with
 | some ⟨_, F⟩ => argsK Γ h [] as fun ars _ => match F ars with
   | some ⟨pre, r, []⟩ => match rtFr r with
     | some ct => pre /\ (pre -> fT (ctTm ct) K)
     | none => False
   | _ => False
 | none => False
def dFv (g : List Cv -> Option Gs) (as : List Va) (h : List (Nat × Blk)) (K : Tm -> Prop) : Prop :=
 closeVas h as fun cs => match g cs with
  | some ⟨pre, r⟩ => pre /\ (pre -> fT (ctTm r) K)
  | none => False
def dPut (i : Nat) (gs : List Nat) (x : Tm) (k : Tm -> Prop) : Prop :=
 match gs.contains i, x with
 | true, .va (.c (.d (.v (.bool b)))) => (b = true -> k (.va (.c (.kb true)))) /\ (b = false -> k (.va (.c (.kb false))))
 | _, x => k x
def putT (dst : Option Tmp) (x : Tm) (ts : List (Nat × Tm)) : List (Nat × Tm) := match dst with
 | some t => (t, x) :: ts
 | none => ts
def dOp (P : Program) (τ : Tys) (Γ : Sums) (id : Nat) (o : Oper) (st : St) (K : Tm -> Option Blk -> Prop) : Prop :=
 match o.op with
 | .alloc e => match τ e with
   | some ⟨_, _, _, z⟩ => K (.va (.c (.own id 0))) (some (.cells (zeroCells' z)))
   | none => False
 | .box _ x => match ev st x with
   | .va y => match y.lays with
     | true => K (.va (.c (.own id 0))) (some (.cells y.cells))
     | false => False
   | _ => False
 | .call c => match c.callee with
   | .value f => match fnOf (ev st f), mapO (fun x => asVa (ev st x)) c.args.toList with
     | .va (.c (.fn f [])), some as => fVas as fun as => dCall Γ f as st.heap fun r => K r none
     | .va (.c (.fv g)), some as => dFv g as st.heap fun r => K r none
     | _, _ => False
   | _ => vOp P τ (.call c) o.type (ev st) st.heap fun x => K x none
 | .buildSlice t len parts => oBuildFr τ st.heap (ev st) t len parts.toList fun x => K x none
 | op => vOp P τ op o.type (ev st) st.heap fun x => K x none
def inLim (dst : Option Tmp) (lim : Nat) : Bool := match dst with
 | some t => Nat.blt t lim
 | none => true
def dWant (all : List Oper) (st : St) (o : Oper) (k : Bool -> Prop) : Prop :=
 match o.guard with
 | none => k true
 | some (j, want) => match dstOf all j with
   | none => False
   | some s => match lookT st.tmps s with
     | .va (.c (.kb true)) => k want
     | .va (.c (.kb false)) => k (!want)
     | .va (.c .und) => k false
     | _ => False
def dGo (P : Program) (τ : Tys) (Γ : Sums) (n0 : Nat) (gs : List Nat) (all : List Oper) (i : Nat) (l : List Oper) : St -> (St -> Prop) -> Prop :=
 List.rec (motive := fun _ => Nat -> St -> (St -> Prop) -> Prop) (fun _ st K => K st) (fun o _ ih i st K => match st with
  | ⟨ts, h, n, m⟩ => match inLim o.dst m with
    | false => False
    | true => dWant all ⟨ts, h, n, m⟩ o fun w => match w with
      | false => ih (i + 1) ⟨putT o.dst undT ts, h, n, m⟩ K
      | true => dOp P τ Γ (n0 + i) o ⟨ts, h, n, m⟩ fun x b => fT x fun x => match b with
        | some (.cells cs) => fCs cs fun cs => dPut i gs x fun x => ih (i + 1) ⟨putT o.dst x ts, (n0 + i, .cells cs) :: h, n, m⟩ K
        | some _ => False
        | none => dPut i gs x fun x => ih (i + 1) ⟨putT o.dst x ts, h, n, m⟩ K) l i
theorem dGo_cons (P : Program) (τ : Tys) (Γ : Sums) (n0 : Nat) (gs : List Nat) (all : List Oper) (i : Nat) (o : Oper) (rest : List Oper) (ts : List (Nat × Tm)) (h : List (Nat × Blk)) (n m : Nat) (K : St -> Prop) :
 dGo P τ Γ n0 gs all i (o :: rest) ⟨ts, h, n, m⟩ K = (match inLim o.dst m with
 | false => False
 | true => dWant all ⟨ts, h, n, m⟩ o fun w => match w with
   | false => dGo P τ Γ n0 gs all (i + 1) rest ⟨putT o.dst undT ts, h, n, m⟩ K
   | true => dOp P τ Γ (n0 + i) o ⟨ts, h, n, m⟩ fun x b => fT x fun x => match b with
     | some (.cells cs) => fCs cs fun cs => dPut i gs x fun x => dGo P τ Γ n0 gs all (i + 1) rest ⟨putT o.dst x ts, (n0 + i, .cells cs) :: h, n, m⟩ K
     | some _ => False
     | none => dPut i gs x fun x => dGo P τ Γ n0 gs all (i + 1) rest ⟨putT o.dst x ts, h, n, m⟩ K) := rfl
def cloGo : List Oper -> List Nat -> List Nat
 | [], acc => acc
 | o :: os, acc => cloGo os (acc ++ [o.after.toList.foldl (fun s e => if Region.binds .any e then s ||| 2 ^ e.on ||| acc.getD e.on 0 else s) 0])
def tmpsL : List Operand -> List Tmp
 | [] => []
 | .tmp t :: xs => t :: tmpsL xs
 | _ :: xs => tmpsL xs
def opTmps (op : Op) : List Tmp := match op with
 | .call c => match c.callee with
   | .value f => tmpsL (f :: c.args.toList)
   | .invoke r _ => tmpsL (r :: c.args.toList)
   | .builtin _ => tmpsL c.args.toList
 | op => tmpsL op.operands.toList
def readsOf (all : List Oper) (o : Oper) : List Tmp := opTmps o.op ++ (match o.guard with
 | some (j, _) => (dstOf all j).toList
 | none => [])
def clash (all : List Oper) (x y : Oper) : Bool :=
 (match x.dst with
   | some t => (readsOf all y).contains t || y.dst == some t
   | none => false) ||
 (match y.dst with
   | some t => (readsOf all x).contains t
   | none => false)
def drawOk (all : List Oper) (m : Nat) : Bool :=
 let b := cloGo all []
 (List.range all.length).all fun i =>
   match all[i]? with
   | none => false
   | some o => o.after.toList.all (fun e => !Region.binds .any e || decide (e.on < i)) &&
     (List.range i).all fun j => (b.getD i 0).testBit j || (decide (i < m) && match all[j]? with
       | some x => !clash all x o
       | none => false)
def isMild (Γ : Sums) (bs : Bool) (o : Oper) : Bool := match o.op with
 | .store .. => false
 | .mapUpdate .. => false
 | .buildSlice .. => bs
 | .call c => match c.callee with
   | .value (.func f) => match Γ f with
     | some _ => true
     | none => false
   | .builtin .append => false
   | .builtin .copy => false
   | .builtin .clear => false
   | .builtin .delete => false
   | _ => true
 | _ => true
def mildLen (Γ : Sums) (bs : Bool) : List Oper -> Nat
 | [] => 0
 | o :: os => match isMild Γ bs o with
   | true => mildLen Γ bs os + 1
   | false => 0
def guardsOf (all : List Oper) : List Nat := all.filterMap fun o => match o.guard with
 | some (j, _) => some j
 | none => none
def vcDrawAt (P : Program) (τ : Tys) (Γ : Sums) (calls : Nat -> List Va -> St -> (Tm -> St -> Prop) -> Prop) (m : Nat) (ops : List Oper) (st : St) (K : St -> Prop) : Prop :=
 dGo P τ Γ st.next (guardsOf ops) ops 0 (ops.take m) st fun st' =>
  match st' with
  | ⟨ts, h, n, l⟩ => vcOps P τ calls ops (ops.drop m) ⟨ts, h, n + m, l⟩ K
def vcDraw (P : Program) (τ : Tys) (Γ : Sums) (calls : Nat -> List Va -> St -> (Tm -> St -> Prop) -> Prop) (ops : List Oper) (st : St) (K : St -> Prop) (other : Prop) : Prop :=
 match drawOk ops (mildLen Γ false ops) with
 | true => vcDrawAt P τ Γ calls (mildLen Γ false ops) ops st K
 | false => match drawOk ops (mildLen Γ true ops) with
   | true => vcDrawAt P τ Γ calls (mildLen Γ true ops) ops st K
   | false => other
def Lin {α : Type} (F : (α -> Prop) -> Prop) : Prop := ∀ K, F K -> ∃ x, K x /\ F (fun y => y = x)
section
variable {P : Program} {τ : Tys} {Γ : Sums}
theorem loadAt_lin (h : List (Nat × Blk)) (p : Tm) (sz : Nat) : Lin (loadAt h p sz) := by
 intro K hk
 unfold loadAt at hk ⊢
 split at hk
 . split at hk
   . rename_i hb
     split at hk
     . rename_i r hr; exact ⟨r, hk, by simp only⟩
     . exact hk.elim
   . rename_i hb
     split at hk
     . rename_i r hr; exact ⟨_, hk, by simp only⟩
     . exact hk.elim
   . exact hk.elim
 . split at hk
   . rename_i hb
     obtain ⟨h1, h2, h3⟩ := hk
     have h3 := h3 h1 h2
     split at h3
     . rename_i r hr; exact ⟨_, h3, by simp only; exact ⟨h1, h2, fun _ _ => trivial⟩⟩
     . exact h3.elim
   . rename_i hb
     obtain ⟨h1, h2, h3⟩ := hk
     have h3 := h3 h1 h2
     split at h3
     . rename_i r hr; exact ⟨_, h3, by simp only; exact ⟨h1, h2, fun _ _ => trivial⟩⟩
     . exact h3.elim
   . exact hk.elim
 . split at hk
   . rename_i r hr; exact ⟨_, hk, by simp only⟩
   . exact hk.elim
 . split at hk
   . rename_i hb hz
     split at hk
     . rename_i r hr
       split at hk
       . rename_i hi; exact ⟨_, hk.2 hk.1, by simp only [hi]; exact ⟨hk.1, fun _ => trivial⟩⟩
       . exact hk.elim
     . exact hk.elim
   . exact hk.elim
 . exact hk.elim
theorem oLoad_lin (h : List (Nat × Blk)) (t : TypeId) (p : Tm) : Lin (oLoad τ h t p) := by
 intro K hk
 unfold oLoad at hk ⊢
 split at hk
 . rename_i desc size _ _ ht
   obtain ⟨cs, h1, h2⟩ := loadAt_lin h p size _ hk
   split at h1
   . rename_i y hy
     refine ⟨_, h1, ?_⟩
     simp only
     have : ∀ (G : List Cell -> Prop), loadAt h p size (fun cs' => cs' = cs) -> G cs -> loadAt h p size G := by
      intro G hl hG
      obtain ⟨cs2, e, h3⟩ := loadAt_lin h p size _ hl
      subst e
      clear hl h1 h2 hk hy
      unfold loadAt at h3 ⊢
      split at h3
      . split at h3
        . split at h3
          . subst h3; exact hG
          . exact h3.elim
        . split at h3
          . subst h3; exact hG
          . exact h3.elim
        . exact h3.elim
      . split at h3
        . obtain ⟨q1, q2, q3⟩ := h3
          refine ⟨q1, q2, fun _ _ => ?_⟩
          have q3 := q3 q1 q2
          split at q3
          . subst q3; exact hG
          . exact q3.elim
        . obtain ⟨q1, q2, q3⟩ := h3
          refine ⟨q1, q2, fun _ _ => ?_⟩
          have q3 := q3 q1 q2
          split at q3
          . subst q3; exact hG
          . exact q3.elim
        . exact h3.elim
      . split at h3
        . subst h3; exact hG
        . exact h3.elim
      . split at h3
        . split at h3
          . split at h3
            . refine ⟨h3.1, fun _ => ?_⟩
              have := h3.2 h3.1
              subst this; exact hG
            . exact h3.elim
          . exact h3.elim
        . exact h3.elim
      . exact h3.elim
     exact this _ h2 (by simp only [hy])
   . exact h1.elim
 . exact hk.elim
theorem oPure_lin (r : Option Value) : Lin (oPure r) := by
 intro K hk
 unfold oPure at hk ⊢
 split at hk <;> first
  | exact hk.elim
  | exact ⟨_, hk, rfl⟩
theorem oFieldAddr_lin (s : TypeId) (p : Tm) (f : Nat) : Lin (oFieldAddr τ s p f) := by
 intro K hk
 unfold oFieldAddr at hk ⊢
 split at hk
 . rename_i fs _ _ _ ht
   split at hk
   . rename_i hf
     split at hk
     . rename_i hty
       split at hk
       . exact ⟨_, hk, by simp only⟩
       . exact ⟨_, hk, by simp only⟩
       . rw [fDs_eq] at hk; exact ⟨_, hk, by simp only [fDs_eq]⟩
       . exact hk.elim
     . exact hk.elim
   . exact hk.elim
 . exact hk.elim
theorem oBuild_lin (evf : Operand -> Tm) (t : TypeId) (ps : List (Nat × Operand)) : Lin (oBuild τ evf t ps) := by
 intro K hk
 unfold oBuild at hk ⊢
 split at hk
 . rename_i ht
   split at hk
   . rename_i h1 h2; exact ⟨_, hk, by simp only⟩
   . exact hk.elim
 . rename_i ht
   split at hk
   . rename_i hte
     split at hk
     . rename_i h1; exact ⟨_, hk, by simp only⟩
     . exact hk.elim
   . exact hk.elim
 . exact hk.elim
def Det {α : Type} (F : (α -> Prop) -> Prop) : Prop := ∀ K, F K -> ∃ x, K x /\ ∀ K', K' x -> F K'
theorem Det.lin {α : Type} {F : (α -> Prop) -> Prop} (h : Det F) : Lin F := fun K hk => by
 obtain ⟨x, h1, h2⟩ := h K hk
 exact ⟨x, h1, h2 _ rfl⟩
theorem Det.mono {α : Type} {F : (α -> Prop) -> Prop} (h : Det F) {K K' : α -> Prop} (hk : F K) (hm : ∀ x, K x -> K' x) : F K' := by
 obtain ⟨x, h1, h2⟩ := h K hk
 exact h2 _ (hm _ h1)
theorem eachAt_of {j : Nat} {F : Nat -> Prop} (hF : F j) : ∀ {n : Nat}, eachAt (j : Int) F n
 | 0 => trivial
 | n + 1 => ⟨eachAt_of hF, fun e => by have : j = n := by omega
                                       subst this; exact hF⟩
theorem oIndexAddr_det (t : TypeId) (x ix : Tm) : Det (oIndexAddr τ t x ix) := by
 intro K hk
 unfold oIndexAddr at hk ⊢
 split at hk
 . rename_i ht
   split at hk
   . rename_i ht2
     split at hk
     . rename_i h2
       split at hk
       . exact ⟨_, hk.2 hk.1.1 hk.1.2, fun K' hK' => ⟨hk.1, fun _ _ => hK'⟩⟩
       . obtain ⟨⟨h0, h1⟩, hk⟩ := hk
         obtain ⟨j, rfl⟩ := Int.eq_ofNat_of_zero_le h0
         exact ⟨_, eachAt_get hk (by omega), fun K' hK' => ⟨⟨h0, h1⟩, eachAt_of hK'⟩⟩
     . exact hk.elim
   . exact hk.elim
 . rename_i ht
   split at hk
   . rename_i ht2
     split at hk
     . rename_i h2
       obtain ⟨e, ⟨h0, h1⟩, hk⟩ := hk
       exact ⟨_, hk h0 h1, fun K' hK' => ⟨e, ⟨h0, h1⟩, fun _ _ => hK'⟩⟩
     . rename_i h2
       obtain ⟨e, ⟨h0, h1⟩, hk⟩ := hk
       exact ⟨_, hk h0 h1, fun K' hK' => ⟨e, ⟨h0, h1⟩, fun _ _ => hK'⟩⟩
     . exact hk.elim
   . exact hk.elim
 . exact hk.elim
theorem natO_some {o : Option Tm} {d : Int} {k : Int -> Prop} (h : natO o d k) : ∃ i, k i /\ ∀ k' : Int -> Prop, k' i -> natO o d k' := by
 unfold natO at h ⊢
 split at h
 . exact ⟨d, h, fun _ h => h⟩
 . split at h
   . exact ⟨_, h, fun _ h => h⟩
   . exact h.elim
theorem oSlice_det (t : TypeId) (x : Tm) (lo hi mx : Option Tm) : Det (oSlice τ t x lo hi mx) := by
 intro K hk
 unfold oSlice at hk ⊢
 split at hk
 . split at hk
   . obtain ⟨l, hk, f1⟩ := natO_some hk
     obtain ⟨h, hk, f2⟩ := natO_some hk
     obtain ⟨h0, hk⟩ := hk
     exact ⟨_, hk h0.1.1 h0.1.2 h0.2, fun K' hK' => f1 _ (f2 _ ⟨h0, fun _ _ _ => hK'⟩)⟩
   . exact hk.elim
 . split at hk
   . split at hk
     . obtain ⟨l, hk, f1⟩ := natO_some hk
       obtain ⟨h, hk, f2⟩ := natO_some hk
       obtain ⟨m, hk, f3⟩ := natO_some hk
       obtain ⟨h0, hk⟩ := hk
       exact ⟨_, hk h0.1 h0.2.1.1 h0.2.1.2 h0.2.2.1 h0.2.2.2, fun K' hK' => f1 _ (f2 _ (f3 _ ⟨h0, fun _ _ _ _ _ => hK'⟩))⟩
     . obtain ⟨l, hk, f1⟩ := natO_some hk
       obtain ⟨h, hk, f2⟩ := natO_some hk
       obtain ⟨m, hk, f3⟩ := natO_some hk
       obtain ⟨h0, hk⟩ := hk
       exact ⟨_, hk h0.1 h0.2.1.1 h0.2.1.2 h0.2.2.1 h0.2.2.2, fun K' hK' => f1 _ (f2 _ (f3 _ ⟨h0, fun _ _ _ _ _ => hK'⟩))⟩
     . split at hk
       . obtain ⟨l, hk, f1⟩ := natO_some hk
         obtain ⟨h, hk, f2⟩ := natO_some hk
         obtain ⟨h0, hk⟩ := hk
         exact ⟨_, hk h0.1 h0.2.1.1 h0.2.1.2 h0.2.2, fun K' hK' => f1 _ (f2 _ ⟨h0, fun _ _ _ _ => hK'⟩)⟩
       . exact hk.elim
     . obtain ⟨l, hk, f1⟩ := natO_some hk
       obtain ⟨h, hk, f2⟩ := natO_some hk
       obtain ⟨m, hk, f3⟩ := natO_some hk
       obtain ⟨h0, hk⟩ := hk
       exact ⟨_, hk h0.1 h0.2.1 h0.2.2, fun K' hK' => f1 _ (f2 _ (f3 _ ⟨h0, fun _ _ _ => hK'⟩))⟩
     . exact hk.elim
   . exact hk.elim
 . exact hk.elim
theorem oIndex_det (t : TypeId) (x ix : Tm) : Det (oIndex τ t x ix) := by
 intro K hk
 unfold oIndex at hk ⊢
 split at hk
 . split at hk
   . exact ⟨_, hk.2 hk.1.1 hk.1.2, fun K' hK' => ⟨hk.1, fun _ _ => hK'⟩⟩
   . exact hk.elim
 . split at hk
   . split at hk
     . obtain ⟨⟨h0, h1⟩, hk⟩ := hk
       obtain ⟨j, rfl⟩ := Int.eq_ofNat_of_zero_le h0
       have hk := eachAt_get hk (by omega)
       split at hk
       . rename_i r hr
         split at hk
         . rename_i y hy
           exact ⟨_, hk, fun K' hK' => ⟨⟨h0, h1⟩, eachAt_of (by simp only [hr, hy]; exact hK')⟩⟩
         . exact hk.elim
       . exact hk.elim
     . exact hk.elim
   . exact hk.elim
 . exact hk.elim
theorem sureK_det (x : Tm) : Det (sureK x) := by
 intro K hk
 unfold sureK at hk ⊢
 split at hk <;> first
  | exact hk.elim
  | exact ⟨_, hk, fun _ h => h⟩
theorem oPure_det (r : Option Value) : Det (oPure r) := by
 intro K hk
 unfold oPure at hk ⊢
 split at hk <;> first
  | exact hk.elim
  | exact ⟨_, hk, fun _ h => h⟩
theorem vOp2_det (op : Op) (evf : Operand -> Tm) : Det (vOp2 P τ op evf) := by
 intro K hk
 unfold vOp2 at hk ⊢
 split at hk
 . split at hk
   . exact oSlice_det _ _ _ _ _ _ hk
   . exact hk.elim
 . exact oIndex_det _ _ _ _ hk
 . exact sureK_det _ _ hk
 . split at hk
   . rename_i h1 h2; exact ⟨_, hk, fun _ h => by first | exact h | (rw [h1, h2]; exact h)⟩
   . exact hk.elim
 . split at hk
   . exact oPure_det _ _ hk
   . exact hk.elim
 . exact hk.elim
theorem oField_lin (t : TypeId) (x : Tm) (f : Nat) : Lin (oField τ t x f) := by
 intro K hk
 unfold oField at hk ⊢
 split at hk
 . rename_i ht
   split at hk
   . rename_i hf
     split at hk
     . rename_i hty
       split at hk
       . rename_i h1
         split at hk
         . rename_i h2; exact ⟨_, hk, by simp only⟩
         . exact hk.elim
       . exact hk.elim
     . exact hk.elim
   . exact hk.elim
 . exact hk.elim
theorem oEq_lin (op : BinOp) (t : TypeId) (xs ys : List Cell) : Lin (oEq τ op t xs ys) := by
 intro K hk
 unfold oEq at hk ⊢
 split at hk
 . rename_i ht hu hv
   split at hk
   . rename_i hb; exact ⟨_, hk, by simp only⟩
   . rename_i hb; exact ⟨_, hk, by simp only⟩
   . exact hk.elim
 . exact hk.elim
theorem oPtr_lin (op : BinOp) (t : TypeId) : Lin (oPtr τ op t) := by
 intro K hk
 unfold oPtr at hk ⊢
 split at hk
 . split at hk
   . exact ⟨_, hk, rfl⟩
   . exact ⟨_, hk, rfl⟩
   . exact hk.elim
 . exact hk.elim
theorem oBin_lin (evf : Operand -> Tm) (op : BinOp) (t : TypeId) (x y : Operand) : Lin (oBin P evf op t x y) := by
 intro K hk
 unfold oBin at hk ⊢
 split at hk
 . rename_i k a k' b h1 h2
   split at hk
   . obtain ⟨e, hne, hk⟩ := hk
     exact ⟨_, hk e hne, by simp only; exact ⟨e, hne, fun _ _ => trivial⟩⟩
   . obtain ⟨e, hne, hk⟩ := hk
     exact ⟨_, hk e hne, by simp only; exact ⟨e, hne, fun _ _ => trivial⟩⟩
   . obtain ⟨r, g1, g2⟩ := oPure_lin _ _ hk
     exact ⟨r, g1, by first | exact g2 | (simp only [h1, h2]; exact g2)⟩
 . rename_i a b h1 h2
   split at hk
   . obtain ⟨e, hk⟩ := hk
     exact ⟨_, hk, by simp only; exact ⟨e, trivial⟩⟩
   . obtain ⟨r, g1, g2⟩ := oPure_lin _ _ hk
     exact ⟨r, g1, by first | exact g2 | (simp only [h1, h2]; exact g2)⟩
 . rename_i a b h1 h2 h3 h4
   obtain ⟨r, g1, g2⟩ := oPure_lin _ _ hk
   refine ⟨r, g1, ?_⟩
   first | exact g2 | (simp only [h3, h4]; exact g2)
 . exact hk.elim
theorem oLen_lin (ts : Array TypeId) (ty : TypeId) (as : Option (List Va)) : Lin (oLen P τ ts ty as) := by
 intro K hk
 unfold oLen at hk ⊢
 split at hk
 . rename_i t hts
   split at hk
   . rename_i ht
     split at hk <;> first
      | exact hk.elim
      | exact ⟨_, hk, by simp only⟩
   . rename_i ht hne
     split at hk
     . obtain ⟨r, g1, g2⟩ := oPure_lin _ _ hk
       exact ⟨r, g1, g2⟩
     . exact hk.elim
   . exact hk.elim
 . exact hk.elim
theorem oCap_lin (ts : Array TypeId) (ty : TypeId) (as : Option (List Va)) : Lin (oCap P τ ts ty as) := by
 intro K hk
 unfold oCap at hk ⊢
 split at hk
 . split at hk
   . split at hk
     . exact ⟨_, hk, rfl⟩
     . exact hk.elim
   . exact hk.elim
 . obtain ⟨r, g1, g2⟩ := oPure_lin _ _ hk
   exact ⟨r, g1, g2⟩
 . exact hk.elim
end
section
variable {P : Program} {τ : Tys} {Γ : Sums}
theorem oConvB_lin (h : List (Nat × Blk)) (s t : TypeId) (x : Tm) : Lin (oConvB τ h s t x) := by
 intro K hk
 unfold oConvB at hk ⊢
 split at hk
 . split at hk
   . split at hk
     . split at hk
       . exact ⟨_, hk.2.2, hk.1, hk.2.1, rfl⟩
       . split at hk
         . exact ⟨_, hk.2.2, hk.1, hk.2.1, rfl⟩
         . exact ⟨_, hk.2.2, hk.1, hk.2.1, rfl⟩
         . exact hk.elim
       . exact hk.elim
     . exact hk.elim
   . exact hk.elim
 . exact hk.elim
theorem findK_lin (kt : TypeId) (xs : List Value) : ∀ (es : List (List Value × Va)) (i : Nat), Lin (findK τ kt xs es i)
 | [], _, K, h => ⟨none, h, rfl⟩
 | (ys, v) :: es, i, K, h => by
   unfold findK at h ⊢
   split at h
   . rename_i b h0 hb
     cases b with
     | true => exact ⟨_, h.1 rfl, fun _ => rfl, fun h => (by cases h)⟩
     | false =>
       obtain ⟨r, g1, g2⟩ := findK_lin kt xs es (i + 1) K (h.2 rfl)
       exact ⟨r, g1, fun h => (by cases h), fun _ => g2⟩
   . exact h.elim
theorem findK_mono {kt : TypeId} {xs : List Value} {K K' : Option (Nat × List Value × Va) -> Prop} (hm : ∀ x, K x -> K' x) : ∀ {es : List (List Value × Va)} {i : Nat}, findK τ kt xs es i K -> findK τ kt xs es i K'
 | [], _, h => hm _ h
 | (ys, v) :: es, i, h => by
   unfold findK at h ⊢
   split at h
   . exact ⟨fun e => hm _ (h.1 e), fun e => findK_mono hm (h.2 e)⟩
   . exact h.elim
theorem oLookup_mono {h : List (Nat × Blk)} {t : TypeId} {m k : Tm} {ok : Bool} {K K' : Tm -> Prop} (hk : oLookup τ h t m k ok K) (hm : ∀ x, K x -> K' x) : oLookup τ h t m k ok K' := by
 unfold oLookup at hk ⊢
 split at hk
 . split at hk
   . refine findK_mono (fun r h => ?_) hk
     split at h <;> exact hm _ h
   . exact hk.elim
 . exact hk.elim
theorem oLookup_lin (h : List (Nat × Blk)) (t : TypeId) (m k : Tm) (ok : Bool) : Lin (oLookup τ h t m k ok) := by
 intro K hk
 unfold oLookup at hk ⊢
 split at hk
 . split at hk
   . obtain ⟨r, g1, g2⟩ := findK_lin _ _ _ _ _ hk
     cases r with
     | none => exact ⟨_, g1, findK_mono (fun r h => by subst h; rfl) g2⟩
     | some p => obtain ⟨_, _, v⟩ := p; exact ⟨_, g1, findK_mono (fun r h => by subst h; rfl) g2⟩
   . exact hk.elim
 . exact hk.elim
theorem vOp_lin (op : Op) (ty : TypeId) (evf : Operand -> Tm) (h : List (Nat × Blk)) : Lin (vOp P τ op ty evf h) := by
 intro K hk
 unfold vOp at hk ⊢
 split at hk
 . exact ⟨_, hk, rfl⟩
 . exact ⟨_, hk, rfl⟩
 . split at hk
   . exact ⟨_, hk, rfl⟩
   . exact ⟨_, hk, rfl⟩
   . exact hk.elim
 . exact oLoad_lin _ _ _ _ hk
 . exact oFieldAddr_lin _ _ _ _ hk
 . exact oBuild_lin _ _ _ _ hk
 . exact (oIndexAddr_det _ _ _).lin _ hk
 . exact oField_lin _ _ _ _ hk
 . split at hk
   . exact oEq_lin _ _ _ _ _ hk
   . obtain ⟨r, g1, g2⟩ := oPtr_lin _ _ _ hk
     exact ⟨r, g1, g2⟩
   . obtain ⟨r, g1, g2⟩ := oBin_lin _ _ _ _ _ _ hk
     exact ⟨r, g1, g2⟩
 . split at hk
   . obtain ⟨r, g1, g2⟩ := oPure_lin _ _ hk; exact ⟨r, g1, g2⟩
   . exact hk.elim
 . split at hk
   . obtain ⟨r, g1, g2⟩ := oPure_lin _ _ hk; exact ⟨r, g1, g2⟩
   . obtain ⟨r, g1, g2⟩ := oConvB_lin _ _ _ _ _ hk; exact ⟨r, g1, g2⟩
 . obtain ⟨r, g1, g2⟩ := oLookup_lin _ _ _ _ _ _ hk; exact ⟨r, g1, g2⟩
 . split at hk
   . split at hk
     . rename_i hy; exact ⟨_, hk, by simp only⟩
     . exact hk.elim
   . exact hk.elim
 . split at hk
   . obtain ⟨r, g1, g2⟩ := oLen_lin _ _ _ _ hk; exact ⟨r, g1, g2⟩
   . split at hk
     . rename_i ha; obtain ⟨r, g1, g2⟩ := oPure_lin _ _ hk; exact ⟨r, g1, by first | exact g2 | (simp only [ha]; exact g2)⟩
     . exact hk.elim
   . split at hk
     . rename_i ha; obtain ⟨r, g1, g2⟩ := oPure_lin _ _ hk; exact ⟨r, g1, by first | exact g2 | (simp only [ha]; exact g2)⟩
     . exact hk.elim
   . obtain ⟨r, g1, g2⟩ := oCap_lin _ _ _ _ hk; exact ⟨r, g1, g2⟩
   . split at hk
     . rename_i ha; obtain ⟨r, g1, g2⟩ := oPure_lin _ _ hk; exact ⟨r, g1, by first | exact g2 | (simp only [ha]; exact g2)⟩
     . exact hk.elim
   . split at hk
     . rename_i ha; obtain ⟨r, g1, g2⟩ := oPure_lin _ _ hk; exact ⟨r, g1, by first | exact g2 | (simp only [ha]; exact g2)⟩
     . exact hk.elim
   . split at hk
     . rename_i ha; obtain ⟨r, g1, g2⟩ := oPure_lin _ _ hk; exact ⟨r, g1, by first | exact g2 | (simp only [ha]; exact g2)⟩
     . exact hk.elim
   . exact hk.elim
 . exact (vOp2_det _ _).lin _ hk
theorem mapO_congr {α β : Type} {f g : α -> Option β} : ∀ {xs : List α}, (∀ x ∈ xs, f x = g x) -> mapO f xs = mapO g xs
 | [], _ => rfl
 | x :: xs, h => by
   have ih : mapO f xs = mapO g xs := mapO_congr fun y hy => h y (by simp [hy])
   simp only [mapO, h x (by simp), ih]
theorem fillRow_congr {sz : Nat} {evf evf' : Operand -> Tm} : ∀ {ps : List (Nat × Operand)} {cs : List Cell}, (∀ p ∈ ps, evf p.2 = evf' p.2) -> fillRow sz evf ps cs = fillRow sz evf' ps cs
 | [], _, _ => rfl
 | (i, x) :: ps, cs, h => by
   have ih : ∀ cs, fillRow sz evf ps cs = fillRow sz evf' ps cs := fun cs => fillRow_congr fun p hp => h p (by simp [hp])
   simp only [fillRow, h (i, x) (by simp), ih]
theorem fillCells_congr {fs : Array Field} {evf evf' : Operand -> Tm} : ∀ {ps : List (Nat × Operand)} {cs : List Cell}, (∀ p ∈ ps, evf p.2 = evf' p.2) -> fillCells τ fs evf ps cs = fillCells τ fs evf' ps cs
 | [], _, _ => rfl
 | (i, x) :: ps, cs, h => by
   have ih : ∀ cs, fillCells τ fs evf ps cs = fillCells τ fs evf' ps cs := fun cs => fillCells_congr fun p hp => h p (by simp [hp])
   simp only [fillCells, h (i, x) (by simp), ih]
theorem vOp2_congr {op : Op} {evf evf' : Operand -> Tm} {K : Tm -> Prop} (he : ∀ x ∈ op.operands.toList, evf x = evf' x) (hk : vOp2 P τ op evf K) : vOp2 P τ op evf' K := by
 cases op with
 | slice t x lo hi mx =>
   have e1 := he x (by simp [Op.operands])
   have e2 : lo.map evf = lo.map evf' := by cases lo with | none => rfl | some l => simp only [Option.map_some, he l (by simp [Op.operands])]
   have e3 : hi.map evf = hi.map evf' := by cases hi with | none => rfl | some l => simp only [Option.map_some, he l (by simp [Op.operands])]
   have e4 : mx.map evf = mx.map evf' := by cases mx with | none => rfl | some l => simp only [Option.map_some, he l (by simp [Op.operands])]
   simp only [vOp2, <- e1, <- e2, <- e3, <- e4] at hk ⊢; exact hk
 | index t x ix => simp only [vOp2, <- he x (by simp [Op.operands]), <- he ix (by simp [Op.operands])] at hk ⊢; exact hk
 | nilCheck x => simp only [vOp2, <- he x (by simp [Op.operands])] at hk ⊢; exact hk
 | makeFunc f first caps =>
   have e1 : caps.toList.map evf = caps.toList.map evf' := List.map_congr_left fun x hx => he x (by simp [Op.operands]; exact .inr (by simpa using hx))
   cases f <;> simp only [vOp2, <- e1] at hk ⊢ <;> exact hk
 | makeInterface t x => simp only [vOp2, <- he x (by simp [Op.operands])] at hk ⊢; exact hk
 | _ => exact hk.elim
theorem vOp_congr {op : Op} {ty : TypeId} {evf evf' : Operand -> Tm} {h : List (Nat × Blk)} {K : Tm -> Prop} (he : ∀ x ∈ op.operands.toList, evf x = evf' x) (hk : vOp P τ op ty evf h K) : vOp P τ op ty evf' h K := by
 unfold vOp at hk ⊢
 split at hk
 . rename_i x; rw [<- he x (by simp [Op.operands])]; exact hk
 . rename_i x; rw [<- he x (by simp [Op.operands])]; exact hk
 . rename_i c x y
   simp only [<- he c (by simp [Op.operands]), <- he x (by simp [Op.operands]), <- he y (by simp [Op.operands])]; exact hk
 . rename_i t x; simp only [<- he x (by simp [Op.operands])]; exact hk
 . rename_i t x f; simp only [<- he x (by simp [Op.operands])]; exact hk
 . rename_i t ps
   have : fillCells τ = fillCells τ := rfl
   simp only [oBuild] at hk ⊢
   split at hk
   . rename_i fs _ _ z ht
     have e : fillCells τ fs evf ps.toList (zeroCells' z) = fillCells τ fs evf' ps.toList (zeroCells' z) := fillCells_congr fun p hp => he p.2 (by simp [Op.operands]; exact ⟨p.1, by simpa using hp⟩)
     rw [e] at hk; exact hk
   . split at hk
     . rename_i sz _ _ _
       have e : fillRow sz evf ps.toList = fillRow sz evf' ps.toList := funext fun cs => fillRow_congr fun p hp => he p.2 (by simp [Op.operands]; exact ⟨p.1, by simpa using hp⟩)
       rw [e] at hk; exact hk
     . exact hk.elim
   . exact hk.elim
 . rename_i t x ix; simp only [<- he x (by simp [Op.operands]), <- he ix (by simp [Op.operands])]; exact hk
 . rename_i t x f; simp only [<- he x (by simp [Op.operands])]; exact hk
 . rename_i o t x y ty'
   have e1 := he x (by simp [Op.operands])
   have e2 := he y (by simp [Op.operands])
   simp only [oBin, <- e1, <- e2] at hk ⊢; exact hk
 . rename_i o t x; simp only [<- he x (by simp [Op.operands])]; exact hk
 . rename_i s t x; simp only [<- he x (by simp [Op.operands])]; exact hk
 . rename_i t x ix ok; simp only [<- he x (by simp [Op.operands]), <- he ix (by simp [Op.operands])]; exact hk
 . rename_i t i; simp only [<- he t (by simp [Op.operands])]; exact hk
 . rename_i c
   have e1 : mapO (fun x => asVa (evf x)) c.args.toList = mapO (fun x => asVa (evf' x)) c.args.toList := mapO_congr fun x hx => by rw [he x (by simp [Op.operands, Call.operands]; exact .inr (by simpa using hx))]
   have e2 : mapO (fun x => plain (evf x)) c.args.toList = mapO (fun x => plain (evf' x)) c.args.toList := mapO_congr fun x hx => by rw [he x (by simp [Op.operands, Call.operands]; exact .inr (by simpa using hx))]
   simp only [<- e1, <- e2]; exact hk
 . exact vOp2_congr he hk
def Sup (h h' : List (Nat × Blk)) : Prop := ∀ k b, lookB h k = b -> (b = .gone -> False) -> lookB h' k = b
theorem loadAt_sup {h h' : List (Nat × Blk)} (hs : Sup h h') {p : Tm} {sz : Nat} {K : List Cell -> Prop} (hk : loadAt h p sz K) : loadAt h' p sz K := by
 unfold loadAt at hk ⊢
 split at hk
 . split at hk
   . rename_i hb; rw [hs _ _ hb (by intro e; cases e)]; exact hk
   . rename_i hb; rw [hs _ _ hb (by intro e; cases e)]; exact hk
   . exact hk.elim
 . split at hk
   . rename_i hb; rw [hs _ _ hb (by intro e; cases e)]; exact hk
   . rename_i hb; rw [hs _ _ hb (by intro e; cases e)]; exact hk
   . exact hk.elim
 . exact hk
 . split at hk
   . rename_i hb hz; rw [hs _ _ hb (by intro e; cases e), hz]; exact hk
   . exact hk.elim
 . exact hk.elim
theorem oConvB_sup {h h' : List (Nat × Blk)} (hs : Sup h h') {s t : TypeId} {x : Tm} {K : Tm -> Prop} (hk : oConvB τ h s t x K) : oConvB τ h' s t x K := by
 unfold oConvB at hk ⊢
 split at hk
 . split at hk
   . split at hk
     . rename_i hb
       split at hk
       . exact hk
       . split at hk
         . rename_i hl; rw [hs _ _ hl (by intro e; cases e)]; exact hk
         . rename_i hl; rw [hs _ _ hl (by intro e; cases e)]; exact hk
         . exact hk.elim
       . exact hk.elim
     . exact hk.elim
   . exact hk.elim
 . exact hk.elim
theorem oConvB_mono {h : List (Nat × Blk)} {s t : TypeId} {x : Tm} {K K' : Tm -> Prop} (hk : oConvB τ h s t x K) (hm : ∀ y, K y -> K' y) : oConvB τ h s t x K' := by
 unfold oConvB at hk ⊢
 split at hk
 . split at hk
   . split at hk
     . split at hk
       . exact ⟨hk.1, hk.2.1, hm _ hk.2.2⟩
       . split at hk
         . exact ⟨hk.1, hk.2.1, hm _ hk.2.2⟩
         . exact ⟨hk.1, hk.2.1, hm _ hk.2.2⟩
         . exact hk.elim
       . exact hk.elim
     . exact hk.elim
   . exact hk.elim
 . exact hk.elim
theorem oLookup_sup {h h' : List (Nat × Blk)} (hs : Sup h h') {t : TypeId} {m k : Tm} {ok : Bool} {K : Tm -> Prop} (hk : oLookup τ h t m k ok K) : oLookup τ h' t m k ok K := by
 unfold oLookup at hk ⊢
 split at hk
 . split at hk
   . rename_i hko hb hte
     rw [hs _ _ hb (by intro e; cases e)]
     simp only [hko, hte]
     exact hk
   . exact hk.elim
 . exact hk.elim
theorem vOp_sup {h h' : List (Nat × Blk)} (hs : Sup h h') {op : Op} {ty : TypeId} {evf : Operand -> Tm} {K : Tm -> Prop} (hk : vOp P τ op ty evf h K) : vOp P τ op ty evf h' K := by
 unfold vOp at hk ⊢
 split at hk <;> first
  | exact hk
  | exact hk.elim
  | skip
 rotate_left
 . rename_i s t x
   split at hk
   . exact hk
   . exact oConvB_sup hs hk
 . exact oLookup_sup hs hk
 rename_i t a
 unfold oLoad at hk ⊢
 split at hk
 . exact loadAt_sup hs hk
 . exact hk.elim
theorem closeCell_sup {h h' : List (Nat × Blk)} (hs : Sup h h') {c : Cell} {K : DV -> Prop} (hk : closeCell h c K) : closeCell h' c K := by
 unfold closeCell at hk ⊢
 split at hk
 . exact hk
 . exact hk
 . split at hk
   . rename_i hb; rw [hs _ _ hb (by intro e; cases e)]; exact hk
   . exact hk.elim
 . exact hk
 . exact hk.elim
theorem closeCell_mono {h : List (Nat × Blk)} {c : Cell} {K K' : DV -> Prop} (hk : closeCell h c K) (hm : ∀ d, K d -> K' d) : closeCell h c K' := by
 unfold closeCell at hk ⊢
 split at hk
 . exact hm _ hk
 . exact hm _ hk
 . split at hk
   . split at hk
     . exact ⟨hk.1, hm _ hk.2⟩
     . exact hk.elim
   . exact hk.elim
 . exact hm _ hk
 . exact hk.elim
theorem closeCells_mono {h : List (Nat × Blk)} : ∀ {cs : List Cell} {K K' : List DV -> Prop}, closeCells h cs K -> (∀ d, K d -> K' d) -> closeCells h cs K'
 | [], _, _, hk, hm => hm _ hk
 | _ :: _, _, _, hk, hm => closeCell_mono hk fun _ hd => closeCells_mono hd fun _ => hm _
theorem closeCells_sup {h h' : List (Nat × Blk)} (hs : Sup h h') : ∀ {cs : List Cell} {K : List DV -> Prop}, closeCells h cs K -> closeCells h' cs K
 | [], _, hk => hk
 | _ :: _, _, hk => closeCell_sup hs (closeCell_mono hk fun _ hd => closeCells_sup hs hd)
theorem capsK_mono {h : List (Nat × Blk)} : ∀ {ps : List (Nat × Nat)} {K K' : List Ar -> Prop}, capsK h ps K -> (∀ d, K d -> K' d) -> capsK h ps K'
 | [], _, _, hk, hm => hm _ hk
 | (k, off) :: ps, K, K', hk, hm => by
   simp only [capsK] at hk ⊢
   split at hk
   . exact capsK_mono hk fun _ hd => by rw [fDs_eq] at hd ⊢; exact hm _ hd
   . exact hk.elim
theorem capsK_sup {h h' : List (Nat × Blk)} (hs : Sup h h') : ∀ {ps : List (Nat × Nat)} {K : List Ar -> Prop}, capsK h ps K -> capsK h' ps K
 | [], _, hk => hk
 | (k, off) :: ps, K, hk => by
   simp only [capsK] at hk ⊢
   split at hk
   . rename_i hb; rw [hs _ _ hb (by intro e; cases e)]; exact capsK_sup hs hk
   . exact hk.elim
theorem argK_mono {h : List (Nat × Blk)} {x : Va} {K K' : Ar -> List (Nat × Nat × Nat) -> Prop} (hk : argK Γ h false x K) (hm : ∀ a i, K a i -> K' a i) : argK Γ h false x K' := by
 unfold argK at hk ⊢
 split at hk
 . contradiction
 . contradiction
 . exact hm _ _ hk
 . exact hm _ _ hk
 . split at hk
   . exact capsK_mono hk fun _ hd => hm _ _ hd
   . exact hk.elim
 . split at hk
   . rw [fDs_eq] at hk ⊢; exact hm _ _ hk
   . exact hk.elim
 . exact closeCell_mono hk fun _ hd => by rw [fD_eq] at hd ⊢; exact hm _ _ hd
 . exact closeCells_mono hk fun _ hd => by rw [fDs_eq] at hd ⊢; exact hm _ _ hd
theorem argK_sup {h h' : List (Nat × Blk)} (hs : Sup h h') {x : Va} {K : Ar -> List (Nat × Nat × Nat) -> Prop} (hk : argK Γ h false x K) : argK Γ h' false x K := by
 unfold argK at hk ⊢
 split at hk
 . contradiction
 . contradiction
 . exact hk
 . exact hk
 . split at hk
   . exact capsK_sup hs hk
   . exact hk.elim
 . split at hk
   . rename_i hb; rw [hs _ _ hb (by intro e; cases e)]; exact hk
   . exact hk.elim
 . exact closeCell_sup hs hk
 . exact closeCells_sup hs hk
theorem argsK_mono {h : List (Nat × Blk)} : ∀ {xs : List Va} {K K' : List Ar -> List (Nat × Nat × Nat) -> Prop}, argsK Γ h [] xs K -> (∀ a i, K a i -> K' a i) -> argsK Γ h [] xs K'
 | [], _, _, hk, hm => hm _ _ hk
 | _ :: _, _, _, hk, hm => argK_mono hk fun _ _ hd => argsK_mono hd fun _ _ => hm _ _
theorem argsK_sup {h h' : List (Nat × Blk)} (hs : Sup h h') : ∀ {xs : List Va} {K : List Ar -> List (Nat × Nat × Nat) -> Prop}, argsK Γ h [] xs K -> argsK Γ h' [] xs K
 | [], _, hk => hk
 | _ :: _, _, hk => argK_sup hs (argK_mono hk fun _ _ hd => argsK_sup hs hd)
theorem dCall_sup {h h' : List (Nat × Blk)} (hs : Sup h h') {f : Nat} {as : List Va} {K : Tm -> Prop} (hk : dCall Γ f as h K) : dCall Γ f as h' K := by
 unfold dCall at hk ⊢
 split at hk
 . exact argsK_sup hs hk
 . exact hk.elim
theorem loadAt_mono {h : List (Nat × Blk)} {p : Tm} {sz : Nat} {K K' : List Cell -> Prop} (hk : loadAt h p sz K) (hm : ∀ x, K x -> K' x) : loadAt h p sz K' := by
 unfold loadAt at hk ⊢
 split at hk
 . split at hk
   . split at hk
     . exact hm _ hk
     . exact hk.elim
   . split at hk
     . exact hm _ hk
     . exact hk.elim
   . exact hk.elim
 . split at hk
   . obtain ⟨h1, h2, h3⟩ := hk
     refine ⟨h1, h2, fun _ _ => ?_⟩
     have h3 := h3 h1 h2
     split at h3
     . exact hm _ h3
     . exact h3.elim
   . obtain ⟨h1, h2, h3⟩ := hk
     refine ⟨h1, h2, fun _ _ => ?_⟩
     have h3 := h3 h1 h2
     split at h3
     . exact hm _ h3
     . exact h3.elim
   . exact hk.elim
 . split at hk
   . exact hm _ hk
   . exact hk.elim
 . split at hk
   . split at hk
     . split at hk
       . exact ⟨hk.1, fun h => hm _ (hk.2 h)⟩
       . exact hk.elim
     . exact hk.elim
   . exact hk.elim
 . exact hk.elim
theorem oPure_mono {r : Option Value} {K K' : Tm -> Prop} (hk : oPure r K) (hm : ∀ x, K x -> K' x) : oPure r K' := by
 unfold oPure at hk ⊢
 split at hk <;> first
  | exact hk.elim
  | exact hm _ hk
theorem vOp_mono {op : Op} {ty : TypeId} {evf : Operand -> Tm} {h : List (Nat × Blk)} {K K' : Tm -> Prop} (hk : vOp P τ op ty evf h K) (hm : ∀ x, K x -> K' x) : vOp P τ op ty evf h K' := by
 unfold vOp at hk ⊢
 split at hk
 . exact hm _ hk
 . exact hm _ hk
 . split at hk
   . exact hm _ hk
   . exact hm _ hk
   . exact hk.elim
 . unfold oLoad at hk ⊢
   split at hk
   . refine loadAt_mono hk fun cs h => ?_
     split at h
     . exact hm _ h
     . exact h.elim
   . exact hk.elim
 . unfold oFieldAddr at hk ⊢
   split at hk
   . split at hk
     . split at hk
       . split at hk
         . exact hm _ hk
         . exact hm _ hk
         . rw [fDs_eq] at hk ⊢; exact hm _ hk
         . exact hk.elim
       . exact hk.elim
     . exact hk.elim
   . exact hk.elim
 . unfold oBuild at hk ⊢
   split at hk
   . split at hk
     . exact hm _ hk
     . exact hk.elim
   . split at hk
     . split at hk
       . exact hm _ hk
       . exact hk.elim
     . exact hk.elim
   . exact hk.elim
 . exact (oIndexAddr_det _ _ _).mono hk hm
 . unfold oField at hk ⊢
   split at hk
   . split at hk
     . split at hk
       . split at hk
         . split at hk
           . exact hm _ hk
           . exact hk.elim
         . exact hk.elim
       . exact hk.elim
     . exact hk.elim
   . exact hk.elim
 . split at hk
   . unfold oEq at hk ⊢
     split at hk
     . split at hk
       . exact hm _ hk
       . exact hm _ hk
       . exact hk.elim
     . exact hk.elim
   . unfold oPtr at hk ⊢
     split at hk
     . split at hk
       . exact hm _ hk
       . exact hm _ hk
       . exact hk.elim
     . exact hk.elim
   . unfold oBin at hk ⊢
     split at hk
     . split at hk
       . exact ⟨hk.1, hk.2.1, fun h1 h2 => hm _ (hk.2.2 h1 h2)⟩
       . exact ⟨hk.1, hk.2.1, fun h1 h2 => hm _ (hk.2.2 h1 h2)⟩
       . exact oPure_mono hk hm
     . split at hk
       . exact ⟨hk.1, hm _ hk.2⟩
       . exact oPure_mono hk hm
     . exact oPure_mono hk hm
     . exact hk.elim
 . split at hk
   . exact oPure_mono hk hm
   . exact hk.elim
 . split at hk
   . exact oPure_mono hk hm
   . exact oConvB_mono hk hm
 . exact oLookup_mono hk hm
 . split at hk
   . split at hk
     . exact hm _ hk
     . exact hk.elim
   . exact hk.elim
 . split at hk
   . unfold oLen at hk ⊢
     split at hk
     . split at hk
       . split at hk <;> first
          | exact hk.elim
          | exact hm _ hk
       . split at hk
         . exact oPure_mono hk hm
         . exact hk.elim
       . exact hk.elim
     . exact hk.elim
   . split at hk
     . exact oPure_mono hk hm
     . exact hk.elim
   . split at hk
     . exact oPure_mono hk hm
     . exact hk.elim
   . unfold oCap at hk ⊢
     split at hk
     . split at hk
       . split at hk
         . exact hm _ hk
         . exact hk.elim
       . exact hk.elim
     . exact oPure_mono hk hm
     . exact hk.elim
   . split at hk
     . exact oPure_mono hk hm
     . exact hk.elim
   . split at hk
     . exact oPure_mono hk hm
     . exact hk.elim
   . split at hk
     . exact oPure_mono hk hm
     . exact hk.elim
   . exact hk.elim
 . exact (vOp2_det _ _).mono hk hm
end
section
variable {P : Program} {τ : Tys} {Γ : Sums} {base : Nat} {ψ ψ' : Psi} {S S' : Nat → Prop} {w w' : World} {a : Act}
theorem closeCell_lin (h : List (Nat × Blk)) (c : Cell) : Lin (closeCell h c) := by
 intro K hk
 unfold closeCell at hk ⊢
 split at hk
 . exact ⟨_, hk, rfl⟩
 . exact ⟨_, hk, rfl⟩
 . split at hk
   . split at hk
     . exact ⟨_, hk.2, hk.1, rfl⟩
     . exact hk.elim
   . exact hk.elim
 . exact ⟨_, hk, rfl⟩
 . exact hk.elim
theorem closeCells_lin (h : List (Nat × Blk)) : ∀ (cs : List Cell), Lin (closeCells h cs)
 | [], _, hk => ⟨[], hk, rfl⟩
 | c :: cs, K, hk => by
   obtain ⟨d, g1, g2⟩ := closeCell_lin h c _ hk
   obtain ⟨ds, g3, g4⟩ := closeCells_lin h cs _ g1
   exact ⟨d :: ds, g3, closeCell_mono g2 fun d' e => by subst e; exact closeCells_mono g4 fun _ e => by rw [e]⟩
theorem capsK_lin (h : List (Nat × Blk)) : ∀ (ps : List (Nat × Nat)), Lin (capsK h ps)
 | [], _, hk => ⟨[], hk, rfl⟩
 | (k, off) :: ps, K, hk => by
   simp only [capsK] at hk ⊢
   split at hk
   . obtain ⟨d, g1, g2⟩ := capsK_lin h ps _ hk
     rw [fDs_eq] at g1
     exact ⟨_, g1, capsK_mono g2 fun _ e => by rw [fDs_eq, e]⟩
   . exact hk.elim
def Lin2 {α β : Type} (F : (α -> β -> Prop) -> Prop) : Prop := ∀ K, F K -> ∃ x y, K x y /\ F (fun x' y' => x' = x /\ y' = y)
theorem argK_lin (h : List (Nat × Blk)) (x : Va) : Lin2 (argK Γ h false x) := by
 intro K hk
 unfold argK at hk ⊢
 split at hk
 . contradiction
 . contradiction
 . exact ⟨_, _, hk, rfl, rfl⟩
 . exact ⟨_, _, hk, rfl, rfl⟩
 . split at hk
   . obtain ⟨d, g1, g2⟩ := capsK_lin h _ _ hk
     exact ⟨_, _, g1, capsK_mono g2 fun _ e => by subst e; exact ⟨rfl, rfl⟩⟩
   . exact hk.elim
 . split at hk
   . rw [fDs_eq] at hk; exact ⟨_, _, hk, by rw [fDs_eq]; exact ⟨rfl, rfl⟩⟩
   . exact hk.elim
 . obtain ⟨d, g1, g2⟩ := closeCell_lin h _ _ hk
   rw [fD_eq] at g1
   exact ⟨_, _, g1, closeCell_mono g2 fun _ e => by subst e; rw [fD_eq]; exact ⟨rfl, rfl⟩⟩
 . obtain ⟨d, g1, g2⟩ := closeCells_lin h _ _ hk
   rw [fDs_eq] at g1
   exact ⟨_, _, g1, closeCells_mono g2 fun _ e => by subst e; rw [fDs_eq]; exact ⟨rfl, rfl⟩⟩
theorem argsK_lin (h : List (Nat × Blk)) : ∀ (xs : List Va), Lin2 (argsK Γ h [] xs)
 | [], _, hk => ⟨[], [], hk, rfl, rfl⟩
 | x :: xs, K, hk => by
   obtain ⟨a, i, g1, g2⟩ := argK_lin h x _ hk
   obtain ⟨as, is, g3, g4⟩ := argsK_lin h xs _ g1
   exact ⟨a :: as, i ++ is, g3, argK_mono g2 fun _ _ e => by obtain ⟨rfl, rfl⟩ := e; exact argsK_mono g4 fun _ _ e => by obtain ⟨rfl, rfl⟩ := e; exact ⟨rfl, rfl⟩⟩
theorem dCall_lin (f : Nat) (as : List Va) (h : List (Nat × Blk)) : Lin (dCall Γ f as h) := by
 intro K hk
 unfold dCall at hk ⊢
 split at hk
 . obtain ⟨ars, ids, g1, g2⟩ := argsK_lin h as _ hk
   split at g1
   . rename_i hF
     split at g1
     . rename_i ct hct
       rw [fT_eq] at g1
       obtain ⟨hpre, g1⟩ := g1
       refine ⟨_, g1 hpre, argsK_mono g2 fun _ _ e => ?_⟩
       obtain ⟨rfl, rfl⟩ := e
       simp only [hF, hct, fT_eq]
       exact ⟨hpre, fun _ => trivial⟩
     . exact g1.elim
   . exact g1.elim
 . exact hk.elim
theorem closeVa_lin (h : List (Nat × Blk)) (x : Va) : Lin (closeVa h x) := by
 intro K hk
 cases x with
 | c x => simp only [closeVa] at hk ⊢; obtain ⟨d, g1, g2⟩ := closeCell_lin h x _ hk; exact ⟨_, g1, closeCell_mono g2 fun _ e => by rw [e]⟩
 | agg cs => simp only [closeVa] at hk ⊢; obtain ⟨d, g1, g2⟩ := closeCells_lin h cs _ hk; exact ⟨_, g1, closeCells_mono g2 fun _ e => by rw [e]⟩
theorem closeVa_mono {h : List (Nat × Blk)} {x : Va} {K K' : Cv -> Prop} (hk : closeVa h x K) (hm : ∀ d, K d -> K' d) : closeVa h x K' := by
 cases x with
 | c x => simp only [closeVa] at hk ⊢; exact closeCell_mono hk fun _ e => hm _ e
 | agg cs => simp only [closeVa] at hk ⊢; exact closeCells_mono hk fun _ e => hm _ e
theorem closeVa_sup {h h' : List (Nat × Blk)} (hs : Sup h h') {x : Va} {K : Cv -> Prop} (hk : closeVa h x K) : closeVa h' x K := by
 cases x with
 | c x => simp only [closeVa] at hk ⊢; exact closeCell_sup hs hk
 | agg cs => simp only [closeVa] at hk ⊢; exact closeCells_sup hs hk
theorem closeVas_mono {h : List (Nat × Blk)} : ∀ {xs : List Va} {K K' : List Cv -> Prop}, closeVas h xs K -> (∀ d, K d -> K' d) -> closeVas h xs K'
 | [], _, _, hk, hm => hm _ hk
 | _ :: _, _, _, hk, hm => closeVa_mono hk fun _ h => closeVas_mono h fun _ h => hm _ h
theorem closeVas_sup {h h' : List (Nat × Blk)} (hs : Sup h h') : ∀ {xs : List Va} {K : List Cv -> Prop}, closeVas h xs K -> closeVas h' xs K
 | [], _, hk => hk
 | _ :: _, _, hk => closeVa_mono (closeVa_sup hs hk) fun _ h => closeVas_sup hs h
theorem closeVas_lin (h : List (Nat × Blk)) : ∀ (xs : List Va), Lin (closeVas h xs)
 | [], _, hk => ⟨[], hk, rfl⟩
 | x :: xs, K, hk => by
   obtain ⟨c, g1, g2⟩ := closeVa_lin h x _ hk
   obtain ⟨cs, g3, g4⟩ := closeVas_lin h xs _ g1
   exact ⟨c :: cs, g3, closeVa_mono g2 fun _ e => by subst e; exact closeVas_mono g4 fun _ e => by rw [e]⟩
theorem dFv_mono {g : List Cv -> Option Gs} {as : List Va} {h : List (Nat × Blk)} {K K' : Tm -> Prop} (hk : dFv g as h K) (hm : ∀ d, K d -> K' d) : dFv g as h K' := by
 unfold dFv at hk ⊢
 refine closeVas_mono hk fun cs e => ?_
 split at e
 . simp only [fT_eq] at e ⊢; exact ⟨e.1, fun h => hm _ (e.2 h)⟩
 . exact e.elim
theorem dFv_lin (g : List Cv -> Option Gs) (as : List Va) (h : List (Nat × Blk)) : Lin (dFv g as h) := by
 intro K hk
 unfold dFv at hk ⊢
 obtain ⟨cs, g1, g2⟩ := closeVas_lin h as _ hk
 split at g1
 . rename_i pre r hg
   rw [fT_eq] at g1
   obtain ⟨hpre, g1⟩ := g1
   refine ⟨_, g1 hpre, closeVas_mono g2 fun _ e => ?_⟩
   subst e
   simp only [hg, fT_eq]
   exact ⟨hpre, fun _ => trivial⟩
 . exact g1.elim
theorem oBuildFr_mono {h : List (Nat × Blk)} {evf : Operand -> Tm} {t : TypeId} {len : Nat} {parts : List (Nat × Operand)} {K K' : Tm -> Prop} (hk : oBuildFr τ h evf t len parts K) (hm : ∀ x, K x -> K' x) : oBuildFr τ h evf t len parts K' := by
 unfold oBuildFr at hk ⊢
 split at hk
 . split at hk
   . split at hk
     . exact closeCells_mono hk fun ds hd => by rw [fDs_eq] at hd ⊢; exact hm _ hd
     . exact hk.elim
   . exact hk.elim
 . exact hk.elim
theorem oBuildFr_lin (h : List (Nat × Blk)) (evf : Operand -> Tm) (t : TypeId) (len : Nat) (parts : List (Nat × Operand)) : Lin (oBuildFr τ h evf t len parts) := by
 intro K hk
 unfold oBuildFr at hk ⊢
 split at hk
 . split at hk
   . split at hk
     . rename_i h1 h2 h3 h4
       obtain ⟨ds, g1, g2⟩ := closeCells_lin _ _ _ hk
       rw [fDs_eq] at g1
       refine ⟨_, g1, ?_⟩
       simp only
       exact closeCells_mono g2 fun ds' e => by rw [fDs_eq, e]
     . exact hk.elim
   . exact hk.elim
 . exact hk.elim
theorem oBuildFr_congr {h : List (Nat × Blk)} {evf evf' : Operand -> Tm} {t : TypeId} {len : Nat} {parts : List (Nat × Operand)} {K : Tm -> Prop} (he : ∀ p ∈ parts, evf p.2 = evf' p.2) (hk : oBuildFr τ h evf t len parts K) : oBuildFr τ h evf' t len parts K := by
 unfold oBuildFr at hk ⊢
 simp only [<- fillRow_congr he]
 exact hk
theorem oBuildFr_sup {h h' : List (Nat × Blk)} (hs : Sup h h') {evf : Operand -> Tm} {t : TypeId} {len : Nat} {parts : List (Nat × Operand)} {K : Tm -> Prop} (hk : oBuildFr τ h evf t len parts K) : oBuildFr τ h' evf t len parts K := by
 unfold oBuildFr at hk ⊢
 split at hk
 . split at hk
   . split at hk
     . exact closeCells_sup hs hk
     . exact hk.elim
   . exact hk.elim
 . exact hk.elim
theorem dOp_lin (id : Nat) (o : Oper) (st : St) : Lin2 (dOp P τ Γ id o st) := by
 intro K hk
 unfold dOp at hk ⊢
 split at hk
 . split at hk
   . exact ⟨_, _, hk, rfl, rfl⟩
   . exact hk.elim
 . split at hk
   . split at hk
     . exact ⟨_, _, hk, rfl, rfl⟩
     . exact hk.elim
   . exact hk.elim
 . split at hk
   . split at hk
     . rename_i has
       rw [fVas_eq] at hk
       obtain ⟨r, g1, g2⟩ := dCall_lin _ _ _ _ hk
       refine ⟨r, none, g1, ?_⟩
       simp only [fVas_eq]
       unfold dCall at g2 ⊢
       split at g2
       . refine argsK_mono g2 fun _ _ e => ?_
         split at e
         . split at e
           . simp only [fT_eq] at e ⊢; exact ⟨e.1, fun h => ⟨e.2 h, trivial⟩⟩
           . exact e.elim
         . exact e.elim
       . exact g2.elim
     . obtain ⟨r, g1, g2⟩ := dFv_lin _ _ _ _ hk
       exact ⟨r, none, g1, dFv_mono g2 fun _ e => ⟨e, rfl⟩⟩
     . exact hk.elim
   . obtain ⟨x, g1, g2⟩ := vOp_lin _ _ _ _ _ hk
     refine ⟨x, none, g1, ?_⟩
     simp only [and_true]
     exact g2
 . obtain ⟨x, g1, g2⟩ := oBuildFr_lin _ _ _ _ _ _ hk
   refine ⟨x, none, g1, ?_⟩
   simp only [and_true]
   exact g2
 . obtain ⟨x, g1, g2⟩ := vOp_lin _ _ _ _ _ hk
   refine ⟨x, none, g1, ?_⟩
   simp only [and_true]
   exact g2
theorem dOp_congr {id : Nat} {o : Oper} {st st' : St} {K : Tm -> Option Blk -> Prop} (he : ∀ x ∈ o.op.operands.toList, ev st x = ev st' x) (hs : Sup st.heap st'.heap) (hk : dOp P τ Γ id o st K) : dOp P τ Γ id o st' K := by
 unfold dOp at hk ⊢
 split at hk
 . exact hk
 . rename_i e x hop
   rw [<- he x (by rw [hop]; simp [Op.operands])]; exact hk
 . rename_i c hop
   split at hk
   . rename_i f hc
     have e1 : ev st f = ev st' f := he f (by rw [hop]; simp [Op.operands, Call.operands, hc])
     have e2 : mapO (fun x => asVa (ev st x)) c.args.toList = mapO (fun x => asVa (ev st' x)) c.args.toList := mapO_congr fun x hx => by rw [he x (by rw [hop]; simp [Op.operands, Call.operands]; exact .inr (by simpa using hx))]
     rw [<- e1, <- e2]
     split at hk
     . rw [fVas_eq] at hk ⊢; exact dCall_sup hs hk
     . exact closeVas_sup hs hk
     . exact hk.elim
   . exact vOp_sup hs (vOp_congr (fun x hx => he x (by rw [hop]; exact hx)) hk)
 . rename_i t len parts hop
   refine oBuildFr_sup hs (oBuildFr_congr (fun p hp => he p.2 ?_) hk)
   rw [hop]; simp [Op.operands]; exact ⟨p.1, by simpa using hp⟩
 . exact vOp_sup hs (vOp_congr he hk)
theorem icFr_rep : ∀ {xs : List Ic} {vs : List Value} {ls : List Loc}, RepIcs S w xs vs ls -> (∀ b, blkIn ls b -> S b) -> All2 (RepD S w) (xs.map icFr) vs
 | [], [], _, _, _ => trivial
 | [], _ :: _, ls, h, _ => by cases ls <;> simp [RepIcs] at h
 | .d x :: xs, [], _, h, _ => by simp [RepIcs] at h
 | .d x :: xs, v :: vs, ls, h, hS => by
   simp only [RepIcs] at h
   exact ⟨h.1, icFr_rep h.2 hS⟩
 | .ow _ _ _ :: _, [], _, h, _ => by simp [RepIcs] at h
 | .ow _ _ _ :: _, _ :: _, [], h, _ => by simp [RepIcs] at h
 | .ow sz n f :: xs, v :: vs, l :: ls, h, hS => by
   simp only [RepIcs] at h
   obtain ⟨h1, h2, h3⟩ := h
   refine ⟨?_, icFr_rep h3 fun b ⟨m, hm⟩ => hS b ⟨m, by simp [hm]⟩⟩
   cases l with
   | virt => obtain ⟨rfl, _, rfl⟩ := h1; exact .nil
   | «at» b m =>
     obtain ⟨c, off, rfl, h4, h5⟩ := h1
     obtain ⟨arr, e, q1, q2, q3, q4, q5⟩ := h2
     rcases Nat.eq_zero_or_pos n with hn | hn
     . subst hn; exact .nil
     . obtain ⟨rfl, h6⟩ := h5 (by omega)
       subst q2
       refine .lst (fun i j => arr.getD (i * sz + j) undef) (hS b ⟨_, by simp; exact .inl rfl⟩) q4 (fun i j hi hj => ?_) q5 h4
       rw [cell_at q1]
       have : i * sz + j < arr.size := by
        have := Nat.mul_le_mul_right sz (Nat.succ_le_of_lt hi); rw [Nat.succ_mul] at this; omega
       simp [Array.getD, this]
theorem arFr_rep {x : Ar} {c : Cv} {v : Value} {ls : List Loc} (h : arFr x = some c) (h' : RepAr P S w x v ls) (hS : ∀ b, blkIn ls b -> S b) : RepCv S w c v := by
 unfold arFr at h
 split at h
 . simp at h; subst h; exact (icFr_rep h' hS).1
 . simp at h; subst h; obtain ⟨arr, rfl, h'⟩ := h'; exact ⟨arr, rfl, icFr_rep h' hS⟩
 . simp at h
theorem arsFr_rep : ∀ {xs : List Ar} {cs : List Cv} {vs : List Value} {ls : List Loc}, arsFr xs = some cs -> RepArs P S w xs vs ls -> (∀ b, blkIn ls b -> S b) -> All2 (RepCv S w) cs vs
 | [], cs, [], _, h, _, _ => by simp [arsFr] at h; subst h; trivial
 | [], _, _ :: _, _, _, h', _ => by simp [RepArs] at h'
 | _ :: _, _, [], _, _, h', _ => by simp [RepArs] at h'
 | x :: xs, cs, v :: vs, ls, h, h', hS => by
   simp only [arsFr] at h
   split at h
   . rename_i c cs' hc hcs
     simp at h; subst h
     obtain ⟨l1, l2, rfl, h1, h2⟩ := h'
     exact ⟨arFr_rep hc h1 fun b ⟨m, hm⟩ => hS b ⟨m, by simp [hm]⟩, arsFr_rep hcs h2 fun b ⟨m, hm⟩ => hS b ⟨m, by simp [hm]⟩⟩
   . simp at h
theorem rtFr_rep {x : Rt} {c : Ct} {v : Value} {ls : List Loc} (h : rtFr x = some c) (h' : RepRt P S w x v ls) (hS : ∀ b, blkIn ls b -> S b) : RepCt S w c v := by
 unfold rtFr at h
 split at h
 . split at h
   . rename_i c' hc; simp at h; subst h; exact arFr_rep (P := P) hc h' hS
   . simp at h
 . split at h
   . rename_i cs hc
     simp at h; subst h
     obtain ⟨arr, rfl, h'⟩ := h'
     exact ⟨arr, rfl, arsFr_rep (P := P) hc h' hS⟩
   . simp at h
theorem repIcs_later : ∀ {xs : List Ic} {vs : List Value} {ls : List Loc}, RepIcs S w xs vs ls -> Later S w S' w -> RepIcs S' w xs vs ls
 | [], [], [], h, _ => h
 | [], [], _ :: _, h, _ => by simp [RepIcs] at h
 | [], _ :: _, ls, h, _ => by cases ls <;> simp [RepIcs] at h
 | .d x :: xs, [], _, h, _ => by simp [RepIcs] at h
 | .d x :: xs, v :: vs, ls, h, l => by
   simp only [RepIcs] at h
   exact And.intro (h.1.later l) (repIcs_later h.2 l)
 | .ow _ _ _ :: _, [], _, h, _ => by simp [RepIcs] at h
 | .ow _ _ _ :: _, _ :: _, [], h, _ => by simp [RepIcs] at h
 | .ow sz n f :: xs, v :: vs, lo :: ls, h, l => by
   simp only [RepIcs] at h
   obtain ⟨h1, h2, h3⟩ := h
   refine And.intro h1 (And.intro ?_ (repIcs_later h3 l))
   cases lo with
   | virt => exact h2
   | «at» b m => obtain ⟨arr, e, q1, q2, q3, q4, q5⟩ := h2; exact ⟨arr, e, q1, q2, q3, q4, fun i j hi hj => (q5 i j hi hj).later l⟩
theorem repAr_later {x : Ar} {v : Value} {ls : List Loc} (h : RepAr P S w x v ls) (l : Later S w S' w) : RepAr P S' w x v ls := by
 cases x with
 | c x => exact repIcs_later (xs := [x]) h l
 | agg xs => obtain ⟨arr, rfl, h⟩ := h; exact ⟨arr, rfl, repIcs_later h l⟩
 | rp cs => exact ⟨h.1, h.2.later (PsiSub.refl _) l⟩
 | fv g => exact ⟨h.1, h.2.later l⟩
theorem repArs_later : ∀ {xs : List Ar} {vs : List Value} {ls : List Loc}, RepArs P S w xs vs ls -> Later S w S' w -> RepArs P S' w xs vs ls
 | [], [], _, h, _ => h
 | [], _ :: _, _, h, _ => by simp [RepArs] at h
 | _ :: _, [], _, h, _ => by simp [RepArs] at h
 | _ :: _, _ :: _, _, ⟨l1, l2, e, h1, h2⟩, l => ⟨l1, l2, e, repAr_later h1 l, repArs_later h2 l⟩
theorem repRt_later {x : Rt} {v : Value} {ls : List Loc} (h : RepRt P S w x v ls) (l : Later S w S' w) : RepRt P S' w x v ls := by
 cases x with
 | va x => exact repAr_later (P := P) h l
 | tup xs => obtain ⟨arr, rfl, h⟩ := h; exact ⟨arr, rfl, repArs_later h l⟩
theorem argsK_noids {h : List (Nat × Blk)} {next : Nat} (hΓ : SumsOk P Γ) (hs : Sim P ψ S w h next) {xs : List Va} {vs : List Value} {K : List Ar -> Prop} (hx : All2 (RepVa P ψ S w) xs vs) (hk : argsK Γ h [] xs fun ars _ => K ars) :
 ∃ ars, RepArs P S w ars vs [] /\ K ars := by
 have one : ∀ {x : Va} {v : Value} {K : Ar -> List (Nat × Nat × Nat) -> Prop}, RepVa P ψ S w x v -> argK Γ h false x K -> ∃ ar, RepAr P S w ar v [] /\ K ar [] := by
  intro x v K hx hk
  have noid : argK Γ h false x (fun a i => K a i /\ i = []) := by
   clear hx
   unfold argK at hk ⊢
   split at hk
   . contradiction
   . contradiction
   . exact ⟨hk, rfl⟩
   . exact ⟨hk, rfl⟩
   . split at hk
     . exact capsK_mono hk fun _ h => ⟨h, rfl⟩
     . exact hk.elim
   . split at hk
     . rw [fDs_eq] at hk ⊢; exact ⟨hk, rfl⟩
     . exact hk.elim
   . exact closeCell_mono hk fun _ h => by rw [fD_eq] at h ⊢; exact ⟨h, rfl⟩
   . exact closeCells_mono hk fun _ h => by rw [fDs_eq] at h ⊢; exact ⟨h, rfl⟩
  obtain ⟨ar, ids, ls, g1, ⟨_, g2, _⟩, g3, rfl⟩ := argK_ok hΓ hs hx noid
  cases ls with
  | nil => exact ⟨ar, g1, g3⟩
  | cons _ _ => exact g2.elim
 induction xs generalizing vs K with
 | nil => cases vs with
   | nil => exact ⟨[], rfl, hk⟩
   | cons _ _ => exact hx.elim
 | cons x xs ih => cases vs with
   | nil => exact hx.elim
   | cons v vs =>
     obtain ⟨ar, g1, g2⟩ := one hx.1 hk
     obtain ⟨ars, g3, g4⟩ := ih (K := fun as => K (ar :: as)) hx.2 g2
     exact ⟨ar :: ars, ⟨[], [], rfl, g1, g3⟩, g4⟩
theorem putK_put {ts : List (Nat × Tm)} {h : List (Nat × Blk)} {n m : Nat} {dst : Option Tmp} {x : Tm} (hl : inLim dst m = true) : putK ⟨ts, h, n, m⟩ dst x (fun st' => st' = ⟨putT dst x ts, h, n, m⟩) := by
 cases dst with
 | none => rfl
 | some t =>
   simp only [inLim] at hl
   simp only [putK, hl, fT_eq, putT]
theorem dOp_ok (hτ : TysOk P τ) (hz : ∀ t i, τ t = some i -> zeroOk i.zero) (hΓ : SumsOk P Γ) {id : Nat} {o : Oper} {ts : List (Nat × Tm)} {h : List (Nat × Blk)} {n m : Nat} {x : Tm} (hrel : Rel P base ψ S w ⟨ts, h, n, m⟩ a)
 (hl : inLim o.dst m = true) (hk : dOp P τ Γ id o ⟨ts, h, n, m⟩ fun x' b => x' = x /\ b = none) : OpOk P base ψ S w a o (fun st' => st' = ⟨putT o.dst x ts, h, n, m⟩) := by
 unfold dOp at hk
 split at hk
 . split at hk
   . exact absurd hk.2 (by simp)
   . exact hk.elim
 . split at hk
   . split at hk
     . exact absurd hk.2 (by simp)
     . exact hk.elim
   . exact hk.elim
 . rename_i c hop
   obtain ⟨callee, args, tys⟩ := c
   simp only at hk
   split at hk
   . rename_i f
     split at hk
     . rename_i g as hf ha
       rw [fVas_eq] at hk
       have hfv := fnOf_rep (ev_rep hrel f)
       rw [hf] at hfv
       obtain ⟨vs, hv, hcaps⟩ := hfv
       have hvs : vs = #[] := by
        apply Array.ext'
        generalize vs.toList = l at hcaps
        cases l with
        | nil => rfl
        | cons _ _ => exact hcaps.elim
       subst hvs
       have hargs := args_rep hrel ha
       unfold dCall at hk
       split at hk
       . rename_i own F hΓf
         have hfc := hΓ g _ hΓf
         obtain ⟨ars, g1, g2⟩ := argsK_noids hΓ hrel.sim hargs hk
         split at g2
         . rename_i pre r hF
           split at g2
           . rename_i ct hct
             rw [fT_eq] at g2
             obtain ⟨hpre, g2⟩ := g2
             obtain ⟨g2, _⟩ := g2 hpre
             subst g2
             have hfcat := hfc _ _ _ _ hF hpre S w _ [] hrel.sim.sdom g1 trivial
             intro next Q hn
             have e : (args.toList.map a.eval).toArray = #[] ++ args.map a.eval ++ #[] := by apply Array.ext'; simp
             rw [e] at hfcat
             refine wp_runs hop hv hfcat ?_
             rintro e w' ⟨v, S', ls', rfl, hrt, _, hsep, hxa⟩
             -- its rows are frozen
             let S2 : Nat -> Prop := fun b => S' b \/ blkIn ls' b
             have hl2 : Later S' w' S2 w' := ⟨fun _ h => .inl h, fun _ _ => rfl⟩
             have hct' : RepCt S2 w' ct v := rtFr_rep (P := P) hct (repRt_later hrt hl2) fun b hb => .inr hb
             have hext : Ext0 S w S2 w' := by
              refine ⟨hxa.os, hxa.tape, hxa.output, hxa.grow, fun b hb => hxa.old b hb (by rintro ⟨m, hm⟩; simp at hm), fun b hb => .inl (hxa.later.1 b hb), ?_, ?_⟩
              . rintro b (hb | hb)
                . rcases hxa.newS b hb with h | ⟨m, hm⟩ | h
                  . exact .inl h
                  . simp at hm
                  . exact .inr h
                . rcases hxa.newL b hb with ⟨m, hm⟩ | h
                  . simp at hm
                  . exact .inr h
              . rintro b (hb | hb)
                . exact hxa.sdom b hb
                . obtain ⟨m, hm⟩ := hb
                  obtain ⟨j, hj, e⟩ := List.mem_iff_getElem.1 hm
                  have hk2 : keptLocs ([] : List (Option (Nat -> List DV))) [] ++ ls' = ls' := rfl
                  rw [hk2] at hsep
                  exact (hsep.get j b m (by rw [List.getElem?_eq_getElem hj, e])).2.1
             obtain ⟨k1, k2⟩ := hrel.ext0 hext
             obtain ⟨st', k3, k4⟩ := putK_rel (putK_put (x := ctTm ct) hl) k1 (ct_rep hct')
             exact ⟨v, rfl, hn _ _ _ _ _ k3 k4 k2⟩
           . exact g2.elim
         . exact g2.elim
       . exact hk.elim
     . rename_i g as hf ha
       refine oCallFv_ok hrel hop hf ha ?_
       unfold dFv at hk
       refine closeVas_mono hk fun cs e => ?_
       split at e
       . rename_i hg
         rw [fT_eq] at e
         try rw [hg]
         exact ⟨e.1, fun h => by obtain ⟨e2, _⟩ := e.2 h; rw [e2]; exact putK_put hl⟩
       . exact e.elim
     . exact hk.elim
   . obtain ⟨x', g1, g2⟩ := vOp_lin _ _ _ _ _ hk
     obtain ⟨rfl, _⟩ := g1
     refine vOp_ok hτ hz hrel hop ?_
     exact vOp_mono g2 fun y e => by subst e; exact putK_put hl
 . rename_i t len parts hop
   exact oBuildFr_ok hτ hz hrel hop (oBuildFr_mono hk fun y e => by obtain ⟨rfl, _⟩ := e; exact putK_put hl)
 . obtain ⟨x', g1, g2⟩ := vOp_lin _ _ _ _ _ hk
   obtain ⟨rfl, _⟩ := g1
   refine vOp_ok hτ hz hrel rfl ?_
   exact vOp_mono g2 fun y e => by subst e; exact putK_put hl
end
end Go.Sx
