/- Contracts of the library that read its variables. No condition. -/
import Derived.Test.YtakcacejpbiogaaDoorKey6
namespace Go.Proofs.YtakcacejpbiogaaDoor
set_option linter.all false
open Go.Sx

open Go.RowKit Go.Lib Go.Sort
theorem ext0_same {S : Nat → Prop} {w w' : World} (hs : ∀ b, S b → b < w.heap.size) (h1 : w'.os = w.os) (h2 : w'.tape = w.tape) (h3 : w'.output = w.output) (h4 : w.heap.size ≤ w'.heap.size) (h5 : ∀ b, b < w.heap.size → w'.heap[b]? = w.heap[b]?) : Ext0 S w S w' :=
  ⟨h1, h2, h3, h4, h5, fun _ h => h, fun _ h => .inl h, fun b hb => Nat.lt_of_lt_of_le (hs b hb) h4⟩
theorem ext0_drewN {S : Nat → Prop} {w : World} (hs : ∀ b, S b → b < w.heap.size) (n : Nat) : Ext0 S w S (w.drewN n) := ext0_same hs rfl rfl rfl (Nat.le_refl _) fun _ _ => rfl
theorem ext0_grow {S : Nat → Prop} {w : World} (hs : ∀ b, S b → b < w.heap.size) (n : Nat) (os : Array Obj) : Ext0 S w S (grow (w.drewN n) os) :=
  ext0_same hs rfl rfl rfl (by show w.heap.size ≤ (w.heap ++ os).size; simp) fun b hb => by
    show (w.heap ++ os)[b]? = _
    rw [Array.getElem?_append_left hb]
theorem ext0_below {S : Nat → Prop} {w w' : World} (hs : ∀ b, S b → b < w.heap.size) (h : Below w.heap.size w w') : Ext0 S w S w' :=
  ext0_same hs h.os h.tape h.output h.size h.block
theorem fc_callsG {P : Program} {f : Nat} {F : List Ar → Option Rs} (hc : Callable P f) (h : ∀ xs pre r us, F xs = some ⟨pre, r, us⟩ → pre →
    ∃ (vs : List Value) (v : Value), xs = vs.map (fun x => Ar.c (.d (.v x))) ∧ us = [] ∧ (∀ S w, SOk P S w → Calls P f vs.toArray w fun e w' => e = .returned v ∧ Ext0 S w S w') ∧ ∀ S w, RepRt P S w r v []) : FC P f F := by
  intro xs pre r us hF hpre S w vals ls hS hr hsep
  obtain ⟨vs, v, rfl, rfl, hrun, hrep⟩ := h _ _ _ _ hF hpre
  have hrows : ∀ (vs : List Value), arsRows (vs.map fun x => Ar.c (.d (.v x))) = [] := by
    intro vs
    induction vs with
    | nil => rfl
    | cons v vs ih => simp [arsRows, arRows, icRows, ih]
  have e := repArs_rows hr (hrows vs)
  subst e
  have hv : vals = vs := by
    clear hrun hF hrows
    induction vs generalizing vals with
    | nil => cases vals with | nil => rfl | cons _ _ => simp [RepArs] at hr
    | cons x vs ih => cases vals with
      | nil => simp [RepArs] at hr
      | cons u vals =>
        simp only [List.map_cons, RepArs] at hr
        obtain ⟨l1, l2, e, h1, h2⟩ := hr
        obtain ⟨rfl, rfl⟩ := List.append_eq_nil_iff.1 e.symm
        have h1 : RepIcs S w [.d (.v x)] [u] [] := h1
        have h1 : RepD S w (.v x) u := h1.1
        cases h1
        rw [ih _ h2]
  subst hv
  refine .inl ⟨hc, (hrun S w hS).mono ?_⟩
  rintro e w' ⟨rfl, hx⟩
  refine ⟨v, S, [], rfl, hrep S w', ?_, trivial, ⟨hx.os, hx.tape, hx.output, hx.grow, fun b hb _ => hx.old b hb, ⟨fun _ h => h, fun b hb => hx.old b (hS b hb)⟩, fun _ h => .inl h, fun b hb => .inl hb, hx.sdom⟩⟩
  rw [hrows]; trivial
theorem pow_tab {S : Nat → Prop} {w : World} (h : GInv Tryd.prog S w) : TabIs Tryd.prog w "internal/strconv.uint64pow10" .u64 pow10Tab := by
  obtain ⟨gl, hgl, hn⟩ := Option.map_eq_some_iff.1 (show (Tryd.prog.globals[1]?).map (·.name) = some "internal/strconv.uint64pow10" by kernel_rfl)
  obtain ⟨_, arr, e, fr, h1, h2⟩ := h 1 gl hgl (by rw [hn]; simp [gNames])
  have h3 := h2.pow hn
  unfold TabIs World.var?
  rw [show Tryd.prog.globalNamed "internal/strconv.uint64pow10" = some 1 by kernel_rfl]
  show (match w.heap[1]? with | some (.cells cs _ _) => some cs | _ => none) = _
  rw [h1, h3]
  unfold pow10Tab
  rw [List.map_map]; rfl
theorem max_int {S : Nat → Prop} {w : World} (h : GInv Tryd.prog S w) : ∃ m, w.cell? ⟨0, 0, none⟩ = some (.int .i64 m) := by
  obtain ⟨gl, hgl, hn⟩ := Option.map_eq_some_iff.1 (show (Tryd.prog.globals[0]?).map (·.name) = some "internal/bytealg.MaxLen" by kernel_rfl)
  obtain ⟨_, arr, e, fr, h1, h2⟩ := h 0 gl hgl (by rw [hn]; simp [gNames])
  obtain ⟨m, h3⟩ := h2.max hn
  exact ⟨m, by rw [cell_at h1, h3]; rfl⟩
def cutS (a b : ByteArray) : ByteArray × ByteArray × Bool := (⟨(Lib.cut a.data.toList b.data.toList).1.toArray⟩, ⟨(Lib.cut a.data.toList b.data.toList).2.1.toArray⟩, (Lib.cut a.data.toList b.data.toList).2.2)
def itoaS (n : Int) : ByteArray := ⟨(Lib.itoa n).toArray⟩
def FCut : List Ar → Option Rs
  | [.c (.d (.v (.string x))), .c (.d (.v (.string y)))] => some ⟨x.size < 4294967281, .tup [.c (.d (st (cutS x y).1)), .c (.d (st (cutS x y).2.1)), .c (.d (bo (cutS x y).2.2))], []⟩
  | _ => none
theorem fcCut : FC Tryd.prog 41 FCut := by
  refine fc_callsG (callable_of Tryd.func41 rfl rfl) fun xs pre r us h hp => ?_
  unfold FCut at h
  split at h
  · rename_i x y
    cases h
    refine ⟨[.string x, .string y], .tuple #[.string (cutS x y).1, .string (cutS x y).2.1, .bool (cutS x y).2.2], rfl, rfl, fun S w hS => ?_, fun S w => ⟨_, rfl, [], [], rfl, And.intro (.v trivial) trivial, [], [], rfl, And.intro (.v trivial) trivial, [], [], rfl, And.intro (.v trivial) trivial, rfl⟩⟩
    obtain ⟨m, hm⟩ := max_int hS.glob
    refine (Tryd.strings_Cut x y m w hp hm).mono ?_
    rintro e w' ⟨rfl, n, rfl⟩
    exact ⟨rfl, ext0_drewN hS.lt n⟩
  · cases h
def FItoa : List Ar → Option Rs
  | [.c (.d (.v (.int .i64 n)))] => some ⟨rI n, .va (.c (.d (st (itoaS n)))), []⟩
  | _ => none
theorem fcItoa : FC Tryd.prog 39 FItoa := by
  refine fc_callsG (callable_of Tryd.func39 rfl rfl) fun xs pre r us h hp => ?_
  unfold FItoa at h
  split at h
  · rename_i n
    cases h
    refine ⟨[.int .i64 n], .string (itoaS n), rfl, rfl, fun S w hS => ?_, fun S w => And.intro (.v trivial) trivial⟩
    unfold rI at hp
    refine (Tryd.strconv_Itoa n hp.1 (by omega) w (pow_tab hS.glob)).mono ?_
    rintro e w' ⟨rfl, k, os, rfl⟩
    exact ⟨rfl, ext0_grow hS.lt k os⟩
  · cases h

end Go.Proofs.YtakcacejpbiogaaDoor
