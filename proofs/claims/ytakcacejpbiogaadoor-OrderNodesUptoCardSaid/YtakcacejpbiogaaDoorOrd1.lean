/- Texts parted at blanks; digits stripped off. No condition. -/
import Derived.Test.YtakcacejpbiogaaDoorKey25
import Derived.Shelf.Strings.SlTrimAscii
namespace Go.Proofs.YtakcacejpbiogaaDoor
set_option linter.all false
open Go.Sx

open Go.RowKit Go.Lib Go.Sort
abbrev lst (l : List ByteArray) : DV := .lst 1 l.length fun i => [st (atS l i)]
theorem lst_rep {S : Nat → Prop} {w : World} {L : List ByteArray} {b c : Nat} {e : TypeId} {fr : Nat × Nat} (hS : S b) (hc : L.length ≤ c) (hh : w.heap[b]? = some (.cells (L.map Value.string).toArray e fr)) : RepD S w (lst L) (.slice (some ⟨b, 0, none⟩) L.length c) := by
  refine .lst (fun i _ => .string (atS L i)) hS (fun i hi => rfl) (fun i j hi hj => ?_) (fun i j hi hj => ?_) hc
  · obtain rfl : j = 0 := by omega
    rw [cell_at hh]
    have : 0 + i * 1 + 0 < (L.map Value.string).toArray.size := by simp; omega
    rw [Array.getElem?_eq_getElem this]
    simp [atS, List.getD_eq_getElem?_getD, hi]
  · obtain rfl : j = 0 := by omega
    exact .v trivial
/-- a contract of the shelf: plain values in, a slice of texts in a new block out -/
theorem fc_texts {P : Program} {f : Nat} {F : List Ar → Option Rs} (hc : Callable P f) (h : ∀ xs pre r us, F xs = some ⟨pre, r, us⟩ → pre →
    ∃ (vs : List Value) (L : List ByteArray), xs = vs.map (fun x => Ar.c (.d (.v x))) ∧ us = [] ∧ r = .va (.c (.d (lst L))) ∧ ∀ S w, SOk P S w → Calls P f vs.toArray w fun e w' => ∃ b c t fr, e = .returned (.slice (some ⟨b, 0, none⟩) L.length c) ∧ L.length ≤ c ∧ w.heap.size ≤ b ∧ w'.heap[b]? = some (.cells (L.map Value.string).toArray t fr) ∧ Ext0 S w S w') : FC P f F := by
  intro xs pre r us hF hpre S w vals ls hS hr hsep
  obtain ⟨vs, L, rfl, rfl, rfl, hrun⟩ := h _ _ _ _ hF hpre
  have hrows : ∀ (vs : List Value), arsRows (vs.map fun x => Ar.c (.d (.v x))) = [] := by
    intro vs
    induction vs with
    | nil => rfl
    | cons v vs ih => simp [arsRows, arRows, icRows, ih]
  have e := repArs_rows hr (hrows vs)
  subst e
  have hv : vals = vs := by
    clear hrun hF hrows
    induction vs generalizing vals with
    | nil => cases vals with | nil => rfl | cons _ _ => simp [RepArs] at hr
    | cons x vs ih => cases vals with
      | nil => simp [RepArs] at hr
      | cons u vals =>
        simp only [List.map_cons, RepArs] at hr
        obtain ⟨l1, l2, e, h1, h2⟩ := hr
        obtain ⟨rfl, rfl⟩ := List.append_eq_nil_iff.1 e.symm
        have h1 : RepIcs S w [.d (.v x)] [u] [] := h1
        have h1 : RepD S w (.v x) u := h1.1
        cases h1
        rw [ih _ h2]
  subst hv
  refine .inl ⟨hc, (hrun S w hS).mono ?_⟩
  rintro e w' ⟨b, c, t, fr, rfl, hLc, hb, hh, hx⟩
  have hlt : b < w'.heap.size := (Array.getElem?_eq_some_iff.1 hh).1
  refine ⟨_, fun b' => S b' ∨ b' = b, [], rfl, ⟨lst_rep (.inr rfl) hLc hh, trivial⟩, ?_, trivial, ⟨hx.os, hx.tape, hx.output, hx.grow, fun b hb _ => hx.old b hb, ⟨fun _ h => .inl h, fun b hb => hx.old b (hS b hb)⟩, fun b' hb' => ?_, fun b hb => .inl hb, fun b' hb' => ?_⟩⟩
  · rw [hrows]; trivial
  · rcases hb' with h | rfl
    · exact .inl h
    · exact .inr (.inr hb)
  · rcases hb' with h | rfl
    · exact hx.sdom b' h
    · exact hlt
abbrev blS : ByteArray := ⟨#[32]⟩
def digS : ByteArray := ⟨#[48, 49, 50, 51, 52, 53, 54, 55, 56, 57]⟩
def trimL (a b : ByteArray) : ByteArray := ⟨(Lib.trimLeftS a.data.toList b.data.toList).toArray⟩
def splitS (a : ByteArray) : List ByteArray := Lib.splitB blS 0 (Lib.countB a blS) a
def FTrimL : List Ar → Option Rs
  | [.c (.d (.v (.string x))), .c (.d (.v (.string y)))] => some ⟨y = digS, .va (.c (.d (st (trimL x y)))), []⟩
  | _ => none
theorem fcTrimL : FC Tryd.prog 92 FTrimL := by
  refine fc_callsG (callable_of Tryd.func92 rfl rfl) fun xs pre r us h hp => ?_
  unfold FTrimL at h
  split at h
  · rename_i x y
    cases h
    refine ⟨[.string x, .string y], .string (trimL x y), rfl, rfl, fun S w hS => ?_, fun S w => And.intro (.v trivial) trivial⟩
    subst hp
    refine (Any.strings_TrimLeft_laid Tryd.lays161 (by kernel_rfl) x digS w (by decide) (ascii_of_all (by decide))).mono ?_
    rintro e w' ⟨rfl, hb⟩
    exact ⟨rfl, ext0_below hS.lt hb⟩
  · cases h
def FSplit : List Ar → Option Rs
  | [.c (.d (.v (.string x))), .c (.d (.v (.string y)))] => some ⟨y = blS ∧ x.size < 4294967281, .va (.c (.d (lst (splitS x)))), []⟩
  | _ => none
theorem fcSplit : FC Tryd.prog 55 FSplit := by
  refine fc_texts (callable_of Tryd.func55 rfl rfl) fun xs pre r us h hp => ?_
  unfold FSplit at h
  split at h
  · rename_i x y
    cases h
    obtain ⟨rfl, hp⟩ := hp
    refine ⟨[.string x, .string blS], splitS x, rfl, rfl, rfl, fun S w hS => ?_⟩
    obtain ⟨m, hm⟩ := max_int hS.glob
    refine (Tryd.strings_Split x blS m w hp hm (by decide)).mono ?_
    rintro e w' ⟨rfl, rfl⟩
    have hlen : (splitS x).length = Lib.countB x blS + 1 := Lib.splitB_all blS (by decide) 0 _ x rfl
    refine ⟨w.heap.size, Lib.countB x blS + 1, 9, (0, 0), by rw [hlen], by rw [hlen]; exact Nat.le_refl _, Nat.le_refl _, ?_, ?_⟩
    · show (w.heap.push _)[w.heap.size]? = _
      rw [Array.getElem?_push_size]; rfl
    · refine ext0_same hS.lt rfl rfl rfl ?_ fun b hb => ?_
      · show _ ≤ (w.heap.push _).size; simp
      · show (w.heap.push _)[b]? = _
        rw [Array.getElem?_push_lt hb]; simp [hb]
  · cases h


end Go.Proofs.YtakcacejpbiogaaDoor
