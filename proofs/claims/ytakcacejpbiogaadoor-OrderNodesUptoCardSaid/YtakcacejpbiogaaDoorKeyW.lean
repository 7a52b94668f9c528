/- What the listed variables hold, as the walks need it; a world for the witness. No condition. -/
import Derived.Test.YtakcacejpbiogaaDoorCards
import Derived.Test.YtakcacejpbiogaaDoorTie
import Derived.Test.YtakcacejpbiogaaDoorKey7
import Derived.WalkKit
import Derived.ProofKit
import Derived.OpenShut
import Derived.Deep.DeepHandedRow
import Derived.Deep.DeepWitnessRowRef
import Derived.Lib.LaidTab
import Derived.LaidMore
import Derived.Clock
import Derived.SizedLaws
namespace Go.Proofs.YtakcacejpbiogaaDoor
set_option linter.all false
open Go.Sx Go.ChangeShapes Go.WideShapes Go.RowKit Go.Lib

theorem laidVars_mem {P : Program} {w : World} : ∀ {l : List (String × DataW Unit)} {ps : List MemPlace}, DataW.LaidVars P w l ps → ∀ x ∈ l, ∃ g t cs fuel p, P.globalNamed x.1 = some g ∧ (P.globals[g]?).map (·.type) = some t ∧ w.var? P x.1 = some cs ∧ DataW.trod (fun _ => ()) P w 0 (fun _ => true) false fuel t cs.toList = some (x.2, p)
  | (n, d) :: r, ps, h, x, hx => by
    obtain ⟨g, t, cs, fuel, p, q, h1, h2, h3, h4, h5, _⟩ := h
    rcases List.mem_cons.1 hx with rfl | hx
    · exact ⟨g, t, cs, fuel, p, h1, h2, h3, h4⟩
    · exact laidVars_mem h5 x hx
theorem trod_ifc {P : Program} {w : World} {base : Nat} {sp : Nat → Bool} {fuel : Nat} {t : TypeId} {ms : Array (String × TypeId)} {cs : List Value} {x : DataW Unit × List MemPlace} (ht : P.underlying t = some (.interface ms))
    (h : DataW.trod (fun _ => ()) P w base sp false fuel t cs = some x) : cs = [.nilIface] ∨ ∃ u v, cs = [.iface u v] := by
  cases fuel with
  | zero => simp [DataW.trod] at h
  | succ fuel =>
    simp only [DataW.trod, ht] at h
    split at h <;> first | exact .inl rfl | exact .inr ⟨_, _, rfl⟩ | (simp_all; done) | (rename_i h1 h2; cases h1) | skip
theorem var_cells {P : Program} {w : World} {n : String} {g : Nat} {cs : Array Value} (hg : P.globalNamed n = some g) (h : w.var? P n = some cs) : ∃ t f, w.heap[g]? = some (.cells cs t f) := by
  unfold World.var? at h
  rw [hg] at h
  have h : (match w.heap[g]? with | some (.cells cs _ _) => some cs | _ => none) = some cs := h
  split at h
  · rename_i cs' t f hh; cases h; exact ⟨t, f, hh⟩
  · cases h
set_option maxRecDepth 100000 in
theorem gInv_of {W : World} {laid : List (String × DataW Unit)} (hL : laidMet Tryd.prog laid W) (hsh : W.ShapedOpen Tryd.prog)
    (m1 : ("internal/strconv.uint64pow10", Rows.laid_internal_strconv_uint64pow10) ∈ laid) (m2 : ("strconv.ErrRange", Rows.laid_strconv_ErrRange) ∈ laid) (m3 : ("strconv.ErrSyntax", Rows.laid_strconv_ErrSyntax) ∈ laid) : GInv Tryd.prog (fun b => b < W.heap.size) W := by
  obtain ⟨ps, hv, _⟩ := hL
  have gmax : Tryd.prog.globalNamed "internal/bytealg.MaxLen" = some 0 := by kernel_rfl
  have key : ∀ (g : Nat) (n : String) (cs : Array Value), Tryd.prog.globalNamed n = some g → W.var? Tryd.prog n = some cs → gOk n cs → (g < W.heap.size ∧ ∃ arr e fr, W.heap[g]? = some (.cells arr e fr) ∧ gOk n arr) := fun g n cs hg hvar hok => by
    obtain ⟨t, f, hh⟩ := var_cells hg hvar
    exact ⟨(Array.getElem?_eq_some_iff.1 hh).1, cs, t, f, hh, hok⟩
  intro g gl hgl hn
  have hsz : g < 8 := (Array.getElem?_eq_some_iff.1 hgl).1
  have hcases : (Tryd.prog.globals[g]?).map (·.name) = some gl.name := by rw [hgl]; rfl
  have err : ∀ (n : String) (g' : Nat) (d : DataW Unit), (n, d) ∈ laid → Tryd.prog.globalNamed n = some g' → (Tryd.prog.globals[g']?).map (·.type) = some 91 → (n = "strconv.ErrRange" ∨ n = "strconv.ErrSyntax") → (g' < W.heap.size ∧ ∃ arr e fr, W.heap[g']? = some (.cells arr e fr) ∧ gOk n arr) := fun n g' d hm hg' ht' hn' => by
    obtain ⟨g2, t2, cs, fuel, p, h1, h2, h3, h4⟩ := laidVars_mem hv _ hm
    obtain rfl := Option.some.inj (hg'.symm.trans h1)
    obtain rfl := Option.some.inj (ht'.symm.trans h2)
    refine key g' n cs hg' h3 ⟨?_, ?_, ?_⟩
    · rintro rfl; exact absurd hn' (by decide)
    · rintro rfl; exact absurd hn' (by decide)
    · intro _
      rcases trod_ifc Tryd.underlying91 h4 with h | ⟨u, v, h⟩
      · exact ⟨_, Array.eq_one_of_toList h, .inl rfl⟩
      · exact ⟨_, Array.eq_one_of_toList h, .inr ⟨u, v, rfl⟩⟩
  have hg : g = 0 ∨ g = 1 ∨ g = 2 ∨ g = 3 ∨ g = 4 ∨ g = 5 ∨ g = 6 ∨ g = 7 := by omega
  rcases hg with rfl | rfl | rfl | rfl | rfl | rfl | rfl | rfl
  · have hnm : gl.name = "internal/bytealg.MaxLen" := Option.some.inj (hcases.symm.trans (by kernel_rfl))
    obtain ⟨k, hk⟩ := Go.Proofs.cell_of_shapedOpen_int (P := Tryd.prog) (g := 0) (zero := #[.int .i64 0]) (t := 3) hsh (of_decide_eq_true (by kernel_rfl)) (by kernel_rfl) rfl (by kernel_rfl) (by kernel_rfl) Tryd.underlying3
    obtain ⟨cs, hh, hs, _⟩ := hsh.1 0 #[.int .i64 0] 3 (of_decide_eq_true (by kernel_rfl)) (by kernel_rfl)
    have hs : cs.size = 1 := hs
    have e0 : cs = #[.int .i64 k] := by
      have : cs[0]? = some (.int .i64 k) := by
        have h := hk
        simp only [World.cell?, hh] at h
        exact h
      apply Array.ext
      · rw [hs]; rfl
      · intro j h1 h2
        obtain rfl : j = 0 := by omega
        exact (Array.getElem?_eq_some_iff.1 this).2
    rw [hnm]
    exact ⟨(Array.getElem?_eq_some_iff.1 hh).1, cs, _, _, hh, ⟨fun h => absurd h (by decide), fun _ => ⟨k, e0⟩, fun h => absurd h (by decide)⟩⟩
  · have hnm : gl.name = "internal/strconv.uint64pow10" := Option.some.inj (hcases.symm.trans (by kernel_rfl))
    obtain ⟨g2, t2, cs, fuel, p, h1, h2, h3, h4⟩ := laidVars_mem hv _ m1
    have e1 : Tryd.prog.globalNamed "internal/strconv.uint64pow10" = some 1 := by kernel_rfl
    have e2 : (Tryd.prog.globals[1]?).map (·.type) = some 134 := by kernel_rfl
    obtain rfl := Option.some.inj (e1.symm.trans h1)
    obtain rfl := Option.some.inj (e2.symm.trans h2)
    have h5 := Lib.cells_of_tab (zs := pow10Tab) (k := .u64) Tryd.underlying134 Tryd.underlying110 (by kernel_rfl) (by kernel_rfl) h4
    rw [hnm]
    refine key 1 _ cs e1 h3 ⟨fun _ => ?_, fun h => absurd h (by decide), fun h => absurd h (by decide)⟩
    apply Array.ext'
    rw [h5]
    unfold pow10Tab
    rw [List.map_map]; rfl
  · have hnm : gl.name = "strconv.ErrSyntax" := Option.some.inj (hcases.symm.trans (by kernel_rfl))
    rw [hnm]
    exact err _ 2 _ m3 (by kernel_rfl) (by kernel_rfl) (by simp)
  · have hnm : gl.name = "strconv.ErrRange" := Option.some.inj (hcases.symm.trans (by kernel_rfl))
    rw [hnm]
    exact err _ 3 _ m2 (by kernel_rfl) (by kernel_rfl) (by simp)
  · have hnm : gl.name = "unicode/utf8.first" := Option.some.inj (hcases.symm.trans (by kernel_rfl))
    rw [hnm] at hn; exact absurd hn (by decide)
  · have hnm : gl.name = "unicode/utf8.acceptRanges" := Option.some.inj (hcases.symm.trans (by kernel_rfl))
    rw [hnm] at hn; exact absurd hn (by decide)
  · have hnm : gl.name = "math/bits.deBruijn32tab" := Option.some.inj (hcases.symm.trans (by kernel_rfl))
    rw [hnm] at hn; exact absurd hn (by decide)
  · have hnm : gl.name = "math/bits.deBruijn64tab" := Option.some.inj (hcases.symm.trans (by kernel_rfl))
    rw [hnm] at hn; exact absurd hn (by decide)
theorem ownKey : ownKnob Tryd.prog.godebug = none := by kernel_rfl
/-- the world that the door's own run leaves: a world for the witness -/
noncomputable def doorW (os : Os) : World := World.doorLaid Tryd.prog 400 os

end Go.Proofs.YtakcacejpbiogaaDoor
