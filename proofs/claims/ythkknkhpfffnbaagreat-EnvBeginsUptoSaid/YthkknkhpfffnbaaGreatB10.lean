/- Statements whose order is open, with stores that may come early. No condition. -/
import Derived.Test.YthkknkhpfffnbaaGreatB9
set_option linter.all false
set_option maxHeartbeats 8000000
set_option maxRecDepth 100000
namespace Go.Sx
def stoOf : List (Nat × Nat) -> Nat -> Option Nat
 | [], _ => none
 | (j, ia) :: l, i => match Nat.beq j i with
   | true => some ia
   | false => stoOf l i
def hidOf (sto : List (Nat × Nat)) (i : Nat) : Bool := sto.any fun p => Nat.beq p.2 i
def dSto (τ : Tys) (n0 : Nat) (all : List Oper) (ia : Nat) (o : Oper) (st : St) (K : List Cell -> Prop) : Prop :=
 match o.op, o.guard, all[ia]? with
 | .store t ad x, none, some oa => match oa.op, oa.guard with
   | .alloc e, none => match ev st ad, ev st x, τ t, τ e with
     | .va (.c (.own k 0)), .va y, some ⟨_, size, _, _⟩, some ⟨_, _, _, z⟩ => match Nat.beq k (n0 + ia), y.lays, Nat.beq y.cells.length size, Nat.beq (zeroCells' z).length size with
       | true, true, true, true => K y.cells
       | _, _, _, _ => False
     | _, _, _, _ => False
   | _, _ => False
 | _, _, _ => False
def dGo3 (P : Program) (τ : Tys) (Γ : Sums) (n0 : Nat) (gs : List Nat) (all : List Oper) (sto : List (Nat × Nat)) (i : Nat) (l : List Oper) : St -> List (Nat × Blk) -> (St -> List (Nat × Blk) -> Prop) -> Prop :=
 List.rec (motive := fun _ => Nat -> St -> List (Nat × Blk) -> (St -> List (Nat × Blk) -> Prop) -> Prop) (fun _ st sp K => K st sp) (fun o _ ih i st sp K => match st with
  | ⟨ts, h, n, m⟩ => match inLim o.dst m with
    | false => False
    | true => match stoOf sto i with
      | some ia => dSto τ n0 all ia o ⟨ts, h, n, m⟩ fun cs => fCs cs fun cs => ih (i + 1) ⟨putT o.dst undT ts, h, n, m⟩ ((n0 + ia, .cells cs) :: sp) K
      | none => dWant all ⟨ts, h, n, m⟩ o fun w => match w with
        | false => ih (i + 1) ⟨putT o.dst undT ts, h, n, m⟩ sp K
        | true => dOp P τ Γ (n0 + i) o ⟨ts, h, n, m⟩ fun x b => fT x fun x => match b with
          | some (.cells cs) => fCs cs fun cs => dPut i gs x fun x => match hidOf sto i with
            | true => ih (i + 1) ⟨putT o.dst x ts, h, n, m⟩ sp K
            | false => ih (i + 1) ⟨putT o.dst x ts, (n0 + i, .cells cs) :: h, n, m⟩ sp K
          | some _ => False
          | none => dPut i gs x fun x => ih (i + 1) ⟨putT o.dst x ts, h, n, m⟩ sp K) l i
section
variable {P : Program} {τ : Tys} {Γ : Sums} {base : Nat} {ψ ψ' : Psi} {S S' : Nat → Prop} {w w' : World} {a : Act}
end
def frzH (k : Nat) (h : List (Nat × Blk)) : List (Nat × Blk) := match lookB h k with
 | .row sz n f => (k, .fzr sz n f) :: h
 | _ => h
def frz (k : Nat) : St -> St
 | ⟨ts, h, n, m⟩ => ⟨ts, frzH k h, n, m⟩
theorem ASat.cutF {P : Program} {base : Nat} {c : Code} {st s : St} {Q : Exit -> St -> Prop} (k : Nat) (ex : Exit) (live : List Nat) (h : ASat P base c st fun e st' => e = ex /\ normK live st' fun s' => s' = s) (hq : Q ex (frz k s)) : ASat P base c st Q := by
 refine ⟨fun ψ S w a hr => wp_mono (h.run ψ S w a hr) ?_⟩
 rintro e a' w' ⟨st', ψ', S', ⟨rfl, h1⟩, h2, h3⟩
 rw [normK_eq] at h1
 have h2 := h2.norm live
 rw [h1] at h2
 obtain ⟨ts, hh, n, m⟩ := s
 obtain ⟨h', S2, e, g1, g2⟩ := frCell_ok (c := .osl k 0 0 0) (K := fun h' => h' = frzH k hh) h2 (by
  unfold frCell
  dsimp only
  split
  . rename_i hb; unfold frzH; rw [hb]
  . rename_i hn
    unfold frzH
    split
    . rename_i hb; exact absurd hb (hn _ _ _)
    . rfl)
 subst e
 exact ⟨_, ψ', S2, hq, g1, h3.trans g2⟩
end Go.Sx
namespace Go.Proofs.YthkknkhpfffnbaaGreat
open Go.Sx
structure Sm where
 op : Int
 nm : ByteArray
 fn : ByteArray
 xn : Nat
 xf : Nat -> List DV
 kn : Nat
 kf : Nat -> List DV
 en : Nat
 ef : Nat -> List DV
 at' : Int
def gNy (l : List DV) (j : Nat) : Nat := match l[j]? with
 | some (.lst _ n _) => n
 | _ => 0
def gFy (l : List DV) (j : Nat) : Nat -> List DV := match l[j]? with
 | some (.lst _ _ f) => f
 | _ => fun _ => []
def gSy (l : List DV) (j : Nat) : ByteArray := match l[j]? with
 | some (.v (.string s)) => s
 | _ => ByteArray.empty
def gIy (l : List DV) (j : Nat) : Int := match l[j]? with
 | some (.v (.int _ s)) => s
 | _ => 0
def gSm (l : List DV) : Sm := ⟨gIy l 0, gSy l 1, gSy l 2, gNy l 3, gFy l 3, gNy l 4, gFy l 4, gNy l 5, gFy l 5, gIy l 6⟩
abbrev smC (s : Sm) : List DV := [it s.op, st s.nm, st s.fn, .lst 5 s.xn s.xf, .lst 7 s.kn s.kf, .lst 7 s.en s.ef, it s.at']
structure Md where
 nodes : Int
 at' : Int
 en : Nat
 ef : Nat -> List DV
 pn : Nat
 pf : Nat -> List DV
abbrev mdC (m : Md) : List DV := [it m.nodes, it m.at', .lst 6 m.en m.ef, .lst 1 m.pn m.pf]
abbrev Md.ar (m : Md) : Ar := .agg [.d (it m.nodes), .d (it m.at'), .d (.lst 6 m.en m.ef), .d (.lst 1 m.pn m.pf)]
abbrev w64 (x : Int) : Int := IntKind.wrap .i64 x
abbrev Md.edge (m : Md) (a b k : Int) (nm fn : ByteArray) (yn : Nat) (yf : Nat -> List DV) : Md := ⟨m.nodes, m.at', m.en + 1, fun i => appRow m.en m.ef (fun i => Sx.rowAt 6 [it a, it b, it k, st nm, st fn, .lst 5 yn yf] (0 + i)) (0 + i), m.pn, m.pf⟩
def kindM (op : Int) : Int := if op = 1 then 1 else if op = 2 then 2 else if op = 3 then 3 else if op = 4 then 4 else if op = 5 then 5 else if op = 9 then 9 else 0
def FRKind : List Ar -> Option Rs
 | [.c (.d (.v (.int .i64 i0)))] => some ⟨True, .va (.c (.d (it (kindM i0)))), []⟩
 | _ => none
theorem fcRKind : FC Tryz.prog 157 FRKind := by
 intro xs pre r us h hp
 unfold FRKind at h
 split at h
 . rename_i i0
   cases h
   refine fcat tys_ok (l := []) trivial Tryz.func157 rfl (by kernel_rfl) true ?_
   repeat' (first | exact trivial | refine ⟨?_, ?_⟩ | intro _)
   all_goals first | (with_reducible first | apply qa | apply qb | apply qc | apply qd) | (conv => whnf)
   all_goals (simp only [beq_iff_eq, beq_eq_false_iff_ne] at *)
   all_goals first | rfl | (refine congrArg (Value.int .i64) ?_; unfold kindM; first | (subst_vars; rfl) | (simp [*]; done))
 . cases h
def FRWith : List Ar -> Option Rs
 | [.agg [.d (.v (.int .i64 a0)), .d (.v (.int .i64 b0)), .d (.lst 6 n0 f0), .d (.lst 1 p0 g0)], .c (.d (.v (.int .i64 i1))), .c (.d (.v (.int .i64 i2))), .c (.d (.v (.int .i64 i3))), .agg [.d (.v (.int .i64 _)), .d (.v (.string x4)), .d (.v (.string y4)), .d (.lst 5 u4 v4), .d (.lst 7 _ _), .d (.lst 7 _ _), .d (.v (.int .i64 _))]] => some ⟨(n0 <= 1000000000 /\ p0 <= 1000000000), .va (Md.ar (Md.edge (⟨a0, b0, n0, f0, p0, g0⟩ : Md) i1 i2 i3 x4 y4 u4 v4)), []⟩
 | _ => none
theorem fcRWith : FC Tryz.prog 57 FRWith := by
 intro xs pre r us h hp
 unfold FRWith at h
 split at h
 . rename_i a0 b0 n0 f0 p0 g0 i1 i2 i3 o4 x4 y4 u4 v4 k4 f4 q4 g4 a4
   cases h
   have hp0 := hp
   refine fcat tys_ok (l := []) trivial Tryz.func57 rfl (by kernel_rfl) true ?_
   repeat' (first | exact trivial | refine ⟨?_, ?_⟩ | intro _)
   all_goals first | (with_reducible first | apply qa | apply qb | apply qc | apply qd) | (conv => whnf)
   all_goals first | ((with_reducible show ASat _ _ _ _ _); refine draw_plan tys_ok (l := []) trivial (by kernel_rfl) (.all [(0, .all [(1, .all [(2, .all [(3, .all [(4, .all [(5, .all [(6, .all [(7, .done)])])])])]), (3, .all [(2, .all [(4, .all [(5, .all [(6, .all [(7, .done)])])])]), (4, .all [(2, .all [(5, .all [(6, .all [(7, .done)])])])])])]), (3, .all [(1, .all [(2, .all [(4, .all [(5, .all [(6, .all [(7, .done)])])])]), (4, .all [(2, .all [(5, .all [(6, .all [(7, .done)])])])])]), (4, .all [(1, .all [(2, .all [(5, .all [(6, .all [(7, .done)])])])])])])]), (3, .all [(0, .all [(1, .all [(2, .all [(4, .all [(5, .all [(6, .all [(7, .done)])])])]), (4, .all [(2, .all [(5, .all [(6, .all [(7, .done)])])])])]), (4, .all [(1, .all [(2, .all [(5, .all [(6, .all [(7, .done)])])])])])]), (4, .all [(0, .all [(1, .all [(2, .all [(5, .all [(6, .all [(7, .done)])])])])])])])]) (by kernel_rfl) ?_) | skip
   all_goals repeat' (first | exact trivial | refine ⟨?_, ?_⟩ | intro _)
   all_goals first | (with_reducible first | apply qa | apply qb | apply qc | apply qd) | (conv => whnf)
   all_goals first | omega | rfl | (intro i hi; rfl) | (dsimp only; omega)
 . cases h
abbrev Md.pl (m : Md) : Md := ⟨m.nodes, m.at', m.en, m.ef, m.pn + 1, fun i => appRow m.pn m.pf (fun i => Sx.rowAt 1 [it m.at'] (0 + i)) (0 + i)⟩
abbrev eB : ByteArray := ⟨#[]⟩
abbrev nR : Nat -> List DV := fun _ => []
abbrev oneP (m : Md) (s : Sm) : Md := Md.edge ⟨w64 (m.nodes + 1), m.nodes, m.en, m.ef, m.pl.pn, m.pl.pf⟩ m.at' m.nodes (kindM s.op) s.nm s.fn s.xn s.xf
abbrev one8 (m : Md) (s : Sm) : Md := Md.edge ⟨w64 (m.nodes + 1), m.nodes, m.en, m.ef, m.pl.pn, m.pl.pf⟩ m.at' 1 8 eB eB s.xn s.xf
abbrev one6a (m : Md) (s : Sm) : Md := (Md.edge ⟨w64 (m.nodes + 2), m.at', m.en, m.ef, m.pl.pn, m.pl.pf⟩ m.at' m.nodes 6 eB eB s.xn s.xf).edge m.at' (w64 (m.nodes + 1)) 7 eB eB s.xn s.xf
abbrev one6b (m x : Md) : Md := Md.edge ⟨w64 (x.nodes + 1), x.at', x.en, x.ef, x.pn, x.pf⟩ x.at' x.nodes 0 eB eB 0 nR
abbrev Md.to (m : Md) (a : Int) : Md := ⟨m.nodes, a, m.en, m.ef, m.pn, m.pf⟩
abbrev one7a (m : Md) (s : Sm) : Md := ((Md.edge ⟨w64 (m.nodes + 3), m.at', m.en, m.ef, m.pl.pn, m.pl.pf⟩ m.at' m.nodes 0 eB eB 0 nR).edge m.nodes (w64 (m.nodes + 1)) 6 eB eB s.xn s.xf).edge m.nodes (w64 (m.nodes + 2)) 7 eB eB s.xn s.xf
def one6 (A : Md -> Nat -> (Nat -> List DV) -> Md) (m : Md) (s : Sm) : Md :=
 Md.to (Md.edge (A ((one6b m (A ((one6a m s).to m.nodes) s.kn s.kf)).to (w64 (m.nodes + 1))) s.en s.ef)
  (A ((one6b m (A ((one6a m s).to m.nodes) s.kn s.kf)).to (w64 (m.nodes + 1))) s.en s.ef).at' (A ((one6a m s).to m.nodes) s.kn s.kf).nodes 0 eB eB 0 nR) (A ((one6a m s).to m.nodes) s.kn s.kf).nodes
def one7 (A : Md -> Nat -> (Nat -> List DV) -> Md) (m : Md) (s : Sm) : Md :=
 Md.to (Md.edge (A ((one7a m s).to (w64 (m.nodes + 1))) s.kn s.kf) (A ((one7a m s).to (w64 (m.nodes + 1))) s.kn s.kf).at' m.nodes 0 eB eB 0 nR) (w64 (m.nodes + 2))
def oneM (A : Md -> Nat -> (Nat -> List DV) -> Md) (m : Md) (s : Sm) : Md :=
 if kindM s.op ≠ 0 then oneP m s else if s.op = 8 then one8 m s else if s.op = 6 then one6 A m s else if s.op = 7 then one7 A m s else m.pl
def itM (F : Md -> Sm -> Md) (m : Md) (f : Nat -> List DV) : Nat -> Md
 | 0 => m
 | n + 1 => F (itM F m f n) (gSm (f n))
def allM : Nat -> Md -> Nat -> (Nat -> List DV) -> Md
 | 0, m, _, _ => m
 | M + 1, m, n, f => itM (oneM (allM M)) m f n
def sumN (g : Nat -> Nat) : Nat -> Nat
 | 0 => 0
 | n + 1 => sumN g n + g n
def cntL : Nat -> Nat -> (Nat -> List DV) -> Nat
 | 0, _, _ => 0
 | M + 1, n, f => sumN (fun i => 8 + cntL M (gSm (f i)).kn (gSm (f i)).kf + cntL M (gSm (f i)).en (gSm (f i)).ef) n
def okS : Nat -> Nat -> (Nat -> List DV) -> Prop
 | 0, _, _ => 0 < 0
 | M + 1, n, f => ∀ i, i < n -> f i = smC (gSm (f i)) /\ okS M (gSm (f i)).kn (gSm (f i)).kf /\ okS M (gSm (f i)).en (gSm (f i)).ef
structure Bd2 (m x : Md) (k : Nat) : Prop where
 e : x.en <= m.en + k
 p : x.pn <= m.pn + k
theorem Bd2.all {A : Md -> Nat -> (Nat -> List DV) -> Md} {c : Nat -> (Nat -> List DV) -> Nat} (hA : ∀ m n f, Bd2 m (A m n f) (c n f)) (m : Md) (s : Sm) : Bd2 m (oneM A m s) (8 + c s.kn s.kf + c s.en s.ef) := by
 unfold oneM
 split
 . exact ⟨by dsimp only; omega, by dsimp only; omega⟩
 . split
   . exact ⟨by dsimp only; omega, by dsimp only; omega⟩
   . split
     . unfold one6
       have h1 := hA ((one6a m s).to m.nodes) s.kn s.kf
       have h2 := hA ((one6b m (A ((one6a m s).to m.nodes) s.kn s.kf)).to (w64 (m.nodes + 1))) s.en s.ef
       have a1 := h1.e; have a2 := h1.p; have a3 := h2.e; have a4 := h2.p
       dsimp only at a1 a2 a3 a4
       exact ⟨by dsimp only; omega, by dsimp only; omega⟩
     . split
       . unfold one7
         have h1 := hA ((one7a m s).to (w64 (m.nodes + 1))) s.kn s.kf
         have a1 := h1.e; have a2 := h1.p
         dsimp only at a1 a2
         exact ⟨by dsimp only; omega, by dsimp only; omega⟩
       . exact ⟨by dsimp only; omega, by dsimp only; omega⟩
theorem Bd2.it {A : Md -> Nat -> (Nat -> List DV) -> Md} {c : Nat -> (Nat -> List DV) -> Nat} (hA : ∀ m n f, Bd2 m (A m n f) (c n f)) (m : Md) (f : Nat -> List DV) : ∀ n, Bd2 m (itM (oneM A) m f n) (sumN (fun i => 8 + c (gSm (f i)).kn (gSm (f i)).kf + c (gSm (f i)).en (gSm (f i)).ef) n)
 | 0 => ⟨Nat.le_refl _, Nat.le_refl _⟩
 | n + 1 => by
   have h1 := Bd2.it hA m f n
   have h2 := Bd2.all hA (itM (oneM A) m f n) (gSm (f n))
   have a1 := h1.e; have a2 := h1.p; have a3 := h2.e; have a4 := h2.p
   exact ⟨by show (oneM A _ _).en <= m.en + (sumN _ n + (8 + c _ _ + c _ _)); omega, by show (oneM A _ _).pn <= m.pn + (sumN _ n + (8 + c _ _ + c _ _)); omega⟩
theorem all_bd : ∀ (M : Nat) (m : Md) (n : Nat) (f : Nat -> List DV), Bd2 m (allM M m n f) (cntL M n f)
 | 0, m, n, f => ⟨Nat.le_refl _, Nat.le_refl _⟩
 | M + 1, m, n, f => Bd2.it (all_bd M) m f n
theorem sumN_le {g : Nat -> Nat} {i n : Nat} (h : i < n) : sumN g i + g i <= sumN g n := by
 induction n with
 | zero => omega
 | succ n ih =>
   show _ <= sumN g n + g n
   rcases Nat.lt_or_eq_of_le (Nat.le_of_lt_succ h) with h | rfl
   . have := ih h; omega
   . exact Nat.le_refl _
def nilIp : List Nat -> List Ic -> List Ic
 | _, [] => []
 | [], x :: xs => nilI 1 x :: nilIp [] xs
 | z :: zs, x :: xs => nilI z x :: nilIp zs xs
def nilAp : List Nat -> Ar -> Ar
 | [], .c x => .c (nilI 1 x)
 | z :: _, .c x => .c (nilI z x)
 | zs, .agg xs => .agg (nilIp zs xs)
 | _, x => x
def nilP : List (List Nat) -> List Ar -> List Ar
 | _, [] => []
 | [], x :: xs => nilAp [] x :: nilP [] xs
 | z :: zs, x :: xs => nilAp z x :: nilP zs xs
def FP (zs : List (List Nat)) (F : List Ar -> Option Rs) (qs : List Ar) : Option Rs :=
 match arsRows qs with
 | [] => match F (nilP zs qs) with
   | some ⟨p, r, []⟩ => some ⟨p, r, []⟩
   | _ => none
 | _ => none
theorem nilIp_eq : ∀ (zs : List Nat) (xs : List Ic), icsEq xs (nilIp zs xs)
 | _, [] => by unfold nilIp; trivial
 | [], x :: xs => by unfold nilIp; exact ⟨nilI_eq 1 x, nilIp_eq [] xs⟩
 | z :: zs, x :: xs => by unfold nilIp; exact ⟨nilI_eq z x, nilIp_eq zs xs⟩
theorem nilAp_eq : ∀ (zs : List Nat) (x : Ar), arEq x (nilAp zs x)
 | [], .c x => nilI_eq 1 x
 | z :: _, .c x => nilI_eq z x
 | [], .agg xs => nilIp_eq [] xs
 | z :: zs, .agg xs => nilIp_eq (z :: zs) xs
 | [], .rp _ => rfl
 | _ :: _, .rp _ => rfl
 | [], .fv _ => rfl
 | _ :: _, .fv _ => rfl
theorem nilP_eq : ∀ (zs : List (List Nat)) (xs : List Ar), arsEq xs (nilP zs xs)
 | _, [] => by unfold nilP; trivial
 | [], x :: xs => by unfold nilP; exact ⟨nilAp_eq [] x, nilP_eq [] xs⟩
 | z :: zs, x :: xs => by unfold nilP; exact ⟨nilAp_eq z x, nilP_eq zs xs⟩
theorem nilI_rows (z : Nat) (x : Ic) (xs ys : List Ic) (h : icRows xs = icRows ys) : icRows (nilI z x :: xs) = icRows (x :: ys) := by
 cases x with
 | d x => simp only [nilI, icRows]; exact h
 | ow a b c => simp only [nilI, icRows]; rw [h]
theorem nilIp_rows : ∀ (zs : List Nat) (xs : List Ic), icRows (nilIp zs xs) = icRows xs
 | _, [] => by unfold nilIp; rfl
 | [], x :: xs => by unfold nilIp; exact nilI_rows 1 x _ _ (nilIp_rows [] xs)
 | z :: zs, x :: xs => by unfold nilIp; exact nilI_rows z x _ _ (nilIp_rows zs xs)
theorem nilAp_rows : ∀ (zs : List Nat) (x : Ar), arRows (nilAp zs x) = arRows x
 | [], .c x => by cases x <;> rfl
 | z :: _, .c x => by cases x <;> rfl
 | [], .agg xs => nilIp_rows [] xs
 | z :: zs, .agg xs => nilIp_rows (z :: zs) xs
 | [], .rp _ => rfl
 | _ :: _, .rp _ => rfl
 | [], .fv _ => rfl
 | _ :: _, .fv _ => rfl
theorem nilP_rows : ∀ (zs : List (List Nat)) (xs : List Ar), arsRows (nilP zs xs) = arsRows xs
 | _, [] => by unfold nilP; rfl
 | [], x :: xs => by unfold nilP; simp only [arsRows]; rw [nilAp_rows, nilP_rows [] xs]
 | z :: zs, x :: xs => by unfold nilP; simp only [arsRows]; rw [nilAp_rows, nilP_rows zs xs]
theorem fc_nilp {P : Program} {f : Nat} {F : List Ar -> Option Rs} (zs : List (List Nat)) (h : FC P f F) : FC P f (FP zs F) := by
 intro qs pre r us he hp
 unfold FP at he
 split at he
 . rename_i h0
   split at he
   . rename_i p r' hF
     cases he
     exact FCat.of_eq (nilP_eq zs qs) h0 (by rw [nilP_rows]; exact h0) (h _ _ _ _ hF hp)
   . cases he
 . cases he
end Go.Proofs.YthkknkhpfffnbaaGreat
