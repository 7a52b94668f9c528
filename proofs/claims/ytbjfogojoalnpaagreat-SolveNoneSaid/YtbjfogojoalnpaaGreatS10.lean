/- Runs on known data are decided on the way. No condition. -/
import Derived.Test.YtbjfogojoalnpaaGreatS8
import Derived.Test.YtbjfogojoalnpaaGreatS9
set_option linter.all false
set_option maxHeartbeats 8000000
set_option maxRecDepth 100000
namespace Go.Sx
theorem bAnd {p q : Bool} (h : (p && q) = true) : p = true /\ q = true := by simpa using h
def onBoolB (st : St) (s : Nat) (k : St -> Option Bool -> Bool) : Bool :=
 match lookT st.tmps s, st with
 | .va (.c (.kb true)), st => k st (some true)
 | .va (.c (.kb false)), st => k st (some false)
 | .va (.c .und), st => k st none
 | .va (.c (.d (.v (.bool b)))), ⟨ts, h, n, m⟩ => match b with
   | true => k ⟨(s, .va (.c (.kb true))) :: ts, h, n, m⟩ (some true)
   | false => k ⟨(s, .va (.c (.kb false))) :: ts, h, n, m⟩ (some false)
 | _, _ => false
theorem onBoolB_ok {st : St} {s : Nat} {k : St -> Option Bool -> Bool} {k' : St -> Option Bool -> Prop} (hk : ∀ s b, k s b = true -> k' s b) (h : onBoolB st s k = true) : onBool st s k' := by
 obtain ⟨ts, hp, n, m⟩ := st
 unfold onBoolB at h
 dsimp only at h
 show onBool ⟨ts, hp, n, m⟩ s k'
 unfold onBool
 dsimp only
 generalize lookT ts s = x at h ⊢
 match x, h with
 | .va (.c (.kb true)), h => exact hk _ _ h
 | .va (.c (.kb false)), h => exact hk _ _ h
 | .va (.c .und), h => exact hk _ _ h
 | .va (.c (.d (.v (.bool true)))), h => exact And.intro (fun _ => hk _ _ h) (fun e => nomatch e)
 | .va (.c (.d (.v (.bool false)))), h => exact And.intro (fun e => nomatch e) (fun _ => hk _ _ h)
def putKB (st : St) (dst : Option Tmp) (x : Tm) (K : St -> Bool) : Bool :=
 match dst, st with
 | some t, ⟨ts, h, n, m⟩ => match Nat.blt t m with
   | true => fT x fun x => K ⟨(t, x) :: ts, h, n, m⟩
   | false => false
 | none, st => K st
section
variable {K : St → Bool} {K' : St → Prop} (hK : ∀ s, K s = true → K' s)
include hK
theorem putKB_ok {st : St} {dst : Option Tmp} {x : Tm} (h : putKB st dst x K = true) : putK st dst x K' := by
 obtain ⟨ts, hp, n, m⟩ := st
 unfold putKB at h; unfold putK
 cases dst with
 | none => exact hK _ h
 | some t =>
   dsimp only at h ⊢
   cases e : Nat.blt t m with
   | true => rw [e] at h; dsimp only at h ⊢; rw [fT_eq] at h ⊢; exact hK _ h
   | false => rw [e] at h; cases h
end
def newKB (st : St) (dst : Option Tmp) (cs : List Cell) (K : St -> Bool) : Bool :=
 match st with
 | ⟨ts, h, n, m⟩ => fCs cs fun cs => putKB ⟨ts, (n, .cells cs) :: h, n + 1, m⟩ dst (.va (.c (.own n 0))) K
def newRowKB (st : St) (dst : Option Tmp) (sz len : Nat) (f : Nat -> List DV) (K : St -> Bool) : Bool :=
 match st with
 | ⟨ts, h, n, m⟩ => putKB ⟨ts, (n, .row sz len f) :: h, n + 1, m⟩ dst (.va (.c (.osl n sz 0 len))) K
def closeCellB (h : List (Nat × Blk)) (c : Cell) (K : DV -> Bool) : Bool :=
 match c with
 | .kb b => K (.v (.bool b))
 | .d x => K x
 | .osl k z o len => match lookB h k with
   | .fzr sz n f => match Nat.beq sz z with
     | true => Nat.ble (o + len) n && K (.lst sz len fun i => f (o + i))
     | false => false
   | _ => false
 | .fn f [] => K (.v (.func (.func f) #[] #[]))
 | _ => false
theorem closeCellB_ok {h : List (Nat × Blk)} {c : Cell} {K : DV -> Bool} {K' : DV -> Prop} (hK : ∀ s, K s = true -> K' s) (e : closeCellB h c K = true) : closeCell h c K' := by
 unfold closeCellB at e; unfold closeCell
 (repeat' split at e) <;> first | (exact absurd e Bool.false_ne_true) | exact hK _ e | (simp only [*]; simp only [Bool.and_eq_true, Nat.ble_eq] at e; exact ⟨e.1, hK _ e.2⟩)
def closeCellsB (h : List (Nat × Blk)) : List Cell -> (List DV -> Bool) -> Bool
 | [], K => K []
 | c :: cs, K => closeCellB h c fun d => closeCellsB h cs fun ds => K (d :: ds)
theorem closeCellsB_ok {h : List (Nat × Blk)} : ∀ {cs : List Cell} {K : List DV -> Bool} {K' : List DV -> Prop}, (∀ s, K s = true -> K' s) -> closeCellsB h cs K = true -> closeCells h cs K'
 | [], _, _, hK, e => hK _ e
 | c :: cs, K, K', hK, e => closeCellB_ok (fun _ e => closeCellsB_ok (fun _ e => hK _ e) e) e
def loadAtB (h : List (Nat × Blk)) (p : Tm) (sz : Nat) (K : List Cell -> Bool) : Bool :=
 match p with
 | .va (.c (.own k off)) => match lookB h k with
   | .cells cs => match takeN (cs.drop off) sz with
     | some r => K r
     | none => false
   | .fz cs => match takeN (cs.drop off) sz with
     | some r => K (r.map .d)
     | none => false
   | _ => false
 | .va (.c (.ep k z i off)) => match lookB h k with
   | .row z' n f => Nat.beq z' z && (Nat.blt i n && (match takeN ((f i).drop off) sz with
     | some r => K (r.map .d)
     | none => false))
   | .fzr z' n f => Nat.beq z' z && (Nat.blt i n && (match takeN ((f i).drop off) sz with
     | some r => K (r.map .d)
     | none => false))
   | _ => false
 | .va (.c (.rp cs)) => match takeN cs sz with
   | some r => K (r.map .d)
   | none => false
 | .va (.c (.ap k base n i)) => match lookB h k, Nat.beq sz 1 with
   | .cells cs, true => match takeN (cs.drop base) n with
     | some r => match intsOf r with
       | some (kd, ns) => Nat.blt i n && K [.d (.v (.int kd (selI ns i)))]
       | none => false
     | none => false
   | _, _ => false
 | _ => false
theorem loadAtB_ok {h : List (Nat × Blk)} {p : Tm} {sz : Nat} {K : List Cell -> Bool} {K' : List Cell -> Prop} (hK : ∀ s, K s = true -> K' s) (e : loadAtB h p sz K = true) : loadAt h p sz K' := by
 unfold loadAtB at e; unfold loadAt
 (repeat' split at e) <;> first | (exact absurd e Bool.false_ne_true) | exact hK _ e | (simp only [*]; done) | (simp only [Bool.and_eq_true, decide_eq_true_eq, Nat.beq_eq, Nat.ble_eq, Nat.blt_eq, Bool.false_eq_true, and_false, false_and] at e; done) | (simp only [*]; exact hK _ e) | (simp only [*]; simp only [Bool.and_eq_true, decide_eq_true_eq, Nat.beq_eq, Nat.ble_eq, Nat.blt_eq, Bool.false_eq_true, and_false, false_and] at e; first | exact ⟨e.1, hK _ e.2⟩ | exact ⟨e.1, fun _ => hK _ e.2⟩ | exact ⟨e.1, e.2.1, fun _ _ => hK _ e.2.2⟩) | (simp_all; done)
section
variable (P : Program) (τ : Tys)
def oAllocB (st : St) (dst : Option Tmp) (e : TypeId) (K : St -> Bool) : Bool :=
 match τ e with
 | some ⟨_, _, _, z⟩ => newKB st dst (zeroCells' z) K
 | none => false
def oBoxB (st : St) (dst : Option Tmp) (x : Tm) (K : St -> Bool) : Bool :=
 match x with
 | .va y => match y.lays with
   | true => newKB st dst y.cells K
   | false => false
 | _ => false
def oLoadB (h : List (Nat × Blk)) (t : TypeId) (p : Tm) (K : Tm -> Bool) : Bool :=
 match τ t with
 | some ⟨desc, size, _, _⟩ => loadAtB h p size fun cs => match mkVa (wantAgg desc) cs with
   | some y => K (.va y)
   | none => false
 | none => false
def oStoreB (st : St) (dst : Option Tmp) (t : TypeId) (p x : Tm) (K : St -> Bool) : Bool :=
 match τ t with
 | some ⟨_, size, _, _⟩ => match x, p, st with
   | .va y, .va (.c (.own k off)), ⟨ts, h, n, m⟩ => match y.lays, lookB h k, Nat.beq y.cells.length size with
     | true, .cells cs, true => match setAt cs off y.cells with
       | some cs => fCs cs fun cs => putKB ⟨ts, (k, .cells cs) :: h, n, m⟩ dst undT K
       | none => false
     | _, _, _ => false
   | .va y, .va (.c (.ep k z i off)), ⟨ts, h, n, m⟩ => frCells h y.cells fun h => match y.lays, lookB h k, Nat.beq y.cells.length size with
     | true, .row z' len f, true => closeCellsB h y.cells fun ds => Nat.beq z' z && (Nat.blt i len && (match setAt (f i) off ds with
       | some r => fDs r fun r => putKB ⟨ts, (k, .row z len (setRow f i r)) :: h, n, m⟩ dst undT K
       | none => false))
     | _, _, _ => false
   | .va y, .va (.c (.ap k base ln i)), ⟨ts, h, n, m⟩ => match plainVa y, lookB h k, Nat.beq size 1 with
     | some (.int kd v), .cells cs, true => match takeN (cs.drop base) ln with
       | some r => match intsOf r with
         | some (kd', ns) => match decide (kd' = kd) with
           | true => match setAt cs base (updI kd i v 0 ns) with
             | some cs => fCs cs fun cs => Nat.blt i ln && putKB ⟨ts, (k, .cells cs) :: h, n, m⟩ dst undT K
             | none => false
           | false => false
         | none => false
       | none => false
     | _, _, _ => false
   | _, _, _ => false
 | none => false
def oFieldAddrB (s : TypeId) (p : Tm) (f : Nat) (K : Tm -> Bool) : Bool :=
 match τ s with
 | some ⟨.struct fs, _, _, _⟩ => match fs[f]? with
   | some ⟨_, ty, off', _, _, _, _⟩ => match τ ty with
     | some ⟨_, _ + 1, _, _⟩ => match p with
       | .va (.c (.own k off)) => K (.va (.c (.own k (off + off'))))
       | .va (.c (.ep k sz i off)) => K (.va (.c (.ep k sz i (off + off'))))
       | .va (.c (.rp cs)) => fDs (cs.drop off') fun cs => K (.va (.c (.rp cs)))
       | _ => false
     | _ => false
   | none => false
 | _ => false
def oBuildB (evf : Operand -> Tm) (t : TypeId) (parts : List (Nat × Operand)) (K : Tm -> Bool) : Bool :=
 match τ t with
 | some ⟨.struct fs, _, _, z⟩ => match fs.toList.all (fun f => (τ f.type).isSome), fillCells τ fs evf parts (zeroCells' z) with
   | true, some cs => K (.va (.agg cs))
   | _, _ => false
 | some ⟨.array _ e, _, _, z⟩ => match τ e with
   | some ⟨_, sz, _, _⟩ => match fillRow sz evf parts (zeroCells' z) with
     | some cs => K (.va (.agg cs))
     | none => false
   | none => false
 | _ => false
def oIndexAddrB (t : TypeId) (x ix : Tm) (K : Tm -> Bool) : Bool :=
 match τ t with
 | some ⟨.array len e, _, _, _⟩ => match τ e with
   | some ⟨de, sz, _, _⟩ => match x, plain ix with
     | .va (.c (.own k off)), some (.int _ i) => match isIntT de && Nat.beq sz 1 with
       | true => decide (0 <= i /\ i < len) && K (.va (.c (.ap k off len i.toNat)))
       | false => decide (0 <= i /\ i < len) && K (.va (.c (.own k (off + i.toNat * sz))))
     | _, _ => false
   | none => false
 | some ⟨.slice e, _, _, _⟩ => match τ e with
   | some ⟨_, sz, _, _⟩ => match x, plain ix with
     | .va (.c (.d (.lst z n f))), some (.int _ i) => Nat.beq z sz && (decide (0 <= i /\ i < n) && K (.va (.c (.rp (f i.toNat)))))
     | .va (.c (.osl k z b n)), some (.int _ i) => Nat.beq z sz && (decide (0 <= i /\ i < n) && K (.va (.c (.ep k z (b + i.toNat) 0))))
     | _, _ => false
   | none => false
 | _ => false
def oFieldB (t : TypeId) (x : Tm) (f : Nat) (K : Tm -> Bool) : Bool :=
 match τ t, x with
 | some ⟨.struct fs, _, _, _⟩, .va (.agg cs) => match fs[f]? with
   | some ⟨_, ty, off, _, _, _, _⟩ => match τ ty with
     | some ⟨desc, size, _, _⟩ => match takeN (cs.drop off) size with
       | some cs => match mkVa (wantAgg desc) cs with
         | some y => K (.va y)
         | none => false
       | none => false
     | none => false
   | none => false
 | _, _ => false
def oPureB (r : Option Value) (K : Tm -> Bool) : Bool :=
 match r with
 | some (.bool b) => K (vx (.bool b))
 | some (.int k n) => K (vx (.int k n))
 | some (.string s) => K (vx (.string s))
 | some (.iface t (.int k a)) => K (vx (.iface t (.int k a)))
 | some (.iface t (.string s)) => K (vx (.iface t (.string s)))
 | some .nilIface => K (vx .nilIface)
 | _ => false
def oEqB (op : BinOp) (t : TypeId) (xs ys : List Cell) (K : Tm -> Bool) : Bool :=
 match cmpT τ t, mapO plainCell xs, mapO plainCell ys with
 | true, some xs, some ys => match eqAt τ 50 t xs ys, op with
   | some b, .eql => K (vx (.bool b))
   | some b, .neq => K (vx (.bool (!b)))
   | _, _ => false
 | _, _, _ => false
def oBinB (evf : Operand -> Tm) (op : BinOp) (t : TypeId) (xo yo : Operand) (K : Tm -> Bool) : Bool :=
 match plain (evf xo), plain (evf yo) with
 | some (.int k a), some (.int k' b) => match op with
   | .quo => decide (k = k') && (decide (b ≠ 0) && K (vx (.int k (k.wrap (a.tdiv b)))))
   | .rem => decide (k = k') && (decide (b ≠ 0) && K (vx (.int k (a.tmod b))))
   | op => oPureB (pureRun P (do eqGuard op t xo yo (.int k a) (.int k' b); binOp op t (.int k a) (.int k' b))) K
 | some (.string a), some (.string b) => match op with
   | .add => decide (((a.size + b.size : Nat) : Int) <= IntKind.i64.max) && K (vx (.string (a ++ b)))
   | op => oPureB (pureRun P (do eqGuard op t xo yo (.string a) (.string b); binOp op t (.string a) (.string b))) K
 | some a, some b => oPureB (pureRun P (do eqGuard op t xo yo a b; binOp op t a b)) K
 | _, _ => false
def oPtrB (op : BinOp) (t : TypeId) (K : Tm -> Bool) : Bool :=
 match τ t with
 | some ⟨.pointer _, _, _, _⟩ => match op with
   | .eql => K (.va (.c (.kb false)))
   | .neq => K (.va (.c (.kb true)))
   | _ => false
 | _ => false
def oLenB (ts : Array TypeId) (ty : TypeId) (aL : Option (List Va)) (K : Tm -> Bool) : Bool :=
 match ts[0]? with
 | some t => match τ t with
   | some ⟨.slice _, _, _, _⟩ => match aL with
     | some [.c (.d (.lst _ n _))] => K (vx (.int .i64 n))
     | some [.c (.osl _ _ _ n)] => K (vx (.int .i64 n))
     | some [.c (.osc _ _ _ n _)] => K (vx (.int .i64 n))
     | some [.c (.d (.v (.slice none n _)))] => K (vx (.int .i64 n))
     | _ => false
   | some _ => match aL with
     | some [.c (.d (.v x))] => oPureB (pureRun P (Builtin.len_ ts ty #[x])) K
     | _ => false
   | none => false
 | none => false
def oCapB (ts : Array TypeId) (ty : TypeId) (aL : Option (List Va)) (K : Tm -> Bool) : Bool :=
 match aL with
 | some [.c (.osc _ _ _ _ c)] => match ts[0]? with
   | some t => match τ t with
     | some ⟨.slice _, _, _, _⟩ => K (vx (.int .i64 c))
     | _ => false
   | none => false
 | some [.c (.d (.v x))] => oPureB (pureRun P (Builtin.cap_ ts ty #[x])) K
 | _ => false
def natOB (o : Option Tm) (d : Int) (k : Int -> Bool) : Bool := match o with
 | none => k d
 | some x => match plain x with
   | some (.int _ i) => k i
   | _ => false
def oSliceB (t : TypeId) (x : Tm) (lo hi mx : Option Tm) (K : Tm -> Bool) : Bool :=
 match τ t with
 | some ⟨.string, _, _, _⟩ => match x, mx with
   | .va (.c (.d (.v (.string s)))), none => natOB lo 0 fun l => natOB hi s.size fun h => decide ((0 <= l /\ l <= h) /\ h <= s.size) && K (vx (.string (s.extract l.toNat h.toNat)))
   | _, _ => false
 | some ⟨.slice e, _, _, _⟩ => match τ e with
   | some ⟨_, sz, _, _⟩ => match x with
     | .va (.c (.d (.lst z n f))) => natOB lo 0 fun l => natOB hi n fun h => natOB mx n fun m => decide (z = sz /\ (0 <= l /\ l <= h) /\ (h <= m /\ m <= n)) && K (.va (.c (.d (.lst z (h - l).toNat fun i => f (l.toNat + i)))))
     | .va (.c (.osl k z o n)) => natOB lo 0 fun l => natOB hi n fun h => natOB mx n fun m => decide (z = sz /\ (0 <= l /\ l <= h) /\ (h <= m /\ m <= n)) && K (.va (.c (.osl k z (o + l.toNat) (h - l).toNat)))
     | .va (.c (.d (.v (.slice none 0 0)))) => natOB lo 0 fun l => natOB hi 0 fun h => natOB mx 0 fun m => decide (l = 0 /\ h = 0 /\ m = 0) && K (.va (.c (.d (.v (.slice none 0 0)))))
     | _ => false
   | none => false
 | _ => false
def oIndexB (t : TypeId) (x ix : Tm) (K : Tm -> Bool) : Bool :=
 match τ t with
 | some ⟨.string, _, _, _⟩ => match x, plain ix with
   | .va (.c (.d (.v (.string s)))), some (.int _ i) => decide (0 <= i /\ i < s.size) && K (vx (.int .u8 (byteAt s i.toNat)))
   | _, _ => false
 | some ⟨.array len e, _, _, _⟩ => match τ e with
   | some ⟨de, sz, _, _⟩ => match x, plain ix with
     | .va (.agg cs), some (.int _ i) => decide (0 <= i /\ i < len) && (match takeN (cs.drop (i.toNat * sz)) sz with
       | some cs => match mkVa (wantAgg de) cs with
         | some y => K (.va y)
         | none => false
       | none => false)
     | _, _ => false
   | none => false
 | _ => false
def sureKB (x : Tm) (K : Tm -> Bool) : Bool := match x with
 | .va (.c (.own a b)) => K (.va (.c (.own a b)))
 | .va (.c (.ep a b c d)) => K (.va (.c (.ep a b c d)))
 | .va (.c (.rp cs)) => K (.va (.c (.rp cs)))
 | .va (.c (.fn a b)) => K (.va (.c (.fn a b)))
 | _ => false
def vOp2B (op : Op) (evf : Operand -> Tm) (K : Tm -> Bool) : Bool :=
 match op with
 | .slice t x lo hi mx => match !mx.isSome || hi.isSome with
   | true => oSliceB τ t (evf x) (lo.map evf) (hi.map evf) (mx.map evf) K
   | false => false
 | .index t x ix => oIndexB τ t (evf x) (evf ix) K
 | .nilCheck x => sureKB (evf x) K
 | .makeFunc (.func f) first caps => match first.toList, ownCaps (caps.toList.map evf) with
   | [], some ps => K (.va (.c (.fn f ps)))
   | _, _ => false
 | .makeInterface t x => match plain (evf x) with
   | some a => oPureB (pureRun P (Instr.makeInterface t a)) K
   | _ => false
 | _ => false
def findKB (kt : TypeId) (xs : List Value) : List (List Value × Va) -> Nat -> (Option (Nat × List Value × Va) -> Bool) -> Bool
 | [], _, K => K none
 | (ys, v) :: es, i, K => match one1 ys == one1 xs, eqAt τ 50 kt xs ys with
   | true, some b => match b with
     | true => K (some (i, ys, v))
     | false => findKB kt xs es (i + 1) K
   | _, _ => false
def oLookupB (h : List (Nat × Blk)) (t : TypeId) (m k : Tm) (ok : Bool) (K : Tm -> Bool) : Bool :=
 match τ t, m with
 | some ⟨.map kt et, _, _, _⟩, .va (.c (.mp b)) => match keyOf τ kt k, lookB h b, τ et with
   | some xs, .map es _, some ⟨_, _, _, z⟩ => findKB τ kt xs es 0 fun r => match r with
     | some (_, _, v) => K (okTm ok v true)
     | none => K (okTm ok (zeroVa z) false)
   | _, _, _ => false
 | _, _ => false
def oMakeMapB (st : St) (dst : Option Tmp) (K : St -> Bool) : Bool :=
 match st with
 | ⟨ts, h, n, m⟩ => putKB ⟨ts, (n, .map [] [0]) :: h, n + 1, m⟩ dst (.va (.c (.mp n))) K
def fNs {α : Type} : List Nat -> (List Nat -> α) -> α
 | [], k => k []
 | x :: xs, k => fNs xs fun xs => k (x :: xs)
theorem fNs_eq {α : Type} : ∀ (l : List Nat) (k : List Nat -> α), fNs l k = k l
 | [], _ => rfl
 | x :: xs, k => by simp only [fNs, fNs_eq xs]
def vlEq : List Value -> List Value -> Bool
 | [], [] => true
 | .int k a :: xs, .int k' b :: ys => decide (k = k') && (decide (a = b) && vlEq xs ys)
 | .bool a :: xs, .bool b :: ys => (a == b) && vlEq xs ys
 | .string a :: xs, .string b :: ys => (a.data.toList == b.data.toList) && vlEq xs ys
 | _, _ => false
theorem vlEq_ok : ∀ {xs ys : List Value}, vlEq xs ys = true -> xs = ys
 | [], [], _ => rfl
 | [], _ :: _, h => by simp [vlEq] at h
 | x :: xs, [], h => by cases x <;> simp [vlEq] at h
 | x :: xs, y :: ys, h => by
   unfold vlEq at h
   split at h
   . rename_i e _; cases e
   . rename_i e1 e2
     cases e1; cases e2
     obtain ⟨h1, h2⟩ := bAnd h
     obtain ⟨h2, h3⟩ := bAnd h2
     rw [of_decide_eq_true h1, of_decide_eq_true h2, vlEq_ok h3]
   . rename_i e1 e2
     cases e1; cases e2
     obtain ⟨h1, h2⟩ := bAnd h
     rw [beq_iff_eq.1 h1, vlEq_ok h2]
   . rename_i a xs b ys e1 e2
     cases e1; cases e2
     obtain ⟨h1, h2⟩ := bAnd h
     have e : a = b := by
      obtain ⟨a⟩ := a; obtain ⟨b⟩ := b
      have h1 : a.toList = b.toList := beq_iff_eq.1 h1
      rw [Array.toList_inj.1 h1]
     rw [e, vlEq_ok h2]
   . cases h
def oMapUpdB (st : St) (dst : Option Tmp) (t : TypeId) (m k x : Tm) (K : St -> Bool) : Bool :=
 match τ t, m, st with
 | some ⟨.map kt _, _, _, _⟩, .va (.c (.mp b)), ⟨ts, h, n, l⟩ => match keyOf τ kt k, lookB h b, x with
   | some xs, .map es bc, .va v => findKB τ kt xs es 0 fun r => match r with
     | some (i, ys, _) => vlEq ys xs && fEs (setE es i (xs, v)) fun es => putKB ⟨ts, (b, .map es bc) :: h, n, l⟩ dst undT K
     | none => fEs (es ++ [(xs, v)]) fun es => fNs (bcNew bc) fun bc => putKB ⟨ts, (b, .map es bc) :: h, n, l⟩ dst undT K
   | _, _, _ => false
 | _, _, _ => false
def oMapEntryB (st : St) (dst : Option Tmp) (t : TypeId) (m k : Tm) (K : St -> Bool) : Bool :=
 match τ t, m, st with
 | some ⟨.map kt et, _, _, _⟩, .va (.c (.mp b)), ⟨ts, h, n, l⟩ => match keyOf τ kt k, lookB h b, τ et with
   | some xs, .map es bc, some ⟨_, _, _, z⟩ => findKB τ kt xs es 0 fun r => match r with
     | some (i, ys, v) => vlEq ys xs && putKB ⟨ts, (b, .map es bc) :: h, n, l⟩ dst (.tup [v, .c (.d (.v (.int .i64 (bcAt bc i))))]) K
     | none => fEs (es ++ [(xs, zeroVa z)]) fun es => fNs (bcNew bc) fun bc' => putKB ⟨ts, (b, .map es bc') :: h, n, l⟩ dst (.tup [zeroVa z, .c (.d (.v (.int .i64 (bcClock bc))))]) K
   | _, _, _ => false
 | _, _, _ => false
def oEntryStoreB (st : St) (dst : Option Tmp) (m s x : Tm) (K : St -> Bool) : Bool :=
 match m, plain s, x, st with
 | .va (.c (.mp b)), some (.int _ s), .va v, ⟨ts, h, n, l⟩ => match lookB h b with
   | .map es (c :: bs) => match idxI s bs 0 with
     | some i => fEs (setV es i v) fun es => putKB ⟨ts, (b, .map es (c :: bs)) :: h, n, l⟩ dst undT K
     | none => false
   | _ => false
 | _, _, _, _ => false
def oDeleteB (st : St) (dst : Option Tmp) (ts : List TypeId) (aL : Option (List Va)) (K : St -> Bool) : Bool :=
 match ts, aL, st with
 | t :: _, some [.c (.mp b), k], ⟨tms, h, n, l⟩ => match τ t with
   | some ⟨.map kt _, _, _, _⟩ => match keyOf τ kt (.va k), lookB h b with
     | some xs, .map es bc => findKB τ kt xs es 0 fun r => match r with
       | some (i, _, _) => fEs (delE es i) fun es => fNs (bcDel bc i) fun bc => putKB ⟨tms, (b, .map es bc) :: h, n, l⟩ dst (.tup []) K
       | none => putKB ⟨tms, (b, .map es bc) :: h, n, l⟩ dst (.tup []) K
     | _, _ => false
   | _ => false
 | _, _, _ => false
def vOpB (op : Op) (ty : TypeId) (evf : Operand -> Tm) (h : List (Nat × Blk)) (K : Tm -> Bool) : Bool :=
 match op with
 | .move x => K (evf x)
 | .assign x => K (evf x)
 | .pick c a b => match evf c with
   | .va (.c (.kb true)) => K (evf a)
   | .va (.c (.kb false)) => K (evf b)
   | _ => false
 | .load t a => oLoadB τ h t (evf a) K
 | .fieldAddr s a f => oFieldAddrB τ s (evf a) f K
 | .build t parts => oBuildB τ evf t parts.toList K
 | .indexAddr t x ix => oIndexAddrB τ t (evf x) (evf ix) K
 | .field t x f => oFieldB τ t (evf x) f K
 | .binOp op t x y _ => match evf x, evf y with
   | .va (.agg xs), .va (.agg ys) => oEqB τ op t xs ys K
   | .va (.c (.own _ _)), .va (.c (.d (.v (.pointer none)))) => oPtrB τ op t K
   | _, _ => oBinB P evf op t x y K
 | .unOp op _ x => match plain (evf x) with
   | some a => oPureB (pureRun P (Op.unary op a)) K
   | _ => false
 | .convert s t x => match plain (evf x) with
   | some a => oPureB (pureRun P (convert s t a)) K
   | _ => false
 | .lookup t x ix ok => oLookupB τ h t (evf x) (evf ix) ok K
 | .extract t i => match evf t with
   | .tup xs => match xs[i]? with
     | some y => K (.va y)
     | none => false
   | _ => false
 | .call c => match c.callee with
   | .builtin .len => oLenB P τ c.argTypes ty (mapO (fun x => asVa (evf x)) c.args.toList) K
   | .builtin .min => match mapO (fun x => plain (evf x)) c.args.toList with
     | some aL => oPureB (pureRun P (Builtin.min_ c.argTypes ty aL.toArray)) K
     | none => false
   | .builtin .max => match mapO (fun x => plain (evf x)) c.args.toList with
     | some aL => oPureB (pureRun P (Builtin.max_ c.argTypes ty aL.toArray)) K
     | none => false
   | .builtin .cap => oCapB P τ c.argTypes ty (mapO (fun x => asVa (evf x)) c.args.toList) K
   | _ => false
 | op => vOp2B P τ op evf K
def oBuildSliceB (st : St) (dst : Option Tmp) (t : TypeId) (len : Nat) (parts : List (Nat × Operand)) (K : St -> Bool) : Bool :=
 match τ t with
 | some ⟨.slice e, _, _, _⟩ => match τ e with
   | some ⟨_, sz, _, z⟩ => match fillRow sz (ev st) parts (zeroRow (zeroCells' z) (len * sz)), st with
     | some cs, ⟨ts, h, n, m⟩ => frCells h cs fun h => match Nat.ble (len * sz) 16777216, Nat.beq (zeroCells' z).length sz, Nat.blt 0 sz with
       | true, true, true => closeCellsB h cs fun ds => fDs ds fun ds => newRowKB ⟨ts, h, n, m⟩ dst sz len (rowAt sz ds) K
       | _, _, _ => false
     | none, _ => false
   | none => false
 | _ => false
def newsOfB (h : List (Nat × Blk)) (k0 : Option Nat) (sz : Nat) (x : Va) (K : Nat -> (Nat -> List DV) -> Bool) : Bool :=
 match x with
 | .c (.d (.lst z n g)) => Nat.beq z sz && K n g
 | .c (.d (.v (.slice none 0 0))) => K 0 (fun _ => [])
 | .c (.osl k z o len) => match lookB h k, k0 with
   | .row z' n g, some k0 => match Nat.beq k k0, Nat.beq z' sz with
     | false, true => (Nat.beq z sz && Nat.ble (o + len) n) && K len fun i => g (o + i)
     | _, _ => false
   | .row z' n g, none => match Nat.beq z' sz with
     | true => (Nat.beq z sz && Nat.ble (o + len) n) && K len fun i => g (o + i)
     | _ => false
   | .fzr z' n g, _ => match Nat.beq z' sz with
     | true => (Nat.beq z sz && Nat.ble (o + len) n) && K len fun i => g (o + i)
     | _ => false
   | _, _ => false
 | _ => false
def oAppendB (st : St) (dst : Option Tmp) (ts : List TypeId) (aL : Option (List Va)) (K : St -> Bool) : Bool :=
 match ts, aL, st with
 | [t, u], some [s, x], ⟨tms, h, n, m⟩ => match τ t, τ u with
   | some ⟨.slice e, _, _, _⟩, some ⟨.slice _, _, _, _⟩ => match τ e with
     | some ⟨_, sz, ⟨by', _⟩, z⟩ => match Nat.beq (zeroCells' z).length sz, Nat.blt 0 sz, Nat.blt 0 by' with
       | true, true, true => match s with
         | .c (.d (.v (.slice none 0 0))) => newsOfB h none sz x fun q g => Nat.ble (q * by') 140737488355328 && putKB ⟨tms, (n, .row sz q g) :: h, n + 1, m⟩ dst (.va (.c (.osl n sz 0 q))) K
         | .c (.osl k z o len) => match lookB h k, Nat.beq o 0 with
           | .row z' ln f, true => match Nat.beq z' sz with
             | true => (Nat.beq z sz && Nat.ble len ln) && newsOfB h (some k) sz x fun q g => Nat.ble ((len + q) * by') 140737488355328 &&
               putKB ⟨tms, (n, .row sz (len + q) (appRow len f g)) :: (k, .gone) :: h, n + 1, m⟩ dst (.va (.c (.osl n sz 0 (len + q)))) K
             | false => false
           | _, _ => false
         | _ => false
       | _, _, _ => false
     | none => false
   | _, _ => false
 | _, _, _ => false
def oAppNilB (st : St) (dst : Option Tmp) (ts : List TypeId) (K : St -> Bool) : Bool :=
 match ts with
 | [t, u] => match τ t, τ u with
   | some ⟨.slice e, _, _, _⟩, some ⟨.slice _, _, _, _⟩ => match τ e with
     | some _ => putKB st dst (vx (.slice none 0 0)) K
     | none => false
   | _, _ => false
 | _ => false
def nilB (x : Tm) (K : Bool -> Bool) : Bool := match x with
 | .va (.c (.d (.lst _ n _))) => match n with
   | 0 => K true && K false
   | _ + 1 => K false
 | .va (.c (.osl _ _ _ n)) => match n with
   | 0 => K true && K false
   | _ + 1 => K false
 | .va (.c (.d (.v (.slice none 0 0)))) => K true
 | _ => false
def oNilB (st : St) (dst : Option Tmp) (op : BinOp) (t : TypeId) (x : Tm) (K : St -> Bool) : Bool :=
 match τ t, op with
 | some ⟨.slice _, _, _, _⟩, .eql => nilB x fun b => putKB st dst (vx (.bool b)) K
 | some ⟨.slice _, _, _, _⟩, .neq => nilB x fun b => putKB st dst (vx (.bool (!b))) K
 | _, _ => false
def oRangeB (st : St) (dst : Option Tmp) (t : TypeId) (x : Tm) (K : St -> Bool) : Bool :=
 match τ t, x, st with
 | some ⟨.string, _, _, _⟩, .va (.c (.d (.v (.string s)))), ⟨ts, h, n, m⟩ => putKB ⟨ts, (n, .it s 0) :: h, n + 1, m⟩ dst (.va (.c (.own n 0))) K
 | _, _, _ => false
def oNextB (st : St) (dst : Option Tmp) (it : Tm) (b : Bool) (K : St -> Bool) : Bool :=
 match it, b, st with
 | .va (.c (.own k off)), true, ⟨ts, h, n, m⟩ => match Nat.beq off 0, lookB h k with
   | true, .it s p => match Nat.blt p s.size with
     | true => putKB ⟨ts, (k, .it s (p + (Utf8.decode s p).2)) :: h, n, m⟩ dst (.tup [.c (.kb true), .c (.d (.v (.int .i64 p))), .c (.d (.v (.int .i32 (Utf8.decode s p).1)))]) K
     | false => putKB ⟨ts, h, n, m⟩ dst (.tup [.c (.kb false)]) K
   | _, _ => false
 | _, _, _ => false
def oBoundB (st : St) (dst : Option Tmp) (f : Nat) (x : Tm) (K : St -> Bool) : Bool := match x with
 | .va (.c (.own k off)) => putKB st dst (.va (.c (.fb f k off))) K
 | _ => false
def oMakeSliceB (st : St) (dst : Option Tmp) (t : TypeId) (l c : Tm) (K : St -> Bool) : Bool :=
 match τ t, plain l, plain c with
 | some ⟨.slice e, _, _, _⟩, some (.int _ l), some (.int _ c) => match τ e with
   | some ⟨_, sz, ⟨by', _⟩, z⟩ => match decide (0 <= l /\ l <= c /\ c * by' <= 281474976710656 /\ c <= 16777216), Nat.beq (zeroCells' z).length sz, Nat.blt 0 sz with
     | true, true, true => closeCellsB st.heap (zeroRow (zeroCells' z) (c.toNat * sz)) fun ds => fDs ds fun ds => newRowKB st dst sz l.toNat (rowAt sz ds) K
     | _, _, _ => false
   | none => false
 | _, _, _ => false
def vcOpB (calls : Nat -> List Va -> St -> (Tm -> St -> Bool) -> Bool) (o : Oper) (st : St) (K : St -> Bool) : Bool :=
 match o.op with
 | .pick c a b =>
   match c with
   | .tmp s => onBoolB st s fun st t => match t with
     | some true => putKB st o.dst (ev st a) K
     | some false => putKB st o.dst (ev st b) K
     | none => false
   | _ => false
 | .alloc e => oAllocB τ st o.dst e K
 | .box _ x => oBoxB st o.dst (ev st x) K
 | .store t a x => oStoreB τ st o.dst t (ev st a) (ev st x) K
 | .buildSlice t len parts => oBuildSliceB τ st o.dst t len parts.toList K
 | .range t x => oRangeB τ st o.dst t (ev st x) K
 | .convert s t x => match isSliceT τ t with
   | true => false
   | false => vOpB P τ (.convert s t x) o.type (ev st) st.heap fun x => putKB st o.dst x K
 | .next it b => oNextB st o.dst (ev st it) b K
 | .makeMap _ none => oMakeMapB st o.dst K
 | .makeFunc (.func f) ⟨[x]⟩ ⟨[]⟩ => oBoundB st o.dst f (ev st x) K
 | .mapEntry t m k => oMapEntryB τ st o.dst t (ev st m) (ev st k) K
 | .makeSlice t l c => oMakeSliceB τ st o.dst t (ev st l) (ev st c) K
 | .entryStore _ m s x => oEntryStoreB st o.dst (ev st m) (ev st s) (ev st x) K
 | .mapUpdate t m k x => oMapUpdB τ st o.dst t (ev st m) (ev st k) (ev st x) K
 | .call c => match c.callee with
   | .value f => match fnOf (ev st f), mapO (fun x => asVa (ev st x)) c.args.toList with
     | .va (.c (.fn f caps)), some aL => fVas (aL ++ caps.map fun p => .c (.own p.1 p.2)) fun aL => calls f aL st fun r st => putKB st o.dst r K
     | .va (.c (.fb g k off)), some aL => fVas (.c (.own k off) :: aL) fun aL => calls g aL st fun r st => putKB st o.dst r K
     | _, _ => false
   | .builtin .append => match mapO (fun x => asVa (ev st x)) c.args.toList with
     | some [.c (.osc k z o' len cap), .c (.d (.v (.int .i64 q)))] => false
     | some aL => match emptyApp aL with
       | true => oAppNilB τ st o.dst c.argTypes.toList K
       | false => oAppendB τ st o.dst c.argTypes.toList (some (aL.map unC)) K
     | none => false
   | .builtin .copy => false
   | .builtin .delete => oDeleteB τ st o.dst c.argTypes.toList (mapO (fun x => asVa (ev st x)) c.args.toList) K
   | .builtin .clear => false
   | _ => vOpB P τ (.call c) o.type (ev st) st.heap fun x => putKB st o.dst x K
 | .binOp op t x y ty => match isNilC y with
   | true => oNilB τ st o.dst op t (ev st x) K
   | false => vOpB P τ (.binOp op t x y ty) o.type (ev st) st.heap fun x => putKB st o.dst x K
 | op => vOpB P τ op o.type (ev st) st.heap fun x => putKB st o.dst x K
noncomputable def vcOpsB (calls : Nat -> List Va -> St -> (Tm -> St -> Bool) -> Bool) (all : List Oper) (l : List Oper) : St -> (St -> Bool) -> Bool :=
 List.rec (motive := fun _ => St -> (St -> Bool) -> Bool) (fun st K => K st) (fun o _ ih st K =>
  match o.guard with
  | none => vcOpB P τ calls o st fun st => ih st K
  | some (j, want) =>
    match dstOf all j with
    | none => false
    | some s => onBoolB st s fun st b =>
      match b == some want with
      | true => vcOpB P τ calls o st fun st => ih st K
      | false => putKB st o.dst undT fun st => ih st K) l
end
section
variable {P : Program} {τ : Tys}
theorem newKB_ok {st : St} {dst : Option Tmp} {cs : List Cell} {K : St -> Bool} {K' : St -> Prop} (hK : ∀ s, K s = true -> K' s) (h : newKB st dst cs K = true) : newK st dst cs K' := by
 unfold newKB at h; unfold newK
 (repeat' split at h) <;> first | (exact absurd h Bool.false_ne_true) | (simp only [Bool.and_eq_true, decide_eq_true_eq, Nat.beq_eq, Nat.ble_eq, Nat.blt_eq, Bool.false_eq_true, and_false, false_and] at h; done) | (simp only [*]; (rw [fCs_eq] at h ⊢; exact putKB_ok hK h)) | (rw [fCs_eq] at h ⊢; exact putKB_ok hK h) | (simp only [Bool.and_eq_true, decide_eq_true_eq, Nat.beq_eq, Nat.ble_eq, Nat.blt_eq, Bool.false_eq_true, and_false, false_and] at h; simp only [*]; (rw [fCs_eq] at h ⊢; exact putKB_ok hK h)) | (simp only [*]; done) | (simp_all; done)
theorem newRowKB_ok {st : St} {dst : Option Tmp} {sz len : Nat} {f : Nat -> List DV} {K : St -> Bool} {K' : St -> Prop} (hK : ∀ s, K s = true -> K' s) (h : newRowKB st dst sz len f K = true) : newRowK st dst sz len f K' := by
 unfold newRowKB at h; unfold newRowK
 (repeat' split at h) <;> first | (exact absurd h Bool.false_ne_true) | (simp only [Bool.and_eq_true, decide_eq_true_eq, Nat.beq_eq, Nat.ble_eq, Nat.blt_eq, Bool.false_eq_true, and_false, false_and] at h; done) | (simp only [*]; exact putKB_ok hK h) | exact putKB_ok hK h | (simp only [Bool.and_eq_true, decide_eq_true_eq, Nat.beq_eq, Nat.ble_eq, Nat.blt_eq, Bool.false_eq_true, and_false, false_and] at h; simp only [*]; exact putKB_ok hK h) | (simp only [*]; done) | (simp_all; done)
theorem oAllocB_ok {st : St} {dst : Option Tmp} {e : TypeId} {K : St -> Bool} {K' : St -> Prop} (hK : ∀ s, K s = true -> K' s) (h : oAllocB τ st dst e K = true) : oAlloc τ st dst e K' := by
 unfold oAllocB at h; unfold oAlloc
 (repeat' split at h) <;> first | (exact absurd h Bool.false_ne_true) | (simp only [Bool.and_eq_true, decide_eq_true_eq, Nat.beq_eq, Nat.ble_eq, Nat.blt_eq, Bool.false_eq_true, and_false, false_and] at h; done) | (simp only [*]; exact newKB_ok hK h) | exact newKB_ok hK h | (simp only [Bool.and_eq_true, decide_eq_true_eq, Nat.beq_eq, Nat.ble_eq, Nat.blt_eq, Bool.false_eq_true, and_false, false_and] at h; simp only [*]; exact newKB_ok hK h) | (simp only [*]; done) | (simp_all; done)
theorem oBoxB_ok {st : St} {dst : Option Tmp} {x : Tm} {K : St -> Bool} {K' : St -> Prop} (hK : ∀ s, K s = true -> K' s) (h : oBoxB st dst x K = true) : oBox st dst x K' := by
 unfold oBoxB at h; unfold oBox
 (repeat' split at h) <;> first | (exact absurd h Bool.false_ne_true) | (simp only [Bool.and_eq_true, decide_eq_true_eq, Nat.beq_eq, Nat.ble_eq, Nat.blt_eq, Bool.false_eq_true, and_false, false_and] at h; done) | (simp only [*]; exact newKB_ok hK h) | exact newKB_ok hK h | (simp only [Bool.and_eq_true, decide_eq_true_eq, Nat.beq_eq, Nat.ble_eq, Nat.blt_eq, Bool.false_eq_true, and_false, false_and] at h; simp only [*]; exact newKB_ok hK h) | (simp only [*]; done) | (simp_all; done)
theorem oLoadB_ok {hp : List (Nat × Blk)} {t : TypeId} {p : Tm} {K : Tm -> Bool} {K' : Tm -> Prop} (hK : ∀ s, K s = true -> K' s) (h : oLoadB τ hp t p K = true) : oLoad τ hp t p K' := by
 unfold oLoadB at h; unfold oLoad
 split at h
 . simp only [*]
   refine loadAtB_ok (fun cs h => ?_) h
   (repeat' split at h) <;> first | (exact absurd h Bool.false_ne_true) | (simp only [*])
 . exact absurd h Bool.false_ne_true
theorem oFieldAddrB_ok {s : TypeId} {p : Tm} {f : Nat} {K : Tm -> Bool} {K' : Tm -> Prop} (hK : ∀ s, K s = true -> K' s) (h : oFieldAddrB τ s p f K = true) : oFieldAddr τ s p f K' := by
 unfold oFieldAddrB at h; unfold oFieldAddr
 (repeat' split at h) <;> first | (exact absurd h Bool.false_ne_true) | (simp only [Bool.and_eq_true, decide_eq_true_eq, Nat.beq_eq, Nat.ble_eq, Nat.blt_eq, Bool.false_eq_true, and_false, false_and] at h; done) | (simp only [*]; (try rw [fDs_eq] at h ⊢); exact hK _ h) | (try rw [fDs_eq] at h ⊢); exact hK _ h | (simp only [Bool.and_eq_true, decide_eq_true_eq, Nat.beq_eq, Nat.ble_eq, Nat.blt_eq, Bool.false_eq_true, and_false, false_and] at h; simp only [*]; (try rw [fDs_eq] at h ⊢); exact hK _ h) | (simp only [*]; done) | (simp_all; done)
theorem oBuildB_ok {ev : Operand -> Tm} {t : TypeId} {ps : List (Nat × Operand)} {K : Tm -> Bool} {K' : Tm -> Prop} (hK : ∀ s, K s = true -> K' s) (h : oBuildB τ ev t ps K = true) : oBuild τ ev t ps K' := by
 unfold oBuildB at h; unfold oBuild
 (repeat' split at h) <;> first | (exact absurd h Bool.false_ne_true) | (simp only [Bool.and_eq_true, decide_eq_true_eq, Nat.beq_eq, Nat.ble_eq, Nat.blt_eq, Bool.false_eq_true, and_false, false_and] at h; done) | (simp only [*]; exact hK _ h) | exact hK _ h | (simp only [Bool.and_eq_true, decide_eq_true_eq, Nat.beq_eq, Nat.ble_eq, Nat.blt_eq, Bool.false_eq_true, and_false, false_and] at h; simp only [*]; exact hK _ h) | (simp only [*]; done) | (simp_all; done)
theorem eachAt_ofI {i : Int} {F : Nat -> Prop} {n : Nat} (h : 0 <= i) (hF : F i.toNat) : eachAt i F n := by
 obtain ⟨j, rfl⟩ := Int.eq_ofNat_of_zero_le h
 exact eachAt_of (by simpa using hF)
theorem oIndexAddrB_ok {t : TypeId} {x ix : Tm} {K : Tm -> Bool} {K' : Tm -> Prop} (hK : ∀ s, K s = true -> K' s) (h : oIndexAddrB τ t x ix K = true) : oIndexAddr τ t x ix K' := by
 unfold oIndexAddrB at h; unfold oIndexAddr
 split at h
 . rename_i ht; simp only [ht]
   split at h
   . rename_i hte; simp only [hte]
     split at h
     . rename_i hix; simp only [hix]
       split at h
       . rename_i hc; rw [hc]; obtain ⟨h1, h2⟩ := bAnd h; exact ⟨of_decide_eq_true h1, fun _ _ => hK _ h2⟩
       . rename_i hc; rw [hc]; obtain ⟨h1, h2⟩ := bAnd h; exact ⟨of_decide_eq_true h1, eachAt_ofI (of_decide_eq_true h1).1 (hK _ h2)⟩
     . exact absurd h Bool.false_ne_true
   . exact absurd h Bool.false_ne_true
 . rename_i ht; simp only [ht]
   (repeat' split at h) <;> first | (exact absurd h Bool.false_ne_true) | (simp only [Bool.and_eq_true, decide_eq_true_eq, Nat.beq_eq, Nat.ble_eq, Nat.blt_eq, Bool.false_eq_true, and_false, false_and] at h; obtain ⟨e1, h2, h3⟩ := h; subst e1; simp only [*]; first | exact hK _ h3 | exact ⟨h2, fun _ _ => hK _ h3⟩ | exact ⟨rfl, h2, fun _ _ => hK _ h3⟩ | (simp_all; done)) | (simp only [Bool.and_eq_true, decide_eq_true_eq, Nat.beq_eq, Nat.ble_eq, Nat.blt_eq, Bool.false_eq_true, and_false, false_and] at h; done) | (simp only [*]; exact ⟨h.1, h.2.1, fun _ _ => hK _ h.2.2⟩) | exact ⟨h.1, h.2.1, fun _ _ => hK _ h.2.2⟩ | (simp only [Bool.and_eq_true, decide_eq_true_eq, Nat.beq_eq, Nat.ble_eq, Nat.blt_eq, Bool.false_eq_true, and_false, false_and] at h; simp only [*]; exact ⟨h.1, h.2.1, fun _ _ => hK _ h.2.2⟩) | (simp only [*]; exact ⟨trivial, h.2.1, fun _ _ => hK _ h.2.2⟩) | exact ⟨trivial, h.2.1, fun _ _ => hK _ h.2.2⟩ | (simp only [Bool.and_eq_true, decide_eq_true_eq, Nat.beq_eq, Nat.ble_eq, Nat.blt_eq, Bool.false_eq_true, and_false, false_and] at h; simp only [*]; exact ⟨trivial, h.2.1, fun _ _ => hK _ h.2.2⟩) | (simp only [*]; (obtain ⟨h1, h2, h3⟩ := h; subst h1; exact ⟨rfl, h2, fun _ _ => hK _ h3⟩)) | (obtain ⟨h1, h2, h3⟩ := h; subst h1; exact ⟨rfl, h2, fun _ _ => hK _ h3⟩) | (simp only [Bool.and_eq_true, decide_eq_true_eq, Nat.beq_eq, Nat.ble_eq, Nat.blt_eq, Bool.false_eq_true, and_false, false_and] at h; simp only [*]; (obtain ⟨h1, h2, h3⟩ := h; subst h1; exact ⟨rfl, h2, fun _ _ => hK _ h3⟩)) | (simp only [*]; done) | (simp_all; done)
 . exact absurd h Bool.false_ne_true
theorem oFieldB_ok {t : TypeId} {x : Tm} {f : Nat} {K : Tm -> Bool} {K' : Tm -> Prop} (hK : ∀ s, K s = true -> K' s) (h : oFieldB τ t x f K = true) : oField τ t x f K' := by
 unfold oFieldB at h; unfold oField
 (repeat' split at h) <;> first | (exact absurd h Bool.false_ne_true) | (simp only [Bool.and_eq_true, decide_eq_true_eq, Nat.beq_eq, Nat.ble_eq, Nat.blt_eq, Bool.false_eq_true, and_false, false_and] at h; done) | (simp only [*]; exact hK _ h) | exact hK _ h | (simp only [Bool.and_eq_true, decide_eq_true_eq, Nat.beq_eq, Nat.ble_eq, Nat.blt_eq, Bool.false_eq_true, and_false, false_and] at h; simp only [*]; exact hK _ h) | (simp only [*]; done) | (simp_all; done)
theorem oPureB_ok {r : Option Value} {K : Tm -> Bool} {K' : Tm -> Prop} (hK : ∀ s, K s = true -> K' s) (h : oPureB r K = true) : oPure r K' := by
 unfold oPureB at h; unfold oPure
 (repeat' split at h) <;> first | (exact absurd h Bool.false_ne_true) | (simp only [Bool.and_eq_true, decide_eq_true_eq, Nat.beq_eq, Nat.ble_eq, Nat.blt_eq, Bool.false_eq_true, and_false, false_and] at h; done) | (simp only [*]; exact hK _ h) | exact hK _ h | (simp only [Bool.and_eq_true, decide_eq_true_eq, Nat.beq_eq, Nat.ble_eq, Nat.blt_eq, Bool.false_eq_true, and_false, false_and] at h; simp only [*]; exact hK _ h) | (simp only [*]; done) | (simp_all; done)
theorem oEqB_ok {op : BinOp} {t : TypeId} {xs ys : List Cell} {K : Tm -> Bool} {K' : Tm -> Prop} (hK : ∀ s, K s = true -> K' s) (h : oEqB τ op t xs ys K = true) : oEq τ op t xs ys K' := by
 unfold oEqB at h; unfold oEq
 (repeat' split at h) <;> first | (exact absurd h Bool.false_ne_true) | (simp only [Bool.and_eq_true, decide_eq_true_eq, Nat.beq_eq, Nat.ble_eq, Nat.blt_eq, Bool.false_eq_true, and_false, false_and] at h; done) | (simp only [*]; exact hK _ h) | exact hK _ h | (simp only [Bool.and_eq_true, decide_eq_true_eq, Nat.beq_eq, Nat.ble_eq, Nat.blt_eq, Bool.false_eq_true, and_false, false_and] at h; simp only [*]; exact hK _ h) | (simp only [*]; done) | (simp_all; done)
theorem oBinB_ok {ev : Operand -> Tm} {op : BinOp} {t : TypeId} {x y : Operand} {K : Tm -> Bool} {K' : Tm -> Prop} (hK : ∀ s, K s = true -> K' s) (h : oBinB P ev op t x y K = true) : oBin P ev op t x y K' := by
 unfold oBinB at h; unfold oBin
 (repeat' split at h) <;> first | (exact absurd h Bool.false_ne_true) | (simp only [Bool.and_eq_true, decide_eq_true_eq, Nat.beq_eq, Nat.ble_eq, Nat.blt_eq, Bool.false_eq_true, and_false, false_and] at h; obtain ⟨e1, h2, h3⟩ := h; subst e1; simp only [*]; first | exact hK _ h3 | exact ⟨h2, fun _ _ => hK _ h3⟩ | exact ⟨rfl, h2, fun _ _ => hK _ h3⟩ | (simp_all; done)) | (simp only [Bool.and_eq_true, decide_eq_true_eq, Nat.beq_eq, Nat.ble_eq, Nat.blt_eq, Bool.false_eq_true, and_false, false_and] at h; done) | (simp only [*]; exact oPureB_ok hK h) | exact oPureB_ok hK h | (simp only [Bool.and_eq_true, decide_eq_true_eq, Nat.beq_eq, Nat.ble_eq, Nat.blt_eq, Bool.false_eq_true, and_false, false_and] at h; simp only [*]; exact oPureB_ok hK h) | (simp only [*]; exact ⟨h.1, h.2.1, fun _ _ => hK _ h.2.2⟩) | exact ⟨h.1, h.2.1, fun _ _ => hK _ h.2.2⟩ | (simp only [Bool.and_eq_true, decide_eq_true_eq, Nat.beq_eq, Nat.ble_eq, Nat.blt_eq, Bool.false_eq_true, and_false, false_and] at h; simp only [*]; exact ⟨h.1, h.2.1, fun _ _ => hK _ h.2.2⟩) | (simp only [*]; exact ⟨h.1, hK _ h.2⟩) | exact ⟨h.1, hK _ h.2⟩ | (simp only [Bool.and_eq_true, decide_eq_true_eq, Nat.beq_eq, Nat.ble_eq, Nat.blt_eq, Bool.false_eq_true, and_false, false_and] at h; simp only [*]; exact ⟨h.1, hK _ h.2⟩) | (simp only [*]; done) | (simp_all; done)
theorem oPtrB_ok {op : BinOp} {t : TypeId} {K : Tm -> Bool} {K' : Tm -> Prop} (hK : ∀ s, K s = true -> K' s) (h : oPtrB τ op t K = true) : oPtr τ op t K' := by
 unfold oPtrB at h; unfold oPtr
 (repeat' split at h) <;> first | (exact absurd h Bool.false_ne_true) | (simp only [Bool.and_eq_true, decide_eq_true_eq, Nat.beq_eq, Nat.ble_eq, Nat.blt_eq, Bool.false_eq_true, and_false, false_and] at h; done) | (simp only [*]; exact hK _ h) | exact hK _ h | (simp only [Bool.and_eq_true, decide_eq_true_eq, Nat.beq_eq, Nat.ble_eq, Nat.blt_eq, Bool.false_eq_true, and_false, false_and] at h; simp only [*]; exact hK _ h) | (simp only [*]; done) | (simp_all; done)
theorem oLenB_ok {ts : Array TypeId} {ty : TypeId} {aL : Option (List Va)} {K : Tm -> Bool} {K' : Tm -> Prop} (hK : ∀ s, K s = true -> K' s) (h : oLenB P τ ts ty aL K = true) : oLen P τ ts ty aL K' := by
 unfold oLenB at h; unfold oLen
 (repeat' split at h) <;> first | (exact absurd h Bool.false_ne_true) | (simp only [Bool.and_eq_true, decide_eq_true_eq, Nat.beq_eq, Nat.ble_eq, Nat.blt_eq, Bool.false_eq_true, and_false, false_and] at h; done) | (simp only [*]; exact hK _ h) | exact hK _ h | (simp only [Bool.and_eq_true, decide_eq_true_eq, Nat.beq_eq, Nat.ble_eq, Nat.blt_eq, Bool.false_eq_true, and_false, false_and] at h; simp only [*]; exact hK _ h) | (simp only [*]; exact oPureB_ok hK h) | exact oPureB_ok hK h | (simp only [Bool.and_eq_true, decide_eq_true_eq, Nat.beq_eq, Nat.ble_eq, Nat.blt_eq, Bool.false_eq_true, and_false, false_and] at h; simp only [*]; exact oPureB_ok hK h) | (simp only [*]; done) | (simp_all; done)
theorem oCapB_ok {ts : Array TypeId} {ty : TypeId} {aL : Option (List Va)} {K : Tm -> Bool} {K' : Tm -> Prop} (hK : ∀ s, K s = true -> K' s) (h : oCapB P τ ts ty aL K = true) : oCap P τ ts ty aL K' := by
 unfold oCapB at h; unfold oCap
 (repeat' split at h) <;> first | (exact absurd h Bool.false_ne_true) | (simp only [Bool.and_eq_true, decide_eq_true_eq, Nat.beq_eq, Nat.ble_eq, Nat.blt_eq, Bool.false_eq_true, and_false, false_and] at h; done) | (simp only [*]; exact hK _ h) | exact hK _ h | (simp only [Bool.and_eq_true, decide_eq_true_eq, Nat.beq_eq, Nat.ble_eq, Nat.blt_eq, Bool.false_eq_true, and_false, false_and] at h; simp only [*]; exact hK _ h) | (simp only [*]; exact oPureB_ok hK h) | exact oPureB_ok hK h | (simp only [Bool.and_eq_true, decide_eq_true_eq, Nat.beq_eq, Nat.ble_eq, Nat.blt_eq, Bool.false_eq_true, and_false, false_and] at h; simp only [*]; exact oPureB_ok hK h) | (simp only [*]; done) | (simp_all; done)
theorem natOB_ok {o : Option Tm} {d : Int} {K : Int -> Bool} {K' : Int -> Prop} (hK : ∀ s, K s = true -> K' s) (h : natOB o d K = true) : natO o d K' := by
 unfold natOB at h; unfold natO
 (repeat' split at h) <;> first | (exact absurd h Bool.false_ne_true) | (simp only [Bool.and_eq_true, decide_eq_true_eq, Nat.beq_eq, Nat.ble_eq, Nat.blt_eq, Bool.false_eq_true, and_false, false_and] at h; done) | (simp only [*]; exact hK _ h) | exact hK _ h | (simp only [Bool.and_eq_true, decide_eq_true_eq, Nat.beq_eq, Nat.ble_eq, Nat.blt_eq, Bool.false_eq_true, and_false, false_and] at h; simp only [*]; exact hK _ h) | (simp only [*]; done) | (simp_all; done)
theorem oSliceB_ok {t : TypeId} {x : Tm} {lo hi mx : Option Tm} {K : Tm -> Bool} {K' : Tm -> Prop} (hK : ∀ s, K s = true -> K' s) (h : oSliceB τ t x lo hi mx K = true) : oSlice τ t x lo hi mx K' := by
 unfold oSliceB at h; unfold oSlice
 (repeat' split at h) <;> first | (exact absurd h Bool.false_ne_true) | (simp only [*]; first
   | exact natOB_ok (fun _ h => natOB_ok (fun _ h => ⟨of_decide_eq_true (bAnd h).1, fun _ _ _ => hK _ (bAnd h).2⟩) h) h
   | exact natOB_ok (fun _ h => natOB_ok (fun _ h => natOB_ok (fun _ h => ⟨of_decide_eq_true (bAnd h).1, fun _ _ _ _ _ => hK _ (bAnd h).2⟩) h) h) h
   | exact natOB_ok (fun _ h => natOB_ok (fun _ h => natOB_ok (fun _ h => ⟨of_decide_eq_true (bAnd h).1, fun _ _ _ => hK _ (bAnd h).2⟩) h) h) h)
theorem oIndexB_ok {t : TypeId} {x ix : Tm} {K : Tm -> Bool} {K' : Tm -> Prop} (hK : ∀ s, K s = true -> K' s) (h : oIndexB τ t x ix K = true) : oIndex τ t x ix K' := by
 unfold oIndexB at h; unfold oIndex
 split at h
 . rename_i ht; simp only [ht]
   (repeat' split at h) <;> first | (exact absurd h Bool.false_ne_true) | (simp only [Bool.and_eq_true, decide_eq_true_eq, Nat.beq_eq, Nat.ble_eq, Nat.blt_eq, Bool.false_eq_true, and_false, false_and] at h; done) | (simp only [*]; exact ⟨h.1, fun _ _ => hK _ h.2⟩) | exact ⟨h.1, fun _ _ => hK _ h.2⟩ | (simp only [Bool.and_eq_true, decide_eq_true_eq, Nat.beq_eq, Nat.ble_eq, Nat.blt_eq, Bool.false_eq_true, and_false, false_and] at h; simp only [*]; exact ⟨h.1, fun _ _ => hK _ h.2⟩) | (simp only [*]; done) | (simp_all; done)
 . rename_i ht; simp only [ht]
   split at h
   . rename_i hte; simp only [hte]
     split at h
     . rename_i hix; simp only [hix]
       obtain ⟨h1, h2⟩ := bAnd h
       refine ⟨of_decide_eq_true h1, eachAt_ofI (of_decide_eq_true h1).1 ?_⟩
       split at h2
       . rename_i hx; rw [hx]; dsimp only
         split at h2
         . rename_i hy; rw [hy]; exact hK _ h2
         . exact absurd h2 Bool.false_ne_true
       . exact absurd h2 Bool.false_ne_true
     . exact absurd h Bool.false_ne_true
   . exact absurd h Bool.false_ne_true
 . exact absurd h Bool.false_ne_true
theorem sureKB_ok {x : Tm} {K : Tm -> Bool} {K' : Tm -> Prop} (hK : ∀ s, K s = true -> K' s) (h : sureKB x K = true) : sureK x K' := by
 unfold sureKB at h; unfold sureK
 (repeat' split at h) <;> first | (exact absurd h Bool.false_ne_true) | (simp only [Bool.and_eq_true, decide_eq_true_eq, Nat.beq_eq, Nat.ble_eq, Nat.blt_eq, Bool.false_eq_true, and_false, false_and] at h; done) | (simp only [*]; exact hK _ h) | exact hK _ h | (simp only [Bool.and_eq_true, decide_eq_true_eq, Nat.beq_eq, Nat.ble_eq, Nat.blt_eq, Bool.false_eq_true, and_false, false_and] at h; simp only [*]; exact hK _ h) | (simp only [*]; done) | (simp_all; done)
theorem vOp2B_ok {op : Op} {ev : Operand -> Tm} {K : Tm -> Bool} {K' : Tm -> Prop} (hK : ∀ s, K s = true -> K' s) (h : vOp2B P τ op ev K = true) : vOp2 P τ op ev K' := by
 unfold vOp2B at h; unfold vOp2
 (repeat' split at h) <;> first | (exact absurd h Bool.false_ne_true) | (simp only [Bool.and_eq_true, decide_eq_true_eq, Nat.beq_eq, Nat.ble_eq, Nat.blt_eq, Bool.false_eq_true, and_false, false_and] at h; done) | (simp only [*]; exact oSliceB_ok hK h) | exact oSliceB_ok hK h | (simp only [Bool.and_eq_true, decide_eq_true_eq, Nat.beq_eq, Nat.ble_eq, Nat.blt_eq, Bool.false_eq_true, and_false, false_and] at h; simp only [*]; exact oSliceB_ok hK h) | (simp only [*]; exact oIndexB_ok hK h) | exact oIndexB_ok hK h | (simp only [Bool.and_eq_true, decide_eq_true_eq, Nat.beq_eq, Nat.ble_eq, Nat.blt_eq, Bool.false_eq_true, and_false, false_and] at h; simp only [*]; exact oIndexB_ok hK h) | (simp only [*]; exact sureKB_ok hK h) | exact sureKB_ok hK h | (simp only [Bool.and_eq_true, decide_eq_true_eq, Nat.beq_eq, Nat.ble_eq, Nat.blt_eq, Bool.false_eq_true, and_false, false_and] at h; simp only [*]; exact sureKB_ok hK h) | (simp only [*]; exact hK _ h) | exact hK _ h | (simp only [Bool.and_eq_true, decide_eq_true_eq, Nat.beq_eq, Nat.ble_eq, Nat.blt_eq, Bool.false_eq_true, and_false, false_and] at h; simp only [*]; exact hK _ h) | (simp only [*]; exact oPureB_ok hK h) | exact oPureB_ok hK h | (simp only [Bool.and_eq_true, decide_eq_true_eq, Nat.beq_eq, Nat.ble_eq, Nat.blt_eq, Bool.false_eq_true, and_false, false_and] at h; simp only [*]; exact oPureB_ok hK h) | (simp only [*]; done) | (simp_all; done)
theorem findKB_ok {kt : TypeId} {xs : List Value} {K : Option (Nat × List Value × Va) -> Bool} {K' : Option (Nat × List Value × Va) -> Prop} (hK : ∀ s, K s = true -> K' s) : ∀ {es : List (List Value × Va)} {i : Nat}, findKB τ kt xs es i K = true -> findK τ kt xs es i K'
 | [], _, h => hK _ h
 | (ys, v) :: es, i, h => by
   unfold findKB at h; unfold findK
   split at h
   . rename_i b e1 e2
     simp only [e1, e2]
     cases b with
     | true => exact And.intro (fun _ => hK _ h) (fun e => nomatch e)
     | false => exact And.intro (fun e => nomatch e) (fun _ => findKB_ok hK h)
   . exact absurd h Bool.false_ne_true
theorem oLookupB_ok {hp : List (Nat × Blk)} {t : TypeId} {m k : Tm} {ok : Bool} {K : Tm -> Bool} {K' : Tm -> Prop} (hK : ∀ s, K s = true -> K' s) (h : oLookupB τ hp t m k ok K = true) : oLookup τ hp t m k ok K' := by
 unfold oLookupB at h; unfold oLookup
 (repeat' split at h) <;> first | (exact absurd h Bool.false_ne_true) | (simp only [*]; refine findKB_ok (fun r h => ?_) h; split at h <;> exact hK _ h)
theorem oMakeMapB_ok {st : St} {dst : Option Tmp} {K : St -> Bool} {K' : St -> Prop} (hK : ∀ s, K s = true -> K' s) (h : oMakeMapB st dst K = true) : oMakeMap st dst K' := by
 unfold oMakeMapB at h; unfold oMakeMap
 (repeat' split at h) <;> first | (exact absurd h Bool.false_ne_true) | (simp only [Bool.and_eq_true, decide_eq_true_eq, Nat.beq_eq, Nat.ble_eq, Nat.blt_eq, Bool.false_eq_true, and_false, false_and] at h; done) | (simp only [*]; exact putKB_ok hK h) | exact putKB_ok hK h | (simp only [Bool.and_eq_true, decide_eq_true_eq, Nat.beq_eq, Nat.ble_eq, Nat.blt_eq, Bool.false_eq_true, and_false, false_and] at h; simp only [*]; exact putKB_ok hK h) | (simp only [*]; done) | (simp_all; done)
theorem oMapUpdB_ok {st : St} {dst : Option Tmp} {t : TypeId} {m k x : Tm} {K : St -> Bool} {K' : St -> Prop} (hK : ∀ s, K s = true -> K' s) (h : oMapUpdB τ st dst t m k x K = true) : oMapUpd τ st dst t m k x K' := by
 unfold oMapUpdB at h; unfold oMapUpd
 (repeat' split at h) <;> first | (exact absurd h Bool.false_ne_true) | (simp only [*]; refine findKB_ok (fun r h => ?_) h; split at h <;> first | (obtain ⟨h1, h2⟩ := bAnd h; rw [fEs_eq] at h2; exact ⟨vlEq_ok h1, by rw [fEs_eq]; exact putKB_ok hK h2⟩) | (simp only [fEs_eq, fNs_eq] at h ⊢; exact putKB_ok hK h))
theorem oMakeSliceB_ok {st : St} {dst : Option Tmp} {t : TypeId} {l c : Tm} {K : St -> Bool} {K' : St -> Prop} (hK : ∀ s, K s = true -> K' s) (h : oMakeSliceB τ st dst t l c K = true) : oMakeSlice τ st dst t l c K' := by
 unfold oMakeSliceB at h; unfold oMakeSlice
 (repeat' split at h) <;> first | (exact absurd h Bool.false_ne_true) | (simp only [*]; refine closeCellsB_ok (fun ds h => ?_) h; rw [fDs_eq] at h ⊢; exact newRowKB_ok hK h)
theorem oMapEntryB_ok {st : St} {dst : Option Tmp} {t : TypeId} {m k : Tm} {K : St -> Bool} {K' : St -> Prop} (hK : ∀ s, K s = true -> K' s) (h : oMapEntryB τ st dst t m k K = true) : oMapEntry τ st dst t m k K' := by
 unfold oMapEntryB at h; unfold oMapEntry
 (repeat' split at h) <;> first | (exact absurd h Bool.false_ne_true) | (simp only [*]; refine findKB_ok (fun r h => ?_) h; split at h <;> first | (obtain ⟨h1, h2⟩ := bAnd h; exact ⟨vlEq_ok h1, putKB_ok hK h2⟩) | (simp only [fEs_eq, fNs_eq] at h ⊢; exact putKB_ok hK h))
theorem oEntryStoreB_ok {st : St} {dst : Option Tmp} {m s x : Tm} {K : St -> Bool} {K' : St -> Prop} (hK : ∀ s, K s = true -> K' s) (h : oEntryStoreB st dst m s x K = true) : oEntryStore st dst m s x K' := by
 unfold oEntryStoreB at h; unfold oEntryStore
 (repeat' split at h) <;> first | (exact absurd h Bool.false_ne_true) | (simp only [*]; rw [fEs_eq] at h ⊢; exact putKB_ok hK h)
theorem oDeleteB_ok {st : St} {dst : Option Tmp} {ts : List TypeId} {aL : Option (List Va)} {K : St -> Bool} {K' : St -> Prop} (hK : ∀ s, K s = true -> K' s) (h : oDeleteB τ st dst ts aL K = true) : oDelete τ st dst ts aL K' := by
 unfold oDeleteB at h; unfold oDelete
 (repeat' split at h) <;> first | (exact absurd h Bool.false_ne_true) | (simp only [*]; refine findKB_ok (fun r h => ?_) h; split at h <;> first | exact putKB_ok hK h | (simp only [fEs_eq, fNs_eq] at h ⊢; exact putKB_ok hK h))
theorem vOpB_ok {op : Op} {ty : TypeId} {ev : Operand -> Tm} {hp : List (Nat × Blk)} {K : Tm -> Bool} {K' : Tm -> Prop} (hK : ∀ s, K s = true -> K' s) (h : vOpB P τ op ty ev hp K = true) : vOp P τ op ty ev hp K' := by
 unfold vOpB at h; unfold vOp
 (repeat' split at h) <;> first | (exact absurd h Bool.false_ne_true) | (simp only [Bool.and_eq_true, decide_eq_true_eq, Nat.beq_eq, Nat.ble_eq, Nat.blt_eq, Bool.false_eq_true, and_false, false_and] at h; done) | (simp only [*]; exact hK _ h) | exact hK _ h | (simp only [Bool.and_eq_true, decide_eq_true_eq, Nat.beq_eq, Nat.ble_eq, Nat.blt_eq, Bool.false_eq_true, and_false, false_and] at h; simp only [*]; exact hK _ h) | (simp only [*]; exact oLoadB_ok hK h) | exact oLoadB_ok hK h | (simp only [Bool.and_eq_true, decide_eq_true_eq, Nat.beq_eq, Nat.ble_eq, Nat.blt_eq, Bool.false_eq_true, and_false, false_and] at h; simp only [*]; exact oLoadB_ok hK h) | (simp only [*]; exact oFieldAddrB_ok hK h) | exact oFieldAddrB_ok hK h | (simp only [Bool.and_eq_true, decide_eq_true_eq, Nat.beq_eq, Nat.ble_eq, Nat.blt_eq, Bool.false_eq_true, and_false, false_and] at h; simp only [*]; exact oFieldAddrB_ok hK h) | (simp only [*]; exact oBuildB_ok hK h) | exact oBuildB_ok hK h | (simp only [Bool.and_eq_true, decide_eq_true_eq, Nat.beq_eq, Nat.ble_eq, Nat.blt_eq, Bool.false_eq_true, and_false, false_and] at h; simp only [*]; exact oBuildB_ok hK h) | (simp only [*]; exact oIndexAddrB_ok hK h) | exact oIndexAddrB_ok hK h | (simp only [Bool.and_eq_true, decide_eq_true_eq, Nat.beq_eq, Nat.ble_eq, Nat.blt_eq, Bool.false_eq_true, and_false, false_and] at h; simp only [*]; exact oIndexAddrB_ok hK h) | (simp only [*]; exact oFieldB_ok hK h) | exact oFieldB_ok hK h | (simp only [Bool.and_eq_true, decide_eq_true_eq, Nat.beq_eq, Nat.ble_eq, Nat.blt_eq, Bool.false_eq_true, and_false, false_and] at h; simp only [*]; exact oFieldB_ok hK h) | (simp only [*]; exact oEqB_ok hK h) | exact oEqB_ok hK h | (simp only [Bool.and_eq_true, decide_eq_true_eq, Nat.beq_eq, Nat.ble_eq, Nat.blt_eq, Bool.false_eq_true, and_false, false_and] at h; simp only [*]; exact oEqB_ok hK h) | (simp only [*]; exact oPtrB_ok hK h) | exact oPtrB_ok hK h | (simp only [Bool.and_eq_true, decide_eq_true_eq, Nat.beq_eq, Nat.ble_eq, Nat.blt_eq, Bool.false_eq_true, and_false, false_and] at h; simp only [*]; exact oPtrB_ok hK h) | (simp only [*]; exact oBinB_ok hK h) | exact oBinB_ok hK h | (simp only [Bool.and_eq_true, decide_eq_true_eq, Nat.beq_eq, Nat.ble_eq, Nat.blt_eq, Bool.false_eq_true, and_false, false_and] at h; simp only [*]; exact oBinB_ok hK h) | (simp only [*]; exact oPureB_ok hK h) | exact oPureB_ok hK h | (simp only [Bool.and_eq_true, decide_eq_true_eq, Nat.beq_eq, Nat.ble_eq, Nat.blt_eq, Bool.false_eq_true, and_false, false_and] at h; simp only [*]; exact oPureB_ok hK h) | (simp only [*]; exact oLookupB_ok hK h) | exact oLookupB_ok hK h | (simp only [Bool.and_eq_true, decide_eq_true_eq, Nat.beq_eq, Nat.ble_eq, Nat.blt_eq, Bool.false_eq_true, and_false, false_and] at h; simp only [*]; exact oLookupB_ok hK h) | (simp only [*]; exact oLenB_ok hK h) | exact oLenB_ok hK h | (simp only [Bool.and_eq_true, decide_eq_true_eq, Nat.beq_eq, Nat.ble_eq, Nat.blt_eq, Bool.false_eq_true, and_false, false_and] at h; simp only [*]; exact oLenB_ok hK h) | (simp only [*]; exact oCapB_ok hK h) | exact oCapB_ok hK h | (simp only [Bool.and_eq_true, decide_eq_true_eq, Nat.beq_eq, Nat.ble_eq, Nat.blt_eq, Bool.false_eq_true, and_false, false_and] at h; simp only [*]; exact oCapB_ok hK h) | (simp only [*]; exact vOp2B_ok hK h) | exact vOp2B_ok hK h | (simp only [Bool.and_eq_true, decide_eq_true_eq, Nat.beq_eq, Nat.ble_eq, Nat.blt_eq, Bool.false_eq_true, and_false, false_and] at h; simp only [*]; exact vOp2B_ok hK h) | (simp only [*]; done) | (simp_all; done)
theorem frCells_in {R : List (Nat × Blk) -> Bool} {R' : List (Nat × Blk) -> Prop} (hR : ∀ h, R h = true -> R' h) : ∀ {cs : List Cell} {h : List (Nat × Blk)}, frCells h cs R = true -> frCells h cs R'
 | [], h, e => hR _ e
 | c :: cs, h, e => by
   have step : ∀ h', frCells h' cs R = true -> frCells h' cs R' := fun h' => frCells_in hR
   show frCell h c fun h => frCells h cs R'
   have e : (frCell h c fun h => frCells h cs R) = true := e
   unfold frCell at e ⊢
   cases c with
   | osl k z o len =>
     dsimp only at e ⊢
     cases hb : lookB h k with
     | row sz n f => rw [hb] at e; exact step _ e
     | _ => rw [hb] at e; exact step _ e
   | _ => exact step _ e
theorem oStoreB_ok {st : St} {dst : Option Tmp} {t : TypeId} {p x : Tm} {K : St -> Bool} {K' : St -> Prop} (hK : ∀ s, K s = true -> K' s) (h : oStoreB τ st dst t p x K = true) : oStoreF τ st dst t p x K' := by
 obtain ⟨ts, hp, n, m⟩ := st
 unfold oStoreB at h
 split at h
 . rename_i d1 size b1 z1 ht
   split at h
   . rename_i y k off ts hp n m e
     cases e
     show oStore τ ⟨ts, hp, n, m⟩ dst t (.va (.c (.own k off))) (.va y) K'
     unfold oStore
     (repeat' split at h) <;> first | (exact absurd h Bool.false_ne_true) | (simp only [*]; rw [fCs_eq] at h ⊢; exact putKB_ok hK h)
   . rename_i y k z i off ts hp n m e
     cases e
     refine frCells_in (fun hp h => ?_) h
     unfold oStore
     simp only [ht]
     split at h
     . rename_i z' len f hl hb hq
       simp only [hl, hb, hq]
       refine closeCellsB_ok (fun ds h => ?_) h
       obtain ⟨h1, h⟩ := bAnd h
       obtain ⟨h2, h⟩ := bAnd h
       refine ⟨Nat.eq_of_beq_eq_true h1, Nat.le_of_ble_eq_true h2, fun _ _ => ?_⟩
       split at h
       . rename_i r hr; simp only [hr]; rw [fDs_eq] at h ⊢; exact putKB_ok hK h
       . exact absurd h Bool.false_ne_true
     . exact absurd h Bool.false_ne_true
   . rename_i y k base ln i ts hp n m e
     cases e
     show oStore τ ⟨ts, hp, n, m⟩ dst t (.va (.c (.ap k base ln i))) (.va y) K'
     unfold oStore
     (repeat' split at h) <;> first | (exact absurd h Bool.false_ne_true) | (simp only [fCs_eq] at h; obtain ⟨h1, h2⟩ := bAnd h; simp only [*, fCs_eq]; exact ⟨Nat.le_of_ble_eq_true h1, fun _ => putKB_ok hK h2⟩)
   . exact absurd h Bool.false_ne_true
 . exact absurd h Bool.false_ne_true
theorem oBuildSliceB_ok {st : St} {dst : Option Tmp} {t : TypeId} {len : Nat} {ps : List (Nat × Operand)} {K : St -> Bool} {K' : St -> Prop} (hK : ∀ s, K s = true -> K' s) (h : oBuildSliceB τ st dst t len ps K = true) : oBuildSliceF τ st dst t len ps K' := by
 obtain ⟨ts, hp, n, m⟩ := st
 unfold oBuildSliceB at h; unfold oBuildSliceF
 split at h
 . rename_i e0 s0 b0 z0 ht
   simp only [ht]
   split at h
   . rename_i d1 sz b1 z hte
     simp only [hte]
     cases hf : fillRow sz (ev ⟨ts, hp, n, m⟩) ps (zeroRow (zeroCells' z) (len * sz)) with
     | none => rw [hf] at h; exact absurd h Bool.false_ne_true
     | some cs =>
       rw [hf] at h
       dsimp only at h ⊢
       refine frCells_in (fun hp' h => ?_) h
       unfold oBuildSlice
       simp only [ht, hte]
       have hf' : fillRow sz (ev ⟨ts, hp', n, m⟩) ps (zeroRow (zeroCells' z) (len * sz)) = some cs := hf
       split at h
       . rename_i h1 h2 h3
         simp only [h1, h2, h3, hf']
         refine closeCellsB_ok (fun ds h => ?_) h
         rw [fDs_eq] at h ⊢
         exact newRowKB_ok hK h
       . exact absurd h Bool.false_ne_true
   . exact absurd h Bool.false_ne_true
 . exact absurd h Bool.false_ne_true
theorem newsOfB_ok {hp : List (Nat × Blk)} {k0 : Option Nat} {sz : Nat} {x : Va} {K : Nat -> (Nat -> List DV) -> Bool} {K' : Nat -> (Nat -> List DV) -> Prop} (hK : ∀ n f, K n f = true -> K' n f) (h : newsOfB hp k0 sz x K = true) : newsOf hp k0 sz x K' := by
 unfold newsOfB at h; unfold newsOf
 (repeat' split at h) <;> first | (exact absurd h Bool.false_ne_true) | exact hK _ _ h | (obtain ⟨h1, h⟩ := bAnd h; exact ⟨Nat.eq_of_beq_eq_true h1, fun _ => hK _ _ h⟩) | (simp only [*]; obtain ⟨h1, h⟩ := bAnd h; obtain ⟨h1, h2⟩ := bAnd h1; exact ⟨⟨Nat.eq_of_beq_eq_true h1, Nat.le_of_ble_eq_true h2⟩, fun _ _ => hK _ _ h⟩)
theorem oAppNilB_ok {st : St} {dst : Option Tmp} {ts : List TypeId} {K : St -> Bool} {K' : St -> Prop} (hK : ∀ s, K s = true -> K' s) (h : oAppNilB τ st dst ts K = true) : oAppNil τ st dst ts K' := by
 unfold oAppNilB at h; unfold oAppNil
 (repeat' split at h) <;> first | (exact absurd h Bool.false_ne_true) | (simp only [*]; exact putKB_ok hK h)
theorem oAppendB_ok {st : St} {dst : Option Tmp} {ts : List TypeId} {aL : Option (List Va)} {K : St -> Bool} {K' : St -> Prop} (hK : ∀ s, K s = true -> K' s) (h : oAppendB τ st dst ts aL K = true) : oAppend τ st dst ts aL K' := by
 unfold oAppendB at h; unfold oAppend
 (repeat' split at h) <;> first | (exact absurd h Bool.false_ne_true) | (simp only [*]; refine newsOfB_ok (fun q g h => ?_) h; obtain ⟨h1, h⟩ := bAnd h; exact ⟨Nat.le_of_ble_eq_true h1, putKB_ok hK h⟩) | (simp only [*]; obtain ⟨h1, h⟩ := bAnd h; obtain ⟨h1, h2⟩ := bAnd h1; refine ⟨⟨Nat.eq_of_beq_eq_true h1, Nat.le_of_ble_eq_true h2⟩, newsOfB_ok (fun q g h => ?_) h⟩; obtain ⟨h1, h⟩ := bAnd h; exact ⟨Nat.le_of_ble_eq_true h1, putKB_ok hK h⟩)
theorem nilB_ok {x : Tm} {K : Bool -> Bool} (h : nilB x K = true) : nilOf x fun ok => ∀ b, ok b -> K b = true := by
 unfold nilB at h
 split at h
 . rename_i n _
   cases n with
   | zero => intro b _; obtain ⟨h1, h2⟩ := bAnd h; cases b; exact h2; exact h1
   | succ n => intro b hb; cases b; exact h; exact absurd (hb rfl) (Nat.succ_ne_zero _)
 . rename_i n
   cases n with
   | zero => intro b _; obtain ⟨h1, h2⟩ := bAnd h; cases b; exact h2; exact h1
   | succ n => intro b hb; cases b; exact h; exact absurd (hb rfl) (Nat.succ_ne_zero _)
 . intro b hb; have hb : b = true := hb; subst hb; exact h
 . exact absurd h Bool.false_ne_true
theorem nilOf_mono {x : Tm} {K K' : (Bool -> Prop) -> Prop} (hK : ∀ p, K p -> K' p) (h : nilOf x K) : nilOf x K' := by
 unfold nilOf at h ⊢
 (repeat' split at h) <;> first | exact hK _ h | exact h.elim
theorem oNilB_ok {st : St} {dst : Option Tmp} {op : BinOp} {t : TypeId} {x : Tm} {K : St -> Bool} {K' : St -> Prop} (hK : ∀ s, K s = true -> K' s) (h : oNilB τ st dst op t x K = true) : oNil τ st dst op t x K' := by
 unfold oNilB at h; unfold oNil
 (repeat' split at h) <;> first | (exact absurd h Bool.false_ne_true) | (simp only [*]; exact nilOf_mono (fun p hp b hb => putKB_ok hK (hp b hb)) (nilB_ok h))
theorem oNextB_ok {st : St} {dst : Option Tmp} {it : Tm} {b : Bool} {K : St -> Bool} {K' : St -> Prop} (hK : ∀ s, K s = true -> K' s) (h : oNextB st dst it b K = true) : oNext st dst it b K' := by
 unfold oNextB at h; unfold oNext
 (repeat' split at h) <;> first | (exact absurd h Bool.false_ne_true) | (rename_i e; simp only [*]; exact ⟨fun _ => putKB_ok hK h, fun hn => absurd (Nat.le_of_ble_eq_true e) hn⟩) | (rename_i e; simp only [*]; exact ⟨fun hn => absurd (Nat.ble_eq_true_of_le hn) (by rw [show Nat.ble _ _ = false from e]; exact Bool.false_ne_true), fun _ => putKB_ok hK h⟩)
theorem oRangeB_ok {st : St} {dst : Option Tmp} {t : TypeId} {x : Tm} {K : St -> Bool} {K' : St -> Prop} (hK : ∀ s, K s = true -> K' s) (h : oRangeB τ st dst t x K = true) : oRange τ st dst t x K' := by
 unfold oRangeB at h; unfold oRange
 (repeat' split at h) <;> first | (exact absurd h Bool.false_ne_true) | (simp only [Bool.and_eq_true, decide_eq_true_eq, Nat.beq_eq, Nat.ble_eq, Nat.blt_eq, Bool.false_eq_true, and_false, false_and] at h; done) | (simp only [*]; exact putKB_ok hK h) | exact putKB_ok hK h | (simp only [Bool.and_eq_true, decide_eq_true_eq, Nat.beq_eq, Nat.ble_eq, Nat.blt_eq, Bool.false_eq_true, and_false, false_and] at h; simp only [*]; exact putKB_ok hK h) | (simp only [*]; done) | (simp_all; done)
theorem vcOpB_ok {calls : Nat -> List Va -> St -> (Tm -> St -> Bool) -> Bool} {calls' : Nat -> List Va -> St -> (Tm -> St -> Prop) -> Prop} (hc : ∀ f aL st (K : Tm -> St -> Bool) (K' : Tm -> St -> Prop), (∀ r s, K r s = true -> K' r s) -> calls f aL st K = true -> calls' f aL st K')
 {o : Oper} {st : St} {K : St -> Bool} {K' : St -> Prop} (hK : ∀ s, K s = true -> K' s) (h : vcOpB P τ calls o st K = true) : vcOp P τ calls' o st K' := by
 unfold vcOpB at h; unfold vcOp
 split at h
 . rename_i e; simp only [e]
   split at h
   . refine onBoolB_ok (fun st b h => ?_) h
     (repeat' split at h) <;> first | (exact absurd h Bool.false_ne_true) | exact putKB_ok hK h
   . exact absurd h Bool.false_ne_true
 . rename_i e; simp only [e]; exact oAllocB_ok hK h
 . rename_i e; simp only [e]; exact oBoxB_ok hK h
 . rename_i e; simp only [e]; exact oStoreB_ok hK h
 . rename_i e; simp only [e]; exact oBuildSliceB_ok hK h
 . rename_i e; simp only [e]; exact oRangeB_ok hK h
 . rename_i e; simp only [e]
   split at h
   . exact absurd h Bool.false_ne_true
   . rename_i e2; simp only [e2]; exact vOpB_ok (fun x h => putKB_ok hK h) h
 . rename_i e; simp only [e]; exact oNextB_ok hK h
 . rename_i e; simp only [e]; exact oMakeMapB_ok hK h
 . rename_i f x e; simp only [e]; unfold oBoundB at h; unfold oBound; split at h
   . rename_i e2; simp only [e2]; exact putKB_ok hK h
   . exact absurd h Bool.false_ne_true
 . rename_i e; simp only [e]; exact oMapEntryB_ok hK h
 . rename_i e; simp only [e]; exact oMakeSliceB_ok hK h
 . rename_i e; simp only [e]; exact oEntryStoreB_ok hK h
 . rename_i e; simp only [e]; exact oMapUpdB_ok hK h
 . rename_i c e; simp only [e]
   obtain ⟨cl, args, ts⟩ := c
   dsimp only at h ⊢
   cases cl with
   | value f =>
     dsimp only at h ⊢
     split at h
     . rename_i e1 e2; simp only [e1, e2]; rw [fVas_eq] at h ⊢; exact hc _ _ _ _ _ (fun r s h => putKB_ok hK h) h
     . rename_i e1 e2; simp only [e1, e2]; rw [fVas_eq] at h ⊢; exact hc _ _ _ _ _ (fun r s h => putKB_ok hK h) h
     . exact absurd h Bool.false_ne_true
   | invoke r m => exact vOpB_ok (fun x h => putKB_ok hK h) h
   | builtin b =>
     cases b
     all_goals first | exact oDeleteB_ok hK h | exact absurd h Bool.false_ne_true | exact vOpB_ok (fun x h => putKB_ok hK h) h | skip
     dsimp only at h ⊢
     split at h
     . exact absurd h Bool.false_ne_true
     . rename_i aL hne e1; simp only [e1]
       split at h
       . rename_i he; simp only [he]; exact oAppNilB_ok hK h
       . rename_i he; simp only [he]; exact oAppendB_ok hK h
     . exact absurd h Bool.false_ne_true
 . rename_i e; simp only [e]
   split at h
   . rename_i e2; simp only [e2]; exact oNilB_ok hK h
   . rename_i e2; simp only [e2]; exact vOpB_ok (fun x h => putKB_ok hK h) h
 . split
   all_goals first | exact vOpB_ok (fun x h => putKB_ok hK h) h | (exfalso; simp_all; done) | (exfalso; simp_all; rename_i hx hq; first | exact hx _ _ _ _ rfl rfl rfl rfl | exact hx _ _ _ _ _ rfl rfl rfl rfl rfl)
theorem vcOpsB_ok {calls : Nat -> List Va -> St -> (Tm -> St -> Bool) -> Bool} {calls' : Nat -> List Va -> St -> (Tm -> St -> Prop) -> Prop} (hc : ∀ f aL st (K : Tm -> St -> Bool) (K' : Tm -> St -> Prop), (∀ r s, K r s = true -> K' r s) -> calls f aL st K = true -> calls' f aL st K')
 {all : List Oper} {K : St -> Bool} {K' : St -> Prop} (hK : ∀ s, K s = true -> K' s) : ∀ (l : List Oper) {st : St}, vcOpsB P τ calls all l st K = true -> vcOps P τ calls' all l st K'
 | [], st, h => hK _ h
 | o :: l, st, h => by
   rw [vcOps_cons]
   have h : (match o.guard with
    | none => vcOpB P τ calls o st fun st => vcOpsB P τ calls all l st K
    | some (j, want) =>
      match dstOf all j with
      | none => false
      | some s => onBoolB st s fun st b =>
        match b == some want with
        | true => vcOpB P τ calls o st fun st => vcOpsB P τ calls all l st K
        | false => putKB st o.dst undT fun st => vcOpsB P τ calls all l st K) = true := h
   split at h
   . rename_i e; simp only [e]; exact vcOpB_ok hc (fun s h => vcOpsB_ok hc hK l h) h
   . rename_i j want e; simp only [e]
     split at h
     . exact absurd h Bool.false_ne_true
     . rename_i s e2; simp only [e2]
       refine onBoolB_ok (fun st b h => ?_) h
       split at h
       . rename_i e3; simp only [e3]; exact vcOpB_ok hc (fun s h => vcOpsB_ok hc hK l h) h
       . rename_i e3; simp only [e3]; exact putKB_ok (fun s h => vcOpsB_ok hc hK l h) h
end
section
variable {P : Program} {τ : Tys} {base : Nat} {ψ : Psi} {S : Nat → Prop} {w : World} {a : Act} {ds : List Deferred}
theorem ACall.sub {f : Nat} {aL : List Va} {st : St} {K K' : Tm -> St -> Prop} (h : ACall P base f aL st K) (hk : ∀ r s, K r s -> ∃ s', Sub s s' /\ K' r s') : ACall P base f aL st K' :=
 ⟨fun ψ S w a vals hr hv => (h.run ψ S w a vals hr hv).mono fun e w' ⟨r, st', v, ψ', S', h1, h2, h3, h4, h5⟩ => by
   obtain ⟨s', g1, g2⟩ := hk r st' h2
   exact ⟨r, s', v, ψ', S', h1, g2, h3.sub g1, h4, h5⟩⟩
theorem DSat.sub {c : Code} {st st' : St} {Q : Exit -> St -> Prop} (hs : Sub st st') (h : DSat P base ds c st' Q) : DSat P base ds c st Q := ⟨fun ψ S w a hr => h.run ψ S w a (hr.sub hs)⟩
theorem plusD_nil (a : Act) : plusD [] a = a := by cases a; simp [plusD]
theorem DSat.plain {c : Code} {st : St} {Q : Exit -> St -> Prop} (h : DSat P base [] c st Q) : ASat P base c st Q :=
 ⟨fun ψ S w a hr => by
   have := h.run ψ S w a hr
   rw [plusD_nil] at this
   exact wp_mono this fun _ _ _ ⟨st', ψ', S', a0, h1, h2, h3, h4⟩ => ⟨st', ψ', S', h1, by rw [h3, plusD_nil]; exact h2, h4⟩⟩
theorem DSat.any {id : Nat} {ops : Array Oper} {st : St} {Q : Exit -> St -> Prop} (h : ∀ ψ S w a, Rel P base ψ S w st a -> ∀ s, wpOps P ops (fun e a' w' => ∃ st' ψ' S', Q e st' /\ Rel P base ψ' S' w' st' a' /\ Ext base ψ S w ψ' S' w') (Region.schedule (P.follows .mixedOrders) ops s) a { w with drawn := w.drawn + 1 }) :
 DSat P base ds (.region id ops true) st Q :=
 ⟨fun ψ S w a hr => wp_region_draw fun s => by
   refine wpOps_plus (Q := fun e a' w' => ∃ st' ψ' S', Q e st' /\ Rel P base ψ' S' w' st' a' /\ Ext base ψ S w ψ' S' w') ?_ _ _ _ (h ψ S w a hr s)
   rintro e a' w' ⟨st', ψ', S', h1, h2, h3⟩
   exact ⟨st', ψ', S', a', h1, h2, rfl, h3⟩⟩
theorem DSat.regV (hτ : TysOk P τ) (hz : ∀ t i, τ t = some i -> zeroOk i.zero) {calls : Nat -> List Va -> St -> (Tm -> St -> Prop) -> Prop} (hcalls : CallsOk P base calls) {id : Nat} {ops : Array Oper} {st : St} {Q : Exit -> St -> Prop} (h : vcOps P τ calls ops.toList ops.toList st (Q .normal)) : DSat P base ds (.region id ops false) st Q := by
 refine ⟨fun ψ S w a hr => wp_region ?_⟩
 have := vcOps_ok hτ hz hcalls (ops := ops) (Q := fun e a' w' => ∃ st' ψ' S', Q e st' /\ Rel P base ψ' S' w' st' a' /\ Ext base ψ S w ψ' S' w') ops.toList 0 ψ S w st a (Q .normal) (fun i o ho => by simpa using ho) hr h
  (fun st' ψ' S' w' a' h1 h2 h3 => ⟨st', ψ', S', h1, h2, h3⟩)
 rw [List.range_eq_range']
 refine wpOps_plus (Q := fun e a' w' => ∃ st' ψ' S', Q e st' /\ Rel P base ψ' S' w' st' a' /\ Ext base ψ S w ψ' S' w') ?_ _ _ _ (by simpa using this)
 rintro e a' w' ⟨st', ψ', S', h1, h2, h3⟩
 exact ⟨st', ψ', S', a', h1, h2, rfl, h3⟩
theorem DSat.exit {id : Nat} {st : St} {Q : Exit -> St -> Prop} (h : Q (.exit id) st) : DSat P base ds (.exit id) st Q := ⟨fun ψ S w a hr => wp_exit ⟨st, ψ, S, a, h, hr, rfl, Ext.refl _ _ _ _⟩⟩
theorem DSat.goto {l : Nat} {st : St} {Q : Exit -> St -> Prop} (h : Q (.goto l) st) : DSat P base ds (.goto l) st Q := ⟨fun ψ S w a hr => wp_goto ⟨st, ψ, S, a, h, hr, rfl, Ext.refl _ _ _ _⟩⟩
theorem DSat.label {l : Nat} {st : St} {Q : Exit -> St -> Prop} (h : Q .normal st) : DSat P base ds (.label l) st Q := ⟨fun ψ S w a hr => wp_label ⟨st, ψ, S, a, h, hr, rfl, Ext.refl _ _ _ _⟩⟩
def goK (K : St -> Prop) (Q : Exit -> St -> Prop) : Exit -> St -> Prop
 | .normal, st => K st
 | .exit id, st => Q (.exit id) st
 | .goto l, st => Q (.goto l) st
 | .ret, st => Q .ret st
 | _, _ => False
theorem DSat.seqK {x y : Code} {st : St} {Q : Exit -> St -> Prop} (h : DSat P base ds x st (goK (fun st => DSat P base ds y st Q) Q)) : DSat P base ds (.seq x y) st Q := by
 refine ⟨fun ψ S w a hr => wp_seq (wp_mono (h.run ψ S w a hr) ?_)⟩
 rintro e a' w' ⟨st', ψ', S', a0, hq, hr', rfl, he⟩
 cases e with
 | normal =>
   refine wp_mono ((show DSat P base ds y st' Q from hq).run ψ' S' w' a0 hr') ?_
   rintro e a2 w2 ⟨st2, ψ2, S2, a3, hq2, hr2, rfl, he2⟩
   exact ⟨st2, ψ2, S2, a3, hq2, hr2, rfl, he.trans he2⟩
 | exit id => exact ⟨st', ψ', S', a0, hq, hr', rfl, he⟩
 | goto l => exact ⟨st', ψ', S', a0, hq, hr', rfl, he⟩
 | ret => exact ⟨st', ψ', S', a0, hq, hr', rfl, he⟩
 | panic ch => exact hq.elim
 | outgrown => exact hq.elim
def blkQ (id : Nat) (Q : Exit -> St -> Prop) : Exit -> St -> Prop
 | .exit id', st => match Nat.beq id' id with
   | true => Q .normal st
   | false => Q (.exit id') st
 | .normal, st => Q .normal st
 | .goto l, st => Q (.goto l) st
 | .ret, st => Q .ret st
 | _, _ => False
theorem DSat.block {id : Nat} {c : Code} {st : St} {Q : Exit -> St -> Prop} (h : DSat P base ds c st (blkQ id Q)) : DSat P base ds (.block id c) st Q := by
 refine ⟨fun ψ S w a hr => wp_block (wp_mono (h.run ψ S w a hr) ?_)⟩
 rintro e a' w' ⟨st', ψ', S', a0, hq, hr', rfl, he⟩
 cases e with
 | normal => exact ⟨st', ψ', S', a0, hq, hr', rfl, he⟩
 | exit id' =>
   simp only [blkQ] at hq
   simp only [Exit.inBlock]
   cases hb : Nat.beq id' id with
   | true =>
     rw [hb] at hq
     rw [if_pos (Nat.eq_of_beq_eq_true hb)]
     exact ⟨st', ψ', S', a0, hq, hr', rfl, he⟩
   | false =>
     rw [hb] at hq
     rw [if_neg (Nat.ne_of_beq_eq_false hb)]
     exact ⟨st', ψ', S', a0, hq, hr', rfl, he⟩
 | goto l => exact ⟨st', ψ', S', a0, hq, hr', rfl, he⟩
 | ret => exact ⟨st', ψ', S', a0, hq, hr', rfl, he⟩
 | panic ch => exact hq.elim
 | outgrown => exact hq.elim
theorem DSat.condK {c : Operand} {x y : Code} {st : St} {Q : Exit -> St -> Prop} (h : Go.Sx.condK c (fun st Q => DSat P base ds x st Q) (fun st Q => DSat P base ds y st Q) st Q) : DSat P base ds (.cond c x y) st Q := by
 refine ⟨fun ψ S w a hr => ?_⟩
 unfold Go.Sx.condK at h
 split at h
 . rename_i s
   obtain ⟨st', b, hk, hrel', _, hb⟩ := onBool_ok hr h
   split at hk
   . exact wp_cond_true (hb true rfl) (hk.run ψ S w a hrel')
   . exact wp_cond_false (hb false rfl) (hk.run ψ S w a hrel')
   . exact hk.elim
 . exact wp_cond_true rfl (h.run ψ S w a hr)
 . exact wp_cond_false rfl (h.run ψ S w a hr)
 . exact h.elim
theorem DSat.loopN {c : Code} {Q : Exit -> St -> Prop} (I : Nat -> St -> Prop) (round : ∀ n st, I n st -> DSat P base ds c st (goK (fun st' => ∃ n', n' < n /\ I n' st') Q)) {n : Nat} {st : St} (h : I n st) : DSat P base ds (.loop c) st Q := by
 refine ⟨fun ψ S w a hr => ?_⟩
 refine wp_loop_by (P := P) (fun k a' w' => ∃ st ψ' S' a0, I k st /\ Rel P base ψ' S' w' st a0 /\ a' = plusD ds a0 /\ Ext base ψ S w ψ' S' w') ?_ ⟨st, ψ, S, a, h, hr, rfl, Ext.refl _ _ _ _⟩
 rintro k a1 w1 ⟨st1, ψ1, S1, a0, hI, hr1, rfl, he1⟩
 refine wp_mono ((round k st1 hI).run ψ1 S1 w1 a0 hr1) ?_
 rintro e a2 w2 ⟨st2, ψ2, S2, a3, hq, hr2, rfl, he2⟩
 cases e with
 | normal => obtain ⟨n', hlt, hI'⟩ := hq; exact ⟨n', hlt, st2, ψ2, S2, a3, hI', hr2, rfl, he1.trans he2⟩
 | exit id => exact ⟨st2, ψ2, S2, a3, hq, hr2, rfl, he1.trans he2⟩
 | goto l => exact ⟨st2, ψ2, S2, a3, hq, hr2, rfl, he1.trans he2⟩
 | ret => exact ⟨st2, ψ2, S2, a3, hq, hr2, rfl, he1.trans he2⟩
 | panic ch => exact hq.elim
 | outgrown => exact hq.elim
def jumpK (l : Nat) (J : St -> Prop) (Q : Exit -> St -> Prop) : Exit -> St -> Prop
 | .goto l', st => l' = l /\ J st
 | .normal, st => Q .normal st
 | .exit id, st => Q (.exit id) st
 | .ret, st => Q .ret st
 | _, _ => False
theorem DSat.scopeN {c rest : Code} {l : Nat} (hf : findLabel c l = some rest) {Q : Exit -> St -> Prop} (I : Nat -> St -> Prop) {st : St} (first : DSat P base ds c st (jumpK l (fun st => ∃ n, I n st) Q))
 (pass : ∀ n st, I n st -> DSat P base ds rest st (jumpK l (fun st' => ∃ n', n' < n /\ I n' st') Q)) : DSat P base ds (.scope c) st Q := by
 refine ⟨fun ψ S w a hr => ?_⟩
 refine wp_scope_by (P := P) l (fun k a' w' => ∃ st ψ' S' a0, I k st /\ Rel P base ψ' S' w' st a0 /\ a' = plusD ds a0 /\ Ext base ψ S w ψ' S' w') hf ?_ ?_
 . refine wp_mono (first.run ψ S w a hr) ?_
   rintro e a2 w2 ⟨st2, ψ2, S2, a3, hq, hr2, rfl, he2⟩
   cases e with
   | goto l' => obtain ⟨rfl, n, hI⟩ := hq; exact ⟨rfl, n, st2, ψ2, S2, a3, hI, hr2, rfl, he2⟩
   | normal => exact ⟨st2, ψ2, S2, a3, hq, hr2, rfl, he2⟩
   | exit id => exact ⟨st2, ψ2, S2, a3, hq, hr2, rfl, he2⟩
   | ret => exact ⟨st2, ψ2, S2, a3, hq, hr2, rfl, he2⟩
   | panic ch => exact hq.elim
   | outgrown => exact hq.elim
 . rintro k a1 w1 ⟨st1, ψ1, S1, a0, hI, hr1, rfl, he1⟩
   refine wp_mono ((pass k st1 hI).run ψ1 S1 w1 a0 hr1) ?_
   rintro e a2 w2 ⟨st2, ψ2, S2, a3, hq, hr2, rfl, he2⟩
   cases e with
   | goto l' => obtain ⟨rfl, n', hlt, hI'⟩ := hq; exact ⟨rfl, n', hlt, st2, ψ2, S2, a3, hI', hr2, rfl, he1.trans he2⟩
   | normal => exact ⟨st2, ψ2, S2, a3, hq, hr2, rfl, he1.trans he2⟩
   | exit id => exact ⟨st2, ψ2, S2, a3, hq, hr2, rfl, he1.trans he2⟩
   | ret => exact ⟨st2, ψ2, S2, a3, hq, hr2, rfl, he1.trans he2⟩
   | panic ch => exact hq.elim
   | outgrown => exact hq.elim
theorem DSat.scope1 {c : Code} {Q : Exit -> St -> Prop} {st : St} (h : DSat P base ds c st (jumpK 0 (fun _ => False) Q)) : DSat P base ds (.scope c) st Q := by
 refine ⟨fun ψ S w a hr => wp_scope_straight (wp_mono (h.run ψ S w a hr) ?_)⟩
 rintro e a2 w2 ⟨st2, ψ2, S2, a3, hq, hr2, rfl, he2⟩
 cases e with
 | goto l => exact hq.2.elim
 | normal => exact ⟨st2, ψ2, S2, a3, hq, hr2, rfl, he2⟩
 | exit id => exact ⟨st2, ψ2, S2, a3, hq, hr2, rfl, he2⟩
 | ret => exact ⟨st2, ψ2, S2, a3, hq, hr2, rfl, he2⟩
 | panic ch => exact hq.elim
 | outgrown => exact hq.elim
end
def refsC : Cell -> List Nat
 | .own k _ => [k]
 | .osl k _ _ _ => [k]
 | .osc k _ _ _ _ => [k]
 | .ep k _ _ _ => [k]
 | .ap k _ _ _ => [k]
 | .fn _ caps => caps.map (·.1)
 | .mp k => [k]
 | .fb _ k _ => [k]
 | _ => []
def refsVa : Va -> List Nat
 | .c x => refsC x
 | .agg cs => cs.flatMap refsC
def refsT : Tm -> List Nat
 | .va x => refsVa x
 | .tup xs => xs.flatMap refsVa
def refsB : Blk -> List Nat
 | .cells cs => cs.flatMap refsC
 | .map es _ => es.flatMap fun p => refsVa p.2
 | _ => []
def reachL (h : List (Nat × Blk)) : Nat -> List Nat -> List Nat -> List Nat
 | 0, _, acc => acc
 | _ + 1, [], acc => acc
 | f + 1, k :: todo, acc => match acc.contains k with
   | true => reachL h f todo acc
   | false => match keepB (lookB h k) with
     | true => reachL h f (refsB (lookB h k) ++ todo) (k :: acc)
     | false => reachL h f todo acc
def reach (rd : List Nat) (st : St) : List Nat := reachL st.heap 100000 (rd.flatMap fun t => refsT (lookT st.tmps t)) []
def ddT : List (Nat × Tm) -> List Nat -> List (Nat × Tm)
 | [], _ => []
 | (t, x) :: l, seen => match seen.contains t with
   | true => ddT l seen
   | false => (t, x) :: ddT l (t :: seen)
theorem ddT_seen {t : Nat} : ∀ (l : List (Nat × Tm)) (seen : List Nat), t ∈ seen -> lookT (ddT l seen) t = topT
 | [], _, _ => rfl
 | (u, x) :: l, seen, h => by
   unfold ddT
   split
   . exact ddT_seen l seen h
   . rename_i hc
     rw [lookT_set, if_neg]
     . exact ddT_seen l _ (List.mem_cons_of_mem _ h)
     . rintro rfl; simp [h] at hc
theorem ddT_look {t : Nat} : ∀ (l : List (Nat × Tm)) (seen : List Nat), lookT (ddT l seen) t = lookT l t \/ lookT (ddT l seen) t = topT
 | [], _ => .inl rfl
 | (u, x) :: l, seen => by
   by_cases hs : t ∈ seen
   . exact .inr (ddT_seen _ _ hs)
   . unfold ddT
     split
     . rename_i hc
       have hu : u ∈ seen := by simpa using hc
       rw [lookT_set, if_neg (fun e : u = t => hs (e ▸ hu))]
       exact ddT_look l seen
     . rw [lookT_set, lookT_set]
       by_cases e : u = t
       . rw [if_pos e, if_pos e]; exact .inl rfl
       . rw [if_neg e, if_neg e]
         exact ddT_look l _
def gcS (b0 : Nat) : St -> St
 | ⟨ts, h, n, m⟩ => ⟨ddT ts [], (reachL h 100000 (List.range b0 ++ (ddT ts []).flatMap fun p => refsT p.2) []).map (fun k => (k, lookB h k)), n, m⟩
theorem lookB_keep {h : List (Nat × Blk)} {k : Nat} : ∀ (ids : List Nat), lookB (ids.map fun k => (k, lookB h k)) k = lookB h k \/ lookB (ids.map fun k => (k, lookB h k)) k = .gone
 | [] => .inr rfl
 | i :: ids => by
   rw [List.map_cons, lookB_cons]
   by_cases e : i = k
   . rw [if_pos e, e]; exact .inl rfl
   . rw [if_neg e]; exact lookB_keep ids
theorem gcS_sub (b0 : Nat) (st : St) : Sub st (gcS b0 st) := by
 obtain ⟨ts, h, n, m⟩ := st
 exact ⟨rfl, rfl, fun t => ddT_look ts [], fun k => lookB_keep _⟩
def fStB (st : St) (K : St -> Bool) : Bool := match st with
 | ⟨ts, h, n, m⟩ => fTs ts fun ts => fHs h fun h => K ⟨ts, h, n, m⟩
theorem fStB_eq (st : St) (K : St -> Bool) : fStB st K = K st := by
 obtain ⟨ts, h, n, m⟩ := st; simp only [fStB, fTs_eq, fHs_eq]
section
variable (P : Program) (τ : Tys)
def takeVB (ops : List Oper) (i : Nat) (st : St) (K : Tm -> Bool) : Bool := match ops[i]? with
 | none => false
 | some o => match wantOf ops o st with
   | some true => cvOk o.op (ev st) && vOpB P τ o.op o.type (ev st) st.heap fun x => K (kbT x)
   | some false => K undT
   | none => false
def opAtB (calls : Nat -> List Va -> St -> (Tm -> St -> Bool) -> Bool) (ops : List Oper) (i : Nat) (st : St) (K : St -> Bool) : Bool := match ops[i]? with
 | none => false
 | some o => match o.guard with
   | none => vcOpB P τ calls o st K
   | some (j, want) => match dstOf ops j with
     | none => false
     | some s => onBoolB st s fun st b => match b == some want with
       | true => vcOpB P τ calls o st K
       | false => putKB st o.dst undT K
def newsB (ops : Array Oper) : List Nat -> St -> (St -> Bool) -> Bool
 | [], st, K => K st
 | z :: zs, ⟨ts, h, n, m⟩, K => match ops[z]? with
   | some o => match o.op, o.dst with
     | .alloc t, some d => match τ t with
       | some ⟨_, _, _, z0⟩ => Nat.blt d m && fCs (zeroCells' z0) fun cs => newsB ops zs ⟨(d, .va (.c (.own n 0))) :: ts, (n, .cells cs) :: h, n + 1, m⟩ K
       | none => false
     | _, _ => false
   | none => false
def anyB (calls : Nat -> List Va -> St -> (Tm -> St -> Bool) -> Bool) (ops : Array Oper) : List Stp -> List Nat -> St -> (St -> Bool) -> Bool
 | [], _, st, K => K st
 | .take i :: p, T, st, K => takeVB P τ ops.toList i st fun y => putKB st (dstAt ops i) y fun st => anyB calls ops p (i :: T) st K
 | .act j T' rd :: p, _, ⟨ts, h, n, m⟩, K => fNs (reach rd ⟨ts, h, n, m⟩) fun ids => idsFit ops ids T' ts h n &&
    fTs (renTs (List.range ids.length) ids ts rd) fun ts1 => fHs (renHs (List.range ids.length) ids h ids (List.range ids.length)) fun h1 =>
     opAtB P τ calls ops.toList j ⟨ts1, h1, ids.length, m⟩ fun st1 => match dstAt ops j, st1 with
      | some t, ⟨ts1, h1, n1, _⟩ => fT (kbT (fmT (backN ids ids.length n) (lookT ts1 t))) fun y => fHs (backF ids n h1 h) fun h => anyB calls ops p T' ⟨(t, y) :: ts, h, n + (n1 - ids.length), m⟩ K
      | none, ⟨_, h1, n1, _⟩ => fHs (backF ids n h1 h) fun h => anyB calls ops p T' ⟨ts, h, n + (n1 - ids.length), m⟩ K
 | .news zs :: p, T, ⟨ts, h, n, m⟩, K => (T.all fun k => (rdAt ops k ts).all fun b => Nat.blt b n) && newsB τ ops zs ⟨ts, h, n, m⟩ fun st => anyB calls ops p T st K
def quietO (o : Oper) : Bool := o.dst.isSome && (match o.op with
 | .move _ | .assign _ | .pick .. | .load .. | .fieldAddr .. | .build .. | .indexAddr .. | .field .. | .unOp .. | .lookup .. | .extract .. | .slice .. | .index .. | .nilCheck _ | .makeInterface .. => true
 | .makeFunc _ f _ => f.isEmpty
 | .binOp _ _ _ y _ => !isNilC y
 | .convert s _ _ => !isSliceT τ s
 | .call c => match c.callee with
   | .builtin .len | .builtin .min | .builtin .max => true
   | _ => false
 | _ => false)
def quietAt (ops : Array Oper) (i : Nat) : Bool := match ops[i]? with
 | some o => quietO τ o
 | none => false
def mkP (ops : Array Oper) (tb : List (List Nat)) : Nat -> List Nat -> List Nat -> List Stp
 | 0, _, _ => []
 | f + 1, C, T => match (List.range ops.size).find? fun i => !C.contains i && (!isZ ops i && (quietAt τ ops i && (subC C (preds ops i) && (noDst ops i (looks ops i) && T.all fun k => freeT ops (dstAt ops i) k && (noDst ops k (looks ops i) || depB tb i k))))) with
   | some i => .take i :: mkP ops tb f (i :: C) (i :: T)
   | none => match (List.range ops.size).find? fun j => !C.contains j && (!isZ ops j && subC C (preds ops j)) with
     | some j => .act j (T.filter fun k => !depB tb j k) (looks ops j) :: mkP ops tb f (j :: C) (T.filter fun k => !depB tb j k)
     | none => match (List.range ops.size).filter fun z => isZ ops z && !C.contains z with
       | [] => []
       | z :: zs => .news (z :: zs) :: mkP ops tb f (z :: zs ++ C) T
def planOf (ops : Array Oper) : List Stp := mkP τ ops (tblN ops ops.size) (2 * ops.size) [] []
def planFits (ops : Array Oper) : Bool := rOk ops && pOk ops (tblN ops ops.size) (planOf τ ops) [] []
def zTops (ops : Array Oper) : List (Nat × Tm) := ((List.range ops.size).filter (isZ ops)).filterMap fun z => (dstAt ops z).map fun d => (d, topT)
structure RB where
 code : Bool -> Nat -> Code -> St -> (Exit -> St -> Bool) -> Bool
 call : Nat -> List Va -> St -> (Tm -> St -> Bool) -> Bool
 jump : Bool -> Nat -> Nat -> Code -> Code -> St -> (Exit -> St -> Bool) -> Bool
def labelOf : Code -> Option Nat
 | .seq a b => match labelOf a with
   | some l => some l
   | none => labelOf b
 | .label l => some l
 | _ => none
def condKB (c : Operand) (A B : St -> Bool) (st : St) : Bool := match c with
 | .tmp s => onBoolB st s fun st t => match t with
   | some true => A st
   | some false => B st
   | none => false
 | .const (.bool true) => A st
 | .const (.bool false) => B st
 | _ => false
noncomputable def codeS (r : RB) (dd : Bool) (b0 : Nat) (c : Code) (st : St) (K : Exit -> St -> Bool) : Bool := match c with
 | .skip => K .normal st
 | .region _ ops draw => match draw with
   | false => vcOpsB P τ r.call ops.toList ops.toList st (K .normal)
   | true => match st with
     | ⟨ts, h, n, m⟩ => planFits τ ops && (zFit τ m ops && anyB P τ r.call ops (planOf τ ops) [] ⟨zTops ops ++ ts, h, n, m⟩ (K .normal))
 | .seq x y => r.code dd b0 x st fun e st => match e with
   | .normal => r.code dd b0 y st K
   | .exit id => K (.exit id) st
   | .goto l => K (.goto l) st
   | .ret => K .ret st
   | _ => false
 | .cond c x y => condKB c (fun st => r.code dd b0 x st K) (fun st => r.code dd b0 y st K) st
 | .block id c => r.code dd b0 c st fun e st => match e with
   | .exit id' => match Nat.beq id' id with
     | true => K .normal st
     | false => K (.exit id') st
   | .normal => K .normal st
   | .goto l => K (.goto l) st
   | .ret => K .ret st
   | _ => false
 | .exit id => K (.exit id) st
 | .goto l => K (.goto l) st
 | .label _ => K .normal st
 | .ret => K .ret st
 | .loop c => fStB (gcS b0 st) fun st => r.code dd b0 c st fun e st => match e with
   | .normal => r.code dd b0 (.loop c) st K
   | .exit id => K (.exit id) st
   | .goto l => K (.goto l) st
   | .ret => K .ret st
   | _ => false
 | .scope c => match labelOf c with
   | none => r.code dd b0 c st fun e st => match e with
     | .normal => K .normal st
     | .exit id => K (.exit id) st
     | .ret => K .ret st
     | _ => false
   | some l => match findLabel c l with
     | none => false
     | some rest => r.code dd b0 c st fun e st => match e with
       | .goto l' => Nat.beq l' l && r.jump dd b0 l c rest st K
       | .normal => K .normal st
       | .exit id => K (.exit id) st
       | .ret => K .ret st
       | _ => false
 | _ => false
def jumpS (r : RB) (dd : Bool) (b0 : Nat) (l : Nat) (c rest : Code) (st : St) (K : Exit -> St -> Bool) : Bool := fStB (gcS b0 st) fun st => r.code dd b0 rest st fun e st => match e with
 | .goto l' => Nat.beq l' l && r.jump dd b0 l c rest st K
 | .normal => K .normal st
 | .exit id => K (.exit id) st
 | .ret => K .ret st
 | _ => false
def resVarB (st : St) (r : ResultVar) (K : Va -> Bool) : Bool :=
 match r with
 | .tmp t => match lookT st.tmps t with
   | .va x => K x
   | _ => false
 | .cell a t => match τ t with
   | some ⟨desc, size, _, _⟩ => loadAtB st.heap (lookT st.tmps a) size fun cs => match mkVa (wantAgg desc) cs with
     | some y => K y
     | none => false
   | none => false
def resVarsB (st : St) : List ResultVar -> (List Va -> Bool) -> Bool
 | [], K => K []
 | r :: rs, K => resVarB τ st r fun x => resVarsB st rs fun xs => fVa x fun x => K (x :: xs)
def inlQB (rs : List ResultVar) (K : List Va -> St -> Bool) : Exit -> St -> Bool
 | .ret, st => resVarsB τ st rs fun xs => K xs st
 | .normal, st => resVarsB τ st rs fun xs => K xs st
 | _, _ => false
def keepH (b0 : Nat) (rs : List Nat) (h : List (Nat × Blk)) : List (Nat × Blk) := (reachL h 100000 (List.range b0 ++ rs) []).map fun k => (k, lookB h k)
def backKB (ids : List Nat) (ts : List (Nat × Tm)) (n m : Nat) (h : List (Nat × Blk)) (K : Tm -> St -> Bool) (y : Tm) (st : St) : Bool := match st with
 | ⟨[], h2, n2, 0⟩ => fT (fmT (backN ids ids.length n) y) fun y' => fHs (backF ids n (keepH ids.length (refsT y) h2) h) fun h3 => K y' ⟨ts, h3, n + (n2 - ids.length), m⟩
 | _ => false
def callS (nf : RB -> Nat -> List Va -> St -> Option ((Tm -> St -> Bool) -> Bool)) (ft : Nat -> Option Func) (r : RB) (f : Nat) (as0 : List Va) (st : St) (K : Tm -> St -> Bool) : Bool := match st with
 | ⟨ts, h, n, m⟩ => fNs (reachL h 100000 (as0.flatMap refsVa) []) fun ids =>
     (idsOk 0 ids && (idsBelow h n && ((ids.all fun k => Nat.blt k n) && (ids.all fun k => keepB (lookB h k))))) &&
     fVas (as0.map (renVa (List.range ids.length) ids)) fun as1 => fHs (renHs (List.range ids.length) ids h ids (List.range ids.length)) fun h1 =>
      match nf r f as1 ⟨[], h1, ids.length, 0⟩ with
      | some B => B (backKB ids ts n m h K)
      | none => match ft f with
        | some ⟨_, _, _, _, _, _, ntmps, rs, some c, _, _, _, _, _, _, _⟩ => Nat.ble as1.length ntmps &&
          r.code false ids.length c ⟨zipN 0 (as1.map .va), h1, ids.length, ntmps⟩ (inlQB τ rs.toList fun xs st2 => backKB ids ts n m h K (tmOf xs) ⟨[], st2.heap, st2.next, 0⟩)
        | _ => false
noncomputable def run (nf : RB -> Nat -> List Va -> St -> Option ((Tm -> St -> Bool) -> Bool)) (ft : Nat -> Option Func) (n : Nat) : RB :=
 Nat.rec ⟨fun _ _ _ _ _ => false, fun _ _ _ _ => false, fun _ _ _ _ _ _ _ => false⟩ (fun _ r => ⟨codeS P τ r, callS τ nf ft r, jumpS r⟩) n
end
section
variable {P : Program} {τ : Tys}
abbrev CB (calls : Nat -> List Va -> St -> (Tm -> St -> Bool) -> Bool) (calls' : Nat -> List Va -> St -> (Tm -> St -> Prop) -> Prop) : Prop :=
 ∀ f aL st (K : Tm -> St -> Bool) (K' : Tm -> St -> Prop), (∀ r s, K r s = true -> K' r s) -> calls f aL st K = true -> calls' f aL st K'
theorem takeVB_ok {ops : List Oper} {i : Nat} {st : St} {K : Tm -> Bool} {K' : Tm -> Prop} (hK : ∀ s, K s = true -> K' s) (h : takeVB P τ ops i st K = true) : takeV P τ ops i st K' := by
 unfold takeVB at h; unfold takeV
 split at h
 . exact absurd h Bool.false_ne_true
 . rename_i e; simp only [e]
   split at h
   . rename_i e; simp only [e]; obtain ⟨h1, h2⟩ := bAnd h; exact ⟨h1, vOpB_ok (fun x h => hK _ h) h2⟩
   . rename_i e; simp only [e]; exact hK _ h
   . exact absurd h Bool.false_ne_true
theorem opAtB_ok {calls : Nat -> List Va -> St -> (Tm -> St -> Bool) -> Bool} {calls' : Nat -> List Va -> St -> (Tm -> St -> Prop) -> Prop} (hc : CB calls calls') {ops : List Oper} {i : Nat} {st : St} {K : St -> Bool} {K' : St -> Prop} (hK : ∀ s, K s = true -> K' s) (h : opAtB P τ calls ops i st K = true) : opAt P τ calls' ops i st K' := by
 unfold opAtB at h; unfold opAt
 split at h
 . exact absurd h Bool.false_ne_true
 . rename_i e; simp only [e]
   split at h
   . rename_i e; simp only [e]; exact vcOpB_ok hc hK h
   . rename_i e; simp only [e]
     split at h
     . exact absurd h Bool.false_ne_true
     . rename_i e; simp only [e]
       refine onBoolB_ok (fun st b h => ?_) h
       split at h
       . rename_i e; simp only [e]; exact vcOpB_ok hc hK h
       . rename_i e; simp only [e]; exact putKB_ok hK h
theorem newsB_ok {ops : Array Oper} {K : St -> Bool} {K' : St -> Prop} (hK : ∀ s, K s = true -> K' s) : ∀ {zs : List Nat} {st : St}, newsB τ ops zs st K = true -> newsP τ ops zs st K'
 | [], _, h => hK _ h
 | z :: zs, ⟨ts, hp, n, m⟩, h => by
   unfold newsB at h; unfold newsP
   split at h
   . rename_i e; simp only [e]
     split at h
     . rename_i e1 e2; simp only [e1, e2]
       split at h
       . rename_i e; simp only [e]
         obtain ⟨h1, h2⟩ := bAnd h
         rw [fCs_eq] at h2
         exact ⟨h1, newsB_ok hK h2⟩
       . exact absurd h Bool.false_ne_true
     . exact absurd h Bool.false_ne_true
   . exact absurd h Bool.false_ne_true
theorem anyB_ok {calls : Nat -> List Va -> St -> (Tm -> St -> Bool) -> Bool} {calls' : Nat -> Nat -> List Va -> St -> (Tm -> St -> Prop) -> Prop} (hc : ∀ b, CB calls (calls' b)) {ops : Array Oper} {K : St -> Bool} {K' : St -> Prop} (hK : ∀ s, K s = true -> K' s) :
 ∀ {p : List Stp} {T : List Nat} {st : St}, anyB P τ calls ops p T st K = true -> anyP P τ calls' reach ops p T st K'
 | [], _, _, h => hK _ h
 | .take i :: p, T, st, h => by
   unfold anyB at h; unfold anyP
   exact takeVB_ok (fun y h => putKB_ok (fun s h => anyB_ok hc hK h) h) h
 | .act j T' rd :: p, T, ⟨ts, hp, n, m⟩, h => by
   unfold anyB at h; unfold anyP
   rw [fNs_eq] at h
   obtain ⟨h1, h⟩ := bAnd h
   rw [fTs_eq, fHs_eq] at h
   refine ⟨h1, opAtB_ok (hc _) (fun st1 h => ?_) h⟩
   obtain ⟨ts1, hp1, n1, m1⟩ := st1
   cases hd : dstAt ops j with
   | none =>
     rw [hd] at h
     dsimp only at h
     rw [fHs_eq] at h
     exact anyB_ok hc hK h
   | some t =>
     rw [hd] at h
     dsimp only at h
     rw [fT_eq, fHs_eq] at h
     exact anyB_ok hc hK h
 | .news zs :: p, T, ⟨ts, hp, n, m⟩, h => by
   unfold anyB at h; unfold anyP
   obtain ⟨h1, h⟩ := bAnd h
   exact ⟨h1, newsB_ok (fun s h => anyB_ok hc hK h) h⟩
theorem resVarB_ok {st : St} {r : ResultVar} {K : Va -> Bool} {K' : Va -> Prop} (hK : ∀ s, K s = true -> K' s) (h : resVarB τ st r K = true) : resVar τ st r K' := by
 unfold resVarB at h; unfold resVar
 split at h
 . split at h
   . rename_i e; simp only [e]; exact hK _ h
   . exact absurd h Bool.false_ne_true
 . split at h
   . rename_i e; simp only [e]
     refine loadAtB_ok (fun cs h => ?_) h
     split at h
     . rename_i e; simp only [e]; exact hK _ h
     . exact absurd h Bool.false_ne_true
   . exact absurd h Bool.false_ne_true
theorem resVarsB_ok {st : St} : ∀ {rs : List ResultVar} {K : List Va -> Bool} {K' : List Va -> Prop}, (∀ s, K s = true -> K' s) -> resVarsB τ st rs K = true -> resVars τ st rs K'
 | [], _, _, hK, h => hK _ h
 | r :: rs, K, K', hK, h => by
   unfold resVarsB at h; unfold resVars
   refine resVarB_ok (fun x h => resVarsB_ok (fun xs h => ?_) h) h
   rw [fVa_eq] at h ⊢; exact hK _ h
structure RBok (P : Program) (r : RB) : Prop where
 code : ∀ base ds dd b0 c st (K : Exit -> St -> Bool) (K' : Exit -> St -> Prop), (dd = false -> ds = []) -> (∀ e s, K e s = true -> K' e s) -> r.code dd b0 c st K = true -> DSat P base ds c st K'
 call : ∀ base, CB r.call (fun f aL st K => ACall P base f aL st K)
theorem acall_ok (base : Nat) : CallsOk P base (fun f aL st K => ACall P base f aL st K) := fun f aL st K h => h.run
def NfOk (P : Program) (nf : RB -> Nat -> List Va -> St -> Option ((Tm -> St -> Bool) -> Bool)) : Prop := ∀ r, RBok P r -> ∀ f aL st B, nf r f aL st = some B -> ∀ base (K : Tm -> St -> Bool), B K = true -> ACall P base f aL st fun y s => K y s = true
def FtOk (P : Program) (ft : Nat -> Option Func) : Prop := ∀ f fn, ft f = some fn -> P.funcs[f]? = some fn /\ (fn.name == "runtime.NumGoroutine") = false
variable {nf : RB → Nat → List Va → St → Option ((Tm → St → Bool) → Bool)} {ft : Nat → Option Func}
theorem renVas_le {js : List Nat} (hj : Ups js) (ids : List Nat) : ∀ (aL : List Va), vasLe ids 0 aL (aL.map (renVa js ids))
 | [] => trivial
 | _ :: aL => ⟨renVa_le hj ids _, renVas_le hj ids aL⟩
theorem backKB_ok {ids : List Nat} {ts : List (Nat × Tm)} {n m : Nat} {h : List (Nat × Blk)} {K : Tm -> St -> Bool} {y : Tm} {s2 : St} (hk : backKB ids ts n m h K y s2 = true) :
 ∃ s3, Sub s2 s3 /\ ∃ h3, s3 = ⟨[], h3, s2.next, 0⟩ /\ K (fmT (backN ids ids.length n) y) ⟨ts, backF ids n h3 h, n + (s2.next - ids.length), m⟩ = true := by
 unfold backKB at hk
 split at hk
 . rename_i h2 n2
   rw [fT_eq, fHs_eq] at hk
   exact ⟨⟨[], keepH ids.length (refsT y) h2, n2, 0⟩, ⟨rfl, rfl, fun _ => .inl rfl, fun k => lookB_keep _⟩, keepH ids.length (refsT y) h2, rfl, hk⟩
 . exact absurd hk Bool.false_ne_true
theorem callS_ok (hτ : TysOk P τ) (hnf : NfOk P nf) (hft : FtOk P ft) {r : RB} (hr : RBok P r) (base : Nat) : CB (callS τ nf ft r) (fun f aL st K => ACall P base f aL st K) := by
 intro f as0 st K K' hK h
 obtain ⟨ts, hp, n, m⟩ := st
 unfold callS at h
 dsimp only at h
 rw [fNs_eq] at h
 obtain ⟨h1, h⟩ := bAnd h
 obtain ⟨i1, h1⟩ := bAnd h1
 obtain ⟨i2, h1⟩ := bAnd h1
 obtain ⟨i3, i4⟩ := bAnd h1
 rw [fVas_eq, fHs_eq] at h
 obtain ⟨ids, hids⟩ : ∃ ids, ids = reachL hp 100000 (as0.flatMap refsVa) [] := ⟨_, rfl⟩
 rw [<- hids] at h i1 i3 i4
 have hcall : ACall P ids.length f (as0.map (renVa (List.range ids.length) ids)) ⟨[], renHs (List.range ids.length) ids hp ids (List.range ids.length), ids.length + 0, 0⟩
  (fun y s2 => ∃ s3, Sub s2 s3 /\ ∃ h3, s3 = ⟨[], h3, s2.next, 0⟩ /\ K (fmT (backN ids ids.length n) y) ⟨ts, backF ids n h3 hp, n + (s2.next - ids.length), m⟩ = true) := by
  split at h
  . rename_i B e
    exact ⟨fun ψ S w a vals hrl hv => ((hnf r hr f _ _ B e ids.length _ h).run ψ S w a vals hrl hv).mono fun e w' ⟨r, st', v, ψ', S', h1, h2, h3, h4, h5⟩ => ⟨r, st', v, ψ', S', h1, backKB_ok h2, h3, h4, h5⟩⟩
  . split at h
    . rename_i nm orig targs params rts nfree ntmps rs c nr ours file el ln met tn e
      obtain ⟨hf, hname⟩ := hft _ _ e
      obtain ⟨i5, h⟩ := bAnd h
      refine acall_of_sat (fn := ⟨nm, orig, targs, params, rts, nfree, ntmps, rs, some c, nr, ours, file, el, ln, met, tn⟩) hτ hf rfl hname (Nat.le_of_ble_eq_true i5) ?_
      refine (hr.code ids.length [] false ids.length c _ _ _ (fun _ => rfl) ?_ h).plain
      rintro e ⟨ts2, h2, n2, m2⟩ h
      have fin : resVarsB τ ⟨ts2, h2, n2, m2⟩ rs.toList (fun xs => backKB ids ts n m hp K (tmOf xs) ⟨[], h2, n2, 0⟩) = true ->
       resVars τ ⟨ts2, h2, n2, m2⟩ rs.toList fun xs => ∃ s3, Sub ⟨[], h2, n2, 0⟩ s3 /\ ∃ h3, s3 = ⟨[], h3, n2, 0⟩ /\ K (fmT (backN ids ids.length n) (tmOf xs)) ⟨ts, backF ids n h3 hp, n + (n2 - ids.length), m⟩ = true :=
       fun h => resVarsB_ok (fun xs h => backKB_ok h) h
      cases e with
      | ret => exact fin h
      | normal => exact fin h
      | exit id => exact absurd h Bool.false_ne_true
      | goto l => exact absurd h Bool.false_ne_true
      | panic ch => exact absurd h Bool.false_ne_true
      | outgrown => exact absurd h Bool.false_ne_true
    . exact absurd h Bool.false_ne_true
 have hcall2 := hcall.sub (K' := fun y s3 => s3.tmps = [] /\ s3.lim = 0 /\ K (fmT (backN ids ids.length n) y) ⟨ts, backF ids n s3.heap hp, n + (s3.next - ids.length), m⟩ = true) (fun y s2 ⟨s3, g1, h3, g2, g3⟩ => ⟨s3, g1, by rw [g2]; exact ⟨rfl, rfl, g3⟩⟩)
 refine ACall.sub (ACall.frame ids (b := ids.length) (nv := 0) (K := fun y s => ∃ s', Sub s s' /\ K y s' = true) i1 (renHs_le (ups_range _) ids hp _ _ 0 (fun i => by rw [Nat.zero_add]) (fun q hq => by simp at hq; simp [hq])) (renVas_le (ups_range _) ids as0)
  (Nat.ble_eq_true_of_le (Nat.le_refl _)) i2 i3 i4 hcall2 ?_) fun y s ⟨s', g1, g2⟩ => ⟨s', g1, hK _ _ g2⟩
 rintro y ts1 h1' n1' l1 ⟨_, _, g⟩
 exact ⟨⟨ts, backF ids n h1' hp, n + (n1' - ids.length), m⟩, ⟨rfl, rfl, fun _ => .inl rfl, fun k => .inl backF_eq⟩, g⟩
theorem condKB_ok {c : Operand} {A B : St -> Bool} {A' B' : St -> (Exit -> St -> Prop) -> Prop} {st : St} {Q : Exit -> St -> Prop} (hA : ∀ s, A s = true -> A' s Q) (hB : ∀ s, B s = true -> B' s Q) (h : condKB c A B st = true) : condK c A' B' st Q := by
 unfold condKB at h; unfold condK
 split at h
 . refine onBoolB_ok (fun s b h => ?_) h
   split at h
   . exact hA _ h
   . exact hB _ h
   . exact absurd h Bool.false_ne_true
 . exact hA _ h
 . exact hB _ h
 . exact absurd h Bool.false_ne_true
theorem run_ok (hτ : TysOk P τ) (hz : ∀ t i, τ t = some i -> zeroOk i.zero) (hmix : P.follows .mixedOrders = true) (hnf : NfOk P nf) (hft : FtOk P ft) : ∀ n, RBok P (run P τ nf ft n) := by
 intro n
 induction n using Nat.strongRecOn with
 | _ n ih =>
   cases n with
   | zero => exact ⟨fun _ _ _ _ _ _ _ _ _ _ h => absurd h Bool.false_ne_true, fun _ _ _ _ _ _ _ h => absurd h Bool.false_ne_true⟩
   | succ n =>
     have hr := ih n (Nat.lt_succ_self n)
     refine ⟨fun base ds dd b0 c st K K' hdd hK h => ?_, callS_ok hτ hnf hft hr⟩
     have h : codeS P τ (run P τ nf ft n) dd b0 c st K = true := h
     unfold codeS at h
     split at h
     . exact DSat.skip (hK _ _ h)
     . split at h
       . exact DSat.regV hτ hz (acall_ok base) (vcOpsB_ok (hr.call base) (hK _) _ h)
       . obtain ⟨ts, hp, n1, m⟩ := st
         obtain ⟨h1, h⟩ := bAnd h
         obtain ⟨h2, h⟩ := bAnd h
         unfold planFits at h1
         obtain ⟨h1, h3⟩ := bAnd h1
         exact DSat.any fun ψ S w a hrl => any_wp hτ hz hmix (fun b => acall_ok b) (reach := reach) h1 h2 h3 (anyB_ok (fun b => hr.call b) (hK _) h) hrl
     . refine DSat.seqK (hr.code base ds dd b0 _ _ _ _ hdd (fun e s h => ?_) h)
       cases e with
       | normal => exact hr.code base ds dd b0 _ _ _ _ hdd hK h
       | exit id => exact hK _ _ h
       | goto l => exact hK _ _ h
       | ret => exact hK _ _ h
       | panic ch => exact absurd h Bool.false_ne_true
       | outgrown => exact absurd h Bool.false_ne_true
     . exact DSat.condK (condKB_ok (A' := fun st Q => DSat P base ds _ st Q) (B' := fun st Q => DSat P base ds _ st Q) (fun s h => hr.code base ds dd b0 _ _ _ _ hdd hK h) (fun s h => hr.code base ds dd b0 _ _ _ _ hdd hK h) h)
     . refine DSat.block (hr.code base ds dd b0 _ _ _ _ hdd (fun e s h => ?_) h)
       cases e with
       | normal => exact hK _ _ h
       | exit id' =>
         dsimp only at h
         unfold blkQ
         split at h
         . rename_i e; simp only [e]; exact hK _ _ h
         . rename_i e; simp only [e]; exact hK _ _ h
       | goto l => exact hK _ _ h
       | ret => exact hK _ _ h
       | panic ch => exact absurd h Bool.false_ne_true
       | outgrown => exact absurd h Bool.false_ne_true
     . exact DSat.exit (hK _ _ h)
     . exact DSat.goto (hK _ _ h)
     . exact DSat.label (hK _ _ h)
     . exact DSat.ret (hK _ _ h)
     . rename_i c _
       refine DSat.loopN (fun k st => k <= n + 1 /\ (run P τ nf ft k).code dd b0 (.loop c) st K = true) ?_ (n := n + 1) ⟨Nat.le_refl _, show codeS P τ (run P τ nf ft n) dd b0 (.loop c) st K = true by unfold codeS; exact h⟩
       rintro k st ⟨hk, h⟩
       cases k with
       | zero => exact absurd h Bool.false_ne_true
       | succ k =>
         have h : codeS P τ (run P τ nf ft k) dd b0 (.loop c) st K = true := h
         unfold codeS at h
         dsimp only at h
         rw [fStB_eq] at h
         refine DSat.sub (gcS_sub b0 st) ((ih k (by omega)).code base ds dd b0 _ _ _ _ hdd (fun e s h => ?_) h)
         cases e with
         | normal => exact ⟨k, Nat.lt_succ_self k, by omega, h⟩
         | exit id => exact hK _ _ h
         | goto l => exact hK _ _ h
         | ret => exact hK _ _ h
         | panic ch => exact absurd h Bool.false_ne_true
         | outgrown => exact absurd h Bool.false_ne_true
     . rename_i c _
       split at h
       . refine DSat.scope1 (hr.code base ds dd b0 _ _ _ _ hdd (fun e s h => ?_) h)
         cases e with
         | normal => exact hK _ _ h
         | exit id => exact hK _ _ h
         | ret => exact hK _ _ h
         | goto l => exact absurd h Bool.false_ne_true
         | panic ch => exact absurd h Bool.false_ne_true
         | outgrown => exact absurd h Bool.false_ne_true
       . rename_i l _
         split at h
         . exact absurd h Bool.false_ne_true
         . rename_i rest hf
           refine DSat.scopeN hf (fun k st => k <= n + 1 /\ (run P τ nf ft k).jump dd b0 l c rest st K = true) (hr.code base ds dd b0 _ _ _ _ hdd (fun e s h => ?_) h) ?_
           . cases e with
             | normal => exact hK _ _ h
             | exit id => exact hK _ _ h
             | ret => exact hK _ _ h
             | goto l' => obtain ⟨h1, h2⟩ := bAnd h; exact ⟨Nat.eq_of_beq_eq_true h1, n, by omega, h2⟩
             | panic ch => exact absurd h Bool.false_ne_true
             | outgrown => exact absurd h Bool.false_ne_true
           . rintro k st ⟨hk, h⟩
             cases k with
             | zero => exact absurd h Bool.false_ne_true
             | succ k =>
               have h : jumpS (run P τ nf ft k) dd b0 l c rest st K = true := h
               unfold jumpS at h
               rw [fStB_eq] at h
               refine DSat.sub (gcS_sub b0 st) ((ih k (by omega)).code base ds dd b0 _ _ _ _ hdd (fun e s h => ?_) h)
               cases e with
               | normal => exact hK _ _ h
               | exit id => exact hK _ _ h
               | ret => exact hK _ _ h
               | goto l' => obtain ⟨h1, h2⟩ := bAnd h; exact ⟨Nat.eq_of_beq_eq_true h1, k, Nat.lt_succ_self k, by omega, h2⟩
               | panic ch => exact absurd h Bool.false_ne_true
               | outgrown => exact absurd h Bool.false_ne_true
     . exact absurd h Bool.false_ne_true
end
section
variable {P : Program} {x : TT}
def isYes : List Va -> Bool
 | [.c (.kb b)] => b
 | [.c (.d (.v (.bool b)))] => b
 | _ => false
def FYes : List Ar -> Option Rs
 | [] => some ⟨True, .va (.c (.d (.v (.bool true)))), []⟩
 | _ => none
theorem ft_all (h : (P.funcs.toList.all fun fn => !(fn.name == "runtime.NumGoroutine")) = true) : FtOk P fun f => P.funcs[f]? := fun f fn hf => ⟨hf, by
 have hm : fn ∈ P.funcs.toList := by
  obtain ⟨h1, h2⟩ := Array.getElem?_eq_some_iff.1 hf
  rw [<- h2]; simp
 simpa using List.all_eq_true.1 h fn hm⟩
theorem fc_yes (hx : x.ok P) (hmix : P.follows .mixedOrders = true) {nf : RB -> Nat -> List Va -> St -> Option ((Tm -> St -> Bool) -> Bool)} {ft : Nat -> Option Func} (hnf : NfOk P nf) (hft : FtOk P ft) {f : Nat} {fn : Func} {c : Code} (hf : P.funcs[f]? = some fn) (hb : fn.body = some c) (hname : (fn.name == "runtime.NumGoroutine") = false) (n : Nat)
 (h : (run P x.get nf ft n).code false 0 c ⟨[], [], 0, fn.ntmps⟩ (inlQB x.get fn.results.toList fun xs _ => isYes xs) = true) : FC P f FYes := by
 intro aL pre r us e _
 unfold FYes at e
 split at e
 . cases e
   refine fcatA hx hf hname false ?_
   obtain ⟨nm, orig, targs, params, rts, nfree, ntmps, rs, body, nr, ours, file, el, ln, met, tn⟩ := fn
   have hb : body = some c := hb
   subst hb
   refine ⟨Nat.zero_le _, ((run_ok (TT.tysOk hx) (TT.zeros hx) hmix hnf hft n).code 0 [] false 0 c _ _ _ (fun _ => rfl) ?_ h).plain⟩
   intro e st h
   have fin : ∀ st : St, resVarsB x.get st rs.toList (fun xs => isYes xs) = true -> Go.Sx.fin x.get false (arsRows []) rs.toList (fun r' us' => rtEq r' (.va (.c (.d (.v (.bool true))))) /\ usEq (arsRows []) us' []) st := by
    intro st h
    unfold Go.Sx.fin
    refine resVarsB_ok (fun xs h => ?_) h
    unfold isYes at h
    split at h
    . subst h; exact ⟨rfl, trivial⟩
    . subst h; exact ⟨rfl, trivial⟩
    . exact absurd h Bool.false_ne_true
   cases e with
   | ret => exact fin st h
   | normal => exact fin st h
   | exit id => exact absurd h Bool.false_ne_true
   | goto l => exact absurd h Bool.false_ne_true
   | panic ch => exact absurd h Bool.false_ne_true
   | outgrown => exact absurd h Bool.false_ne_true
 . cases e
end
abbrev Nf := RB -> Nat -> List Va -> St -> Option ((Tm -> St -> Bool) -> Bool)
def frVaB (h : List (Nat × Blk)) (x : Va) (K : List (Nat × Blk) -> Bool) : Bool :=
 match x with
 | .c (.own _ _) => false
 | .c (.fn _ _) => false
 | .c c => frCells h [c] K
 | .agg cs => frCells h cs K
def frVasB : List (Nat × Blk) -> List Va -> (List (Nat × Blk) -> Bool) -> Bool
 | h, [], K => K h
 | h, c :: cs, K => frVaB h c fun h => frVasB h cs K
def argKB (h : List (Nat × Blk)) (own : Bool) (x : Va) (K : Ar -> List (Nat × Nat × Nat) -> Bool) : Bool :=
 match own, x with
 | true, .c (.osl k z o len) => match lookB h k with
   | .row sz n f => match Nat.beq sz z, Nat.beq o 0 with
     | true, true => Nat.ble len n && K (.c (.ow sz len f)) [(k, sz, len)]
     | _, _ => false
   | _ => false
 | true, _ => false
 | false, .c (.d x) => fD x fun d => K (.c (.d d)) []
 | false, .c (.kb b) => K (.c (.d (.v (.bool b)))) []
 | false, .c (.osl k z o len) => closeCellB h (.osl k z o len) fun d => fD d fun d => K (.c (.d d)) []
 | false, .c _ => false
 | false, .agg cs => closeCellsB h cs fun ds => fDs ds fun ds => K (.agg (ds.map .d)) []
def argsKB (h : List (Nat × Blk)) : List Bool -> List Va -> (List Ar -> List (Nat × Nat × Nat) -> Bool) -> Bool
 | _, [], K => K [] []
 | [], x :: xs, K => argKB h false x fun a ids => argsKB h [] xs fun aL ids' => K (a :: aL) (ids ++ ids')
 | b :: bs, x :: xs, K => argKB h b x fun a ids => argsKB h bs xs fun aL ids' => K (a :: aL) (ids ++ ids')
def updKB : List (Nat × Nat × Nat) -> List (Option (Nat -> List DV)) -> List (Nat × Blk) -> (List (Nat × Blk) -> Bool) -> Bool
 | [], [], h, K => K h
 | (k, sz, n) :: ks, some f :: us, h, K => updKB ks us ((k, .row sz n f) :: h) K
 | (k, _, _) :: ks, none :: us, h, K => updKB ks us ((k, .gone) :: h) K
 | _, _, _, _ => false
def retIcsB : List Ic -> St -> (List Cell -> St -> Bool) -> Bool
 | [], st, K => K [] st
 | .d x :: xs, st, K => fD x fun x => retIcsB xs st fun cs st => K (.d x :: cs) st
 | .ow sz n f :: xs, ⟨ts, h, i, m⟩, K => retIcsB xs ⟨ts, (i, .row sz n f) :: h, i + 1, m⟩ fun cs st => K (.osl i sz 0 n :: cs) st
def retArB : Ar -> St -> (Va -> St -> Bool) -> Bool
 | .c x, st, K => retIcsB [x] st fun cs st => match cs with
   | [c] => K (.c c) st
   | _ => false
 | .agg xs, st, K => retIcsB xs st fun cs st => K (.agg cs) st
 | .rp cs, st, K => K (.c (.rp cs)) st
 | .fv g, st, K => K (.c (.fv g)) st
def retArsB : List Ar -> St -> (List Va -> St -> Bool) -> Bool
 | [], st, K => K [] st
 | x :: xs, st, K => retArB x st fun v st => retArsB xs st fun vs st => K (v :: vs) st
def retRtB : Rt -> St -> (Tm -> St -> Bool) -> Bool
 | .va x, st, K => retArB x st fun v st => K (.va v) st
 | .tup xs, st, K => retArsB xs st fun vs st => K (.tup vs) st
def callF (own : List Bool) (F : List Ar -> Option (Rt × List (Option (Nat -> List DV)))) (aL : List Va) (st : St) (K : Tm -> St -> Bool) : Bool := match st with
 | ⟨ts, h, n, m⟩ => frVasB h (frArgs own aL) fun h => argsKB h own aL fun ars ids => match noDups ids, F ars with
   | true, some (r, us) => updKB ids us h fun h => retRtB r ⟨ts, h, n, m⟩ K
   | _, _ => false
section
variable {P : Program}
theorem frVaB_ok {h : List (Nat × Blk)} {x : Va} {K : List (Nat × Blk) -> Bool} {K' : List (Nat × Blk) -> Prop} (hK : ∀ s, K s = true -> K' s) (e : frVaB h x K = true) : frVa h x K' := by
 unfold frVaB at e
 split at e
 . exact absurd e Bool.false_ne_true
 . exact absurd e Bool.false_ne_true
 . rename_i c h1 h2
   have e := frCells_in hK e
   unfold frVa
   cases c <;> first | exact e | exact absurd rfl (h1 _ _) | exact absurd rfl (h2 _ _)
 . exact frCells_in hK e
theorem frVasB_ok : ∀ {xs : List Va} {h : List (Nat × Blk)} {K : List (Nat × Blk) -> Bool} {K' : List (Nat × Blk) -> Prop}, (∀ s, K s = true -> K' s) -> frVasB h xs K = true -> frVas h xs K'
 | [], _, _, _, hK, e => hK _ e
 | _ :: _, _, _, _, hK, e => frVaB_ok (fun _ e => frVasB_ok hK e) e
theorem argKB_ok {Γ : Sums} {h : List (Nat × Blk)} {own : Bool} {x : Va} {K : Ar -> List (Nat × Nat × Nat) -> Bool} {K' : Ar -> List (Nat × Nat × Nat) -> Prop} (hK : ∀ a i, K a i = true -> K' a i) (e : argKB h own x K = true) : argK Γ h own x K' := by
 unfold argKB at e
 split at e
 . unfold argK
   (repeat' split at e) <;> first | (exact absurd e Bool.false_ne_true) | (obtain ⟨e1, e2⟩ := bAnd e; simp only [*]; exact ⟨Nat.le_of_ble_eq_true e1, by first | trivial | exact hK _ _ e2⟩)
 . exact absurd e Bool.false_ne_true
 . rw [fD_eq] at e
   simp only [argK, closeCell, fD_eq]
   exact hK _ _ e
 . simp only [argK, closeCell, fD_eq]
   exact hK _ _ e
 . simp only [argK]
   exact closeCellB_ok (fun d e => by rw [fD_eq] at e ⊢; exact hK _ _ e) e
 . exact absurd e Bool.false_ne_true
 . simp only [argK]
   exact closeCellsB_ok (fun d e => by rw [fDs_eq] at e ⊢; exact hK _ _ e) e
theorem argsKB_ok {Γ : Sums} {h : List (Nat × Blk)} : ∀ {xs : List Va} {own : List Bool} {K : List Ar -> List (Nat × Nat × Nat) -> Bool} {K' : List Ar -> List (Nat × Nat × Nat) -> Prop}, (∀ a i, K a i = true -> K' a i) -> argsKB h own xs K = true -> argsK Γ h own xs K'
 | [], own, _, _, hK, e => by cases own <;> exact hK _ _ e
 | _ :: _, [], _, _, hK, e => argKB_ok (fun _ _ e => argsKB_ok (fun _ _ e => hK _ _ e) e) e
 | _ :: _, _ :: _, _, _, hK, e => argKB_ok (fun _ _ e => argsKB_ok (fun _ _ e => hK _ _ e) e) e
theorem updKB_ok : ∀ {ks : List (Nat × Nat × Nat)} {us : List (Option (Nat -> List DV))} {h : List (Nat × Blk)} {K : List (Nat × Blk) -> Bool} {K' : List (Nat × Blk) -> Prop}, (∀ s, K s = true -> K' s) -> updKB ks us h K = true -> updK ks us h K'
 | [], [], _, _, _, hK, e => hK _ e
 | [], _ :: _, _, _, _, _, e => absurd e Bool.false_ne_true
 | (_, _, _) :: _, [], _, _, _, _, e => absurd e Bool.false_ne_true
 | (_, _, _) :: ks, some _ :: us, _, _, _, hK, e => updKB_ok (ks := ks) (us := us) hK e
 | (_, _, _) :: ks, none :: us, _, _, _, hK, e => updKB_ok (ks := ks) (us := us) hK e
theorem retIcsB_ok : ∀ {xs : List Ic} {st : St} {K : List Cell -> St -> Bool} {K' : List Cell -> St -> Prop}, (∀ a s, K a s = true -> K' a s) -> retIcsB xs st K = true -> retIcs xs st K'
 | [], _, _, _, hK, e => hK _ _ e
 | .d x :: xs, st, K, K', hK, e => by
   unfold retIcsB at e; unfold retIcs
   rw [fD_eq] at e ⊢
   exact retIcsB_ok (fun _ _ e => hK _ _ e) e
 | .ow _ _ _ :: xs, ⟨_, _, _, _⟩, _, _, hK, e => by
   unfold retIcsB at e; unfold retIcs
   exact retIcsB_ok (fun _ _ e => hK _ _ e) e
theorem retArB_ok {x : Ar} {st : St} {K : Va -> St -> Bool} {K' : Va -> St -> Prop} (hK : ∀ a s, K a s = true -> K' a s) (e : retArB x st K = true) : retAr x st K' := by
 unfold retArB at e; unfold retAr
 cases x with
 | c x => exact retIcsB_ok (fun cs s e => by
    split at e
    . exact hK _ _ e
    . exact absurd e Bool.false_ne_true) e
 | agg xs => exact retIcsB_ok (fun _ _ e => hK _ _ e) e
 | rp cs => exact hK _ _ e
 | fv g => exact hK _ _ e
theorem retArsB_ok : ∀ {xs : List Ar} {st : St} {K : List Va -> St -> Bool} {K' : List Va -> St -> Prop}, (∀ a s, K a s = true -> K' a s) -> retArsB xs st K = true -> retArs xs st K'
 | [], _, _, _, hK, e => hK _ _ e
 | _ :: _, _, _, _, hK, e => retArB_ok (fun _ _ e => retArsB_ok (fun _ _ e => hK _ _ e) e) e
theorem retRtB_ok {r : Rt} {st : St} {K : Tm -> St -> Bool} {K' : Tm -> St -> Prop} (hK : ∀ a s, K a s = true -> K' a s) (e : retRtB r st K = true) : retRt r st K' := by
 cases r with
 | va x => exact retArB_ok (fun _ _ e => hK _ _ e) e
 | tup xs => exact retArsB_ok (fun _ _ e => hK _ _ e) e
theorem callF_ok {f : Nat} {G : List Ar -> Option Rs} (hG : FC P f G) {own : List Bool} {F : List Ar -> Option (Rt × List (Option (Nat -> List DV)))} (hF : ∀ xs r us, F xs = some (r, us) -> ∃ pre, G xs = some ⟨pre, r, us⟩ /\ pre)
 {base : Nat} {aL : List Va} {st : St} {K : Tm -> St -> Bool} (h : callF own F aL st K = true) : ACall P base f aL st fun y s => K y s = true := by
 obtain ⟨ts, hp, n, m⟩ := st
 have hΓ : SumsOk P (fun g => if g = f then some ⟨own, G⟩ else none) := by
  intro g sm e
  dsimp only at e
  split at e
  . rename_i hg; subst hg; cases e; exact hG
  . cases e
 refine ⟨vcCall_ok hΓ base f aL ⟨ts, hp, n, m⟩ _ ?_⟩
 unfold vcCall
 simp only [if_pos rfl]
 unfold callF at h
 refine frVasB_ok (fun h1 h => argsKB_ok (fun ars ids h => ?_) h) h
 split at h
 . rename_i r us hd hF'
   obtain ⟨pre, e1, e2⟩ := hF _ _ _ hF'
   rw [hd, e1]
   exact ⟨e2, fun _ => updKB_ok (fun h2 h => retRtB_ok (fun _ _ h => h) h) h⟩
 . exact absurd h Bool.false_ne_true
end
def finR (τ : Tys) (rs : List ResultVar) (ts : List (Nat × Tm)) (m : Nat) (K : Tm -> St -> Prop) (st : St) : Prop := resVars τ st rs fun xs => K (tmOf xs) ⟨ts, st.heap, st.next, m⟩
section
variable {P : Program} {τ : Tys} {base : Nat}
def chainA (P : Program) (n : Nat) : List Code -> St -> (St -> Prop) -> Prop
 | [], st, K => K st
 | c :: cs, st, K => ASat P n c st (thenP (fun st => chainA P n cs st K) fun _ _ => False)
theorem acall_defers {f : Nat} {fn : Func} {pre : List Code} {c2 : Code} {id : Nat} {ops : Array Oper} {o1 o2 : Oper} {d : Nat} {ts0 : Array TypeId} {calls : Nat -> List Va -> St -> (Tm -> St -> Prop) -> Prop}
 (hτ : TysOk P τ) (hz : ∀ t i, τ t = some i -> zeroOk i.zero) {ts : List (Nat × Tm)} {h : List (Nat × Blk)} {n m : Nat} (hcalls : CallsOk P n calls) (hf : P.funcs[f]? = some fn) (hb : fn.body = some (pre.foldr .seq (.seq (.region id ops false) c2))) (hname : (fn.name == "runtime.NumGoroutine") = false)
 (hops : ops.toList = [o1, o2]) (hg1 : o1.guard = none) (hg2 : o2.guard = none) (hop : o2.op = .defer { callee := .value (.tmp d), args := #[], argTypes := ts0 }) (hd2 : o2.dst = none)
 {vas : List Va} {K : Tm -> St -> Prop} (hlen : vas.length <= fn.ntmps)
 {Kr : St -> Prop} (hKr : ∀ st, Kr st -> vcOps P τ calls ops.toList [o1] st fun st => ∃ g caps, Callable P g /\ lookT st.tmps d = .va (.c (.fn g caps)) /\ n <= st.next /\ ∀ ds, DSat P st.next ds c2 st (QD P st.next g caps (finR τ fn.results.toList ts m K))) (hk : chainA P n pre ⟨zipN 0 (vas.map .va), h, n, fn.ntmps⟩ Kr) :
 ACall P base f vas ⟨ts, h, n, m⟩ K := by
 refine ⟨fun ψ S w a vals hrel0 hvals => ?_⟩
 have hvl := hvals.length
 have hrel : Rel P n ψ S w ⟨zipN 0 (vas.map .va), h, n, fn.ntmps⟩ { tmps := vals.toArray ++ Array.replicate (fn.ntmps - vals.toArray.size) undef, defers := [] } :=
  ⟨Nat.le_refl _, hrel0.sim, by simp; omega, rfl, fun t => start_tmps hvals fn.ntmps t⟩
 refine .inl ⟨⟨_, _, hf, hb, hname⟩, calls_of_wp_defers hf hb ?_⟩
 have hdom0 : ∀ k l, ψ k = some l -> k < n := fun k l hk => by
  rcases Nat.lt_or_ge k n with h1 | h1
  . exact h1
  . have := hrel0.sim.dom k h1
    rw [hk] at this; cases this
 suffices key : ∀ (pre : List Code) (st1 : St) (ψ1 : Psi) (S1 : Nat -> Prop) (w' : World) (a' : Act), chainA P n pre st1 Kr -> Rel P n ψ1 S1 w' st1 a' -> Ext n ψ S w ψ1 S1 w' ->
  (pre.foldr Code.seq (.seq (.region id ops false) c2)).wp P (bodyPostD P fn fun e w' => ∃ r st' v ψ' S', e = .returned v /\ K r st' /\ Rel P base ψ' S' w' st' a /\ RepT P ψ' S' w' r v /\ Ext base ψ S w ψ' S' w') a' w' from key pre _ ψ S w _ hk hrel (Ext.refl _ _ _ _)
 intro pre
 induction pre with
 | cons c pre ih =>
   intro st1 ψ1 S1 w' a' hk hrel he1
   refine wp_seq (wp_mono (ASat.run hk ψ1 S1 w' _ hrel) ?_)
   rintro e a2 w2 ⟨st2, ψ2, S2, hq, hr2, he2⟩
   cases e with
   | normal => exact ih _ _ _ _ _ hq hr2 (he1.trans he2)
   | ret => exact hq.elim
   | exit id => exact hq.elim
   | goto l => exact hq.elim
   | panic ch => exact hq.elim
   | outgrown => exact hq.elim
 | nil =>
   intro st1 ψ1 S1 w' a' hk hr1 he1
   have hq := hKr _ hk
   have q1 : ops[0]? = some o1 := by rw [<- Array.getElem?_toList, hops]; rfl
   have q2 : ops[1]? = some o2 := by rw [<- Array.getElem?_toList, hops]; rfl
   have hs : ops.size = 2 := by have := congrArg List.length hops; simpa using this
   refine wp_seq (wp_region ?_)
   rw [hs]
   refine vcOps_then (P := P) hτ hz hcalls (ops := ops) (l2 := [1]) [o1] 0 ψ1 S1 w' st1 a' _ (fun i o hi => ?_) hr1 hq ?_
   . cases i with
     | zero => cases hi; exact q1
     | succ i => cases hi
   . rintro st2 ψ2 S2 w2 a2 ⟨g, caps, hc, hfn, hnb, hds⟩ hr2 he2
     have hv := hr2.tmps d
     rw [hfn] at hv
     obtain ⟨vs, hv, hcaps⟩ := hv
     have x2 : (execOp a2.eval o2).run P w2 = .ok (.defer { target := .fn (.func g) vs, args := #[] }) w2 := by
      simp only [execOp, hop, resolve, Act.eval, hv, Deferred.ofValue, Sem.run_bind, Sem.run_pure, Result.andThen_ok]
      simp
     simp only [wpOps, q2, Region.wanted, hg2, if_true, Oper.wp, x2, Oper.upon, hd2]
     refine .inl ?_
     have hd0 := hr2.defers
     obtain ⟨tm, df⟩ := a2
     dsimp only at hd0
     subst hd0
     show Code.wp P c2 _ (plusD [{ target := .fn (.func g) vs, args := #[] }] ⟨tm, []⟩) w2
     have hr3 : Rel P st2.next ψ2 S2 w2 st2 ⟨tm, []⟩ := ⟨Nat.le_refl _, hr2.sim, hr2.lim, hr2.defers, hr2.tmps⟩
     refine wp_mono ((hds _).run ψ2 S2 w2 _ hr3) ?_
     rintro e a3 w3 ⟨st3, ψ3, S3, a0, hQ, hr4, rfl, he4⟩
     have hdom : ∀ k l, ψ2 k = some l -> k < st2.next := fun k l hk => by
      rcases Nat.lt_or_ge k st2.next with h1 | h1
      . exact h1
      . have := hr2.sim.dom k h1
        rw [hk] at this; cases this
     have hsub : PsiSub ψ2 ψ3 := fun k l hk => by rw [he4.agr k (hdom k l hk)]; exact hk
     have hcaps3 : All2 (RepVa P ψ3 S3 w3) (caps.map fun p => .c (.own p.1 p.2)) vs.toList :=
      All2.map_left (R' := RepVa P ψ3 S3 w3) (fun p : Nat × Nat => Va.c (.own p.1 p.2)) (fun p y h => RepC.later (c := .own p.1 p.2) (show RepC P ψ2 S2 w2 (.own p.1 p.2) y from h) hsub he4.later) hcaps
     have inv : (invoke (.fn (.func g) vs) #[]).run P w3 = .ok (.enter g vs) w3 := by
      simp only [invoke]
      rw [run_enter hc]; simp
     have he5 : Ext n ψ S w ψ3 S3 w3 := (he1.trans he2).trans ⟨he4.os, he4.tape, he4.output, he4.grow, he4.old, he4.later, he4.newS, he4.newP, fun k hk => he4.agr k (Nat.lt_of_lt_of_le hk hnb)⟩
     have fin2 : ∀ (x : Value) (u u' : FrameMode), ((u = .returning /\ u' = .returning /\ x = .nilIface) \/ (u = .panicking [{ v := x, recovered := false }] /\ u' = .panicking [{ v := x, recovered := true }])) -> u ≠ .run -> settle u' = .returning -> CloK P st2.next g caps x st3 (finR τ fn.results.toList ts m K) ->
      Leaves P fn a0.tmps (fun e w' => ∃ r st' v ψ' S', e = .returned v /\ K r st' /\ Rel P base ψ' S' w' st' a /\ RepT P ψ' S' w' r v /\ Ext base ψ S w ψ' S' w') [{ target := .fn (.func g) vs, args := #[] }] u w3 := by
      intro x u u' huu hur hst hC
      refine leaves_cons hur inv (CallsD.mono (hC.run u u' huu ψ3 S3 w3 a0 vs hr4 hcaps3) ?_)
      rintro e u2 w4 ⟨rfl, rfl, st4, ψ4, S4, hK, hr6, he6⟩
      show Leaves P fn a0.tmps _ [] (settle u2) w4
      rw [hst]
      unfold finR at hK
      obtain ⟨xs, vs2, k1, k2, k3⟩ := resVars_ok hτ hr6 hK
      have he7 : Ext n ψ S w ψ4 S4 w4 := he5.trans ⟨he6.os, he6.tape, he6.output, he6.grow, he6.old, he6.later, he6.newS, he6.newP, fun k hk => he6.agr k (Nat.lt_of_lt_of_le hk hnb)⟩
      have hsub4 : PsiSub ψ ψ4 := fun k l hk => by rw [he7.agr k (hdom0 k l hk)]; exact hk
      exact ⟨_, results_run k3, _, _, _, ψ4, S4, rfl, k2, ⟨Nat.le_trans hrel0.bas (Nat.le_trans hnb hr6.bas), hr6.sim, hrel0.lim, hrel0.defers, fun t => (hrel0.tmps t).later hsub4 he7.later⟩, tmOf_rep k1,
       ⟨he7.os, he7.tape, he7.output, he7.grow, he7.old, he7.later, he7.newS, he7.newP, fun k hk => he7.agr k (Nat.lt_of_lt_of_le hk hrel0.bas)⟩⟩
     have hd4 := hr4.defers
     obtain ⟨tm4, df4⟩ := a0
     dsimp only at hd4
     subst hd4
     cases e with
     | normal => exact fin2 _ _ _ (.inl ⟨rfl, rfl, rfl⟩) (by simp) rfl hQ
     | ret => exact fin2 _ _ _ (.inl ⟨rfl, rfl, rfl⟩) (by simp) rfl hQ
     | exit id => exact hQ.elim
     | goto l => exact hQ.elim
     | panic ch =>
       obtain ⟨x, rfl, hQ⟩ := hQ
       exact fin2 _ _ _ (.inr ⟨rfl, rfl⟩) (by simp) rfl hQ
     | outgrown => exact hQ.elim
end
section
variable (P : Program) (τ : Tys)
def cloB (ft : Nat -> Option Func) (r : RB) (g : Nat) (caps : List (Nat × Nat)) (st : St) (K : St -> Bool) : Bool := match ft g, st with
 | some ⟨_, _, _, _, _, _, ntmps, rs, some (.seq (.region _ rops false) rest), _, _, _, _, _, _, _⟩, ⟨ts, h, n, m⟩ => match rops.toList, rs.toList with
   | [⟨some rd, .call ⟨.builtin .recover, ⟨[]⟩, ⟨[]⟩⟩, _, _, _, none⟩], [] => Nat.blt rd ntmps && (Nat.ble caps.length ntmps &&
     r.code false n rest ⟨(rd, .va (.c (.d (.v .nilIface)))) :: zipN 0 ((caps.map fun p => .c (.own p.1 p.2)).map .va), h, n, ntmps⟩ fun e st => match e with
      | .normal => K ⟨ts, st.heap, st.next, m⟩
      | _ => false)
   | _, _ => false
 | _, _ => false
def callB (ft : Nat -> Option Func) (g : Nat) : Bool := match ft g with
 | some gn => gn.body.isSome
 | none => false
def splitD : Nat -> Code -> Option (List Code × Nat × Array Oper × Code)
 | 0, _ => none
 | k + 1, .seq x y => match x with
   | .region id ops false => match ops.toList with
     | [_, ⟨none, .defer _, _, _, _, _⟩] => some ([], id, ops, y)
     | _ => match splitD k y with
       | some (pre, s) => some (x :: pre, s)
       | none => none
   | _ => match splitD k y with
     | some (pre, s) => some (x :: pre, s)
     | none => none
 | _, _ => none
def chainB (r : RB) (n : Nat) : List Code -> St -> (St -> Bool) -> Bool
 | [], st, K => K st
 | c :: cs, st, K => r.code false n c st fun e st => match e with
   | .normal => chainB r n cs st K
   | _ => false
noncomputable def dfrB (ft : Nat -> Option Func) (r : RB) (f : Nat) (aL : List Va) (st : St) (K : Tm -> St -> Bool) : Bool := match ft f, st with
 | some ⟨_, _, _, _, _, _, ntmps, rs, some body, _, _, _, _, _, _, _⟩, ⟨ts, h, n, m⟩ => match splitD 20 body with
   | some (pre, _, ops, c2) => match ops.toList with
     | [o1, ⟨none, .defer ⟨.value (.tmp d), ⟨[]⟩, _⟩, _, _, _, none⟩] => match o1.guard with
       | none => Nat.ble aL.length ntmps && chainB r n pre ⟨zipN 0 (aL.map .va), h, n, ntmps⟩ fun st => vcOpsB P τ r.call ops.toList [o1] st fun st => match lookT st.tmps d with
          | .va (.c (.fn g caps)) => callB ft g && (Nat.ble n st.next && r.code true st.next c2 st fun e st => match e with
            | .ret => cloB ft r g caps st fun st => resVarsB τ st rs.toList fun xs => K (tmOf xs) ⟨ts, st.heap, st.next, m⟩
            | .normal => cloB ft r g caps st fun st => resVarsB τ st rs.toList fun xs => K (tmOf xs) ⟨ts, st.heap, st.next, m⟩
            | _ => false)
          | _ => false
       | some _ => false
     | _ => false
   | none => false
 | _, _ => false
end
section
variable {P : Program} {τ : Tys} {ft : Nat → Option Func} {r : RB}
theorem cloB_ok (hr : RBok P r) (hft : FtOk P ft) {base g : Nat} {caps : List (Nat × Nat)} {st : St} {K : St -> Bool} {K' : St -> Prop} (hK : ∀ s, K s = true -> K' s) (h : cloB ft r g caps st K = true) : CloK P base g caps .nilIface st K' := by
 unfold cloB at h
 split at h
 . rename_i nm orig targs params rts nfree ntmps rs rid rops rest nr ours file el ln met tn ts hp n m e
   split at h
   . rename_i rd ty af x2 hops hrs
     obtain ⟨h1, h⟩ := bAnd h
     obtain ⟨h2, h⟩ := bAnd h
     refine CloK.of (x := .nilIface) (hft _ _ e).1 rfl hops rfl rfl rfl ?_ h1 h2 trivial ?_
     . show rs = #[]
       apply Array.ext'; simpa using hrs
     . refine (hr.code n [] false n rest _ _ _ (fun _ => rfl) (fun e st h => ?_) h).plain
       obtain ⟨ts3, h3, n3, m3⟩ := st
       cases e with
       | normal => exact hK _ h
       | ret => exact absurd h Bool.false_ne_true
       | exit id => exact absurd h Bool.false_ne_true
       | goto l => exact absurd h Bool.false_ne_true
       | panic ch => exact absurd h Bool.false_ne_true
       | outgrown => exact absurd h Bool.false_ne_true
   . exact absurd h Bool.false_ne_true
 . exact absurd h Bool.false_ne_true
theorem splitD_ok : ∀ {k : Nat} {c : Code} {pre : List Code} {id : Nat} {ops : Array Oper} {c2 : Code}, splitD k c = some (pre, id, ops, c2) -> c = pre.foldr .seq (.seq (.region id ops false) c2)
 | 0, _, _, _, _, _, h => by simp [splitD] at h
 | k + 1, c, pre, id, ops, c2, h => by
   unfold splitD at h
   split at h
   . cases h
   . rename_i k' x y hk
     cases hk
     have step : ∀ {z : Code}, (match splitD k y with | some (pre, s) => some (z :: pre, s) | none => none) = some (pre, id, ops, c2) -> Code.seq z y = pre.foldr .seq (.seq (.region id ops false) c2) := by
      intro z h
      split at h
      . rename_i pre1 s1 h1
        cases h
        rw [splitD_ok h1]; rfl
      . cases h
     split at h
     . split at h
       . cases h; rfl
       . exact step h
     . exact step h
   . cases h
theorem chainB_ok (hr : RBok P r) {n : Nat} : ∀ {cs : List Code} {st : St} {K : St -> Bool} {K' : St -> Prop}, (∀ s, K s = true -> K' s) -> chainB r n cs st K = true -> chainA P n cs st K'
 | [], _, _, _, hK, h => hK _ h
 | c :: cs, st, K, K', hK, h => by
   refine (hr.code n [] false n c _ _ _ (fun _ => rfl) (fun e st h => ?_) h).plain
   cases e with
   | normal => exact chainB_ok hr hK h
   | ret => exact absurd h Bool.false_ne_true
   | exit id => exact absurd h Bool.false_ne_true
   | goto l => exact absurd h Bool.false_ne_true
   | panic ch => exact absurd h Bool.false_ne_true
   | outgrown => exact absurd h Bool.false_ne_true
theorem dfrB_ok (hτ : TysOk P τ) (hz : ∀ t i, τ t = some i -> zeroOk i.zero) (hr : RBok P r) (hft : FtOk P ft) {base f : Nat} {aL : List Va} {st : St} {K : Tm -> St -> Bool} (h : dfrB P τ ft r f aL st K = true) : ACall P base f aL st fun y s => K y s = true := by
 unfold dfrB at h
 split at h
 . rename_i nm orig targs params rts nfree ntmps rs body nr ours file el ln met tn ts hp n m e
   split at h
   . rename_i pre id ops c2 hsp
     split at h
     . rename_i o1 d ats ty x1 x2 hops
       split at h
       . rename_i hg1
         obtain ⟨h1, h⟩ := bAnd h
         obtain ⟨hf, hname⟩ := hft _ _ e
         refine acall_defers (fn := ⟨nm, orig, targs, params, rts, nfree, ntmps, rs, some body, nr, ours, file, el, ln, met, tn⟩) (calls := fun f aL st K => ACall P n f aL st K) hτ hz (acall_ok n) hf (congrArg some (splitD_ok hsp)) hname hops hg1 rfl rfl rfl (Nat.le_of_ble_eq_true h1) (fun _ h => h) ?_
         refine chainB_ok (K' := fun st => vcOps P τ (fun f aL st K => ACall P n f aL st K) ops.toList [o1] st _) hr (fun st h => vcOpsB_ok (hr.call n) (fun st h => ?_) _ h) h
         split at h
         . rename_i g caps hlk
           obtain ⟨h2, h⟩ := bAnd h
           obtain ⟨h3, h⟩ := bAnd h
           have hc : Callable P g := by
            unfold callB at h2
            split at h2
            . rename_i gn hg; exact callable_of (hft _ _ hg).1 h2 (hft _ _ hg).2
            . cases h2
           refine ⟨g, caps, hc, hlk, Nat.le_of_ble_eq_true h3, fun ds => hr.code st.next ds true st.next c2 _ _ _ (fun e => by cases e) (fun e st1 h => ?_) h⟩
           have fin : cloB ft r g caps st1 (fun st => resVarsB τ st rs.toList fun xs => K (tmOf xs) ⟨ts, st.heap, st.next, m⟩) = true -> CloK P st.next g caps .nilIface st1 (finR τ rs.toList ts m fun y s => K y s = true) :=
            fun h => cloB_ok hr hft (fun s h => resVarsB_ok (fun xs h => h) h) h
           cases e with
           | normal => exact fin h
           | ret => exact fin h
           | exit id => exact absurd h Bool.false_ne_true
           | goto l => exact absurd h Bool.false_ne_true
           | panic ch => exact absurd h Bool.false_ne_true
           | outgrown => exact absurd h Bool.false_ne_true
         . exact absurd h Bool.false_ne_true
       . exact absurd h Bool.false_ne_true
     . exact absurd h Bool.false_ne_true
   . exact absurd h Bool.false_ne_true
 . exact absurd h Bool.false_ne_true
end
section
variable {P : Program} {x : TT}
theorem fcat_run (hx : x.ok P) (hmix : P.follows .mixedOrders = true) {nf : RB -> Nat -> List Va -> St -> Option ((Tm -> St -> Bool) -> Bool)} {ft : Nat -> Option Func} (hnf : NfOk P nf) (hft : FtOk P ft) {f : Nat} {fn : Func} {c : Code} (hf : P.funcs[f]? = some fn) (hb : fn.body = some c) (hname : (fn.name == "runtime.NumGoroutine") = false)
 {as0 : List Ar} {vas : List Va} (hv : arsVa 0 as0 = (vas, [], 0)) (hr : arsRows as0 = []) (hlen : Nat.ble as0.length fn.ntmps = true) (n : Nat)
 (h : (run P x.get nf ft n).code false 0 c ⟨zipN 0 (vas.map .va), [], 0, fn.ntmps⟩ (inlQB x.get fn.results.toList fun xs _ => isYes xs) = true) : FCat P f as0 (.va (.c (.d (.v (.bool true))))) [] := by
 refine fcatA hx hf hname false ?_
 obtain ⟨nm, orig, targs, params, rts, nfree, ntmps, rs, body, nr, ours, file, el, ln, met, tn⟩ := fn
 have hb : body = some c := hb
 subst hb
 unfold satF
 rw [hv, hr]
 refine ⟨Nat.le_of_ble_eq_true hlen, ((run_ok (TT.tysOk hx) (TT.zeros hx) hmix hnf hft n).code 0 [] false 0 c _ _ _ (fun _ => rfl) ?_ h).plain⟩
 intro e st h
 have fin : ∀ st : St, resVarsB x.get st rs.toList (fun xs => isYes xs) = true -> Go.Sx.fin x.get false [] rs.toList (fun r' us' => rtEq r' (.va (.c (.d (.v (.bool true))))) /\ usEq [] us' []) st := by
  intro st h
  unfold Go.Sx.fin
  refine resVarsB_ok (fun xs h => ?_) h
  unfold isYes at h
  split at h
  . subst h; exact ⟨rfl, trivial⟩
  . subst h; exact ⟨rfl, trivial⟩
  . exact absurd h Bool.false_ne_true
 cases e with
 | ret => exact fin st h
 | normal => exact fin st h
 | exit id => exact absurd h Bool.false_ne_true
 | goto l => exact absurd h Bool.false_ne_true
 | panic ch => exact absurd h Bool.false_ne_true
 | outgrown => exact absurd h Bool.false_ne_true
def xYes : List Ar -> Option (Rt × List (Option (Nat -> List DV)))
 | [] => some (.va (.c (.d (.v (.bool true)))), [])
 | _ => none
theorem xYes_ok (xs : List Ar) (r : Rt) (us : List (Option (Nat -> List DV))) (h : xYes xs = some (r, us)) : ∃ pre, FYes xs = some ⟨pre, r, us⟩ /\ pre := by
 unfold xYes at h
 split at h
 . cases h; exact ⟨_, rfl, trivial⟩
 . cases h
end
end Go.Sx
