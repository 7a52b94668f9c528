/- A symbolic executor for function bodies of the model, and that it is right: whatever it computes of a body is so of every call: part 1 of 3. No condition. -/
import Derived.Calls
import Derived.Laws.Cells
import Derived.Laws.World
import Derived.Laws.Slices
import Derived.Laws.Small
import Derived.Laws.StructEq
namespace Go.Sx

/-- data that never changes: a value without memory behind it, or a slice of rows of cells -/
inductive DV where
  | v (x : Value)
  | lst (sz n : Nat) (f : Nat → List DV)

/-- values that hold no pointer to a frame's own memory -/
inductive Cv where
  | c (x : DV)
  | agg (xs : List DV)

inductive Ct where
  | va (x : Cv)
  | tup (xs : List Cv)

/-- what a call gives, once what it asks holds -/
structure Gs where
  pre : Prop
  ct : Ct

inductive Cell where
  | top
  | und
  | kb (b : Bool)
  | d (x : DV)
  | own (k off : Nat)
  | osl (k sz o len : Nat)
  | ep (k sz i off : Nat)
  | rp (cs : List DV)
  | fn (f : Nat) (caps : List (Nat × Nat))
  | fv (g : List Cv → Option Gs)

inductive Va where
  | c (x : Cell)
  | agg (cs : List Cell)

inductive Tm where
  | va (x : Va)
  | tup (xs : List Va)

inductive Blk where
  | cells (cs : List Cell)
  | row (sz n : Nat) (f : Nat → List DV)
  | fz (cs : List DV)
  | fzr (sz n : Nat) (f : Nat → List DV)
  | gone

/-- what a function's frame holds: its slots and its own blocks, the newest binding first -/
structure St where
  tmps : List (Nat × Tm)
  heap : List (Nat × Blk)
  next : Nat
  lim : Nat

/-- what goes in and out of a call -/
inductive Ic where
  | d (x : DV)
  | ow (sz n : Nat) (f : Nat → List DV)

inductive Ar where
  | c (x : Ic)
  | agg (cs : List Ic)
  | rp (cs : List DV)
  | fv (g : List Cv → Option Gs)

inductive Rt where
  | va (x : Ar)
  | tup (xs : List Ar)

/-- what a function does: 'own' tells which arguments are rows that it is given for its own; the second result tells what is in these behind the call -/
structure Rs where
  pre : Prop
  rt : Rt
  us : List (Option (Nat → List DV))

structure Sm where
  own : List Bool
  F : List Ar → Option Rs

abbrev vx (x : Value) : Tm := .va (.c (.d (.v x)))
abbrev topT : Tm := .va (.c .top)
abbrev undT : Tm := .va (.c .und)

/-- an element's bytes; whether '==' is done on it field by field -/
structure TX where
  n : Nat
  cmp : Bool

structure TI where
  desc : TypeDesc
  size : Nat
  bytes : TX
  zero : Value

abbrev Tys := Nat → Option TI
abbrev Sums := Nat → Option Sm

def lookT : List (Nat × Tm) → Nat → Tm
  | [], _ => topT
  | (i, x) :: l, t => match Nat.beq i t with
    | true => x
    | false => lookT l t

def lookB : List (Nat × Blk) → Nat → Blk
  | [], _ => .gone
  | (i, x) :: l, t => match Nat.beq i t with
    | true => x
    | false => lookB l t

/-! forcing: each is 'k x' -/
def fV (x : Value) (k : Value → Prop) : Prop := match x with
  | .bool b => k (.bool b)
  | .int i n => k (.int i n)
  | .float i n => k (.float i n)
  | .complex i a b => k (.complex i a b)
  | .string s => k (.string s)
  | .pointer a => k (.pointer a)
  | .slice a n c => k (.slice a n c)
  | .map r => k (.map r)
  | .chan r => k (.chan r)
  | .func f a b => k (.func f a b)
  | .nilFunc => k .nilFunc
  | .iface t v => k (.iface t v)
  | .nilIface => k .nilIface
  | .agg cs => k (.agg cs)
  | .tuple vs => k (.tuple vs)

def fD (x : DV) (k : DV → Prop) : Prop := match x with
  | .v x => fV x fun x => k (.v x)
  | .lst a b f => k (.lst a b f)

def fC (x : Cell) (k : Cell → Prop) : Prop := match x with
  | .top => k .top
  | .und => k .und
  | .kb true => k (.kb true)
  | .kb false => k (.kb false)
  | .d x => fD x fun x => k (.d x)
  | .own a b => k (.own a b)
  | .osl a b c d => k (.osl a b c d)
  | .ep a b c d => k (.ep a b c d)
  | .rp cs => k (.rp cs)
  | .fn f cs => k (.fn f cs)
  | .fv g => k (.fv g)

def fCs : List Cell → (List Cell → Prop) → Prop
  | [], k => k []
  | x :: xs, k => fC x fun x => fCs xs fun xs => k (x :: xs)

def fDs : List DV → (List DV → Prop) → Prop
  | [], k => k []
  | x :: xs, k => fD x fun x => fDs xs fun xs => k (x :: xs)

def fVa (x : Va) (k : Va → Prop) : Prop := match x with
  | .c x => fC x fun x => k (.c x)
  | .agg cs => fCs cs fun cs => k (.agg cs)

def fVas : List Va → (List Va → Prop) → Prop
  | [], k => k []
  | x :: xs, k => fVa x fun x => fVas xs fun xs => k (x :: xs)

def fT (x : Tm) (k : Tm → Prop) : Prop := match x with
  | .va x => fVa x fun x => k (.va x)
  | .tup xs => fVas xs fun xs => k (.tup xs)

def ofCell : Value → Cell
  | .bool b => .kb b
  | x => .d (.v x)

def ofValue : Value → Tm
  | .agg _ => topT
  | .tuple _ => topT
  | x => .va (.c (ofCell x))

def ev (st : St) : Operand → Tm
  | .tmp t => lookT st.tmps t
  | .const x => ofValue x
  | .global _ => topT
  | .func f => .va (.c (.fn f []))

def putK (st : St) (dst : Option Tmp) (x : Tm) (K : St → Prop) : Prop :=
  match dst, st with
  | some t, ⟨ts, h, n, m⟩ => match Nat.blt t m with
    | true => fT x fun x => K ⟨(t, x) :: ts, h, n, m⟩
    | false => False
  | none, st => K st

/-- runs a piece of the model that touches nothing -/
def pureRun {α : Type} (P : Program) : Sem α → Option α
  | .pure a => some a
  | .program k => pureRun P (k P)
  | _ => none

def plainVa : Va → Option Value
  | .c (.d (.v x)) => some x
  | .c (.kb b) => some (.bool b)
  | _ => none

def plain : Tm → Option Value
  | .va x => plainVa x
  | _ => none

def Va.cells : Va → List Cell
  | .c x => [x]
  | .agg cs => cs

/-- may it be laid into memory? -/
def Va.lays : Va → Bool
  | .c .top => false
  | .c .und => false
  | _ => true

def wantAgg : TypeDesc → Bool
  | .struct _ | .array _ _ => true
  | _ => false

def mkVa (agg : Bool) (cs : List Cell) : Option Va :=
  match agg, cs with
  | true, cs => some (.agg cs)
  | false, [x] => some (.c x)
  | false, _ => none

def takeN {α : Type} : List α → Nat → Option (List α)
  | _, 0 => some []
  | [], _ + 1 => none
  | x :: xs, n + 1 => match takeN xs n with
    | some ys => some (x :: ys)
    | none => none

def setAt {α : Type} : List α → Nat → List α → Option (List α)
  | l, _, [] => some l
  | [], _, _ :: _ => none
  | _ :: l, 0, y :: ys => match setAt l 0 ys with
    | some r => some (y :: r)
    | none => none
  | x :: l, n + 1, y :: ys => match setAt l n (y :: ys) with
    | some r => some (x :: r)
    | none => none

/-- the cells at a pointer; the proposition is what is owed -/
def loadAt (h : List (Nat × Blk)) (p : Tm) (sz : Nat) (K : List Cell → Prop) : Prop :=
  match p with
  | .va (.c (.own k off)) => match lookB h k with
    | .cells cs => match takeN (cs.drop off) sz with
      | some r => K r
      | none => False
    | .fz cs => match takeN (cs.drop off) sz with
      | some r => K (r.map .d)
      | none => False
    | _ => False
  | .va (.c (.ep k z i off)) => match lookB h k with
    | .row z' n f => z' = z ∧ i < n ∧ (z' = z → i < n → match takeN ((f i).drop off) sz with
      | some r => K (r.map .d)
      | none => False)
    | .fzr z' n f => z' = z ∧ i < n ∧ (z' = z → i < n → match takeN ((f i).drop off) sz with
      | some r => K (r.map .d)
      | none => False)
    | _ => False
  | .va (.c (.rp cs)) => match takeN cs sz with
    | some r => K (r.map .d)
    | none => False
  | _ => False

def mapO {α β : Type} (f : α → Option β) : List α → Option (List β)
  | [] => some []
  | x :: xs => match f x, mapO f xs with
    | some y, some ys => some (y :: ys)
    | _, _ => none

def asVa : Tm → Option Va
  | .va x => some x
  | _ => none

def optP {α : Type} (o : Option α) (k : α → Prop) : Prop :=
  match o with
  | some a => k a
  | none => False

def onBool (st : St) (s : Nat) (k : St → Option Bool → Prop) : Prop :=
  match lookT st.tmps s, st with
  | .va (.c (.kb true)), st => k st (some true)
  | .va (.c (.kb false)), st => k st (some false)
  | .va (.c .und), st => k st none
  | .va (.c (.d (.v (.bool b)))), ⟨ts, h, n, m⟩ =>
    (b = true → k ⟨(s, .va (.c (.kb true))) :: ts, h, n, m⟩ (some true)) ∧ (b = false → k ⟨(s, .va (.c (.kb false))) :: ts, h, n, m⟩ (some false))
  | _, _ => False

def dCell : DV → Cell := .d

/-- a new block -/
def newK (st : St) (dst : Option Tmp) (cs : List Cell) (K : St → Prop) : Prop :=
  match st with
  | ⟨ts, h, n, m⟩ => fCs cs fun cs => putK ⟨ts, (n, .cells cs) :: h, n + 1, m⟩ dst (.va (.c (.own n 0))) K

/-- a new row -/
def newRowK (st : St) (dst : Option Tmp) (sz len : Nat) (f : Nat → List DV) (K : St → Prop) : Prop :=
  match st with
  | ⟨ts, h, n, m⟩ => putK ⟨ts, (n, .row sz len f) :: h, n + 1, m⟩ dst (.va (.c (.osl n sz 0 len))) K

/-- a cell as data; what is owed comes as a conjunct -/
def closeCell (h : List (Nat × Blk)) (c : Cell) (K : DV → Prop) : Prop :=
  match c with
  | .kb b => K (.v (.bool b))
  | .d x => K x
  | .osl k z o len => match lookB h k with
    | .fzr sz n f => match Nat.beq sz z with
      | true => o + len ≤ n ∧ K (.lst sz len fun i => f (o + i))
      | false => False
    | _ => False
  | _ => False

def closeCells (h : List (Nat × Blk)) : List Cell → (List DV → Prop) → Prop
  | [], K => K []
  | c :: cs, K => closeCell h c fun d => closeCells h cs fun ds => K (d :: ds)

def closeVa (h : List (Nat × Blk)) (x : Va) (K : Cv → Prop) : Prop :=
  match x with
  | .c x => closeCell h x fun d => K (.c d)
  | .agg cs => closeCells h cs fun ds => K (.agg ds)

def closeVas (h : List (Nat × Blk)) : List Va → (List Cv → Prop) → Prop
  | [], K => K []
  | c :: cs, K => closeVa h c fun d => closeVas h cs fun ds => K (d :: ds)

def cvVa : Cv → Va
  | .c x => .c (.d x)
  | .agg xs => .agg (xs.map .d)

def ctTm : Ct → Tm
  | .va x => .va (cvVa x)
  | .tup xs => .tup (xs.map cvVa)

def zeroCells' : Value → List Cell
  | .agg cs => cs.toList.map fun x => .d (.v x)
  | x => [.d (.v x)]

section
variable (P : Program) (τ : Tys)

def oAlloc (st : St) (dst : Option Tmp) (e : TypeId) (K : St → Prop) : Prop :=
  match τ e with
  | some ⟨_, _, _, z⟩ => newK st dst (zeroCells' z) K
  | none => False

def oBox (st : St) (dst : Option Tmp) (x : Tm) (K : St → Prop) : Prop :=
  match x with
  | .va y => match y.lays with
    | true => newK st dst y.cells K
    | false => False
  | _ => False

def oLoad (h : List (Nat × Blk)) (t : TypeId) (p : Tm) (K : Tm → Prop) : Prop :=
  match τ t with
  | some ⟨desc, size, _, _⟩ => loadAt h p size fun cs => match mkVa (wantAgg desc) cs with
    | some y => K (.va y)
    | none => False
  | none => False

def setRow (f : Nat → List DV) (i : Nat) (r : List DV) : Nat → List DV := fun j => match Nat.beq j i with
  | true => r
  | false => f j

def oStore (st : St) (dst : Option Tmp) (t : TypeId) (p x : Tm) (K : St → Prop) : Prop :=
  match τ t with
  | some ⟨_, size, _, _⟩ => match x, p, st with
    | .va y, .va (.c (.own k off)), ⟨ts, h, n, m⟩ => match y.lays, lookB h k, Nat.beq y.cells.length size with
      | true, .cells cs, true => match setAt cs off y.cells with
        | some cs => fCs cs fun cs => putK ⟨ts, (k, .cells cs) :: h, n, m⟩ dst undT K
        | none => False
      | _, _, _ => False
    | .va y, .va (.c (.ep k z i off)), ⟨ts, h, n, m⟩ => match y.lays, lookB h k, Nat.beq y.cells.length size with
      | true, .row z' len f, true => closeCells h y.cells fun ds => z' = z ∧ i < len ∧ (z' = z → i < len → match setAt (f i) off ds with
        | some r => fDs r fun r => putK ⟨ts, (k, .row z len (setRow f i r)) :: h, n, m⟩ dst undT K
        | none => False)
      | _, _, _ => False
    | _, _, _ => False
  | none => False

def oFieldAddr (s : TypeId) (p : Tm) (f : Nat) (K : Tm → Prop) : Prop :=
  match τ s with
  | some ⟨.struct fs, _, _, _⟩ => match fs[f]? with
    | some ⟨_, ty, off', _, _, _, _⟩ => match τ ty with
      | some ⟨_, _ + 1, _, _⟩ => match p with
        | .va (.c (.own k off)) => K (.va (.c (.own k (off + off'))))
        | .va (.c (.ep k sz i off)) => K (.va (.c (.ep k sz i (off + off'))))
        | .va (.c (.rp cs)) => fDs (cs.drop off') fun cs => K (.va (.c (.rp cs)))
        | _ => False
      | _ => False
    | none => False
  | _ => False

def fillCells (fs : Array Field) (evf : Operand → Tm) : List (Nat × Operand) → List Cell → Option (List Cell)
  | [], cs => some cs
  | (i, x) :: ps, cs => match fs[i]? with
    | some ⟨_, ty, off, _, _, _, _⟩ => match τ ty, evf x with
      | some ⟨_, sz, _, _⟩, .va y => match y.lays, Nat.beq y.cells.length sz, Nat.ble (off + sz) cs.length, setAt cs off y.cells with
        | true, true, true, some cs => fillCells fs evf ps cs
        | _, _, _, _ => none
      | _, _ => none
    | none => none

def oBuild (evf : Operand → Tm) (t : TypeId) (parts : List (Nat × Operand)) (K : Tm → Prop) : Prop :=
  match τ t with
  | some ⟨.struct fs, _, _, z⟩ => match fs.toList.all (fun f => (τ f.type).isSome), fillCells τ fs evf parts (zeroCells' z) with
    | true, some cs => K (.va (.agg cs))
    | _, _ => False
  | _ => False

def oIndexAddr (t : TypeId) (x ix : Tm) (K : Tm → Prop) : Prop :=
  match τ t with
  | some ⟨.slice e, _, _, _⟩ => match τ e with
    | some ⟨_, sz, _, _⟩ => match x, plain ix with
      | .va (.c (.d (.lst z n f))), some (.int _ i) => z = sz ∧ (0 ≤ i ∧ i < n) ∧ (0 ≤ i → i < n → K (.va (.c (.rp (f i.toNat)))))
      | .va (.c (.osl k z b n)), some (.int _ i) => z = sz ∧ (0 ≤ i ∧ i < n) ∧ (0 ≤ i → i < n → K (.va (.c (.ep k z (b + i.toNat) 0))))
      | _, _ => False
    | none => False
  | _ => False

def oField (t : TypeId) (x : Tm) (f : Nat) (K : Tm → Prop) : Prop :=
  match τ t, x with
  | some ⟨.struct fs, _, _, _⟩, .va (.agg cs) => match fs[f]? with
    | some ⟨_, ty, off, _, _, _, _⟩ => match τ ty with
      | some ⟨desc, size, _, _⟩ => match takeN (cs.drop off) size with
        | some cs => match mkVa (wantAgg desc) cs with
          | some y => K (.va y)
          | none => False
        | none => False
      | none => False
    | none => False
  | _, _ => False

/-- an operation that only computes -/
def oPure (r : Option Value) (K : Tm → Prop) : Prop :=
  match r with
  | some (.bool b) => K (vx (.bool b))
  | some (.int k n) => K (vx (.int k n))
  | some (.string s) => K (vx (.string s))
  | some (.complex k a b) => K (vx (.complex k a b))
  | some (.float k a) => K (vx (.float k a))
  | some (.iface t (.int k a)) => K (vx (.iface t (.int k a)))
  | some (.iface t (.string s)) => K (vx (.iface t (.string s)))
  | _ => False

def plainCell : Cell → Option Value
  | .d (.v x) => some x
  | .kb b => some (.bool b)
  | _ => none

/-- '==' on values of a type, cell by cell -/
def eqAt : Nat → TypeId → List Value → List Value → Option Bool
  | 0, _, _, _ => none
  | d + 1, t, xs, ys => match τ t with
    | some ⟨.struct fs, _, ⟨_, true⟩, _⟩ => fs.toList.foldr (fun f r => match r, τ f.type with
      | some b, some ⟨_, sz, _, _⟩ => match takeN (xs.drop f.offset) sz, takeN (ys.drop f.offset) sz with
        | some xs', some ys' => match eqAt d f.type xs' ys' with
          | some c => some (c && b)
          | none => none
        | _, _ => none
      | _, _ => none) (some true)
    | some ⟨.int _, _, _, _⟩ => match xs, ys with
      | [.int k a], [.int k' b] => match decide (k = k') with
        | true => some (a == b)
        | false => none
      | _, _ => none
    | some ⟨.bool, _, _, _⟩ => match xs, ys with
      | [.bool a], [.bool b] => some (a == b)
      | _, _ => none
    | some ⟨.string, _, _, _⟩ => match xs, ys with
      | [.string a], [.string b] => some (a.toList == b.toList)
      | _, _ => none
    | _ => none

def oEq (op : BinOp) (t : TypeId) (xs ys : List Cell) (K : Tm → Prop) : Prop :=
  match τ t, mapO plainCell xs, mapO plainCell ys with
  | some ⟨.struct _, _, ⟨_, true⟩, _⟩, some xs, some ys => match eqAt τ 50 t xs ys, op with
    | some b, .eql => K (vx (.bool b))
    | some b, .neq => K (vx (.bool (!b)))
    | _, _ => False
  | _, _, _ => False

def oBin (evf : Operand → Tm) (op : BinOp) (t : TypeId) (xo yo : Operand) (K : Tm → Prop) : Prop :=
  match plain (evf xo), plain (evf yo) with
  | some (.int k a), some (.int k' b) => match op with
    | .quo => k = k' ∧ b ≠ 0 ∧ (k = k' → b ≠ 0 → K (vx (.int k (k.wrap (a.tdiv b)))))
    | .rem => k = k' ∧ b ≠ 0 ∧ (k = k' → b ≠ 0 → K (vx (.int k (a.tmod b))))
    | op => oPure (pureRun P (do eqGuard op t xo yo (.int k a) (.int k' b); binOp op t (.int k a) (.int k' b))) K
  | some (.string a), some (.string b) => match op with
    | .add => ((a.size + b.size : Nat) : Int) ≤ IntKind.i64.max ∧ K (vx (.string (a ++ b)))
    | op => oPure (pureRun P (do eqGuard op t xo yo (.string a) (.string b); binOp op t (.string a) (.string b))) K
  | some a, some b => oPure (pureRun P (do eqGuard op t xo yo a b; binOp op t a b)) K
  | _, _ => False

def oLen (ts : Array TypeId) (ty : TypeId) (as : Option (List Va)) (K : Tm → Prop) : Prop :=
  match ts[0]? with
  | some t => match τ t with
    | some ⟨.slice _, _, _, _⟩ => match as with
      | some [.c (.d (.lst _ n _))] => K (vx (.int .i64 n))
      | some [.c (.osl _ _ _ n)] => K (vx (.int .i64 n))
      | some [.c (.d (.v (.slice none n _)))] => K (vx (.int .i64 n))
      | _ => False
    | some _ => match as with
      | some [.c (.d (.v x))] => oPure (pureRun P (Builtin.len_ ts ty #[x])) K
      | _ => False
    | none => False
  | none => False

/-- an operation that only makes a value, out of its operands and of what lies in the frame's blocks -/
def vOp (op : Op) (ty : TypeId) (evf : Operand → Tm) (h : List (Nat × Blk)) (K : Tm → Prop) : Prop :=
  match op with
  | .move x => K (evf x)
  | .assign x => K (evf x)
  | .pick c a b => match evf c with
    | .va (.c (.kb true)) => K (evf a)
    | .va (.c (.kb false)) => K (evf b)
    | _ => False
  | .load t a => oLoad τ h t (evf a) K
  | .fieldAddr s a f => oFieldAddr τ s (evf a) f K
  | .build t parts => oBuild τ evf t parts.toList K
  | .indexAddr t x ix => oIndexAddr τ t (evf x) (evf ix) K
  | .field t x f => oField τ t (evf x) f K
  | .binOp op t x y _ => match evf x, evf y with
    | .va (.agg xs), .va (.agg ys) => oEq τ op t xs ys K
    | _, _ => oBin P evf op t x y K
  | .unOp op _ x => match plain (evf x) with
    | some a => oPure (pureRun P (Op.unary op a)) K
    | _ => False
  | .convert s t x => match plain (evf x) with
    | some a => oPure (pureRun P (convert s t a)) K
    | _ => False
  | .extract t i => match evf t with
    | .tup xs => match xs[i]? with
      | some y => K (.va y)
      | none => False
    | _ => False
  | .call c => match c.callee with
    | .builtin .len => oLen P τ c.argTypes ty (mapO (fun x => asVa (evf x)) c.args.toList) K
    | .builtin .min => match mapO (fun x => plain (evf x)) c.args.toList with
      | some as => oPure (pureRun P (Builtin.min_ c.argTypes ty as.toArray)) K
      | none => False
    | .builtin .max => match mapO (fun x => plain (evf x)) c.args.toList with
      | some as => oPure (pureRun P (Builtin.max_ c.argTypes ty as.toArray)) K
      | none => False
    | _ => False
  | _ => False

/-- a literal slice: a row -/
def rowOf (ts : List (List DV)) : Nat → List DV := fun i => ts.getD i []

def zeroRow (zs : List Cell) (n : Nat) : List Cell := (List.range n).map fun i => (zs[i % zs.length]?).getD .top

def rowAt (sz : Nat) (ds : List DV) : Nat → List DV := fun i => (ds.drop (i * sz)).take sz

def fillRow (sz : Nat) (evf : Operand → Tm) : List (Nat × Operand) → List Cell → Option (List Cell)
  | [], cs => some cs
  | (i, x) :: ps, cs => match evf x with
    | .va y => match y.lays, Nat.beq y.cells.length sz, Nat.ble (i * sz + sz) cs.length, setAt cs (i * sz) y.cells with
      | true, true, true, some cs => fillRow sz evf ps cs
      | _, _, _, _ => none
    | _ => none

def oBuildSlice (st : St) (dst : Option Tmp) (t : TypeId) (len : Nat) (parts : List (Nat × Operand)) (K : St → Prop) : Prop :=
  match τ t with
  | some ⟨.slice e, _, _, _⟩ => match τ e with
    | some ⟨_, sz, _, z⟩ => match Nat.ble (len * sz) 16777216, Nat.beq (zeroCells' z).length sz, Nat.blt 0 sz, fillRow sz (ev st) parts (zeroRow (zeroCells' z) (len * sz)) with
      | true, true, true, some cs => closeCells st.heap cs fun ds => fDs ds fun ds => newRowK st dst sz len (rowAt sz ds) K
      | _, _, _, _ => False
    | none => False
  | _ => False

/-- one operation -/
def vcOp (calls : Nat → List Va → St → (Tm → St → Prop) → Prop) (o : Oper) (st : St) (K : St → Prop) : Prop :=
  match o.op with
  | .pick c a b =>
    match c with
    | .tmp s => onBool st s fun st t => match t with
      | some true => putK st o.dst (ev st a) K
      | some false => putK st o.dst (ev st b) K
      | none => False
    | _ => False
  | .alloc e => oAlloc τ st o.dst e K
  | .box _ x => oBox st o.dst (ev st x) K
  | .store t a x => oStore τ st o.dst t (ev st a) (ev st x) K
  | .buildSlice t len parts => oBuildSlice τ st o.dst t len parts.toList K
  | .call c => match c.callee with
    | .value f => match ev st f, mapO (fun x => asVa (ev st x)) c.args.toList with
      | .va (.c (.fn f caps)), some as => fVas (as ++ caps.map fun p => .c (.own p.1 p.2)) fun as => calls f as st fun r st => putK st o.dst r K
      | .va (.c (.fv g)), some as => closeVas st.heap as fun cs => match g cs with
        | some ⟨pre, r⟩ => pre ∧ (pre → putK st o.dst (ctTm r) K)
        | none => False
      | _, _ => False
    | _ => vOp P τ (.call c) o.type (ev st) st.heap fun x => putK st o.dst x K
  | op => vOp P τ op o.type (ev st) st.heap fun x => putK st o.dst x K

def dstOf (all : List Oper) (j : Nat) : Option Tmp :=
  match all[j]? with
  | some ⟨d, _, _, _, _, _⟩ => d
  | none => none

def vcOps (calls : Nat → List Va → St → (Tm → St → Prop) → Prop) (all : List Oper) : List Oper → St → (St → Prop) → Prop
  | [], st, K => K st
  | o :: rest, st, K =>
    match o.guard with
    | none => vcOp P τ calls o st fun st => vcOps calls all rest st K
    | some (j, want) =>
      match dstOf all j with
      | none => False
      | some s => onBool st s fun st b =>
        match b == some want with
        | true => vcOp P τ calls o st fun st => vcOps calls all rest st K
        | false => putK st o.dst undT fun st => vcOps calls all rest st K
end

end Go.Sx

namespace Go.Sx

inductive Loc where
  | virt
  | at (b m : Nat)

abbrev Psi := Nat → Option Loc

def Scalar : Value → Prop
  | .agg _ => False
  | .tuple _ => False
  | _ => True

def All2 {α β : Type} (R : α → β → Prop) : List α → List β → Prop
  | [], [] => True
  | x :: xs, y :: ys => R x y ∧ All2 R xs ys
  | _, _ => False

theorem All2.mono {α β : Type} {R R' : α → β → Prop} (h : ∀ x y, R x y → R' x y) : ∀ {xs ys}, All2 R xs ys → All2 R' xs ys
  | [], [], _ => trivial
  | _ :: _, _ :: _, ⟨a, b⟩ => ⟨h _ _ a, All2.mono h b⟩

theorem All2.length {α β : Type} {R : α → β → Prop} : ∀ {xs ys}, All2 R xs ys → xs.length = ys.length
  | [], [], _ => rfl
  | _ :: _, _ :: _, ⟨_, b⟩ => by simp [All2.length b]

theorem All2.append {α β : Type} {R : α → β → Prop} : ∀ {xs ys xs' ys'}, All2 R xs ys → All2 R xs' ys' → All2 R (xs ++ xs') (ys ++ ys')
  | [], [], _, _, _, h => h
  | _ :: _, _ :: _, _, _, ⟨a, b⟩, h => ⟨a, All2.append b h⟩

theorem All2.drop {α β : Type} {R : α → β → Prop} : ∀ {xs ys} (n : Nat), All2 R xs ys → All2 R (xs.drop n) (ys.drop n)
  | _, _, 0, h => by simpa using h
  | [], [], _ + 1, _ => by simp [All2]
  | _ :: _, _ :: _, n + 1, ⟨_, b⟩ => by simpa using All2.drop n b

theorem All2.map_left {α β γ : Type} {R : α → β → Prop} {R' : γ → β → Prop} (f : α → γ) (h : ∀ x y, R x y → R' (f x) y) : ∀ {xs ys}, All2 R xs ys → All2 R' (xs.map f) ys
  | [], [], _ => trivial
  | _ :: _, _ :: _, ⟨a, b⟩ => ⟨h _ _ a, All2.map_left f h b⟩

theorem All2.get {α β : Type} {R : α → β → Prop} : ∀ {xs ys} (i : Nat), All2 R xs ys → ∀ x, xs[i]? = some x → ∃ y, ys[i]? = some y ∧ R x y
  | [], [], _, _, x, h => by simp at h
  | a :: _, b :: _, 0, ⟨r, _⟩, x, h => ⟨b, by simp, by simp at h; exact h ▸ r⟩
  | _ :: _, _ :: _, i + 1, ⟨_, r⟩, x, h => by simpa using All2.get i r x (by simpa using h)

theorem All2.of_get {α β : Type} {R : α → β → Prop} : ∀ {xs : List α} {ys : List β}, xs.length = ys.length → (∀ (i : Nat) (x : α) (y : β), xs[i]? = some x → ys[i]? = some y → R x y) → All2 R xs ys
  | [], [], _, _ => trivial
  | [], _ :: _, h, _ => by simp at h
  | _ :: _, [], h, _ => by simp at h
  | a :: xs, b :: ys, h, g => ⟨g 0 a b (by simp) (by simp), All2.of_get (by simpa using h) fun i x y hx hy => g (i + 1) x y (by simpa using hx) (by simpa using hy)⟩

inductive RepD (S : Nat → Prop) (w : World) : DV → Value → Prop
  | v {x : Value} : Scalar x → RepD S w (.v x) x
  | nil {sz : Nat} {f : Nat → List DV} {a : Option Addr} {c : Nat} : RepD S w (.lst sz 0 f) (.slice a 0 c)
  | lst {sz n : Nat} {f : Nat → List DV} {b off c : Nat} (g : Nat → Nat → Value) : S b → (∀ i, i < n → (f i).length = sz) →
      (∀ i j, i < n → j < sz → w.cell? ⟨b, off + i * sz + j, none⟩ = some (g i j)) →
      (∀ i j, i < n → j < sz → RepD S w ((f i).getD j (.v (.bool false))) (g i j)) → n ≤ c → RepD S w (.lst sz n f) (.slice (some ⟨b, off, none⟩) n c)

theorem RepD.scalar {S : Nat → Prop} {w : World} {x : DV} {v : Value} (h : RepD S w x v) : Scalar v := by
  cases h with
  | v h => exact h
  | nil => trivial
  | lst => trivial

def Later (S : Nat → Prop) (w : World) (S' : Nat → Prop) (w' : World) : Prop := (∀ b, S b → S' b) ∧ ∀ b, S b → w'.heap[b]? = w.heap[b]?

theorem Later.refl (S : Nat → Prop) (w : World) : Later S w S w := ⟨fun _ h => h, fun _ _ => rfl⟩

theorem Later.trans {S S' S'' : Nat → Prop} {w w' w'' : World} (h : Later S w S' w') (h' : Later S' w' S'' w'') : Later S w S'' w'' :=
  ⟨fun b hb => h'.1 b (h.1 b hb), fun b hb => (h'.2 b (h.1 b hb)).trans (h.2 b hb)⟩

theorem cell_of_heap {w w' : World} {b off : Nat} (h : w'.heap[b]? = w.heap[b]?) : w'.cell? ⟨b, off, none⟩ = w.cell? ⟨b, off, none⟩ := by
  simp only [World.cell?, h]

theorem RepD.later {S S' : Nat → Prop} {w w' : World} {x : DV} {v : Value} (h : RepD S w x v) (l : Later S w S' w') : RepD S' w' x v := by
  induction h with
  | v h => exact .v h
  | nil => exact .nil
  | lst g hS hl hc _ hn ih => exact .lst g (l.1 _ hS) hl (fun i j hi hj => by rw [cell_of_heap (l.2 _ hS)]; exact hc i j hi hj) ih hn

def RepCv (S : Nat → Prop) (w : World) : Cv → Value → Prop
  | .c x, v => RepD S w x v
  | .agg xs, v => ∃ arr : Array Value, v = .agg arr ∧ All2 (RepD S w) xs arr.toList

def RepCt (S : Nat → Prop) (w : World) : Ct → Value → Prop
  | .va x, v => RepCv S w x v
  | .tup xs, v => ∃ arr : Array Value, v = .tuple arr ∧ All2 (RepCv S w) xs arr.toList

theorem RepCv.later {S S' : Nat → Prop} {w w' : World} {x : Cv} {v : Value} (h : RepCv S w x v) (l : Later S w S' w') : RepCv S' w' x v := by
  cases x with
  | c x => exact RepD.later h l
  | agg xs => obtain ⟨arr, rfl, h⟩ := h; exact ⟨arr, rfl, h.mono fun _ _ h => h.later l⟩

/-- what a call of something that changes nothing that was there leaves -/
structure Ext0 (S : Nat → Prop) (w : World) (S' : Nat → Prop) (w' : World) : Prop where
  os : w'.os = w.os
  tape : w'.tape = w.tape
  output : w'.output = w.output
  grow : w.heap.size ≤ w'.heap.size
  old : ∀ b, b < w.heap.size → w'.heap[b]? = w.heap[b]?
  sub : ∀ b, S b → S' b
  newS : ∀ b, S' b → S b ∨ w.heap.size ≤ b
  sdom : ∀ b, S' b → b < w'.heap.size

def Callable (P : Program) (f : Nat) : Prop := ∃ fn c, P.funcs[f]? = some fn ∧ fn.body = some c ∧ (fn.name == "runtime.NumGoroutine") = false

def FnOk (P : Program) (g : List Cv → Option Gs) (x : Value) (S : Nat → Prop) (w : World) : Prop :=
  ∃ f first caps, x = .func (.func f) first caps ∧ Callable P f ∧
    ∀ S' w', Later S w S' w' → (∀ b, S' b → b < w'.heap.size) → ∀ as pre r, g as = some ⟨pre, r⟩ → pre → ∀ vals, All2 (RepCv S' w') as vals →
      Calls P f (first ++ vals.toArray ++ caps) w' fun e w'' => ∃ v S'', e = .returned v ∧ RepCt S'' w'' r v ∧ Ext0 S' w' S'' w''

def RepC (P : Program) (ψ : Psi) (S : Nat → Prop) (w : World) : Cell → Value → Prop
  | .top, _ => True
  | .und, x => x = undef
  | .kb b, x => x = .bool b
  | .d y, x => RepD S w y x
  | .own k off, x => ∃ b m, ψ k = some (.at b m) ∧ x = .pointer (some ⟨b, off, none⟩)
  | .osl k sz o len, x => (ψ k = some .virt ∧ len = 0 ∧ x = .slice none 0 0) ∨
      ∃ b m c off, ψ k = some (.at b m) ∧ x = .slice (some ⟨b, off, none⟩) len c ∧ len ≤ c ∧ (0 < c → off = o * sz ∧ (o + c) * sz ≤ m)
  | .ep k sz i off, x => ∃ b m, ψ k = some (.at b m) ∧ x = .pointer (some ⟨b, i * sz + off, none⟩)
  | .rp cs, x => ∃ b off ys, x = .pointer (some ⟨b, off, none⟩) ∧ S b ∧ All2 (RepD S w) cs ys ∧ ∀ j y, ys[j]? = some y → w.cell? ⟨b, off + j, none⟩ = some y
  | .fn f caps, x => ∃ vs : Array Value, x = .func (.func f) #[] vs ∧ All2 (fun (p : Nat × Nat) y => ∃ b m, ψ p.1 = some (.at b m) ∧ y = .pointer (some ⟨b, p.2, none⟩)) caps vs.toList
  | .fv g, x => FnOk P g x S w

/-- a cell of memory: never an aggregate -/
def RepM (P : Program) (ψ : Psi) (S : Nat → Prop) (w : World) (c : Cell) (x : Value) : Prop := RepC P ψ S w c x ∧ Scalar x

def RepVa (P : Program) (ψ : Psi) (S : Nat → Prop) (w : World) : Va → Value → Prop
  | .c x, v => RepC P ψ S w x v
  | .agg cs, v => ∃ arr : Array Value, v = .agg arr ∧ All2 (RepM P ψ S w) cs arr.toList

def RepT (P : Program) (ψ : Psi) (S : Nat → Prop) (w : World) : Tm → Value → Prop
  | .va x, v => RepVa P ψ S w x v
  | .tup xs, v => ∃ arr : Array Value, v = .tuple arr ∧ All2 (RepVa P ψ S w) xs arr.toList

def PsiSub (ψ ψ' : Psi) : Prop := ∀ k l, ψ k = some l → ψ' k = some l

theorem PsiSub.refl (ψ : Psi) : PsiSub ψ ψ := fun _ _ h => h

section mono
variable {P : Program} {ψ ψ' : Psi} {S S' : Nat → Prop} {w w' : World}

theorem FnOk.later {g : List Cv → Option Gs} {x : Value} (h : FnOk P g x S w) (l : Later S w S' w') : FnOk P g x S' w' := by
  obtain ⟨f, first, caps, hx, hc, h⟩ := h
  exact ⟨f, first, caps, hx, hc, fun S'' w'' l' => h S'' w'' (l.trans l')⟩

theorem RepC.later {c : Cell} {x : Value} (h : RepC P ψ S w c x) (hp : PsiSub ψ ψ') (l : Later S w S' w') : RepC P ψ' S' w' c x := by
  cases c with
  | top => trivial
  | und => exact h
  | kb b => exact h
  | d y => exact RepD.later h l
  | own k off => obtain ⟨b, m, h1, h2⟩ := h; exact ⟨b, m, hp _ _ h1, h2⟩
  | osl k sz o len =>
    rcases h with ⟨h1, h2⟩ | ⟨b, m, c, off, h1, h2⟩
    · exact .inl ⟨hp _ _ h1, h2⟩
    · exact .inr ⟨b, m, c, off, hp _ _ h1, h2⟩
  | ep k sz i off => obtain ⟨b, m, h1, h2⟩ := h; exact ⟨b, m, hp _ _ h1, h2⟩
  | rp cs =>
    obtain ⟨b, off, ys, h1, h2, h3, h4⟩ := h
    exact ⟨b, off, ys, h1, l.1 _ h2, h3.mono fun _ _ h => h.later l, fun j y hj => by rw [cell_of_heap (l.2 _ h2)]; exact h4 j y hj⟩
  | fn f caps => obtain ⟨vs, h1, h2⟩ := h; exact ⟨vs, h1, h2.mono fun _ _ ⟨b, m, a, c⟩ => ⟨b, m, hp _ _ a, c⟩⟩
  | fv g => exact FnOk.later h l

theorem RepM.later {c : Cell} {x : Value} (h : RepM P ψ S w c x) (hp : PsiSub ψ ψ') (l : Later S w S' w') : RepM P ψ' S' w' c x := ⟨h.1.later hp l, h.2⟩

theorem RepVa.later {c : Va} {x : Value} (h : RepVa P ψ S w c x) (hp : PsiSub ψ ψ') (l : Later S w S' w') : RepVa P ψ' S' w' c x := by
  cases c with
  | c x => exact RepC.later h hp l
  | agg cs => obtain ⟨arr, h1, h2⟩ := h; exact ⟨arr, h1, h2.mono fun _ _ h => h.later hp l⟩

theorem RepT.later {c : Tm} {x : Value} (h : RepT P ψ S w c x) (hp : PsiSub ψ ψ') (l : Later S w S' w') : RepT P ψ' S' w' c x := by
  cases c with
  | va x => exact RepVa.later h hp l
  | tup cs => obtain ⟨arr, h1, h2⟩ := h; exact ⟨arr, h1, h2.mono fun _ _ h => h.later hp l⟩
end mono

def Blk.live : Blk → Prop
  | .cells _ => True
  | .row _ _ _ => True
  | _ => False

def BlkRep (P : Program) (ψ : Psi) (S : Nat → Prop) (w : World) : Blk → Loc → Prop
  | .gone, _ => True
  | .cells cs, .at b _ => ∃ arr e, w.heap[b]? = some (.cells arr e (0, 0)) ∧ All2 (RepM P ψ S w) cs arr.toList
  | .row _ n _, .virt => n = 0
  | .row sz n f, .at b m => ∃ arr e, w.heap[b]? = some (.cells arr e (0, 0)) ∧ arr.size = m ∧ n * sz ≤ m ∧ (∀ i, i < n → (f i).length = sz) ∧
      ∀ i j, i < n → j < sz → RepD S w ((f i).getD j (.v (.bool false))) (arr.getD (i * sz + j) undef)
  | .fz cs, .at b _ => S b ∧ ∃ arr e fr, w.heap[b]? = some (.cells arr e fr) ∧ All2 (RepD S w) cs arr.toList
  | .fzr sz n f, .at b m => S b ∧ ∃ arr e fr, w.heap[b]? = some (.cells arr e fr) ∧ arr.size = m ∧ n * sz ≤ m ∧ (∀ i, i < n → (f i).length = sz) ∧
      ∀ i j, i < n → j < sz → RepD S w ((f i).getD j (.v (.bool false))) (arr.getD (i * sz + j) undef)
  | .fzr _ n _, .virt => n = 0
  | _, _ => False

structure Sim (P : Program) (ψ : Psi) (S : Nat → Prop) (w : World) (h : List (Nat × Blk)) (next : Nat) : Prop where
  dom : ∀ k, next ≤ k → ψ k = none
  blk : ∀ k l, ψ k = some l → BlkRep P ψ S w (lookB h k) l
  inj : ∀ k k' b m m', ψ k = some (.at b m) → ψ k' = some (.at b m') → (lookB h k).live → (lookB h k').live → k = k'
  dis : ∀ k b m, ψ k = some (.at b m) → (lookB h k).live → ¬ S b
  pdom : ∀ k b m, ψ k = some (.at b m) → b < w.heap.size
  sdom : ∀ b, S b → b < w.heap.size

structure Ext (base : Nat) (ψ : Psi) (S : Nat → Prop) (w : World) (ψ' : Psi) (S' : Nat → Prop) (w' : World) : Prop where
  os : w'.os = w.os
  tape : w'.tape = w.tape
  output : w'.output = w.output
  grow : w.heap.size ≤ w'.heap.size
  old : ∀ b, b < w.heap.size → (∀ k m, ψ k ≠ some (.at b m)) → w'.heap[b]? = w.heap[b]?
  later : Later S w S' w'
  newS : ∀ b, S' b → S b ∨ (∃ k m, ψ k = some (.at b m)) ∨ w.heap.size ≤ b
  newP : ∀ k b m, ψ' k = some (.at b m) → (∃ k m, ψ k = some (.at b m)) ∨ w.heap.size ≤ b
  agr : ∀ k, k < base → ψ' k = ψ k

theorem Ext.refl (base : Nat) (ψ : Psi) (S : Nat → Prop) (w : World) : Ext base ψ S w ψ S w :=
  ⟨rfl, rfl, rfl, Nat.le_refl _, fun _ _ _ => rfl, Later.refl _ _, fun _ h => .inl h, fun k _ m h => .inl ⟨k, m, h⟩, fun _ _ => rfl⟩

theorem Ext.trans {base : Nat} {ψ ψ' ψ'' : Psi} {S S' S'' : Nat → Prop} {w w' w'' : World} (h : Ext base ψ S w ψ' S' w') (g : Ext base ψ' S' w' ψ'' S'' w'') :
    Ext base ψ S w ψ'' S'' w'' where
  os := g.os.trans h.os
  tape := g.tape.trans h.tape
  output := g.output.trans h.output
  grow := Nat.le_trans h.grow g.grow
  old b hb hp := by
    rw [g.old b (Nat.lt_of_lt_of_le hb h.grow) ?_, h.old b hb hp]
    intro k m hk
    rcases h.newP k b m hk with ⟨k', m', h'⟩ | h'
    · exact hp k' m' h'
    · omega
  later := h.later.trans g.later
  newS b hb := by
    rcases g.newS b hb with h1 | ⟨k, m, h1⟩ | h1
    · exact h.newS b h1
    · exact .inr (h.newP k b m h1)
    · exact .inr (.inr (Nat.le_trans h.grow h1))
  newP k b m hk := by
    rcases g.newP k b m hk with ⟨k', m', h1⟩ | h1
    · exact h.newP k' b m' h1
    · exact .inr (Nat.le_trans h.grow h1)
  agr k hk := (g.agr k hk).trans (h.agr k hk)

structure Rel (P : Program) (base : Nat) (ψ : Psi) (S : Nat → Prop) (w : World) (st : St) (a : Act) : Prop where
  bas : base ≤ st.next
  sim : Sim P ψ S w st.heap st.next
  lim : a.tmps.size = st.lim
  defers : a.defers = []
  tmps : ∀ t, RepT P ψ S w (lookT st.tmps t) (a.tmps.getD t undef)

end Go.Sx

namespace Go.Sx

theorem fV_eq (x : Value) (k : Value → Prop) : fV x k = k x := by cases x <;> rfl
theorem fD_eq (x : DV) (k : DV → Prop) : fD x k = k x := by cases x <;> simp [fD, fV_eq]
theorem fC_eq (x : Cell) (k : Cell → Prop) : fC x k = k x := by
  cases x with
  | kb b => cases b <;> rfl
  | d x => simp [fC, fD_eq]
  | _ => rfl
theorem fCs_eq : ∀ (x : List Cell) (k : List Cell → Prop), fCs x k = k x
  | [], _ => rfl
  | x :: xs, k => by simp only [fCs, fC_eq, fCs_eq xs]
theorem fDs_eq : ∀ (x : List DV) (k : List DV → Prop), fDs x k = k x
  | [], _ => rfl
  | x :: xs, k => by simp only [fDs, fD_eq, fDs_eq xs]
theorem fVa_eq (x : Va) (k : Va → Prop) : fVa x k = k x := by cases x <;> simp [fVa, fC_eq, fCs_eq]
theorem fVas_eq : ∀ (x : List Va) (k : List Va → Prop), fVas x k = k x
  | [], _ => rfl
  | x :: xs, k => by simp only [fVas, fVa_eq, fVas_eq xs]
theorem fT_eq (x : Tm) (k : Tm → Prop) : fT x k = k x := by cases x <;> simp [fT, fVa_eq, fVas_eq]

structure TysOk (P : Program) (τ : Tys) : Prop where
  ok : ∀ t i, τ t = some i → ∃ info, P.info? t = some info ∧ P.underlying t = some i.desc ∧ info.size = i.size ∧ info.bytes = i.bytes.n ∧ info.zero = some i.zero
  cmp : ∀ t i, τ t = some i → i.bytes.cmp = true → P.stoodInHeld t = false ∧ P.eqGuardType P.depth t = false ∧ ∀ fs, i.desc = .struct fs → ∀ f ∈ fs.toList, f.name ≠ "_"

theorem run_info {P : Program} {τ : Tys} (hτ : TysOk P τ) {t : TypeId} {i : TI} (ht : τ t = some i) (w : World) : ∃ info, (typeInfo t).run P w = .ok info w ∧ info.size = i.size ∧ info.bytes = i.bytes.n ∧ info.zero = some i.zero := by
  obtain ⟨info, h1, _, h3, h4, h5⟩ := hτ.ok t i ht
  exact ⟨info, by simp [typeInfo, h1], h3, h4, h5⟩
theorem run_size {P : Program} {τ : Tys} (hτ : TysOk P τ) {t : TypeId} {i : TI} (ht : τ t = some i) (w : World) : (sizeOf t).run P w = .ok i.size w := by
  obtain ⟨info, h1, h2, _⟩ := run_info hτ ht w
  simp [sizeOf, h1, h2]
theorem run_zeroV {P : Program} {τ : Tys} (hτ : TysOk P τ) {t : TypeId} {i : TI} (ht : τ t = some i) (w : World) : (zeroValue t).run P w = .ok i.zero w := by
  obtain ⟨info, h1, _, _, h2⟩ := run_info hτ ht w
  simp [zeroValue, h1, h2]
theorem run_und {P : Program} {τ : Tys} (hτ : TysOk P τ) {t : TypeId} {i : TI} (ht : τ t = some i) (w : World) : (underlying t).run P w = .ok i.desc w := by
  obtain ⟨info, _, h2, _⟩ := hτ.ok t i ht
  simp [underlying, h2]
theorem run_agg {P : Program} {τ : Tys} (hτ : TysOk P τ) {t : TypeId} {i : TI} (ht : τ t = some i) (w : World) : (isAgg t).run P w = .ok (wantAgg i.desc) w := by
  simp only [isAgg, Sem.run_bind, run_und hτ ht w, Result.andThen_ok]
  cases i.desc <;> rfl

theorem pureRun_ok {α : Type} {P : Program} {s : Sem α} {a : α} (h : pureRun P s = some a) (w : World) : s.run P w = .ok a w := by
  induction s with
  | pure b => simp [pureRun] at h; simp [h]
  | program k ih => simp only [pureRun] at h; simp only [Sem.run]; exact ih P h
  | _ => simp [pureRun] at h

def OpOk (P : Program) (base : Nat) (ψ : Psi) (S : Nat → Prop) (w : World) (a : Act) (o : Oper) (K : St → Prop) : Prop :=
  ∀ (next : Act → World → Prop) (Q : Exit → Act → World → Prop),
    (∀ st' ψ' S' w' a', K st' → Rel P base ψ' S' w' st' a' → Ext base ψ S w ψ' S' w' → next a' w') → o.wp P a w next Q

section
variable {P : Program} {base : Nat} {ψ ψ' : Psi} {S S' : Nat → Prop} {w w' : World} {st st1 : St} {a : Act} {o : Oper} {K : St → Prop}

theorem ofCell_rep {x : Value} (hx : Scalar x) : RepC P ψ S w (ofCell x) x := by
  cases x <;> first | exact .v hx | rfl

theorem ev_rep (h : Rel P base ψ S w st a) (x : Operand) : RepT P ψ S w (ev st x) (a.eval x) := by
  cases x with
  | tmp t => exact h.tmps t
  | const v =>
    cases v <;> first | exact trivial | (refine RepD.v ?_; exact trivial) | rfl
  | global g => trivial
  | func f => exact ⟨#[], rfl, trivial⟩

theorem putK_rel {dst : Option Tmp} {x : Tm} {v : Value} (hk : putK st dst x K) (h : Rel P base ψ S w st a) (hx : RepT P ψ S w x v) :
    ∃ st', K st' ∧ Rel P base ψ S w st' (a.put dst v) := by
  cases dst with
  | none => exact ⟨st, hk, h⟩
  | some t =>
    obtain ⟨ts, hp, n, m⟩ := st
    simp only [putK] at hk
    split at hk
    · rename_i hlt
      rw [fT_eq] at hk
      refine ⟨_, hk, ⟨h.bas, h.sim, by simpa [Act.put] using h.lim, h.defers, ?_⟩⟩
      intro t'
      have hlt' : t < a.tmps.size := by rw [h.lim]; simpa [Nat.blt_eq] using hlt
      simp only [lookT, Act.put]
      cases he : Nat.beq t t' with
      | true =>
        have : t = t' := Nat.eq_of_beq_eq_true he
        subst this
        simp only [Array.getD_eq_getD_getElem?, Array.getElem?_setIfInBounds]
        simpa [hlt'] using hx
      | false =>
        have : t ≠ t' := Nat.ne_of_beq_eq_false he
        simp only [Array.getD_eq_getD_getElem?, Array.getElem?_setIfInBounds, this, if_false]
        have := h.tmps t'
        simpa [Array.getD_eq_getD_getElem?] using this
    · exact hk.elim

theorem OpOk.value {x : Tm} {v : Value} (hr : (execOp a.eval o).run P w = .ok (.value v) w') (hrel : Rel P base ψ' S' w' st1 a)
    (hx : RepT P ψ' S' w' x v) (hk : putK st1 o.dst x K) (he : Ext base ψ S w ψ' S' w') : OpOk P base ψ S w a o K := by
  intro next Q hn
  obtain ⟨st', h1, h2⟩ := putK_rel hk hrel hx
  simp only [Oper.wp, hr, Oper.upon]
  exact hn _ _ _ _ _ h1 h2 he

theorem OpOk.skip (hr : (execOp a.eval o).run P w = .ok .skip w') (hrel : Rel P base ψ' S' w' st1 a)
    (hk : putK st1 o.dst undT K) (he : Ext base ψ S w ψ' S' w') : OpOk P base ψ S w a o K := by
  intro next Q hn
  obtain ⟨st', h1, h2⟩ := putK_rel (v := undef) hk hrel rfl
  simp only [Oper.wp, hr, Oper.upon]
  exact hn _ _ _ _ _ h1 h2 he

theorem BlkRep.later {blk : Blk} {l : Loc} (h : BlkRep P ψ S w blk l) (hp : PsiSub ψ ψ') (hl : Later S w S' w')
    (hb : ∀ b m, l = .at b m → w'.heap[b]? = w.heap[b]?) : BlkRep P ψ' S' w' blk l := by
  cases blk with
  | gone => cases l <;> trivial
  | cells cs =>
    cases l with
    | virt => exact h.elim
    | «at» b m => obtain ⟨arr, e, h1, h2⟩ := h; exact ⟨arr, e, by rw [hb b m rfl]; exact h1, h2.mono fun _ _ h => h.later hp hl⟩
  | row sz n f =>
    cases l with
    | virt => exact h
    | «at» b m => obtain ⟨arr, e, h1, h2, h3, h4, h5⟩ := h; exact ⟨arr, e, by rw [hb b m rfl]; exact h1, h2, h3, h4, fun i j hi hj => (h5 i j hi hj).later hl⟩
  | fz cs =>
    cases l with
    | virt => exact h.elim
    | «at» b m => obtain ⟨h0, arr, e, fr, h1, h2⟩ := h; exact ⟨hl.1 _ h0, arr, e, fr, by rw [hb b m rfl]; exact h1, h2.mono fun _ _ h => h.later hl⟩
  | fzr sz n f =>
    cases l with
    | virt => exact h
    | «at» b m => obtain ⟨h0, arr, e, fr, h1, h2, h3, h4, h5⟩ := h; exact ⟨hl.1 _ h0, arr, e, fr, by rw [hb b m rfl]; exact h1, h2, h3, h4, fun i j hi hj => (h5 i j hi hj).later hl⟩

theorem heap_alloc_lt (o : Obj) {b : Nat} (h : b < w.heap.size) : (w.alloc o).heap[b]? = w.heap[b]? := by
  simp only [World.alloc, Array.getElem?_push]; simp [Nat.ne_of_lt h]

theorem heap_alloc_new (o : Obj) : (w.alloc o).heap[w.heap.size]? = some o := by simp only [World.alloc, Array.getElem?_push_size]

theorem later_alloc (hs : ∀ b, S b → b < w.heap.size) (o : Obj) : Later S w S (w.alloc o) := ⟨fun _ h => h, fun b hb => heap_alloc_lt o (hs b hb)⟩

def Psi.set (ψ : Psi) (n : Nat) (l : Loc) : Psi := fun k => if k = n then some l else ψ k

theorem Psi.sub_set {n : Nat} {l : Loc} (h : ψ n = none) : PsiSub ψ (ψ.set n l) := by
  intro k l' hk
  have : k ≠ n := fun e => by subst e; rw [h] at hk; cases hk
  simp [Psi.set, this, hk]

theorem lookB_cons {h : List (Nat × Blk)} {n k : Nat} {x : Blk} : lookB ((n, x) :: h) k = if n = k then x else lookB h k := by
  simp only [lookB]
  cases he : Nat.beq n k with
  | true => simp [Nat.eq_of_beq_eq_true he]
  | false => simp [Nat.ne_of_beq_eq_false he]

/-- a new block of any kind, in a new place of the heap -/
theorem Rel.alloc {ts : List (Nat × Tm)} {h : List (Nat × Blk)} {n m : Nat} {blk : Blk} {arr : Array Value} {e : TypeId}
    (hr : Rel P base ψ S w ⟨ts, h, n, m⟩ a) (hb : BlkRep P (ψ.set n (.at w.heap.size arr.size)) S (w.alloc (.cells arr e)) blk (.at w.heap.size arr.size)) :
    Rel P base (ψ.set n (.at w.heap.size arr.size)) S (w.alloc (.cells arr e)) ⟨ts, (n, blk) :: h, n + 1, m⟩ a ∧
      Ext base ψ S w (ψ.set n (.at w.heap.size arr.size)) S (w.alloc (.cells arr e)) := by
  have hn : ψ n = none := hr.sim.dom n (Nat.le_refl _)
  have hl := later_alloc hr.sim.sdom (Obj.cells arr e)
  have hp : PsiSub ψ (ψ.set n (.at w.heap.size arr.size)) := Psi.sub_set hn
  refine ⟨⟨Nat.le_succ_of_le hr.bas, ⟨?_, ?_, ?_, ?_, ?_, ?_⟩, hr.lim, hr.defers, fun t => (hr.tmps t).later hp hl⟩, ⟨rfl, rfl, rfl, by simp, fun b hb _ => heap_alloc_lt _ hb, hl, fun _ h => .inl h, ?_, ?_⟩⟩
  · intro k hk
    have : k ≠ n := by simp at hk; omega
    have hk' : n ≤ k := by simp at hk; omega
    simp [Psi.set, this, hr.sim.dom k hk']
  · intro k l hk
    rw [lookB_cons]
    by_cases hkn : n = k
    · subst hkn
      simp only [Psi.set, if_true, Option.some.injEq] at hk
      subst hk
      simpa using hb
    · have hkn' : k ≠ n := fun h => hkn h.symm
      simp only [Psi.set, hkn', if_false] at hk
      rw [if_neg hkn]
      refine (hr.sim.blk k l hk).later hp hl fun b m' e => ?_
      subst e
      exact heap_alloc_lt _ (hr.sim.pdom k b m' hk)
  · intro k k' b m1 m2 hk hk' hlk hlk'
    rw [lookB_cons] at hlk hlk'
    simp only [Psi.set] at hk hk'
    by_cases h1 : k = n
    · by_cases h2 : k' = n
      · rw [h1, h2]
      · rw [if_pos h1] at hk; rw [if_neg h2] at hk'
        simp at hk
        have := hr.sim.pdom k' b m2 hk'
        omega
    · by_cases h2 : k' = n
      · rw [if_neg h1] at hk; rw [if_pos h2] at hk'
        simp at hk'
        have := hr.sim.pdom k b m1 hk
        omega
      · rw [if_neg h1] at hk; rw [if_neg h2] at hk'
        rw [if_neg fun h => h1 h.symm] at hlk
        rw [if_neg fun h => h2 h.symm] at hlk'
        exact hr.sim.inj k k' b m1 m2 hk hk' hlk hlk'
  · intro k b m1 hk hlk hS
    rw [lookB_cons] at hlk
    simp only [Psi.set] at hk
    by_cases h1 : k = n
    · rw [if_pos h1] at hk
      simp at hk
      have := hr.sim.sdom b hS
      omega
    · rw [if_neg h1] at hk
      rw [if_neg fun h => h1 h.symm] at hlk
      exact hr.sim.dis k b m1 hk hlk hS
  · intro k b m1 hk
    simp only [Psi.set] at hk
    by_cases h1 : k = n
    · rw [if_pos h1] at hk; simp at hk; simp [hk]
    · rw [if_neg h1] at hk; have := hr.sim.pdom k b m1 hk; simp; omega
  · intro b hb; have := hr.sim.sdom b hb; simp; omega
  · intro k b m1 hk
    simp only [Psi.set] at hk
    by_cases h1 : k = n
    · rw [if_pos h1] at hk; simp at hk; right; omega
    · rw [if_neg h1] at hk; exact .inl ⟨k, m1, hk⟩
  · intro k hk
    have := hr.bas
    have : k ≠ n := by simp at this; omega
    simp [Psi.set, this]

/-- a block of the frame's own is written -/
theorem Rel.write {ts : List (Nat × Tm)} {h : List (Nat × Blk)} {n m k b mm : Nat} {blk : Blk}
    (hr : Rel P base ψ S w ⟨ts, h, n, m⟩ a) (hk : ψ k = some (.at b mm)) (hlive : (lookB h k).live)
    (hos : w'.os = w.os) (htape : w'.tape = w.tape) (hout : w'.output = w.output) (hsize : w'.heap.size = w.heap.size)
    (hoth : ∀ b', b' ≠ b → w'.heap[b']? = w.heap[b']?) (hblk : Later S w S w' → BlkRep P ψ S w' blk (.at b mm)) :
    Rel P base ψ S w' ⟨ts, (k, blk) :: h, n, m⟩ a ∧ Ext base ψ S w ψ S w' := by
  have hnS : ¬ S b := hr.sim.dis k b mm hk hlive
  have hl : Later S w S w' := ⟨fun _ h => h, fun b' hb' => hoth b' fun e => hnS (e ▸ hb')⟩
  have hp := PsiSub.refl ψ
  refine ⟨⟨hr.bas, ⟨hr.sim.dom, ?_, ?_, ?_, ?_, ?_⟩, hr.lim, hr.defers, fun t => (hr.tmps t).later hp hl⟩, ⟨hos, htape, hout, by omega, ?_, hl, fun _ h => .inl h, fun k b m h => .inl ⟨k, m, h⟩, fun _ _ => rfl⟩⟩
  · intro k' l hk'
    rw [lookB_cons]
    by_cases e : k = k'
    · subst e; rw [hk] at hk'; cases hk'; simpa using hblk hl
    · rw [if_neg e]
      have hb := hr.sim.blk k' l hk'
      cases hbk : lookB h k' with
      | gone => cases l <;> trivial
      | cells cs =>
        refine (hbk ▸ hb).later hp hl fun b' m' he => hoth b' fun hbb => e ?_
        subst he; subst hbb
        exact hr.sim.inj k k' b' mm m' hk hk' hlive (by simp only [hbk]; trivial)
      | row sz nn f =>
        refine (hbk ▸ hb).later hp hl fun b' m' he => hoth b' fun hbb => e ?_
        subst he; subst hbb
        exact hr.sim.inj k k' b' mm m' hk hk' hlive (by simp only [hbk]; trivial)
      | fz cs =>
        simp only [hbk] at hb
        refine BlkRep.later hb hp hl fun b' m' he => hoth b' fun hbb => hnS ?_
        subst he; subst hbb
        exact hb.1
      | fzr sz nn f =>
        simp only [hbk] at hb
        refine BlkRep.later hb hp hl fun b' m' he => hoth b' fun hbb => hnS ?_
        subst he; subst hbb
        exact hb.1
  · intro k1 k2 b' m1 m2 h1 h2 l1 l2
    rw [lookB_cons] at l1 l2
    have hlv : ∀ k', (if k = k' then blk else lookB h k').live → ψ k' = some (.at b' m1) ∨ ψ k' = some (.at b' m2) → (lookB h k').live := by
      intro k' hx _
      by_cases e : k = k'
      · exact e ▸ hlive
      · rwa [if_neg e] at hx
    exact hr.sim.inj k1 k2 b' m1 m2 h1 h2 (hlv k1 l1 (.inl h1)) (hlv k2 l2 (.inr h2))
  · intro k' b' m' h1 l1
    rw [lookB_cons] at l1
    by_cases e : k = k'
    · subst e; exact hr.sim.dis k b' m' h1 hlive
    · rw [if_neg e] at l1; exact hr.sim.dis k' b' m' h1 l1
  · intro k' b' m' h1; rw [hsize]; exact hr.sim.pdom k' b' m' h1
  · intro b' hb'; rw [hsize]; exact hr.sim.sdom b' hb'
  · intro b' hb' hno
    exact hoth b' fun e => hno k mm (e ▸ hk)

end
end Go.Sx

namespace Go.Sx

theorem takeN_spec {α : Type} : ∀ {l : List α} {n : Nat} {r : List α}, takeN l n = some r → r = l.take n ∧ r.length = n
  | _, 0, r, h => by simp [takeN] at h; subst h; simp
  | [], n + 1, r, h => by simp [takeN] at h
  | x :: xs, n + 1, r, h => by
    simp only [takeN] at h
    split at h
    · rename_i ys hy
      have := takeN_spec hy
      simp at h; subst h
      simp [this.1]
      have h2 := this.2; rw [this.1] at h2; simpa using h2
    · simp at h

theorem All2.take {α β : Type} {R : α → β → Prop} : ∀ {xs : List α} {ys : List β} (n : Nat), All2 R xs ys → All2 R (xs.take n) (ys.take n)
  | _, _, 0, _ => by simp [All2]
  | [], [], _ + 1, _ => by simp [All2]
  | _ :: _, _ :: _, n + 1, ⟨a, b⟩ => by simpa [All2] using ⟨a, All2.take n b⟩

section
variable {P : Program} {τ : Tys} {base : Nat} {ψ ψ' : Psi} {S S' : Nat → Prop} {w w' : World} {st st1 : St} {a : Act} {o : Oper} {K : St → Prop}

theorem RepC.scalar {c : Cell} {x : Value} (h : RepC P ψ S w c x) (hl : Va.lays (.c c) = true) : Scalar x := by
  cases c with
  | top => simp [Va.lays] at hl
  | und => simp [Va.lays] at hl
  | kb b => rw [show x = .bool b from h]; trivial
  | d y => exact RepD.scalar h
  | own k off => obtain ⟨b, m, _, rfl⟩ := h; trivial
  | osl k sz o len => rcases h with ⟨_, _, rfl⟩ | ⟨b, m, c, off, _, rfl, _⟩ <;> trivial
  | ep k sz i off => obtain ⟨b, m, _, rfl⟩ := h; trivial
  | rp cs => obtain ⟨b, off, ys, rfl, _⟩ := h; trivial
  | fn f caps => obtain ⟨vs, rfl, _⟩ := h; trivial
  | fv g => obtain ⟨f, first, caps, rfl, _⟩ := h; trivial

theorem RepVa.cells {y : Va} {x : Value} (h : RepVa P ψ S w y x) (hl : y.lays = true) : All2 (RepM P ψ S w) y.cells x.cells.toList := by
  cases y with
  | c c =>
    have hs := RepC.scalar h hl
    have : x.cells = #[x] := by cases x <;> first | rfl | exact hs.elim
    rw [this]
    exact ⟨⟨h, hs⟩, trivial⟩
  | agg cs => obtain ⟨arr, rfl, h⟩ := h; exact h

theorem scalar_cells : ∀ (x : Value), Scalar x → x.cells = #[x] := by
  intro x h; cases x <;> first | rfl | exact h.elim

theorem newK_ok {cs : List Cell} {arr : Array Value} {e : TypeId} (hrel : Rel P base ψ S w st a) (hcs : All2 (RepM P ψ S w) cs arr.toList)
    (hr : (execOp a.eval o).run P w = .ok (.value (.pointer (some ⟨w.heap.size, 0, none⟩))) (w.alloc (.cells arr e))) (hk : newK st o.dst cs K) :
    OpOk P base ψ S w a o K := by
  obtain ⟨ts, h, n, m⟩ := st
  simp only [newK, fCs_eq] at hk
  have hn : ψ n = none := hrel.sim.dom n (Nat.le_refl _)
  have hl := later_alloc hrel.sim.sdom (Obj.cells arr e)
  obtain ⟨h1, h2⟩ := hrel.alloc (blk := .cells cs) (arr := arr) (e := e) ⟨arr, e, heap_alloc_new _, hcs.mono fun _ _ h => h.later (Psi.sub_set hn) hl⟩
  refine OpOk.value hr h1 ?_ hk h2
  exact ⟨w.heap.size, arr.size, by simp [Psi.set], rfl⟩

/-- zero values: what they are -/
def zeroOk : Value → Prop
  | .agg cs => ∀ x ∈ cs.toList, Scalar x
  | .tuple _ => False
  | _ => True

theorem zero_cells {z : Value} (hz : zeroOk z) : All2 (RepM P ψ S w) (zeroCells' z) z.cells.toList := by
  have key : ∀ l : List Value, (∀ x ∈ l, Scalar x) → All2 (RepM P ψ S w) (l.map fun x => Cell.d (.v x)) l := by
    intro l hl
    induction l with
    | nil => trivial
    | cons x xs ih => exact ⟨⟨.v (hl x (by simp)), hl x (by simp)⟩, ih fun y hy => hl y (by simp [hy])⟩
  cases z with
  | agg cs => exact key _ hz
  | tuple _ => exact hz.elim
  | _ => exact ⟨⟨.v trivial, trivial⟩, trivial⟩

theorem oAlloc_ok (hτ : TysOk P τ) (hz : ∀ t i, τ t = some i → zeroOk i.zero) (hrel : Rel P base ψ S w st a) {e : TypeId} (hop : o.op = .alloc e) (hk : oAlloc τ st o.dst e K) :
    OpOk P base ψ S w a o K := by
  unfold oAlloc at hk
  split at hk
  · rename_i d s b z ht
    refine newK_ok (e := e) hrel (zero_cells (hz _ _ ht)) ?_ hk
    simp only [execOp, hop, Instr.alloc, Sem.run_bind, run_zeroV hτ ht, Result.andThen_ok, newVar, newRow, run_newObj]
    rfl
  · exact hk.elim

theorem oBox_ok (hrel : Rel P base ψ S w st a) {e : TypeId} {x : Operand} (hop : o.op = .box e x) (hk : oBox st o.dst (ev st x) K) :
    OpOk P base ψ S w a o K := by
  unfold oBox at hk
  split at hk
  · rename_i y hy
    split at hk
    · rename_i hlay
      have hx := ev_rep hrel x
      rw [hy] at hx
      refine newK_ok (e := e) (arr := (a.eval x).cells) hrel (RepVa.cells hx hlay) ?_ hk
      simp only [execOp, hop, Instr.box, Sem.run_bind, Result.andThen_ok, newVar, newRow, run_newObj]
      rfl
    · exact hk.elim
  · exact hk.elim

theorem cell_at {b off : Nat} {arr : Array Value} {e : TypeId} {fr : Nat × Nat} (h : w.heap[b]? = some (.cells arr e fr)) : w.cell? ⟨b, off, none⟩ = arr[off]? := by
  simp [World.cell?, h]

theorem run_loadVar (hτ : TysOk P τ) {t : TypeId} {i : TI} (ht : τ t = some i) {b off : Nat} {ys : List Value} (hlen : ys.length = i.size)
    (hc : ∀ j y, ys[j]? = some y → w.cell? ⟨b, off + j, none⟩ = some y) {y : Va} {cs : List Cell} (hcs : All2 (RepM P ψ S w) cs ys) (hm : mkVa (wantAgg i.desc) cs = some y) :
    ∃ v, (loadVar t ⟨b, off, none⟩).run P w = .ok v w ∧ RepVa P ψ S w y v := by
  have hadd : ∀ j, (⟨b, off, none⟩ : Addr).add j = ⟨b, off + j, none⟩ := by
    intro j; unfold Addr.add; split
    · rename_i h; simp [h]
    · rfl
  simp only [loadVar, Sem.run_bind, run_agg hτ ht, Result.andThen_ok]
  cases hw : wantAgg i.desc with
  | true =>
    rw [hw] at hm
    simp only [mkVa, Option.some.injEq] at hm
    subst hm
    refine ⟨.agg ys.toArray, ?_, ys.toArray, rfl, by simpa using hcs⟩
    simp only [if_true, Sem.run_bind, run_size hτ ht, Result.andThen_ok, ← hlen]
    rw [run_loadCells_list (P := P) w _ ys (fun j v hj => by rw [hadd]; exact hc j v hj)]
    rfl
  | false =>
    rw [hw] at hm
    cases cs with
    | nil => simp [mkVa] at hm
    | cons c cs =>
      cases cs with
      | cons _ _ => simp [mkVa] at hm
      | nil =>
        simp only [mkVa, Option.some.injEq] at hm
        subst hm
        cases ys with
        | nil => exact hcs.elim
        | cons y1 ys =>
          have h0 := hc 0 y1 (by simp)
          simp only [Nat.add_zero] at h0
          exact ⟨y1, by simp [h0], hcs.1.1⟩

theorem takeN_all2 {cs r : List Cell} {ys : List Value} {off n : Nat} (h : All2 (RepM P ψ S w) cs ys) (ht : takeN (cs.drop off) n = some r) :
    All2 (RepM P ψ S w) r ((ys.drop off).take n) ∧ ((ys.drop off).take n).length = n := by
  obtain ⟨h1, h2⟩ := takeN_spec ht
  have := (h.drop off).take n
  rw [← h1] at this
  exact ⟨this, this.length ▸ h2⟩

theorem all2_dmap {cs : List DV} {ys : List Value} (h : All2 (RepD S w) cs ys) : All2 (RepM P ψ S w) (cs.map Cell.d) ys :=
  h.map_left _ fun _ _ h => ⟨h, RepD.scalar h⟩

theorem takeN_all2_d {cs r : List DV} {ys : List Value} {off n : Nat} (h : All2 (RepD S w) cs ys) (ht : takeN (cs.drop off) n = some r) :
    All2 (RepM P ψ S w) (r.map Cell.d) ((ys.drop off).take n) ∧ ((ys.drop off).take n).length = n := by
  obtain ⟨h1, h2⟩ := takeN_spec ht
  have := (h.drop off).take n
  rw [← h1] at this
  exact ⟨all2_dmap this, this.length ▸ h2⟩

theorem get_drop_take {α : Type} {l : List α} {off n j : Nat} {y : α} (h : ((l.drop off).take n)[j]? = some y) : l[off + j]? = some y := by
  rw [List.getElem?_take] at h
  split at h
  · simpa [List.getElem?_drop] using h
  · simp at h

theorem row_ys {f : Nat → List DV} {arr : Array Value} {n sz i : Nat} (hi : i < n) (hsz : n * sz ≤ arr.size) (hl : ∀ i, i < n → (f i).length = sz)
    (hd : ∀ i j, i < n → j < sz → RepD S w ((f i).getD j (.v (.bool false))) (arr.getD (i * sz + j) undef)) :
    All2 (RepD S w) (f i) ((arr.toList.drop (i * sz)).take sz) := by
  have hb : i * sz + sz ≤ n * sz := by
    have := Nat.mul_le_mul_right sz (Nat.succ_le_of_lt hi); rw [Nat.succ_mul] at this; exact this
  refine All2.of_get ?_ ?_
  · simp [hl i hi]; omega
  · intro j x y hx hy
    have hj : j < sz := by
      have := (List.getElem?_eq_some_iff.1 hx).1; rw [hl i hi] at this; exact this
    have h1 := hd i j hi hj
    have h2 := get_drop_take hy
    have e1 : (f i).getD j (.v (.bool false)) = x := by simp [List.getD, hx]
    have e2 : arr.getD (i * sz + j) undef = y := by
      rw [Array.getD_eq_getD_getElem?, ← Array.getElem?_toList, h2]; rfl
    rwa [e1, e2] at h1

theorem take_drop_le {α : Type} {l : List α} {a b off n : Nat} (h : off + n ≤ b) : ((((l.drop a).take b).drop off).take n) = (l.drop (a + off)).take n := by
  apply List.ext_getElem?
  intro j
  simp only [List.getElem?_take, List.getElem?_drop]
  by_cases hj : j < n
  · simp only [hj, if_true]
    rw [if_pos (by omega), Nat.add_assoc]
  · simp [hj]

theorem loadAt_ok {p : Tm} {v : Value} {sz : Nat} {h : List (Nat × Blk)} {next : Nat} {KL : List Cell → Prop} (hs : Sim P ψ S w h next) (hp : RepT P ψ S w p v) (hk : loadAt h p sz KL) :
    ∃ b off ys cs, v = .pointer (some ⟨b, off, none⟩) ∧ ys.length = sz ∧ (∀ j y, ys[j]? = some y → w.cell? ⟨b, off + j, none⟩ = some y) ∧ All2 (RepM P ψ S w) cs ys ∧ KL cs := by
  unfold loadAt at hk
  split at hk
  · rename_i k off
    obtain ⟨b, m, hψ, rfl⟩ := hp
    have hb := hs.blk k _ hψ
    split at hk
    · rename_i cs hbk
      rw [hbk] at hb
      obtain ⟨arr, e, h1, h2⟩ := hb
      split at hk
      · rename_i r hr
        obtain ⟨h3, h4⟩ := takeN_all2 h2 hr
        exact ⟨b, off, _, r, rfl, h4, fun j y hj => by rw [cell_at h1, ← Array.getElem?_toList]; exact get_drop_take hj, h3, hk⟩
      · exact hk.elim
    · rename_i cs hbk
      rw [hbk] at hb
      obtain ⟨_, arr, e, fr, h1, h2⟩ := hb
      split at hk
      · rename_i r hr
        obtain ⟨h3, h4⟩ := takeN_all2_d (P := P) (ψ := ψ) h2 hr
        exact ⟨b, off, _, _, rfl, h4, fun j y hj => by rw [cell_at h1, ← Array.getElem?_toList]; exact get_drop_take hj, h3, hk⟩
      · exact hk.elim
    · exact hk.elim
  · rename_i k z i off
    obtain ⟨b, m, hψ, rfl⟩ := hp
    have hb := hs.blk k _ hψ
    have main : ∀ (z' n : Nat) (f : Nat → List DV) (arr : Array Value) (e : TypeId) (fr : Nat × Nat), w.heap[b]? = some (.cells arr e fr) → n * z' ≤ arr.size → (∀ i, i < n → (f i).length = z') →
        (∀ i j, i < n → j < z' → RepD S w ((f i).getD j (.v (.bool false))) (arr.getD (i * z' + j) undef)) →
        (z' = z ∧ i < n ∧ (z' = z → i < n → match takeN ((f i).drop off) sz with
          | some r => KL (r.map .d)
          | none => False)) →
        ∃ b' off' ys cs, Value.pointer (some ⟨b, i * z + off, none⟩) = .pointer (some ⟨b', off', none⟩) ∧ ys.length = sz ∧ (∀ j y, ys[j]? = some y → w.cell? ⟨b', off' + j, none⟩ = some y) ∧ All2 (RepM P ψ S w) cs ys ∧ KL cs := by
      intro z' n f arr e fr h1 h2 h3 h4 ⟨e1, e2, hk0⟩
      have hk2 := hk0 e1 e2
      clear hk0 hk
      subst e1
      split at hk2
      · rename_i r hr
        have hrow := row_ys (S := S) (w := w) e2 h2 h3 h4
        obtain ⟨h5, h6⟩ := takeN_all2_d (P := P) (ψ := ψ) hrow hr
        obtain ⟨h7, h8⟩ := takeN_spec hr
        have hle : off + sz ≤ z' ∨ sz = 0 := by
          have : r.length ≤ ((f i).drop off).length := by rw [h7]; simp; omega
          simp only [List.length_drop, h3 i e2, h8] at this
          omega
        rcases hle with hle | hle
        · rw [take_drop_le hle] at h5 h6
          refine ⟨b, i * z' + off, _, _, rfl, h6, fun j y hj => ?_, h5, hk2⟩
          rw [cell_at h1, ← Array.getElem?_toList]; exact get_drop_take hj
        · subst hle
          simp only [List.take_zero] at h5
          exact ⟨b, i * z' + off, [], _, rfl, rfl, fun j y hj => by simp at hj, h5, hk2⟩
      · exact hk2.elim
    split at hk
    · rename_i z' n f hbk
      rw [hbk] at hb
      obtain ⟨arr, e, h1, h2, h3, h4, h5⟩ := hb
      subst h2
      exact main z' n f arr e _ h1 h3 h4 h5 hk
    · rename_i z' n f hbk
      rw [hbk] at hb
      obtain ⟨_, arr, e, fr, h1, h2, h3, h4, h5⟩ := hb
      subst h2
      exact main z' n f arr e fr h1 h3 h4 h5 hk
    · exact hk.elim
  · rename_i cs
    obtain ⟨b, off, ys, rfl, _, h2, h3⟩ := hp
    split at hk
    · rename_i r hr
      have hr' : takeN (cs.drop 0) sz = some r := by simpa using hr
      obtain ⟨h5, h6⟩ := takeN_all2_d (P := P) (ψ := ψ) h2 hr'
      exact ⟨b, off, _, _, rfl, h6, fun j y hj => h3 _ _ (by have := get_drop_take hj; simpa using this), h5, hk⟩
    · exact hk.elim
  · exact hk.elim

theorem oLoad_ok (hτ : TysOk P τ) (hrel : Rel P base ψ S w st a) {t : TypeId} {x : Operand} (hop : o.op = .load t x) (hk : oLoad τ st.heap t (ev st x) fun y => putK st o.dst y K) :
    OpOk P base ψ S w a o K := by
  unfold oLoad at hk
  split at hk
  · rename_i d s b z ht
    obtain ⟨b, off, ys, cs, hv, hlen, hc, hcs, hk⟩ := loadAt_ok hrel.sim (ev_rep hrel x) hk
    split at hk
    · rename_i y hy
      obtain ⟨v, h1, h2⟩ := run_loadVar hτ ht hlen hc hcs hy
      refine OpOk.value (x := .va y) (v := v) ?_ hrel h2 hk (Ext.refl _ _ _ _)
      simp only [execOp, hop, Instr.loadAt, hv, Instr.sureAddr, Sem.run_bind, Sem.run_pure, Result.andThen_ok, h1]
    · exact hk.elim
  · exact hk.elim

end
end Go.Sx

namespace Go.Sx

theorem setAt_spec {α : Type} : ∀ (l : List α) (off : Nat) (ys r : List α), setAt l off ys = some r →
    r.length = l.length ∧ (ys = [] ∨ off + ys.length ≤ l.length) ∧ ∀ j : Nat, r[j]? = if off ≤ j ∧ j < off + ys.length then ys[j - off]? else l[j]?
  | l, off, [], r, h => by
    have : r = l := by cases l <;> cases off <;> simp [setAt] at h <;> first | exact h | exact h.symm
    subst this
    exact ⟨rfl, .inl rfl, fun j => by rw [if_neg (by simp only [List.length_nil]; omega)]⟩
  | [], off, y :: ys, r, h => by cases off <;> simp [setAt] at h
  | x :: l, 0, y :: ys, r, h => by
    simp only [setAt] at h
    split at h
    · rename_i r' hr
      simp at h; subst h
      obtain ⟨h1, h2, h3⟩ := setAt_spec l 0 ys r' hr
      refine ⟨by simp [h1], .inr ?_, ?_⟩
      · rcases h2 with h2 | h2
        · subst h2; simp
        · simp at h2 ⊢; omega
      · intro j
        cases j with
        | zero => simp
        | succ j =>
          have := h3 j
          simp only [List.getElem?_cons_succ, this, Nat.zero_le, true_and, Nat.zero_add, Nat.sub_zero, List.length_cons]
          by_cases hj : j < ys.length
          · rw [if_pos hj, if_pos (by omega)]
          · rw [if_neg hj, if_neg (by omega)]
    · simp at h
  | x :: l, off + 1, y :: ys, r, h => by
    simp only [setAt] at h
    split at h
    · rename_i r' hr
      simp at h; subst h
      obtain ⟨h1, h2, h3⟩ := setAt_spec l off (y :: ys) r' hr
      refine ⟨by simp [h1], .inr ?_, ?_⟩
      · rcases h2 with h2 | h2
        · simp at h2
        · simp at h2 ⊢; omega
      · intro j
        cases j with
        | zero => rw [if_neg (by omega)]; simp
        | succ j =>
          have := h3 j
          simp only [List.getElem?_cons_succ, this]
          by_cases hj : off ≤ j ∧ j < off + (y :: ys).length
          · rw [if_pos hj, if_pos (by omega)]; congr 1; omega
          · rw [if_neg hj, if_neg (by omega)]
    · simp at h

theorem oneCell_of_scalar {v : Value} (h : Scalar v) : v.oneCell' = true := by cases v <;> first | rfl | exact h.elim

theorem addr_add (b off j : Nat) : (⟨b, off, none⟩ : Addr).add j = ⟨b, off + j, none⟩ := by
  unfold Addr.add; split
  · rename_i h; simp [h]
  · rfl

section
variable {P : Program} {τ : Tys} {base : Nat} {ψ ψ' : Psi} {S S' : Nat → Prop} {w w' : World} {st st1 : St} {a : Act} {o : Oper} {K : St → Prop}

theorem run_storeCells {b off : Nat} {e : TypeId} : ∀ (vs : List Value) (i : Nat) (w : World) (arr : Array Value), w.heap[b]? = some (.cells arr e (0, 0)) →
    (vs = [] ∨ off + i + vs.length ≤ arr.size) → (∀ v ∈ vs, Scalar v) →
    ∃ w' arr', (storeCells ⟨b, off, none⟩ vs i).run P w = .ok () w' ∧ w'.heap[b]? = some (.cells arr' e (0, 0)) ∧ arr'.size = arr.size ∧
      (∀ j : Nat, arr'[j]? = if off + i ≤ j ∧ j < off + i + vs.length then vs[j - (off + i)]? else arr[j]?) ∧
      w'.os = w.os ∧ w'.tape = w.tape ∧ w'.output = w.output ∧ w'.heap.size = w.heap.size ∧ ∀ b', b' ≠ b → w'.heap[b']? = w.heap[b']?
  | [], i, w, arr, h, _, _ => ⟨w, arr, rfl, h, rfl, fun j => by rw [if_neg (by simp only [List.length_nil]; omega)], rfl, rfl, rfl, rfl, fun _ _ => rfl⟩
  | v :: vs, i, w, arr, h, hlen, hsc => by
    have hlen' : off + i + (vs.length + 1) ≤ arr.size := by rcases hlen with hlen | hlen <;> simp_all
    have hcell : w.cell? ⟨b, off + i, none⟩ = some (arr[off + i]'(by omega)) := by rw [cell_at h]; simp
    have hfr : w.frozen? ⟨b, off + i, none⟩ = false := by simp [World.frozen?, h]
    have hstore : (store (⟨b, off + i, none⟩ : Addr) v).run P w = .ok () (w.setCell ⟨b, off + i, none⟩ v) := by
      rw [run_store P w _ v _ (oneCell_of_scalar (hsc v (by simp))), hcell]; simp [hfr]
    have h1 : (w.setCell ⟨b, off + i, none⟩ v).heap[b]? = some (.cells (arr.setIfInBounds (off + i) v) e (0, 0)) := by
      simp [World.setCell, Array.getElem?_modify, h]
    obtain ⟨w', arr', g1, g2, g3, g4, g5, g6, g7, g8, g9⟩ := run_storeCells (off := off) vs (i + 1) (w.setCell ⟨b, off + i, none⟩ v) _ h1 (.inr (by simp; omega)) (fun x hx => hsc x (by simp [hx]))
    refine ⟨w', arr', ?_, g2, by simpa using g3, ?_, g5, g6, g7, by simpa using g8, ?_⟩
    · simp only [storeCells, addr_add, Sem.run_bind, hstore, Result.andThen_ok]; exact g1
    · intro j
      rw [g4 j]
      simp only [Array.getElem?_setIfInBounds, List.length_cons]
      by_cases hj : off + (i + 1) ≤ j ∧ j < off + (i + 1) + vs.length
      · rw [if_pos hj, if_pos (by omega)]
        obtain ⟨q, rfl⟩ : ∃ q, j = off + i + (q + 1) := ⟨j - (off + i) - 1, by omega⟩
        rw [show off + i + (q + 1) - (off + (i + 1)) = q by omega, show off + i + (q + 1) - (off + i) = q + 1 by omega]; simp
      · rw [if_neg hj]
        by_cases hj2 : off + i = j
        · subst hj2; simp [show off + i < arr.size by omega]
        · rw [if_neg hj2, if_neg (by omega)]
    · intro b' hb'
      rw [g9 b' hb']
      simp only [World.setCell, Array.getElem?_modify]
      rw [if_neg fun e => hb' e.symm]

theorem all2_upd {α β : Type} {R : α → β → Prop} {cs r zs : List α} {ys vs : List β} {ys' : List β} {off : Nat} (h : All2 R cs ys) (hz : All2 R zs vs) (hs : setAt cs off zs = some r)
    (hl : ys'.length = ys.length) (hy : ∀ j : Nat, ys'[j]? = if off ≤ j ∧ j < off + vs.length then vs[j - off]? else ys[j]?) : All2 R r ys' := by
  obtain ⟨h1, _, h3⟩ := setAt_spec _ _ _ _ hs
  refine All2.of_get (by rw [h1, hl, h.length]) ?_
  intro j x y hx hy'
  rw [h3 j] at hx
  rw [hy j] at hy'
  rw [hz.length] at hx
  by_cases hj : off ≤ j ∧ j < off + vs.length
  · rw [if_pos hj] at hx hy'
    obtain ⟨y2, g1, g2⟩ := hz.get _ x hx
    rw [hy'] at g1; cases g1; exact g2
  · rw [if_neg hj] at hx hy'
    obtain ⟨y2, g1, g2⟩ := h.get _ x hx
    rw [hy'] at g1; cases g1; exact g2

theorem all2_scalar {cs : List Cell} {ys : List Value} (h : All2 (RepM P ψ S w) cs ys) : ∀ v ∈ ys, Scalar v := by
  induction cs generalizing ys with
  | nil => cases ys with | nil => simp | cons _ _ => exact h.elim
  | cons c cs ih => cases ys with
    | nil => exact h.elim
    | cons y ys => intro v hv; simp at hv; rcases hv with rfl | hv; exact h.1.2; exact ih h.2 v hv

theorem mapO_some {α β : Type} {f : α → Option β} : ∀ {xs : List α} {ys : List β}, mapO f xs = some ys → All2 (fun x y => f x = some y) xs ys
  | [], ys, h => by simp [mapO] at h; subst h; trivial
  | x :: xs, ys, h => by
    simp only [mapO] at h
    split at h
    · rename_i y ys' h1 h2
      simp at h; subst h
      exact ⟨h1, mapO_some h2⟩
    · simp at h

theorem All2.comp {α β γ : Type} {R : α → β → Prop} {R' : α → γ → Prop} {T : β → γ → Prop} (h : ∀ x y z, R x y → R' x z → T y z) : ∀ {xs ys zs}, All2 R xs ys → All2 R' xs zs → All2 T ys zs
  | [], [], [], _, _ => trivial
  | _ :: _, _ :: _, _ :: _, ⟨a, b⟩, ⟨c, d⟩ => ⟨h _ _ _ a c, All2.comp h b d⟩

theorem closeCell_rep {h : List (Nat × Blk)} {next : Nat} (hs : Sim P ψ S w h next) {c : Cell} {v : Value} {K : DV → Prop} (hc : closeCell h c K) (hv : RepC P ψ S w c v) : ∃ x, RepD S w x v ∧ K x := by
  unfold closeCell at hc
  split at hc
  · exact ⟨_, by rw [show v = _ from hv]; exact .v trivial, hc⟩
  · exact ⟨_, hv, hc⟩
  · rename_i k z o len
    split at hc
    · rename_i sz n f hb
      split at hc
      · rename_i hz
        have hz := Nat.eq_of_beq_eq_true hz
        subst hz
        obtain ⟨hn, hc⟩ := hc
        refine ⟨_, ?_, hc⟩
        rcases hv with ⟨h1, rfl, rfl⟩ | ⟨b, m, c, off, h1, rfl, h2, h3⟩
        · exact .nil
        · have hb' := hs.blk k _ h1
          rw [hb] at hb'
          obtain ⟨hS, arr, e, fr, g1, g2, g3, g4, g5⟩ := hb'
          rcases Nat.eq_zero_or_pos len with hl | hl
          · subst hl; exact .nil
          · obtain ⟨rfl, h4⟩ := h3 (by omega)
            subst g2
            refine .lst (fun i j => arr.getD ((o + i) * sz + j) undef) hS (fun i hi => g4 _ (by omega)) (fun i j hi hj => ?_) (fun i j hi hj => g5 _ _ (by omega) hj) h2
            rw [cell_at g1, show o * sz + i * sz + j = (o + i) * sz + j by rw [Nat.add_mul]]
            have : (o + i) * sz + j < arr.size := by
              have h5 : (o + i + 1) * sz ≤ n * sz := Nat.mul_le_mul_right sz (by omega)
              rw [Nat.succ_mul] at h5; omega
            simp [Array.getD, this]
      · exact hc.elim
    · exact hc.elim
  · exact hc.elim

theorem closeCells_rep {h : List (Nat × Blk)} {next : Nat} (hs : Sim P ψ S w h next) : ∀ {cs : List Cell} {vs : List Value} {K : List DV → Prop}, closeCells h cs K → All2 (RepM P ψ S w) cs vs →
    ∃ xs, All2 (RepD S w) xs vs ∧ K xs
  | [], [], _, hc, _ => ⟨[], trivial, hc⟩
  | _ :: _, _ :: _, _, hc, ⟨h1, h2⟩ => by
    obtain ⟨x, g1, g2⟩ := closeCell_rep hs hc h1.1
    obtain ⟨xs, g3, g4⟩ := closeCells_rep hs g2 h2
    exact ⟨x :: xs, ⟨g1, g3⟩, g4⟩

theorem oStore_ok (hτ : TysOk P τ) (hrel : Rel P base ψ S w st a) {t : TypeId} {p x : Operand} (hop : o.op = .store t p x) (hk : oStore τ st o.dst t (ev st p) (ev st x) K) :
    OpOk P base ψ S w a o K := by
  have hx := ev_rep hrel x
  have hp := ev_rep hrel p
  unfold oStore at hk
  split at hk
  · rename_i d s bb z ht
    split at hk
    · rename_i y k off ts h n m ey ep
      rw [ey] at hx; rw [ep] at hp
      obtain ⟨b, mm, hψ, hpv⟩ := hp
      split at hk
      · rename_i cs hlay hbk hsz
        have hsz := Nat.eq_of_beq_eq_true hsz
        split at hk
        · rename_i r hr
          rw [fCs_eq] at hk
          have hb := hrel.sim.blk k _ hψ
          simp only [hbk] at hb
          obtain ⟨arr, e, h1, h2⟩ := hb
          have hcells := RepVa.cells hx hlay
          obtain ⟨q1, q2, _⟩ := setAt_spec _ _ _ _ hr
          have hl2 := h2.length
          have hl3 := hcells.length
          obtain ⟨w', arr', g1, g2, g3, g4, g5, g6, g7, g8, g9⟩ := run_storeCells (P := P) (off := off) (a.eval x).cells.toList 0 w arr h1 (by
            rcases q2 with q2 | q2
            · left; rw [q2] at hl3; simpa using hl3.symm
            · right; simp at hl2 hl3 ⊢; omega) (all2_scalar hcells)
          obtain ⟨r1, r2⟩ := hrel.write (w' := w') (blk := .cells r) hψ (by simp only [hbk]; trivial) g5 g6 g7 g8 g9 (fun hl => ⟨arr', e, g2,
            all2_upd (h2.mono fun _ _ h => h.later (PsiSub.refl _) hl) (hcells.mono fun _ _ h => h.later (PsiSub.refl _) hl) hr (by simpa using g3) (fun j => by simpa using g4 j)⟩)
          refine OpOk.skip (w' := w') ?_ r1 hk r2
          simp only [execOp, hop, Instr.storeAt, hpv, Instr.sureAddr, storeVar, Sem.run_bind, Sem.run_pure, Result.andThen_ok, run_size hτ ht]
          rw [if_neg (by simp at hl3; simp only [ne_eq, Decidable.not_not]; omega)]
          rw [g1]; rfl
        · exact hk.elim
      · exact hk.elim
    · rename_i y k z i off ts h n m ey ep
      rw [ey] at hx; rw [ep] at hp
      obtain ⟨b, mm, hψ, hpv⟩ := hp
      split at hk
      · rename_i z' len f hlay hbk hsz
        have hsz := Nat.eq_of_beq_eq_true hsz
        have hcells := RepVa.cells hx hlay
        obtain ⟨ds, hclosed, e1, e2, hk⟩ := closeCells_rep hrel.sim hk hcells
        have hk := hk e1 e2
        subst e1
        split at hk
        · rename_i r hr
          rw [fDs_eq] at hk
          have hb := hrel.sim.blk k _ hψ
          simp only [hbk] at hb
          obtain ⟨arr, e, h1, h2, h3, h4, h5⟩ := hb
          obtain ⟨q1, q2, _⟩ := setAt_spec _ _ _ _ hr
          have hl3 := hclosed.length
          have hrow := row_ys (S := S) (w := w) e2 (h2 ▸ h3) h4 h5
          have hfi := h4 i e2
          have hbnd : i * z' + z' ≤ len * z' := by
            have := Nat.mul_le_mul_right z' (Nat.succ_le_of_lt e2); rw [Nat.succ_mul] at this; exact this
          obtain ⟨w', arr', g1, g2, g3, g4, g5, g6, g7, g8, g9⟩ := run_storeCells (P := P) (off := i * z' + off) (a.eval x).cells.toList 0 w arr h1 (by
            rcases q2 with q2 | q2
            · left; rw [q2] at hl3; simpa using hl3.symm
            · right; simp at hl3 ⊢; omega) (all2_scalar hcells)
          have hds2 : ds = [] ∨ off + ds.length ≤ z' := by
            rcases q2 with q2 | q2
            · exact .inl q2
            · exact .inr (by omega)
          obtain ⟨r1, r2⟩ := hrel.write (w' := w') (blk := .row z' len (setRow f i r)) hψ (by simp only [hbk]; trivial) g5 g6 g7 g8 g9 (fun hl => ⟨arr', e, g2, by omega, by omega,
            fun i' hi' => by
              simp only [setRow]
              cases hbe : Nat.beq i' i with
              | true => simp [q1, hfi]
              | false => exact h4 i' hi',
            fun i' j hi' hj => by
              simp only [setRow]
              have hbi' : i' * z' + z' ≤ len * z' := by
                have := Nat.mul_le_mul_right z' (Nat.succ_le_of_lt hi'); rw [Nat.succ_mul] at this; exact this
              cases hbe : Nat.beq i' i with
              | true =>
                have := Nat.eq_of_beq_eq_true hbe
                subst this
                have hrow' : All2 (RepD S w') r ((arr'.toList.drop (i' * z')).take z') := by
                  refine all2_upd (hrow.mono fun _ _ h => h.later hl) (hclosed.mono fun _ _ h => h.later hl) hr ?_ ?_
                  · simp; omega
                  · intro j'
                    simp only [List.getElem?_take, List.getElem?_drop, Array.getElem?_toList, g4]
                    by_cases hj' : j' < z'
                    · simp only [hj', if_true]
                      by_cases hin : off ≤ j' ∧ j' < off + (a.eval x).cells.toList.length
                      · rw [if_pos hin, if_pos (by omega)]; congr 1; omega
                      · rw [if_neg hin, if_neg (by omega)]
                    · simp only [hj', if_false]
                      rw [if_neg]
                      intro hin
                      rcases hds2 with hds2 | hds2
                      · rw [hds2] at hl3; simp only [List.length_nil] at hl3; omega
                      · omega
                have hrl : r.length = z' := by rw [q1, hfi]
                obtain ⟨y, y1, y2⟩ := hrow'.get j (r[j]'(by omega)) (by simp)
                have e3 : r.getD j (.v (.bool false)) = r[j]'(by omega) := by simp [List.getD, List.getElem?_eq_getElem (show j < r.length by omega)]
                have e4 : arr'.getD (i' * z' + j) undef = y := by
                  have := get_drop_take y1
                  rw [Array.getD_eq_getD_getElem?, ← Array.getElem?_toList, this]; rfl
                rw [e3, e4]; exact y2
              | false =>
                have hne := Nat.ne_of_beq_eq_false hbe
                have hout : arr'.getD (i' * z' + j) undef = arr.getD (i' * z' + j) undef := by
                  rw [Array.getD_eq_getD_getElem?, Array.getD_eq_getD_getElem?, g4, if_neg]
                  intro hin
                  rcases hds2 with hds2 | hds2
                  · rw [hds2] at hl3; simp only [List.length_nil] at hl3; omega
                  · rcases Nat.lt_or_gt_of_ne hne with hlt | hgt
                    · have := Nat.mul_le_mul_right z' (Nat.succ_le_of_lt hlt); rw [Nat.succ_mul] at this; omega
                    · have := Nat.mul_le_mul_right z' (Nat.succ_le_of_lt hgt); rw [Nat.succ_mul] at this; omega
                simp only
                rw [hout]; exact (h5 i' j hi' hj).later hl⟩)
          refine OpOk.skip (w' := w') ?_ r1 hk r2
          simp only [execOp, hop, Instr.storeAt, hpv, Instr.sureAddr, storeVar, Sem.run_bind, Sem.run_pure, Result.andThen_ok, run_size hτ ht]
          have hl4 := hcells.length
          rw [if_neg (by simp at hl4; simp only [ne_eq, Decidable.not_not]; omega)]
          rw [g1]; rfl
        · exact hk.elim
      · exact hk.elim
    · exact hk.elim
  · exact hk.elim

theorem fieldPlace_run (hτ : TysOk P τ) {f : Field} {i : TI} (ht : τ f.type = some i) (hs : i.size ≠ 0) (b off : Nat) :
    (fieldPlace ⟨b, off, none⟩ f).run P w = .ok ⟨b, off + f.offset, none⟩ w := by
  simp only [fieldPlace, Sem.run_bind, run_size hτ ht, Result.andThen_ok, if_neg hs, Sem.run_pure, addr_add]

theorem oFieldAddr_ok (hτ : TysOk P τ) (hrel : Rel P base ψ S w st a) {s : TypeId} {x : Operand} {f : Nat} (hop : o.op = .fieldAddr s x f) (hk : oFieldAddr τ s (ev st x) f fun y => putK st o.dst y K) :
    OpOk P base ψ S w a o K := by
  have hx := ev_rep hrel x
  unfold oFieldAddr at hk
  split at hk
  · rename_i fs sz bt z ht
    split at hk
    · rename_i nm ty off' em tg pk bo hf
      split at hk
      · rename_i d2 s2 b2 z2 ht2
        have run : ∀ b off, a.eval x = .pointer (some ⟨b, off, none⟩) → (execOp a.eval o).run P w = .ok (.value (.pointer (some ⟨b, off + off', none⟩))) w := by
          intro b off hv
          have hund := run_und hτ ht w
          simp only at hund
          simp only [execOp, hop, Instr.fieldAt, Sem.run_bind, hund, Result.andThen_ok, hf, hv, Instr.sureAddr, Sem.run_pure]
          rw [fieldPlace_run hτ (f := ⟨nm, ty, off', em, tg, pk, bo⟩) ht2 (by simp)]
          rfl
        split at hk
        · rename_i k off e
          rw [e] at hx
          obtain ⟨b, m, h1, h2⟩ := hx
          exact OpOk.value (run b off h2) hrel (x := .va (.c (.own k (off + off')))) ⟨b, m, h1, rfl⟩ hk (Ext.refl _ _ _ _)
        · rename_i k zz i off e
          rw [e] at hx
          obtain ⟨b, m, h1, h2⟩ := hx
          exact OpOk.value (run b _ h2) hrel (x := .va (.c (.ep k zz i (off + off')))) ⟨b, m, h1, by rw [Nat.add_assoc]⟩ hk (Ext.refl _ _ _ _)
        · rename_i cs e
          rw [e] at hx
          obtain ⟨b, off, ys, h1, h2, h3, h4⟩ := hx
          rw [fDs_eq] at hk
          exact OpOk.value (run b _ h1) hrel (x := .va (.c (.rp (cs.drop off')))) ⟨b, off + off', ys.drop off', rfl, h2, h3.drop off', fun j y hj => by
            rw [List.getElem?_drop] at hj
            rw [Nat.add_assoc]; exact h4 _ _ hj⟩ hk (Ext.refl _ _ _ _)
        · exact hk.elim
      · exact hk.elim
    · exact hk.elim
  · exact hk.elim

end
end Go.Sx

namespace Go.Sx

def szOf (τ : Tys) (t : TypeId) : Nat := match τ t with
  | some i => i.size
  | none => 0

section
variable {P : Program} {τ : Tys} {base : Nat} {ψ ψ' : Psi} {S S' : Nat → Prop} {w w' : World} {st st1 : St} {a : Act} {o : Oper} {K : St → Prop}

theorem run_listMapM {α β : Type} {f : α → Sem β} {g : α → β} : ∀ (l : List α), (∀ x ∈ l, (f x).run P w = .ok (g x) w) → (l.mapM f).run P w = .ok (l.map g) w
  | [], _ => rfl
  | x :: xs, h => by
    simp only [List.mapM_cons, Sem.run_bind, h x (by simp), Result.andThen_ok, run_listMapM xs (fun y hy => h y (by simp [hy])), Sem.run_pure, List.map_cons]

theorem run_arrMapM {α β : Type} {f : α → Sem β} {g : α → β} (l : Array α) (h : ∀ x ∈ l.toList, (f x).run P w = .ok (g x) w) : (l.mapM f).run P w = .ok (l.map g) w := by
  rw [Array.mapM_eq_mapM_toList]
  simp only [Sem.run_map, run_listMapM (w := w) l.toList h, Result.andThen_ok]
  congr 1
  apply Array.ext'
  simp

theorem fill_step (off : Nat) : ∀ (vs : List Value) (k : Nat) (arr : Array Value), ∀ j : Nat,
    (((vs.zipIdx k).foldl (fun cs (cj : Value × Nat) => cs.setIfInBounds (off + cj.2) cj.1) arr)[j]? : Option Value) = if off + k ≤ j ∧ j < off + k + vs.length ∧ j < arr.size then vs[j - (off + k)]? else arr[j]?
  | [], k, arr, j => by simp only [List.zipIdx_nil, List.foldl_nil]; rw [if_neg (by simp only [List.length_nil]; omega)]
  | v :: vs, k, arr, j => by
    simp only [List.zipIdx_cons, List.foldl_cons]
    rw [fill_step off vs (k + 1) _ j]
    simp only [Array.size_setIfInBounds, Array.getElem?_setIfInBounds, List.length_cons]
    by_cases h1 : off + (k + 1) ≤ j ∧ j < off + (k + 1) + vs.length ∧ j < arr.size
    · rw [if_pos h1, if_pos (by omega)]
      obtain ⟨q, rfl⟩ : ∃ q, j = off + k + (q + 1) := ⟨j - (off + k) - 1, by omega⟩
      rw [show off + k + (q + 1) - (off + (k + 1)) = q by omega, show off + k + (q + 1) - (off + k) = q + 1 by omega]; simp
    · rw [if_neg h1]
      by_cases h2 : off + k = j
      · subst h2
        by_cases h3 : off + k < arr.size
        · simp [h3]
        · simp [h3]
      · rw [if_neg h2, if_neg (by omega)]

theorem fill_size (off : Nat) : ∀ (vs : List Value) (k : Nat) (arr : Array Value),
    ((vs.zipIdx k).foldl (fun cs (cj : Value × Nat) => cs.setIfInBounds (off + cj.2) cj.1) arr).size = arr.size
  | [], _, _ => rfl
  | v :: vs, k, arr => by simp only [List.zipIdx_cons, List.foldl_cons]; rw [fill_size off vs]; simp

theorem fill_ok (hrel : Rel P base ψ S w st a) {fs : Array Field} : ∀ (parts : List (Nat × Operand)) (cs : List Cell) (arr : Array Value) (r : List Cell),
    All2 (RepM P ψ S w) cs arr.toList → fillCells τ fs (ev st) parts cs = some r →
    ∃ arr', Instr.fill (fun i => (fs.map fun f => (f.offset, szOf τ f.type))[i]?) arr (parts.map fun p => (p.1, a.eval p.2)) = some arr' ∧ All2 (RepM P ψ S w) r arr'.toList
  | [], cs, arr, r, h, hf => by simp [fillCells] at hf; subst hf; exact ⟨arr, rfl, h⟩
  | (i, x) :: ps, cs, arr, r, h, hf => by
    simp only [fillCells] at hf
    split at hf
    · rename_i nm ty off em tg pk bo hfi
      split at hf
      · rename_i d sz b z y ht hy
        split at hf
        · rename_i cs' hlay hsz hle hset
          have hsz := Nat.eq_of_beq_eq_true hsz
          have hle := Nat.le_of_ble_eq_true hle
          have hx := ev_rep hrel x
          rw [hy] at hx
          have hcells := RepVa.cells hx hlay
          have hlc := hcells.length
          have hl := h.length
          simp at hlc hl
          have h' : All2 (RepM P ψ S w) cs' (((a.eval x).cells.zipIdx.foldl (fun cs (cj : Value × Nat) => cs.setIfInBounds (off + cj.2) cj.1) arr)).toList := by
            rw [← Array.foldl_toList, Array.toList_zipIdx]
            refine all2_upd h hcells hset ?_ ?_
            · simp [fill_size]
            · intro j
              rw [Array.getElem?_toList, fill_step]
              simp only [Array.getElem?_toList, Nat.add_zero, Array.length_toList]
              by_cases hj : off ≤ j ∧ j < off + (a.eval x).cells.size
              · rw [if_pos hj, if_pos (by omega)]
              · rw [if_neg hj, if_neg (by omega)]
          obtain ⟨arr', g1, g2⟩ := fill_ok hrel ps cs' _ r h' hf
          have hpl : (fs.map fun f => (f.offset, szOf τ f.type))[i]? = some (off, sz) := by simp [hfi, szOf, ht]
          refine ⟨arr', ?_, g2⟩
          simp only [List.map_cons, Instr.fill]
          rw [hpl]
          simp only
          rw [if_neg (by simp only [Bool.or_eq_true, decide_eq_true_eq, ne_eq]; omega)]
          exact g1
        · simp at hf
      · simp at hf
    · simp at hf

theorem oPure_ok {s : Sem Value} (hrel : Rel P base ψ S w st a) (hrun : ∀ v, s.run P w = .ok v w → (execOp a.eval o).run P w = .ok (.value v) w)
    (hk : oPure (pureRun P s) fun y => putK st o.dst y K) : OpOk P base ψ S w a o K := by
  unfold oPure at hk
  split at hk <;> first
    | exact hk.elim
    | (rename_i hs; refine OpOk.value (hrun _ (pureRun_ok hs w)) hrel ?_ hk (Ext.refl _ _ _ _); exact RepD.v trivial)

theorem plainVa_rep {x : Va} {v u : Value} (h : RepVa P ψ S w x v) (hp : plainVa x = some u) : v = u := by
  unfold plainVa at hp
  split at hp
  · simp at hp; subst hp; cases h; rfl
  · simp at hp; subst hp; exact h
  · simp at hp

theorem plain_rep {x : Tm} {v u : Value} (h : RepT P ψ S w x v) (hp : plain x = some u) : v = u := by
  cases x with
  | va x => exact plainVa_rep h hp
  | tup _ => simp [plain] at hp

theorem oUn_ok (hrel : Rel P base ψ S w st a) {op : UnOp} {t : TypeId} {x : Operand} {u : Value} (hop : o.op = .unOp op t x) (hp : plain (ev st x) = some u)
    (hk : oPure (pureRun P (Op.unary op u)) fun y => putK st o.dst y K) : OpOk P base ψ S w a o K := by
  have hx := plain_rep (ev_rep hrel x) hp
  exact oPure_ok hrel (fun v hv => by simp only [execOp, hop, hx, Sem.run_bind, hv, Result.andThen_ok, Sem.run_pure]) hk

theorem oConvert_ok (hrel : Rel P base ψ S w st a) {s t : TypeId} {x : Operand} {u : Value} (hop : o.op = .convert s t x) (hp : plain (ev st x) = some u)
    (hk : oPure (pureRun P (convert s t u)) fun y => putK st o.dst y K) : OpOk P base ψ S w a o K := by
  have hx := plain_rep (ev_rep hrel x) hp
  exact oPure_ok hrel (fun v hv => by simp only [execOp, hop, hx, Sem.run_bind, hv, Result.andThen_ok, Sem.run_pure]) hk

theorem oBin_ok (hrel : Rel P base ψ S w st a) {op : BinOp} {t ty : TypeId} {x y : Operand} (hop : o.op = .binOp op t x y ty)
    (hk : oBin P (ev st) op t x y fun y => putK st o.dst y K) : OpOk P base ψ S w a o K := by
  have hx := ev_rep hrel x
  have hy := ev_rep hrel y
  have gen : ∀ u v, a.eval x = u → a.eval y = v → (oPure (pureRun P (do eqGuard op t x y u v; binOp op t u v)) fun y => putK st o.dst y K) → OpOk P base ψ S w a o K := by
    intro u v hu hv hk
    refine oPure_ok hrel (fun r hr => ?_) hk
    simp only [execOp, hop, hu, hv, Sem.run_bind] at hr ⊢
    rw [hr]; rfl
  unfold oBin at hk
  split at hk
  · rename_i k n k' n' h1 h2
    have e1 := plain_rep hx h1
    have e2 := plain_rep hy h2
    split at hk
    · obtain ⟨e, hne, hk0⟩ := hk
      have hk2 := hk0 e hne
      clear hk0
      subst e
      refine OpOk.value (x := vx _) (v := .int k (k.wrap (n.tdiv n'))) ?_ hrel ?_ hk2 (Ext.refl _ _ _ _)
      rotate_left
      · exact RepD.v trivial
      simp [execOp, hop, e1, e2, eqGuard, binOp, Op.intDiv, hne]
    · obtain ⟨e, hne, hk0⟩ := hk
      have hk2 := hk0 e hne
      clear hk0
      subst e
      refine OpOk.value (x := vx _) (v := .int k (n.tmod n')) ?_ hrel ?_ hk2 (Ext.refl _ _ _ _)
      rotate_left
      · exact RepD.v trivial
      simp [execOp, hop, e1, e2, eqGuard, binOp, Op.intDiv, hne]
    · exact gen _ _ e1 e2 hk
  · rename_i s s' h1 h2
    have e1 := plain_rep hx h1
    have e2 := plain_rep hy h2
    split at hk
    · obtain ⟨hle, hk⟩ := hk
      refine OpOk.value (x := vx _) (v := .string (s ++ s')) ?_ hrel ?_ hk (Ext.refl _ _ _ _)
      rotate_left
      · exact RepD.v trivial
      have hle' : ¬ ((s.size + s'.size : Nat) : Int) > IntKind.i64.max := by omega
      have hrun : (Op.stringOp .add s s').run P w = .ok (.string (s ++ s')) w := by
        simp only [Op.stringOp]; rw [if_neg hle']; rfl
      have heq : (eqGuard .add t x y (.string s) (.string s')).run P w = .ok () w := rfl
      simp only [execOp, hop, e1, e2, binOp, Sem.run_bind, heq, Result.andThen_ok, hrun]
      rfl
    · exact gen _ _ e1 e2 hk
  · rename_i u v _ _ h1 h2
    exact gen _ _ (plain_rep hx h1) (plain_rep hy h2) hk
  · exact hk.elim

theorem oField_ok (hτ : TysOk P τ) (hrel : Rel P base ψ S w st a) {t : TypeId} {x : Operand} {f : Nat} (hop : o.op = .field t x f) (hk : oField τ t (ev st x) f fun y => putK st o.dst y K) :
    OpOk P base ψ S w a o K := by
  have hx := ev_rep hrel x
  unfold oField at hk
  split at hk
  · rename_i fs sz bt z cs ht e
    rw [e] at hx
    obtain ⟨arr, hv, hx⟩ := hx
    split at hk
    · rename_i nm ty off em tg pk bo hf
      split at hk
      · rename_i d2 s2 b2 z2 ht2
        split at hk
        · rename_i r hr
          obtain ⟨h1, h2⟩ := takeN_all2 hx hr
          have hund := run_und hτ ht w
          simp only at hund
          have hag := run_agg hτ ht2 w
          have hsz := run_size hτ ht2 w
          simp only at hag hsz
          split at hk
          · rename_i y hy
            cases hw : wantAgg d2 with
            | true =>
              rw [hw] at hy hag
              simp only [mkVa, Option.some.injEq] at hy
              subst hy
              refine OpOk.value (x := .va (.agg r)) (v := .agg (arr.extract off (off + s2))) ?_ hrel ⟨_, rfl, ?_⟩ hk (Ext.refl _ _ _ _)
              · simp only [execOp, hop, hv, Instr.field, Sem.run_bind, hund, Result.andThen_ok, hf, asAgg, Sem.run_pure, part, hag, if_true, hsz]
              · have : (arr.extract off (off + s2)).toList = (arr.toList.drop off).take s2 := by
                  rw [Array.toList_extract, List.extract_eq_take_drop]; congr 1; omega
                rw [this]; exact h1
            | false =>
              rw [hw] at hy hag
              cases r with
              | nil => simp [mkVa] at hy
              | cons c r =>
                cases r with
                | cons _ _ => simp [mkVa] at hy
                | nil =>
                  simp only [mkVa, Option.some.injEq] at hy
                  subst hy
                  cases hys : (arr.toList.drop off).take s2 with
                  | nil => rw [hys] at h1; exact h1.elim
                  | cons y1 ys =>
                    rw [hys] at h1
                    have hg : arr[off]? = some y1 := by
                      have : ((arr.toList.drop off).take s2)[0]? = some y1 := by rw [hys]; rfl
                      have := get_drop_take this
                      simpa using this
                    refine OpOk.value (x := .va (.c c)) (v := y1) ?_ hrel h1.1.1 hk (Ext.refl _ _ _ _)
                    simp only [execOp, hop, hv, Instr.field, Sem.run_bind, hund, Result.andThen_ok, hf, asAgg, Sem.run_pure, part, hag, Bool.false_eq_true, if_false, hg]
          · exact hk.elim
        · exact hk.elim
      · exact hk.elim
    · exact hk.elim
  · exact hk.elim

theorem oExtract_ok (hrel : Rel P base ψ S w st a) {t : Operand} {i : Nat} {xs : List Va} {y : Va} (hop : o.op = .extract t i) (ht : ev st t = .tup xs) (hy : xs[i]? = some y)
    (hk : putK st o.dst (.va y) K) : OpOk P base ψ S w a o K := by
  have hx := ev_rep hrel t
  rw [ht] at hx
  obtain ⟨arr, hv, hx⟩ := hx
  obtain ⟨v, h1, h2⟩ := hx.get i y hy
  refine OpOk.value (x := .va y) (v := v) ?_ hrel h2 hk (Ext.refl _ _ _ _)
  simp only [Array.getElem?_toList] at h1
  simp only [execOp, hop, hv, Instr.extract, h1, Sem.run_bind, Sem.run_pure, Result.andThen_ok]

theorem oIndexAddr_ok (hτ : TysOk P τ) (hrel : Rel P base ψ S w st a) {t : TypeId} {x ix : Operand} (hop : o.op = .indexAddr t x ix) (hk : oIndexAddr τ t (ev st x) (ev st ix) fun y => putK st o.dst y K) :
    OpOk P base ψ S w a o K := by
  have hx := ev_rep hrel x
  have hi := ev_rep hrel ix
  unfold oIndexAddr at hk
  split at hk
  · rename_i e sz0 bt z ht
    have hund := run_und hτ ht w
    simp only at hund
    split at hk
    · rename_i d2 sz b2 z2 ht2
      have hsz := run_size hτ ht2 w
      simp only at hsz
      have run : ∀ b off n c k (i : Int), a.eval x = .slice (some ⟨b, off, none⟩) n c → a.eval ix = .int k i → 0 ≤ i → i < n →
          (execOp a.eval o).run P w = .ok (.value (.pointer (some ⟨b, off + i.toNat * sz, none⟩))) w := by
        intro b off n c k i h1 h2 h3 h4
        simp only [execOp, hop, h1, h2, Instr.indexAt, asIntOf, Sem.run_bind, Sem.run_pure, hund, Result.andThen_ok, if_pos (And.intro h3 h4), hsz, addr_add]
      split at hk
      · rename_i zz n f k i e1 e2
        have hi := plain_rep hi e2
        rw [e1] at hx
        obtain ⟨rfl, ⟨h1, h2⟩, hk⟩ := hk
        have hk := hk h1 h2
        generalize hv : a.eval x = vv at hx
        cases hx with
        | nil => omega
        | @lst _ _ _ b off c g hS hl hc hd hn =>
          refine OpOk.value (run b off n c k i hv hi h1 h2) hrel (x := .va (.c (.rp (f i.toNat)))) ⟨b, off + i.toNat * zz, (List.range zz).map (g i.toNat), rfl, hS, ?_, ?_⟩ hk (Ext.refl _ _ _ _)
          · have hit : i.toNat < n := by omega
            refine All2.of_get (by simp [hl _ hit]) fun j xx y hxx hy => ?_
            have hj : j < zz := by have := (List.getElem?_eq_some_iff.1 hxx).1; rwa [hl _ hit] at this
            have := hd i.toNat j hit hj
            simp [hj] at hy
            simpa [List.getD, hxx, hy] using this
          · intro j y hy
            have hj : j < zz := by have := (List.getElem?_eq_some_iff.1 hy).1; simpa using this
            simp [hj] at hy
            rw [← hy]; exact hc i.toNat j (by omega) hj
      · rename_i kk zz o' n k i e1 e2
        have hi := plain_rep hi e2
        rw [e1] at hx
        obtain ⟨rfl, ⟨h1, h2⟩, hk⟩ := hk
        have hk := hk h1 h2
        rcases hx with ⟨_, hn, _⟩ | ⟨b, m, c, off, g1, g2, g3, g4⟩
        · omega
        · obtain ⟨rfl, g5⟩ := g4 (by omega)
          refine OpOk.value (run b _ n c k i g2 hi h1 h2) hrel (x := .va (.c (.ep kk zz (o' + i.toNat) 0))) ⟨b, m, g1, by rw [Nat.add_mul]; rfl⟩ hk (Ext.refl _ _ _ _)
      · exact hk.elim
    · exact hk.elim
  · exact hk.elim

theorem plains_cells : ∀ {cs : List Cell} {vs us : List Value}, mapO plainCell cs = some us → All2 (RepM P ψ S w) cs vs → vs = us
  | [], [], us, h, _ => by simp only [mapO, Option.some.injEq] at h; exact h
  | c :: cs, v :: vs, us, h, ⟨h1, h2⟩ => by
    simp only [mapO] at h
    split at h
    · rename_i y ys e1 e2
      simp at h; subst h
      rw [plains_cells e2 h2]
      congr 1
      have h1 := h1.1
      unfold plainCell at e1
      split at e1
      · simp at e1; subst e1; cases h1; rfl
      · simp at e1; subst e1; exact h1
      · simp at e1
    · simp at h

/-- the value of a type that has these cells -/
def valAs (d : TypeDesc) (xs : List Value) : Value := match wantAgg d with
  | true => .agg xs.toArray
  | false => xs.headD undef

theorem part_run (hτ : TysOk P τ) {t : TypeId} {i : TI} (ht : τ t = some i) {xs xs' : List Value} {off : Nat} (h : takeN (xs.drop off) i.size = some xs') (h1 : wantAgg i.desc = true ∨ xs' ≠ []) :
    (part t xs.toArray off).run P w = .ok (valAs i.desc xs') w := by
  obtain ⟨g1, g2⟩ := takeN_spec h
  simp only [part, Sem.run_bind, run_agg hτ ht, Result.andThen_ok]
  cases hw : wantAgg i.desc with
  | true =>
    simp only [if_true, Sem.run_bind, run_size hτ ht, Result.andThen_ok, Sem.run_pure, valAs, hw]
    congr 2
    apply Array.ext'
    rw [g1, Array.toList_extract, List.extract_eq_take_drop]
    simp only [Nat.add_sub_cancel_left]
  | false =>
    simp only [Bool.false_eq_true, if_false, valAs, hw]
    cases xs' with
    | nil => rcases h1 with h1 | h1
             · rw [hw] at h1; cases h1
             · exact absurd rfl h1
    | cons x xs' =>
      have : ((xs.drop off).take i.size)[0]? = some x := by rw [← g1]; rfl
      have := get_drop_take this
      simp only [Nat.add_zero] at this
      simp [this]

theorem eqAt_ok (hτ : TysOk P τ) : ∀ (n d : Nat) (t : TypeId) (xs ys : List Value) (b : Bool) (i : TI), n ≤ d → τ t = some i → eqAt τ n t xs ys = some b →
    (Op.equalIn d t (valAs i.desc xs) (valAs i.desc ys)).run P w = .ok b w ∧ (wantAgg i.desc = true ∨ xs ≠ [])
  | 0, _, _, _, _, _, _, _, _, h => by simp [eqAt] at h
  | n + 1, 0, _, _, _, _, _, hn, _, _ => by omega
  | n + 1, d + 1, t, xs, ys, b, i, hn, ht, h => by
    obtain ⟨info, _, hund, _⟩ := hτ.ok t i ht
    simp only [eqAt, ht] at h
    split at h
    · rename_i i0 fs sz nb z e
      simp only [Option.some.injEq] at e
      subst e
      obtain ⟨c1, c2, c3⟩ := hτ.cmp t _ ht rfl
      refine ⟨?_, .inl rfl⟩
      have hund : P.underlying t = some (.struct fs) := hund
      have hfo : P.fieldsOf t = fs := by simp [Program.fieldsOf, hund]
      have hval : ∀ l, valAs (.struct fs) l = .agg l.toArray := fun _ => rfl
      simp only [hval]
      rw [run_equalIn_struct w d t _ _ (by rw [hfo]; exact hund) c1, hfo]
      have c3 := c3 fs rfl
      clear hund hfo
      generalize fs.toList = l at c3 h
      induction l generalizing b with
      | nil => simp at h; subst h; rfl
      | cons f l ih =>
        simp only [List.foldr_cons] at h
        split at h
        · rename_i b' ty sz' by' z' hb' hty
          split at h
          · rename_i xs' ys' hx hy
            split at h
            · rename_i c hc
              simp at h; subst h
              obtain ⟨g1, g2⟩ := eqAt_ok hτ n d f.type xs' ys' c _ (by omega) hty hc
              have hlen : xs'.length = ys'.length := by rw [(takeN_spec hx).2, (takeN_spec hy).2]
              have g2' : wantAgg ty = true ∨ ys' ≠ [] := by
                rcases g2 with g2 | g2
                · exact .inl g2
                · right; intro e; rw [e] at hlen; simp at hlen; exact g2 hlen
              simp only [Op.eqFields, if_pos (c3 f (by simp)), Sem.run_bind, part_run hτ hty hx g2, part_run hτ hty hy g2', Result.andThen_ok, g1]
              cases c with
              | false => simp
              | true =>
                simp only [Bool.not_true, Bool.false_eq_true, if_false, Bool.true_and]
                exact ih b' (fun f hf => c3 f (by simp [hf])) hb'
            · simp at h
          · simp at h
        · simp at h
    · rename_i i0 k sz bt z e
      simp only [Option.some.injEq] at e
      subst e
      have hund : P.underlying t = some (.int k) := hund
      split at h
      · rename_i k1 x k2 y
        split at h
        · rename_i hk
          have hk : k1 = k2 := of_decide_eq_true hk
          subst hk
          simp at h; subst h
          exact ⟨run_equalIn_int w d t k1 k x y hund, .inr (by simp)⟩
        · simp at h
      · simp at h
    · rename_i i0 sz bt z e
      simp only [Option.some.injEq] at e
      subst e
      have hund : P.underlying t = some .bool := hund
      split at h
      · simp at h; subst h
        exact ⟨run_equalIn_bool w d t _ _ hund, .inr (by simp)⟩
      · simp at h
    · rename_i i0 sz bt z e
      simp only [Option.some.injEq] at e
      subst e
      have hund : P.underlying t = some .string := hund
      split at h
      · simp at h; subst h
        exact ⟨run_equalIn_string w d t _ _ hund, .inr (by simp)⟩
      · simp at h
    · simp at h

theorem oEq_ok (hτ : TysOk P τ) (hrel : Rel P base ψ S w st a) {op : BinOp} {t ty : TypeId} {x y : Operand} {xs ys : List Cell} (hop : o.op = .binOp op t x y ty)
    (hx : ev st x = .va (.agg xs)) (hy : ev st y = .va (.agg ys)) (hk : oEq τ op t xs ys fun y => putK st o.dst y K) : OpOk P base ψ S w a o K := by
  have rx := ev_rep hrel x
  have ry := ev_rep hrel y
  rw [hx] at rx; rw [hy] at ry
  obtain ⟨ax, vx', rx⟩ := rx
  obtain ⟨ay, vy', ry⟩ := ry
  unfold oEq at hk
  split at hk
  · rename_i fs sz nb z us vs ht hu hv
    have e1 := plains_cells hu rx
    have e2 := plains_cells hv ry
    have eax : ax = us.toArray := by apply Array.ext'; simpa using e1
    have eay : ay = vs.toArray := by apply Array.ext'; simpa using e2
    subst eax; subst eay
    obtain ⟨_, c2, _⟩ := hτ.cmp t _ ht rfl
    have hgd : ∀ op, (eqGuard op t x y (.agg us.toArray) (.agg vs.toArray)).run P w = .ok () w := by
      intro op
      unfold eqGuard
      cases op <;> first | rfl | simp [c2]
    cases heq : eqAt τ 50 t us vs with
    | none => simp [heq] at hk
    | some b =>
      rw [heq] at hk
      obtain ⟨hrun, _⟩ := eqAt_ok (w := w) hτ 50 10000 t us vs b _ (by omega) ht heq
      have hrun : (Op.equal t (.agg us.toArray) (.agg vs.toArray)).run P w = .ok b w := hrun
      split at hk
      · rename_i b' hb; simp at hb; subst hb
        refine OpOk.value (x := vx (.bool b)) (v := .bool b) ?_ hrel (RepD.v trivial) hk (Ext.refl _ _ _ _)
        simp only [execOp, hop, vx', vy', Sem.run_bind, hgd, Result.andThen_ok, binOp, hrun]
        rfl
      · rename_i b' hb; simp at hb; subst hb
        refine OpOk.value (x := vx (.bool (!b))) (v := .bool (!b)) ?_ hrel (RepD.v trivial) hk (Ext.refl _ _ _ _)
        simp only [execOp, hop, vx', vy', Sem.run_bind, hgd, Result.andThen_ok, binOp, hrun]
        rfl
      · exact hk.elim
  · exact hk.elim

end
end Go.Sx

namespace Go.Sx

section
variable {P : Program} {τ : Tys} {base : Nat} {ψ ψ' : Psi} {S S' : Nat → Prop} {w w' : World} {st st1 : St} {a : Act} {o : Oper} {K : St → Prop}

theorem oBuild_ok (hτ : TysOk P τ) (hz : ∀ t i, τ t = some i → zeroOk i.zero) (hrel : Rel P base ψ S w st a) {t : TypeId} {parts : Array (Nat × Operand)} (hop : o.op = .build t parts)
    (hk : oBuild τ (ev st) t parts.toList fun y => putK st o.dst y K) : OpOk P base ψ S w a o K := by
  unfold oBuild at hk
  split at hk
  · rename_i fs sz bt z ht
    split at hk
    · rename_i cs hall hfill
      have hund := run_und hτ ht w
      have hzero := run_zeroV hτ ht w
      simp only at hund hzero
      obtain ⟨arr', h1, h2⟩ := fill_ok (P := P) hrel parts.toList _ z.cells _ (zero_cells (hz _ _ ht)) hfill
      refine OpOk.value (x := .va (.agg cs)) (v := .agg arr') ?_ hrel ⟨arr', rfl, h2⟩ hk (Ext.refl _ _ _ _)
      have hplaces : (fs.mapM (fun f => do pure (f.offset, ← sizeOf f.type)) : Sem (Array (Nat × Nat))).run P w = .ok (fs.map fun f => (f.offset, szOf τ f.type)) w := by
        refine run_arrMapM fs fun f hf => ?_
        have := (List.all_eq_true.1 hall) f hf
        cases hft : τ f.type with
        | none => simp [hft] at this
        | some i => simp [run_size hτ hft, szOf, hft]
      simp only [execOp, hop, Instr.build, Sem.run_bind, hund, hzero, Result.andThen_ok, hplaces]
      have : (Array.map (fun p => (p.1, a.eval p.2)) parts).toList = parts.toList.map fun p => (p.1, a.eval p.2) := by simp
      rw [this, h1]
      rfl
    · exact hk.elim
  · exact hk.elim

theorem args_rep (hrel : Rel P base ψ S w st a) {xs : List Operand} {as : List Va} (h : mapO (fun x => asVa (ev st x)) xs = some as) : All2 (RepVa P ψ S w) as (xs.map a.eval) := by
  have := mapO_some h
  have h2 : All2 (fun x v => RepT P ψ S w (ev st x) v) xs (xs.map a.eval) := by
    clear this h
    induction xs with
    | nil => trivial
    | cons x xs ih => exact ⟨ev_rep hrel x, ih⟩
  refine All2.comp (T := RepVa P ψ S w) (fun x y v h1 h2 => ?_) this h2
  revert h1 h2
  cases hx : ev st x with
  | va y' => simp only [asVa, Option.some.injEq]; intro h1 h2; subst h1; exact h2
  | tup _ => simp [asVa]

theorem plains_rep (hrel : Rel P base ψ S w st a) {xs : List Operand} {as : List Value} (h : mapO (fun x => plain (ev st x)) xs = some as) : xs.map a.eval = as := by
  have := mapO_some h
  clear h
  induction xs generalizing as with
  | nil => cases as with | nil => rfl | cons _ _ => exact this.elim
  | cons x xs ih => cases as with
    | nil => exact this.elim
    | cons y ys => simp only [List.map_cons]; rw [plain_rep (ev_rep hrel x) this.1, ih this.2]

theorem call_builtin {b : Builtin} {args : Array Operand} {ts : Array TypeId} (hop : o.op = .call { callee := .builtin b, args, argTypes := ts }) :
    execOp a.eval o = builtin b ts o.type (args.map fun | .const _ => true | _ => false) (args.map a.eval) := by
  simp only [execOp, hop, resolve]
  rfl

theorem oLen_ok (hτ : TysOk P τ) (hrel : Rel P base ψ S w st a) {args : Array Operand} {ts : Array TypeId} (hop : o.op = .call { callee := .builtin .len, args, argTypes := ts })
    (hk : oLen P τ ts o.type (mapO (fun x => asVa (ev st x)) args.toList) fun y => putK st o.dst y K) : OpOk P base ψ S w a o K := by
  have hex := call_builtin (a := a) hop
  have arg : ∀ va, mapO (fun x => asVa (ev st x)) args.toList = some [va] → ∃ v, args.map a.eval = #[v] ∧ RepVa P ψ S w va v := by
    intro va h
    have := args_rep hrel h
    rw [← Array.toList_map] at this
    generalize args.map a.eval = A at this
    obtain ⟨l⟩ := A
    cases l with
    | nil => exact this.elim
    | cons v l => cases l with
      | nil => exact ⟨v, rfl, this.1⟩
      | cons _ _ => exact this.2.elim
  unfold oLen at hk
  split at hk
  · rename_i t hts
    split at hk
    · rename_i e sz bt z ht
      have hund := run_und hτ ht w
      simp only at hund
      have run : ∀ a0 n c, args.map a.eval = #[.slice a0 n c] → (execOp a.eval o).run P w = .ok (.value (.int .i64 n)) w := by
        intro a0 n c hv
        rw [hex, hv]
        simp only [builtin, Builtin.len_, hts, Sem.run_bind]
        simp [hund, goInt]
      split at hk
      · rename_i zz n f h
        obtain ⟨v, h1, h2⟩ := arg _ h
        cases h2 with
        | nil => exact OpOk.value (run _ _ _ h1) hrel (x := vx _) (RepD.v trivial) hk (Ext.refl _ _ _ _)
        | lst => exact OpOk.value (run _ _ _ h1) hrel (x := vx _) (RepD.v trivial) hk (Ext.refl _ _ _ _)
      · rename_i k1 z1 o1 n h
        obtain ⟨v, h1, h2⟩ := arg _ h
        rcases h2 with ⟨_, rfl, rfl⟩ | ⟨b, m, c, off, _, rfl, _⟩
        · exact OpOk.value (run _ _ _ h1) hrel (x := vx _) (RepD.v trivial) hk (Ext.refl _ _ _ _)
        · exact OpOk.value (run _ _ _ h1) hrel (x := vx _) (RepD.v trivial) hk (Ext.refl _ _ _ _)
      · rename_i n c h
        obtain ⟨v, h1, h2⟩ := arg _ h
        cases h2
        exact OpOk.value (run _ _ _ h1) hrel (x := vx _) (RepD.v trivial) hk (Ext.refl _ _ _ _)
      · exact hk.elim
    · rename_i i ht hne
      split at hk
      · rename_i x h
        obtain ⟨v, h1, h2⟩ := arg _ h
        cases h2
        refine oPure_ok hrel (fun r hr => ?_) hk
        rw [hex, h1]
        simp only [builtin, Sem.run_bind, hr, Result.andThen_ok, Sem.run_pure]
      · exact hk.elim
    · exact hk.elim
  · exact hk.elim

theorem oMin_ok (hrel : Rel P base ψ S w st a) {args : Array Operand} {ts : Array TypeId} {as : List Value} (hop : o.op = .call { callee := .builtin .min, args, argTypes := ts })
    (ha : mapO (fun x => plain (ev st x)) args.toList = some as) (hk : oPure (pureRun P (Builtin.min_ ts o.type as.toArray)) fun y => putK st o.dst y K) : OpOk P base ψ S w a o K := by
  have h1 := plains_rep hrel ha
  have h2 : args.map a.eval = as.toArray := by apply Array.ext'; simpa using h1
  refine oPure_ok hrel (fun r hr => ?_) hk
  rw [call_builtin hop, h2]
  simp only [builtin, Sem.run_bind, hr, Result.andThen_ok, Sem.run_pure]

theorem oMax_ok (hrel : Rel P base ψ S w st a) {args : Array Operand} {ts : Array TypeId} {as : List Value} (hop : o.op = .call { callee := .builtin .max, args, argTypes := ts })
    (ha : mapO (fun x => plain (ev st x)) args.toList = some as) (hk : oPure (pureRun P (Builtin.max_ ts o.type as.toArray)) fun y => putK st o.dst y K) : OpOk P base ψ S w a o K := by
  have h1 := plains_rep hrel ha
  have h2 : args.map a.eval = as.toArray := by apply Array.ext'; simpa using h1
  refine oPure_ok hrel (fun r hr => ?_) hk
  rw [call_builtin hop, h2]
  simp only [builtin, Sem.run_bind, hr, Result.andThen_ok, Sem.run_pure]

/-- what the executor of calls owes -/
def CallsOk (P : Program) (base : Nat) (calls : Nat → List Va → St → (Tm → St → Prop) → Prop) : Prop :=
  ∀ f as st K, calls f as st K → ∀ ψ S w a vals, Rel P base ψ S w st a → All2 (RepVa P ψ S w) as vals →
    Callable P f ∧ Calls P f vals.toArray w fun e w' => ∃ r st' v ψ' S', e = .returned v ∧ K r st' ∧ Rel P base ψ' S' w' st' a ∧ RepT P ψ' S' w' r v ∧ Ext base ψ S w ψ' S' w'

theorem run_enter {f : Nat} (hc : Callable P f) (args : Array Value) : (callFunc f args).run P w = .ok (.enter f args) w := by
  obtain ⟨fn, c, h1, h2, h3⟩ := hc
  simp only [callFunc, Sem.run_bind, run_program, Result.andThen_ok, h1, h3, h2]
  rfl

theorem call_value {f : Operand} {args : Array Operand} {ts : Array TypeId} {g : Nat} {first caps : Array Value} (hop : o.op = .call { callee := .value f, args, argTypes := ts })
    (hf : a.eval f = .func (.func g) first caps) (hc : Callable P g) : (execOp a.eval o).run P w = .ok (.enter g (first ++ args.map a.eval ++ caps)) w := by
  simp only [execOp, hop, resolve, hf, Deferred.ofValue, Sem.run_bind, Sem.run_pure, Result.andThen_ok, invoke, run_enter hc]

theorem Ext0.ext {ψ : Psi} (hs : ∀ b, S b → b < w.heap.size) (h : Ext0 S w S' w') : Ext base ψ S w ψ S' w' where
  os := h.os
  tape := h.tape
  output := h.output
  grow := h.grow
  old b hb _ := h.old b hb
  later := ⟨h.sub, fun b hb => h.old b (hs b hb)⟩
  newS b hb := by rcases h.newS b hb with h1 | h1; exact .inl h1; exact .inr (.inr h1)
  newP k b m hk := .inl ⟨k, m, hk⟩
  agr _ _ := rfl

theorem fillRow_ok (hrel : Rel P base ψ S w st a) {sz : Nat} : ∀ (parts : List (Nat × Operand)) (cs : List Cell) (arr : Array Value) (r : List Cell),
    All2 (RepM P ψ S w) cs arr.toList → fillRow sz (ev st) parts cs = some r →
    ∃ arr', Instr.fill (fun i => some (i * sz, sz)) arr (parts.map fun p => (p.1, a.eval p.2)) = some arr' ∧ All2 (RepM P ψ S w) r arr'.toList
  | [], cs, arr, r, h, hf => by simp [fillRow] at hf; subst hf; exact ⟨arr, rfl, h⟩
  | (i, x) :: ps, cs, arr, r, h, hf => by
    simp only [fillRow] at hf
    split at hf
    · rename_i y hy
      split at hf
      · rename_i cs' hlay hsz hle hset
        have hsz := Nat.eq_of_beq_eq_true hsz
        have hle := Nat.le_of_ble_eq_true hle
        have hx := ev_rep hrel x
        rw [hy] at hx
        have hcells := RepVa.cells hx hlay
        have hlc := hcells.length
        have hl := h.length
        simp at hlc hl
        have h' : All2 (RepM P ψ S w) cs' (((a.eval x).cells.zipIdx.foldl (fun cs (cj : Value × Nat) => cs.setIfInBounds (i * sz + cj.2) cj.1) arr)).toList := by
          rw [← Array.foldl_toList, Array.toList_zipIdx]
          refine all2_upd h hcells hset ?_ ?_
          · simp [fill_size]
          · intro j
            rw [Array.getElem?_toList, fill_step]
            simp only [Array.getElem?_toList, Nat.add_zero, Array.length_toList]
            by_cases hj : i * sz ≤ j ∧ j < i * sz + (a.eval x).cells.size
            · rw [if_pos hj, if_pos (by omega)]
            · rw [if_neg hj, if_neg (by omega)]
        obtain ⟨arr', g1, g2⟩ := fillRow_ok hrel ps cs' _ r h' hf
        refine ⟨arr', ?_, g2⟩
        simp only [List.map_cons, Instr.fill]
        rw [if_neg (by simp only [Bool.or_eq_true, decide_eq_true_eq, ne_eq]; omega)]
        exact g1
      · simp at hf
    · simp at hf

theorem zeroRow_ok {z : Value} (hz : zeroOk z) {sz n : Nat} (hl : (zeroCells' z).length = sz) (hp : 0 < sz) : All2 (RepM P ψ S w) (zeroRow (zeroCells' z) n) ((Array.range n).map (z.cells[· % z.cells.size]!)).toList := by
  have hzc := zero_cells (P := P) (ψ := ψ) (S := S) (w := w) hz
  have hlen := hzc.length
  simp at hlen
  refine All2.of_get (by simp [zeroRow]) ?_
  intro i x y hx hy
  simp only [zeroRow, List.getElem?_map] at hx
  have hi : i < n := by
    rcases Nat.lt_or_ge i n with h | h
    · exact h
    · rw [List.getElem?_eq_none (by simpa using h)] at hx; simp at hx
  have hr : (List.range n)[i]? = some i := by simp [hi]
  rw [hr] at hx
  simp only [Option.map_some, Option.some.injEq] at hx
  have hm : i % (zeroCells' z).length < (zeroCells' z).length := Nat.mod_lt _ (by omega)
  obtain ⟨v, h1, h2⟩ := hzc.get (i % (zeroCells' z).length) ((zeroCells' z)[i % (zeroCells' z).length]) (by simp [hm])
  have hx' : (zeroCells' z)[i % (zeroCells' z).length] = x := by rw [← hx]; simp [hm]
  have hy' : v = y := by
    simp only [Array.getElem?_toList, Array.getElem?_map] at hy
    have : (Array.range n)[i]? = some i := by simp [hi]
    rw [this] at hy
    simp only [Option.map_some, Option.some.injEq] at hy
    rw [← hy, ← hlen]
    rw [Array.getElem?_toList] at h1
    have hb := (Array.getElem?_eq_some_iff.1 h1)
    obtain ⟨hb1, hb2⟩ := hb
    rw [getElem!_pos (c := z.cells) (i := i % (zeroCells' z).length) (h := hb1)]
    exact hb2.symm
  rw [← hx', ← hy']; exact h2

theorem oBuildSlice_ok (hτ : TysOk P τ) (hz : ∀ t i, τ t = some i → zeroOk i.zero) (hrel : Rel P base ψ S w st a) {t : TypeId} {len : Nat} {parts : Array (Nat × Operand)} (hop : o.op = .buildSlice t len parts)
    (hk : oBuildSlice τ st o.dst t len parts.toList K) : OpOk P base ψ S w a o K := by
  unfold oBuildSlice at hk
  split at hk
  · rename_i e sz' bt' z' ht
    split at hk
    · rename_i desc sz bt z hte
      split at hk
      · rename_i cs hle hzl hpos hfill
        have hle := Nat.le_of_ble_eq_true hle
        have hzl := Nat.eq_of_beq_eq_true hzl
        have hpos : 0 < sz := by simpa [Nat.blt_eq] using hpos
        have hund := run_und hτ ht w
        have hsize := run_size hτ hte w
        have hzero := run_zeroV hτ hte w
        simp only at hund hsize hzero
        obtain ⟨arr, h1, h2⟩ := fillRow_ok (P := P) hrel parts.toList _ _ _ (zeroRow_ok (hz _ _ hte) (n := len * sz) hzl hpos) hfill
        obtain ⟨ds, h3, h4⟩ := closeCells_rep hrel.sim hk h2
        rw [fDs_eq] at h4
        obtain ⟨ts, h, n, m⟩ := st
        simp only [newRowK] at h4
        have hlen : ds.length = len * sz := by
          have e1 := h3.length
          have e2 := h2.length
          have : ∀ (ps : List (Nat × Operand)) (c r : List Cell), fillRow sz (ev ⟨ts, h, n, m⟩) ps c = some r → r.length = c.length := by
            intro ps
            induction ps with
            | nil => intro c r hf; simp [fillRow] at hf; rw [hf]
            | cons p ps ih =>
              intro c r hf
              simp only [fillRow] at hf
              split at hf
              · split at hf
                · rename_i hset
                  rw [ih _ _ hf]
                  exact (setAt_spec _ _ _ _ hset).1
                · simp at hf
              · simp at hf
          have e3 := this _ _ _ hfill
          rw [e1, ← e2, e3]; simp [zeroRow]
        have hn : ψ n = none := hrel.sim.dom n (Nat.le_refl _)
        have hl := later_alloc hrel.sim.sdom (Obj.cells arr e)
        have hasz : arr.size = len * sz := by have := h3.length; simp at this; omega
        have hrep : BlkRep P (ψ.set n (.at w.heap.size arr.size)) S (w.alloc (.cells arr e)) (.row sz len (rowAt sz ds)) (.at w.heap.size arr.size) := by
          refine ⟨arr, e, heap_alloc_new _, rfl, by omega, ?_, ?_⟩
          · intro i hi
            have := Nat.mul_le_mul_right sz (Nat.succ_le_of_lt hi)
            rw [Nat.succ_mul] at this
            simp [rowAt]; omega
          · intro i j hi hj
            have := Nat.mul_le_mul_right sz (Nat.succ_le_of_lt hi)
            rw [Nat.succ_mul] at this
            have hlt : i * sz + j < ds.length := by omega
            obtain ⟨v, g1, g2⟩ := h3.get (i * sz + j) (ds[i * sz + j]) (by simp [hlt])
            have e1 : (rowAt sz ds i).getD j (.v (.bool false)) = ds[i * sz + j] := by
              simp [rowAt, List.getD, List.getElem?_drop, hj, hlt]
            have e2 : arr.getD (i * sz + j) undef = v := by
              rw [Array.getElem?_toList] at g1
              simp [Array.getD_eq_getD_getElem?, g1]
            rw [e1, e2]; exact g2.later hl
        obtain ⟨k1, k2⟩ := hrel.alloc (blk := .row sz len (rowAt sz ds)) (arr := arr) (e := e) hrep
        refine OpOk.value (v := .slice (some ⟨w.heap.size, 0, none⟩) len len) ?_ k1 ?_ h4 k2
        · have hp : (Array.map (fun p => (p.1, a.eval p.2)) parts).toList = parts.toList.map fun p => (p.1, a.eval p.2) := by simp
          have hgt : ¬ len * sz > 2 ^ 24 := by omega
          by_cases h0 : len * sz = 0
          · have : (Array.range (len * sz)).map ((z.cells[· % z.cells.size]!)) = (Array.range (len * sz)).map ((#[] : Array Value)[· % (#[] : Array Value).size]!) := by rw [h0]; simp
            rw [this] at h1
            simp only [execOp, hop, Instr.buildSlice, Sem.run_bind, hund, hsize, Result.andThen_ok, if_neg hgt, if_pos h0, Sem.run_pure, hp, h1, newRow, run_newObj]
            rfl
          · simp only [execOp, hop, Instr.buildSlice, Sem.run_bind, hund, hsize, hzero, Result.andThen_ok, if_neg hgt, if_neg h0, Sem.run_pure, hp, h1, newRow, run_newObj]
            rfl
        · exact .inr ⟨w.heap.size, arr.size, len, 0, by simp [Psi.set], rfl, Nat.le_refl _, fun _ => ⟨by simp, by simp [hasz]⟩⟩
      · exact hk.elim
    · exact hk.elim
  · exact hk.elim

end
end Go.Sx

namespace Go.Sx

theorem cv_rep {P : Program} {ψ : Psi} {S : Nat → Prop} {w : World} {c : Cv} {v : Value} (h : RepCv S w c v) : RepVa P ψ S w (cvVa c) v := by
  cases c with
  | c x => exact h
  | agg xs => obtain ⟨arr, h1, h2⟩ := h; exact ⟨arr, h1, all2_dmap h2⟩

theorem ct_rep {P : Program} {ψ : Psi} {S : Nat → Prop} {w : World} {c : Ct} {v : Value} (h : RepCt S w c v) : RepT P ψ S w (ctTm c) v := by
  cases c with
  | va x => exact cv_rep h
  | tup xs => obtain ⟨arr, h1, h2⟩ := h; exact ⟨arr, h1, h2.map_left _ fun _ _ h => cv_rep h⟩

section
variable {P : Program} {τ : Tys} {base : Nat} {ψ ψ' : Psi} {S S' : Nat → Prop} {w w' : World} {st st1 : St} {a : Act} {o : Oper} {K : St → Prop}

theorem closeVa_rep {h : List (Nat × Blk)} {next : Nat} (hs : Sim P ψ S w h next) {c : Va} {v : Value} {K : Cv → Prop} (hc : closeVa h c K) (hv : RepVa P ψ S w c v) : ∃ x, RepCv S w x v ∧ K x := by
  cases c with
  | c c =>
    simp only [closeVa] at hc
    obtain ⟨x, g1, g2⟩ := closeCell_rep hs hc hv
    exact ⟨.c x, g1, g2⟩
  | agg cs =>
    simp only [closeVa] at hc
    obtain ⟨arr, rfl, hv⟩ := hv
    obtain ⟨xs, g1, g2⟩ := closeCells_rep hs hc hv
    exact ⟨.agg xs, ⟨arr, rfl, g1⟩, g2⟩

theorem closeVas_rep {h : List (Nat × Blk)} {next : Nat} (hs : Sim P ψ S w h next) : ∀ {cs : List Va} {vs : List Value} {K : List Cv → Prop}, closeVas h cs K → All2 (RepVa P ψ S w) cs vs →
    ∃ xs, All2 (RepCv S w) xs vs ∧ K xs
  | [], [], _, hc, _ => ⟨[], trivial, hc⟩
  | _ :: _, _ :: _, _, hc, ⟨h1, h2⟩ => by
    obtain ⟨x, g1, g2⟩ := closeVa_rep hs hc h1
    obtain ⟨xs, g3, g4⟩ := closeVas_rep hs g2 h2
    exact ⟨x :: xs, ⟨g1, g3⟩, g4⟩

/-- another world in which nothing of the frame's own has changed -/
theorem Rel.ext0 (hr : Rel P base ψ S w st a) (h : Ext0 S w S' w') : Rel P base ψ S' w' st a ∧ Ext base ψ S w ψ S' w' := by
  have he := Ext0.ext (base := base) (ψ := ψ) hr.sim.sdom h
  refine ⟨⟨hr.bas, ⟨hr.sim.dom, ?_, hr.sim.inj, ?_, ?_, h.sdom⟩, hr.lim, hr.defers, fun t => (hr.tmps t).later (PsiSub.refl _) he.later⟩, he⟩
  · intro k l hk
    exact (hr.sim.blk k l hk).later (PsiSub.refl _) he.later fun b m e => h.old b (hr.sim.pdom k b m (e ▸ hk))
  · intro k b m hk hl hS
    rcases h.newS b hS with h1 | h1
    · exact hr.sim.dis k b m hk hl h1
    · have := hr.sim.pdom k b m hk; omega
  · intro k b m hk; have := hr.sim.pdom k b m hk; have := h.grow; omega

theorem oCallFv_ok (hrel : Rel P base ψ S w st a) {f : Operand} {args : Array Operand} {ts : Array TypeId} {g : List Cv → Option Gs} {as : List Va}
    (hop : o.op = .call { callee := .value f, args, argTypes := ts }) (hf : ev st f = .va (.c (.fv g))) (ha : mapO (fun x => asVa (ev st x)) args.toList = some as)
    (hk : closeVas st.heap as fun cs => match g cs with
        | some ⟨pre, r⟩ => pre ∧ (pre → putK st o.dst (ctTm r) K)
        | none => False) : OpOk P base ψ S w a o K := by
  have hargs := args_rep hrel ha
  obtain ⟨cs, hcv, hk⟩ := closeVas_rep hrel.sim hk hargs
  have : ∃ pre r, g cs = some ⟨pre, r⟩ ∧ pre ∧ putK st o.dst (ctTm r) K := by
    split at hk
    · rename_i pre r hg; exact ⟨pre, r, hg, hk.1, hk.2 hk.1⟩
    · exact hk.elim
  obtain ⟨pre, r, hg, hpre, hk⟩ := this
  have hfv := ev_rep hrel f
  rw [hf] at hfv
  obtain ⟨fid, first, caps, hv, hcall, hfn⟩ := hfv
  have := hfn S w (Later.refl _ _) hrel.sim.sdom cs pre r hg hpre _ hcv
  intro next Q hn
  have hrun := call_value (w := w) hop hv hcall
  simp only [Oper.wp, hrun, Oper.upon]
  have e : first ++ (args.toList.map a.eval).toArray ++ caps = first ++ args.map a.eval ++ caps := by
    congr 2; apply Array.ext'; simp
  rw [e] at this
  refine this.mono ?_
  rintro e w' ⟨v, S', rfl, hrep, hext⟩
  obtain ⟨h1, h2⟩ := hrel.ext0 hext
  obtain ⟨st', h3, h4⟩ := putK_rel hk h1 (ct_rep hrep)
  exact hn _ _ _ _ _ h3 h4 h2

theorem oCall_ok {calls : Nat → List Va → St → (Tm → St → Prop) → Prop} (hcalls : CallsOk P base calls) (hrel : Rel P base ψ S w st a) {f : Operand} {args : Array Operand} {ts : Array TypeId}
    {g : Nat} {caps : List (Nat × Nat)} {as : List Va}
    (hop : o.op = .call { callee := .value f, args, argTypes := ts }) (hf : ev st f = .va (.c (.fn g caps))) (ha : mapO (fun x => asVa (ev st x)) args.toList = some as)
    (hk : calls g (as ++ caps.map fun p => .c (.own p.1 p.2)) st fun r st => putK st o.dst r K) : OpOk P base ψ S w a o K := by
  have hfv := ev_rep hrel f
  rw [hf] at hfv
  obtain ⟨vs, hv, hcaps⟩ := hfv
  have hargs := args_rep hrel ha
  have hall : All2 (RepVa P ψ S w) (as ++ caps.map fun p => .c (.own p.1 p.2)) (args.toList.map a.eval ++ vs.toList) :=
    hargs.append (All2.map_left (R' := RepVa P ψ S w) (fun p : Nat × Nat => Va.c (.own p.1 p.2)) (fun p y h => h) hcaps)
  obtain ⟨hc, hcall⟩ := hcalls _ _ _ _ hk ψ S w a _ hrel hall
  intro next Q hn
  have hrun := call_value (w := w) hop hv hc
  simp only [Oper.wp, hrun, Oper.upon]
  have e : (args.toList.map a.eval ++ vs.toList).toArray = #[] ++ args.map a.eval ++ vs := by apply Array.ext'; simp
  rw [e] at hcall
  refine hcall.mono ?_
  rintro e w' ⟨r, st', v, ψ', S', rfl, hK, h1, h2, h3⟩
  obtain ⟨st2, h4, h5⟩ := putK_rel hK h1 h2
  exact hn _ _ _ _ _ h4 h5 h3

theorem onBool_ok {s : Nat} {k : St → Option Bool → Prop} (hrel : Rel P base ψ S w st a) (hk : onBool st s k) :
    ∃ st' b, k st' b ∧ Rel P base ψ S w st' a ∧ (match a.tmps[s]? with | some (.bool b') => some b' | _ => none) = b ∧ (∀ b', b = some b' → a.tmps.getD s undef = .bool b') := by
  have hs := hrel.tmps s
  unfold onBool at hk
  have get : ∀ v, v ≠ undef → a.tmps.getD s undef = v → a.tmps[s]? = some v := by
    intro v hv h
    rw [Array.getD_eq_getD_getElem?] at h
    cases hg : a.tmps[s]? with
    | none => rw [hg] at h; exact absurd h.symm hv
    | some x => rw [hg] at h; simp at h; rw [h]
  have getu : a.tmps.getD s undef = undef → (match a.tmps[s]? with | some (.bool b') => some b' | _ => none) = none := by
    intro h
    rw [Array.getD_eq_getD_getElem?] at h
    cases hg : a.tmps[s]? with
    | none => rfl
    | some x => rw [hg] at h; simp at h; subst h; rfl
  split at hk
  · rename_i h; rw [h] at hs
    exact ⟨_, _, hk, hrel, by rw [get _ (by simp [undef]) hs], fun b' e => by cases e; exact hs⟩
  · rename_i h; rw [h] at hs
    exact ⟨_, _, hk, hrel, by rw [get _ (by simp [undef]) hs], fun b' e => by cases e; exact hs⟩
  · rename_i h; rw [h] at hs
    exact ⟨_, _, hk, hrel, getu hs, fun b' e => by cases e⟩
  · rename_i b ts hp n m h
    have hlook : lookT ts s = .va (.c (.d (.v (.bool b)))) := h
    rw [hlook] at hs
    have hv : a.tmps.getD s undef = .bool b := by generalize a.tmps.getD s undef = q at hs; cases hs; rfl
    have hrel' : ∀ b', b = b' → Rel P base ψ S w ⟨(s, .va (.c (.kb b'))) :: ts, hp, n, m⟩ a := by
      intro b' e
      refine ⟨hrel.bas, hrel.sim, hrel.lim, hrel.defers, fun t => ?_⟩
      simp only [lookT]
      cases hbe : Nat.beq s t with
      | true =>
        have := Nat.eq_of_beq_eq_true hbe
        subst this
        show a.tmps.getD s undef = .bool b'
        rw [hv, e]
      | false => exact hrel.tmps t
    cases hb : b with
    | true => exact ⟨_, _, hk.1 hb, hrel' true hb, by rw [get _ (by simp [undef]) hv, hb], fun b' e => by cases e; rw [hv, hb]⟩
    | false => exact ⟨_, _, hk.2 hb, hrel' false hb, by rw [get _ (by simp [undef]) hv, hb], fun b' e => by cases e; rw [hv, hb]⟩
  · exact hk.elim

theorem vOp_ok (hτ : TysOk P τ) (hz : ∀ t i, τ t = some i → zeroOk i.zero) (hrel : Rel P base ψ S w st a) {op : Op} (hop : o.op = op)
    (hk : vOp P τ op o.type (ev st) st.heap fun x => putK st o.dst x K) : OpOk P base ψ S w a o K := by
  unfold vOp at hk
  split at hk
  · rename_i x
    exact OpOk.value (x := ev st x) (v := a.eval x) (by simp only [execOp, hop]; rfl) hrel (ev_rep hrel x) hk (Ext.refl _ _ _ _)
  · rename_i x
    exact OpOk.value (x := ev st x) (v := a.eval x) (by simp only [execOp, hop]; rfl) hrel (ev_rep hrel x) hk (Ext.refl _ _ _ _)
  · rename_i c x y
    have hc := ev_rep hrel c
    split at hk
    · rename_i e
      rw [e] at hc
      have hc : a.eval c = .bool true := hc
      refine OpOk.value (x := ev st x) (v := a.eval x) ?_ hrel (ev_rep hrel x) hk (Ext.refl _ _ _ _)
      simp only [execOp, hop, hc, asBool]; rfl
    · rename_i e
      rw [e] at hc
      have hc : a.eval c = .bool false := hc
      refine OpOk.value (x := ev st y) (v := a.eval y) ?_ hrel (ev_rep hrel y) hk (Ext.refl _ _ _ _)
      simp only [execOp, hop, hc, asBool]; rfl
    · exact hk.elim
  · exact oLoad_ok hτ hrel hop hk
  · exact oFieldAddr_ok hτ hrel hop hk
  · exact oBuild_ok hτ hz hrel hop hk
  · exact oIndexAddr_ok hτ hrel hop hk
  · exact oField_ok hτ hrel hop hk
  · split at hk
    · rename_i xs ys hx hy; exact oEq_ok hτ hrel hop hx hy hk
    · exact oBin_ok hrel hop hk
  · split at hk
    · rename_i u hu; exact oUn_ok hrel hop hu hk
    · exact hk.elim
  · split at hk
    · rename_i u hu; exact oConvert_ok hrel hop hu hk
    · exact hk.elim
  · split at hk
    · rename_i xs hx
      split at hk
      · rename_i y hy; exact oExtract_ok hrel hop hx hy hk
      · exact hk.elim
    · exact hk.elim
  · rename_i c
    obtain ⟨callee, args, ts⟩ := c
    simp only at hk
    split at hk
    · exact oLen_ok hτ hrel hop hk
    · split at hk
      · rename_i as ha; exact oMin_ok hrel hop ha hk
      · exact hk.elim
    · split at hk
      · rename_i as ha; exact oMax_ok hrel hop ha hk
      · exact hk.elim
    · exact hk.elim
  · exact hk.elim

theorem vcOp_ok (hτ : TysOk P τ) (hz : ∀ t i, τ t = some i → zeroOk i.zero) {calls : Nat → List Va → St → (Tm → St → Prop) → Prop} (hcalls : CallsOk P base calls)
    (hrel : Rel P base ψ S w st a) (hk : vcOp P τ calls o st K) : OpOk P base ψ S w a o K := by
  unfold vcOp at hk
  split at hk
  · rename_i c x y hop
    split at hk
    · rename_i s
      obtain ⟨st', b, hk, hrel', _, hb⟩ := onBool_ok hrel hk
      split at hk
      · have hb := hb true rfl
        refine OpOk.value (x := ev st' x) (v := a.eval x) ?_ hrel' (ev_rep hrel' x) hk (Ext.refl _ _ _ _)
        have : a.eval (.tmp s) = .bool true := hb
        simp only [execOp, hop, this, asBool]; rfl
      · have hb := hb false rfl
        refine OpOk.value (x := ev st' y) (v := a.eval y) ?_ hrel' (ev_rep hrel' y) hk (Ext.refl _ _ _ _)
        have : a.eval (.tmp s) = .bool false := hb
        simp only [execOp, hop, this, asBool]; rfl
      · exact hk.elim
    · exact hk.elim
  · rename_i e hop; exact oAlloc_ok hτ hz hrel hop hk
  · rename_i e x hop; exact oBox_ok hrel hop hk
  · rename_i t x y hop; exact oStore_ok hτ hrel hop hk
  · rename_i t len parts hop; exact oBuildSlice_ok hτ hz hrel hop hk
  · rename_i c hop
    obtain ⟨callee, args, ts⟩ := c
    simp only at hk
    split at hk
    · split at hk
      · rename_i g caps as hf ha
        rw [fVas_eq] at hk
        exact oCall_ok hcalls hrel hop hf ha hk
      · rename_i g as hf ha
        exact oCallFv_ok hrel hop hf ha hk
      · exact hk.elim
    · exact vOp_ok hτ hz hrel hop hk
  · exact vOp_ok hτ hz hrel rfl hk

theorem vcOps_ok (hτ : TysOk P τ) (hz : ∀ t i, τ t = some i → zeroOk i.zero) {calls : Nat → List Va → St → (Tm → St → Prop) → Prop} (hcalls : CallsOk P base calls)
    {ops : Array Oper} {Q : Exit → Act → World → Prop} : ∀ (rest : List Oper) (k : Nat) (ψ : Psi) (S : Nat → Prop) (w : World) (st : St) (a : Act) (K : St → Prop),
    (∀ i o, rest[i]? = some o → ops[k + i]? = some o) → Rel P base ψ S w st a → vcOps P τ calls ops.toList rest st K →
    (∀ st' ψ' S' w' a', K st' → Rel P base ψ' S' w' st' a' → Ext base ψ S w ψ' S' w' → Q .normal a' w') → wpOps P ops Q (List.range' k rest.length) a w
  | [], k, ψ, S, w, st, a, K, _, hrel, hk, hq => hq _ _ _ _ _ hk hrel (Ext.refl _ _ _ _)
  | o :: rest, k, ψ, S, w, st, a, K, hall, hrel, hk, hq => by
    have ho : ops[k]? = some o := by simpa using hall 0 o (by simp)
    have hrest : ∀ (i : Nat) (x : Oper), rest[i]? = some x → ops[k + 1 + i]? = some x := fun i x hx => by
      have := hall (i + 1) x (by simpa using hx)
      rwa [show k + (i + 1) = k + 1 + i by omega] at this
    simp only [List.length_cons, List.range'_succ, wpOps, ho]
    have go : ∀ st, Rel P base ψ S w st a → vcOp P τ calls o st (fun st => vcOps P τ calls ops.toList rest st K) → o.wp P a w (wpOps P ops Q (List.range' (k + 1) rest.length)) Q := by
      intro st hrel h
      refine vcOp_ok hτ hz hcalls hrel h _ _ ?_
      intro st' ψ' S' w' a' h1 h2 h3
      exact vcOps_ok hτ hz hcalls rest (k + 1) ψ' S' w' st' a' K hrest h2 h1 fun st2 ψ2 S2 w2 a2 g1 g2 g3 => hq _ _ _ _ _ g1 g2 (h3.trans g3)
    simp only [vcOps] at hk
    split at hk
    · rename_i hg
      have : Region.wanted o (yielded ops a.tmps) = true := by simp [Region.wanted, hg]
      rw [if_pos this]
      exact .inl (go st hrel hk)
    · rename_i j want hg
      split at hk
      · exact hk.elim
      · rename_i s hs
        obtain ⟨st', b, hk, hrel', hb, _⟩ := onBool_ok hrel hk
        have hy : yielded ops a.tmps j = b := by
          have hd : (ops[j]?).bind (·.dst) = some s := by
            unfold dstOf at hs
            rw [Array.getElem?_toList] at hs
            split at hs
            · rename_i hj; rw [hj]; exact hs
            · simp at hs
          simp only [yielded, hd, Option.bind_some]
          rw [← hb]
          split <;> simp_all
        split at hk
        · rename_i he
          have : Region.wanted o (yielded ops a.tmps) = true := by simp only [Region.wanted, hg, hy]; exact he
          rw [if_pos this]
          exact .inl (go st' hrel' hk)
        · rename_i he
          have : ¬ Region.wanted o (yielded ops a.tmps) = true := by simp only [Region.wanted, hg, hy]; simpa using he
          rw [if_neg this]
          obtain ⟨st2, h1, h2⟩ := putK_rel (v := undef) hk hrel' rfl
          exact vcOps_ok hτ hz hcalls rest (k + 1) ψ S w st2 (a.put o.dst undef) K hrest h2 h1 hq

end
end Go.Sx
