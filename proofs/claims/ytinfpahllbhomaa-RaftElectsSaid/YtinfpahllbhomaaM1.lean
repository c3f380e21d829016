/-
  The abstract machine: values, objects, operations; its interpreter over the program's own code. No condition.
  The abstract machine's interpreter. No condition.
  How the abstract machine's values and heap lie in the machine's memory; what lasts as memory grows.
  The operations as they are; small laws of memory.
  The operations that turn no memory: what the abstract machine says of them is what the machine does.
  The operations that turn no memory, continued: reads, parts, bounds.
  The operations that turn no memory, continued: addresses, parts, lengths, slices that stay.
  The operations that turn no memory, continued: slices that stay, structs that are built, maps that are asked.
-/
import Derived.LoopN
import Derived.Scope
import Derived.Orders
import Derived.Laws.IdiomCopy
import Derived.Laws.Append
import Derived.Below
import Derived.Lib.Strings
set_option linter.unusedVariables false
set_option linter.unusedSimpArgs false

namespace Go.Ab

/-- What a plain value is: its code. -/
inductive Cd where
  | int (k : IntKind) | bool | str | sl (e : Cd) | st (t : Nat) | slt (e : Cd) | fnc (f : FuncId) | mapc (k v : Cd)
  deriving DecidableEq

/-- The values of a code; `U t`: the values of the struct type t. -/
@[reducible] def den (U : Nat → Type) : Cd → Type
  | .int _ => Int
  | .bool => Bool
  | .str => ByteArray
  | .sl e => List (den U e)
  | .st t => U t
  | .slt e => List (den U e)
  | .fnc _ => Unit
  | .mapc k v => List (den U k × den U v)

@[reducible] def HL (U : Nat → Type) : List Cd → Type
  | [] => Unit
  | c :: cs => den U c × HL U cs

inductive Sp where
  | unk | tight | empty
  deriving DecidableEq

inductive AV (U : Nat → Type) where
  | top
  | bool (b : Bool)
  | int (k : IntKind) (n : Int)
  | str (s : ByteArray)
  | ptr (id off : Nat)
  | fptr (cs : List (AV U)) (off : Nat)
  | aptr (id ver : Nat) (i : Int) (off : Nat)
  | nilptr
  | nilsl
  | fsl (c : Cd) (L : List (den U c)) (sp : Sp)
  | sl (id ver : Nat)
  | map (id : Nat)
  | func (fn : Fn) (first captured : List (AV U))
  | agg (cs : List (AV U))
  | tuple (vs : List (AV U))
  | when (ch : List (Nat × Bool)) (v : AV U)

inductive Obj (U : Nat → Type) where
  | cells (cs : List (AV U))
  | arr (c : Cd) (L : List (den U c)) (ver : Nat) (w : Bool)
  | mp (kc vc : Cd) (M : List (den U kc × den U vc))
  | dead
  | hole

/-- The program's structs: their cells; what cells say. -/
structure Tab (U : Nat → Type) where
  cells : (t : Nat) → U t → List (AV U)
  of : (t : Nat) → List (AV U) → Option (U t)
  sz : Nat → Nat
  dflt : (t : Nat) → U t
  /-- a Go type's code -/
  cd : TypeId → Option Cd

structure Ops (U : Nat → Type) where
  add : IntKind → Int → Int → Int
  sub : IntKind → Int → Int → Int
  mul : IntKind → Int → Int → Int
  quo : IntKind → Int → Int → Int
  rem : IntKind → Int → Int → Int
  bits : BinOp → IntKind → Int → Int → Int
  shift : BinOp → IntKind → Int → Int → Int
  conv : IntKind → Int → Int
  lt : Int → Int → Bool
  le : Int → Int → Bool
  eq : Int → Int → Bool
  bnot : Bool → Bool
  bsel : Bool → Bool → Bool → Bool
  isel : Bool → Int → Int → Int
  beq : Bool → Bool → Bool
  band : Bool → Bool → Bool
  bimp : Bool → Bool → Bool
  imax : Int → Int → Int
  imin : Int → Int → Int
  seq : ByteArray → ByteArray → Bool
  slt : ByteArray → ByteArray → Bool
  scat : ByteArray → ByteArray → ByteArray
  slen : ByteArray → Int
  sget : ByteArray → Int → Int
  ssub : ByteArray → Int → Int → ByteArray
  len : (c : Cd) → List (den U c) → Int
  get : (c : Cd) → List (den U c) → Int → den U c
  app : (c : Cd) → List (den U c) → List (den U c) → List (den U c)
  set : (c : Cd) → List (den U c) → Int → den U c → List (den U c)
  cut : (c : Cd) → List (den U c) → Int → Int → List (den U c)
  rep : (c : Cd) → Int → den U c → List (den U c)
  emp : (c : Cd) → List (den U c) → Bool
  sfit : ByteArray → ByteArray → Bool
  fits : Nat → Int → Int → Bool
  mfit : Nat → Int → Bool
  mhas : (kc vc : Cd) → List (den U kc × den U vc) → den U kc → Bool
  mget : (kc vc : Cd) → List (den U kc × den U vc) → den U kc → den U vc → den U vc
  mset : (kc vc : Cd) → List (den U kc × den U vc) → den U kc → den U vc → List (den U kc × den U vc)
  ite : {R : Type} → Bool → Option R → Option R → Option R
  both : {R : Type} → Option R → Option R → Option R
  call : FuncId → List (Σ c, den U c) → (rc : List Cd) → Option (HL U rc)
  gcall : Bool → FuncId → List (Σ c, den U c) → (rc : List Cd) → Option (HL U rc)
  bind : {A R : Type} → Option A → (A → Option R) → Option R
  loop : {S R : Type} → ((S → Option R) → S → Option R) → S → Option R
  join : {S R : Type} → (S → Option R) → ((S → Option R) → Option R) → Option R

inductive Loc where
  | tmp (t : Nat)
  | cell (t : Nat) (off : Nat)
  deriving DecidableEq

inductive Mo where
  | pure (c : Cd)
  | asl (e : Cd) (w : Bool)
  | frz (e : Cd)
  | mp (k v : Cd)
  deriving DecidableEq

def Mo.code : Mo → Cd
  | .pure c => c
  | .asl e _ => .sl e
  | .frz e => .sl e
  | .mp k v => .mapc k v

/-- What is told of a program: which functions are entered, which makes are plain, what a loop turns. -/
structure Ann where
  /-- is a function entered, where another calls it? -/
  inl : FuncId → FuncId → Bool
  /-- what a function gives, where its types do not tell it all -/
  rc : FuncId → Option (List Cd)
  plain : FuncId → Tmp → Bool
  loop : FuncId → Nat → List (Loc × Mo)
  /-- which of a call's results has its room given to the caller -/
  slo : FuncId → Option Nat := fun _ => none
  /-- where ways meet: what is told there -/
  join : FuncId → Nat → Option (List (Loc × Mo)) := fun _ _ => none

structure St (U : Nat → Type) where
  tmps : List (AV U)
  heap : List (Obj U)
  base : Nat
  mu : List (Nat × Nat)

/-- What an operation touches of the heap: what it reads, what it writes; does it make something; does it do anything at all. -/
structure Foot where
  rd : List Nat := []
  wr : List Nat := []
  al : Bool := false
  all : Bool := false

inductive AEx where
  | normal | exit (id : Nat) | ret | goto (l : Nat)

section
variable {U : Nat → Type}

def AV.cells : AV U → List (AV U)
  | .agg cs => cs
  | v => [v]

def AV.of (T : Tab U) : (c : Cd) → den U c → AV U
  | .int k, n => .int k n
  | .bool, b => .bool b
  | .str, s => .str s
  | .sl e, L => .fsl e L .unk
  | .st t, x => .agg (T.cells t x)
  | .slt e, L => .fsl e L .tight
  | .fnc f, _ => .func (.func f) [] []
  | .mapc _ _, _ => .agg []

def cellsOf (T : Tab U) (c : Cd) (x : den U c) : List (AV U) := (AV.of T c x).cells

def Cd.size (T : Tab U) : Cd → Nat
  | .st t => T.sz t
  | .mapc _ _ => 0
  | _ => 1

def zero (T : Tab U) : (c : Cd) → den U c
  | .int _ => (0 : Int)
  | .bool => false
  | .str => (⟨#[]⟩ : ByteArray)
  | .sl _ => []
  | .st t => T.dflt t
  | .slt _ => []
  | .fnc _ => ()
  | .mapc _ _ => []

def toSl (e : Cd) : AV U → Option (List (den U e))
  | .nilsl => some []
  | .fsl c L _ => if h : c = e then some (h ▸ L) else none
  | _ => none

def toInt (k : IntKind) : AV U → Option Int
  | .int k' n => if k' = k then some n else none
  | _ => none

def toBool : AV U → Option Bool
  | .bool b => some b
  | _ => none

def toStr : AV U → Option ByteArray
  | .str s => some s
  | _ => none

def toSt (T : Tab U) (t : Nat) : AV U → Option (U t)
  | .agg cs => T.of t cs
  | _ => none

def toSlt (e : Cd) : AV U → Option (List (den U e))
  | .fsl c L .tight => if h : c = e then some (h ▸ L) else none
  | .fsl c L .empty => if h : c = e then some (h ▸ L) else none
  | _ => none

def toFnc (f : FuncId) : AV U → Option Unit
  | .func (.func f') [] [] => if f' = f then some () else none
  | _ => none

def AV.to (T : Tab U) (c : Cd) (v : AV U) : Option (den U c) :=
  match c with
  | .int k => toInt k v
  | .bool => toBool v
  | .str => toStr v
  | .sl e => toSl e v
  | .st t => toSt T t v
  | .slt e => toSlt e v
  | .fnc f => toFnc f v
  | .mapc _ _ => none

def ofValue : Value → AV U
  | .bool b => .bool b
  | .int k n => .int k n
  | .string s => .str s
  | .slice none 0 0 => .nilsl
  | .pointer none => .nilptr
  | _ => .top

def ofCells (v : Value) : List (AV U) := (v.cells.toList).map ofValue

abbrev Heap (U : Nat → Type) := List (Obj U)

/-- A row's slice made plain: the slice that holds what the row holds; the row is not written any more. -/
def purify1 (H : Heap U) : AV U → Option (AV U × Heap U × List Nat)
  | .sl id ver =>
    match H[id]? with
    | some (.arr c L ver' w) => if ver' = ver then (if w then some (.fsl c L .unk, H.set id (.arr c L ver' false), [id]) else some (.fsl c L .unk, H, [])) else none
    | _ => none
  | .agg _ => none
  | .tuple _ => none
  | .when _ _ => none
  | v => some (v, H, [])

def purifyL (H : Heap U) : List (AV U) → Option (List (AV U) × Heap U × List Nat)
  | [] => some ([], H, [])
  | v :: vs =>
    match purify1 H v with
    | none => none
    | some (v', H1, ids) =>
      match purifyL H1 vs with
      | none => none
      | some (vs', H2, ids') => some (v' :: vs', H2, ids ++ ids')

def purify (H : Heap U) : AV U → Option (AV U × Heap U × List Nat)
  | .agg cs => match purifyL H cs with
    | some (cs', H', ids) => some (.agg cs', H', ids)
    | none => none
  | v => purify1 H v

/-- Plain arguments, each by its code. -/
def typed (T : Tab U) : List Cd → List (AV U) → Heap U → Option (List (Σ c, den U c) × Heap U × List Nat)
  | [], [], H => some ([], H, [])
  | c :: cs, v :: vs, H =>
    match purify H v with
    | none => none
    | some (v', H1, ids) =>
      match v'.to T c with
      | none => none
      | some x =>
        match typed T cs vs H1 with
        | none => none
        | some (xs, H2, ids') => some (⟨c, x⟩ :: xs, H2, ids ++ ids')
  | _, _, _ => none

def typedHL (T : Tab U) : (cs : List Cd) → List (AV U) → Heap U → Option (HL U cs)
  | [], [], _ => some ()
  | c :: cs, v :: vs, H =>
    match purify H v with
    | none => none
    | some (v', H1, _) =>
      match v'.to T c with
      | none => none
      | some x =>
        match typedHL T cs vs H1 with
        | none => none
        | some xs => some (x, xs)
  | _, _, _ => none

def avs (T : Tab U) : (cs : List Cd) → HL U cs → List (AV U)
  | [], _ => []
  | c :: cs, (x, xs) => AV.of T c x :: avs T cs xs

def AV.ofHL (T : Tab U) : (cs : List Cd) → HL U cs → AV U
  | [c], (x, _) => AV.of T c x
  | cs, xs => .tuple (avs T cs xs)

structure Env (U : Nat → Type) where
  o : Ops U
  P : Program
  T : Tab U
  ann : Ann

def cdl (T : Tab U) (ts : List TypeId) : Option (List Cd) := ts.mapM T.cd

def isAggD : TypeDesc → Bool
  | .struct _ => true
  | .array _ _ => true
  | _ => false

/-- A part of cells, as a value of a type. -/
def part? (P : Program) (t : TypeId) (cs : List (AV U)) (off : Nat) : Option (AV U) :=
  match P.info? t, P.underlying t with
  | some i, some d => if isAggD d then (if off + i.size ≤ cs.length then some (.agg ((cs.drop off).take i.size)) else none) else cs[off]?
  | _, _ => none

def putCells (cs : List (AV U)) (off : Nat) (vs : List (AV U)) : Option (List (AV U)) :=
  if off + vs.length ≤ cs.length then some (cs.take off ++ vs ++ cs.drop (off + vs.length)) else none

/-- a value that may be stored -/
def AV.okv : AV U → Bool
  | .when _ _ => false
  | .top => false
  | .tuple _ => false
  | _ => true

def fillA (place : Nat → Option (Nat × Nat)) (cells : List (AV U)) : List (Nat × AV U) → Option (List (AV U))
  | [] => some cells
  | (i, v) :: rest =>
    match place i with
    | none => none
    | some (off, size) => if v.cells.length = size then (match putCells cells off v.cells with | some c => fillA place c rest | none => none) else none

def opd (s : List (AV U)) (ch : List (Nat × Bool)) : Operand → AV U
  | .tmp t =>
    match s.getD t .top with
    | .when c v => if c.isSuffixOf ch then v else .top
    | v => v
  | .const v => ofValue v
  | .func f => .func (.func f) [] []
  | .global _ => .top

def chainOf (ops : Array Oper) : Nat → Nat → List (Nat × Bool)
  | 0, _ => []
  | f + 1, i =>
    match (ops[i]?).bind (·.guard) with
    | none => []
    | some (j, w) => (j, w) :: chainOf ops f j

mutual
/-- Does a value name objects below n alone? -/
def AV.lows (n : Nat) : AV U → Bool
  | .ptr id _ => decide (id < n)
  | .sl id _ => decide (id < n)
  | .aptr id _ _ _ => decide (id < n)
  | .map id => decide (id < n)
  | .fptr cs _ => belowL n cs
  | .func _ a b => belowL n a && belowL n b
  | .agg cs => belowL n cs
  | .tuple vs => belowL n vs
  | .when _ v => v.lows n
  | _ => true
def belowL (n : Nat) : List (AV U) → Bool
  | [] => true
  | v :: vs => v.lows n && belowL n vs
end

def Obj.lows (n : Nat) : Obj U → Bool
  | .cells cs => belowL n cs
  | _ => true

/-- plain data: no object is named -/
def AV.plain : AV U → Bool
  | .bool _ | .int _ _ | .str _ | .nilsl | .fsl _ _ _ => true
  | _ => false

/-- may this place be written? -/
def St.may (s : St U) (id off : Nat) : Bool := decide (s.base ≤ id) || s.mu.contains (id, off)

def mayAll (s : St U) (id off : Nat) : Nat → Bool
  | 0 => true
  | n + 1 => s.may id (off + n) && mayAll s id off n

end
end Go.Ab

namespace Go.Ab
section
variable {U : Nat → Type} {R : Type}

/-- A check: under a guard it is asked only where the guard holds. -/
def chk (o : Ops U) (g : Option Bool) (c : Bool) (r : Option R) : Option R :=
  o.ite (match g with | none => c | some b => o.bimp b c) r none

/-- What goes on behind an operation: its value, the heap, what was touched. -/
abbrev Kont (U : Nat → Type) (R : Type) := AV U → Heap U → Foot → Option R

/-- What does not fit: nothing is told; under a guard that does not hold nothing need be. -/
def bad (o : Ops U) (g : Option Bool) (H : Heap U) (k : Kont U R) : Option R :=
  match g with
  | none => none
  | some b => o.ite b none (k .top H {})

/-- The same where the heap has been looked at. -/
def badAt (o : Ops U) (g : Option Bool) (ft : Foot) (H : Heap U) (k : Kont U R) : Option R :=
  match g with
  | none => none
  | some b => o.ite b none (k .top H ft)

/-- The rows that a value names. -/
def sls1 : AV U → List Nat
  | .sl id _ => [id]
  | _ => []

def sls : AV U → List Nat
  | .agg cs => cs.flatMap sls1
  | v => sls1 v

def slsL (vs : List (AV U)) : List Nat := vs.flatMap sls

def adrs : AV U → List Nat
  | .ptr id _ => [id]
  | .aptr id _ _ _ => [id]
  | _ => []

def intOpK (o : Ops U) (g : Option Bool) (op : BinOp) (kd : IntKind) (a b : Int) (H : Heap U) (k : Kont U R) : Option R :=
  match op with
  | .add => k (.int kd (o.add kd a b)) H {}
  | .sub => k (.int kd (o.sub kd a b)) H {}
  | .mul => k (.int kd (o.mul kd a b)) H {}
  | .quo => chk o g (o.bnot (o.eq b 0)) (k (.int kd (o.quo kd a b)) H {})
  | .rem => chk o g (o.bnot (o.eq b 0)) (k (.int kd (o.rem kd a b)) H {})
  | .and => k (.int kd (o.bits .and kd a b)) H {}
  | .or => k (.int kd (o.bits .or kd a b)) H {}
  | .xor => k (.int kd (o.bits .xor kd a b)) H {}
  | .andNot => k (.int kd (o.bits .andNot kd a b)) H {}
  | .eql => k (.bool (o.eq a b)) H {}
  | .neq => k (.bool (o.bnot (o.eq a b))) H {}
  | .lss => k (.bool (o.lt a b)) H {}
  | .leq => k (.bool (o.le a b)) H {}
  | .gtr => k (.bool (o.lt b a)) H {}
  | .geq => k (.bool (o.le b a)) H {}
  | .shl => bad o g H k
  | .shr => bad o g H k

def strOpK (o : Ops U) (g : Option Bool) (op : BinOp) (a b : ByteArray) (H : Heap U) (k : Kont U R) : Option R :=
  match op with
  | .add => chk o g (o.sfit a b) (k (.str (o.scat a b)) H {})
  | .eql => k (.bool (o.seq a b)) H {}
  | .neq => k (.bool (o.bnot (o.seq a b))) H {}
  | .lss => k (.bool (o.slt a b)) H {}
  | .geq => k (.bool (o.bnot (o.slt a b))) H {}
  | .leq => k (.bool (o.bsel (o.slt a b) true (o.seq a b))) H {}
  | .gtr => k (.bool (o.bnot (o.bsel (o.slt a b) true (o.seq a b)))) H {}
  | _ => bad o g H k

/-- Is a slice nil? Only an empty one may be: then both answers are gone after. -/
def nilK (o : Ops U) (g : Option Bool) (neg : Bool) (c : Cd) (L : List (den U c)) (H : Heap U) (ft : Foot) (k : Kont U R) : Option R :=
  match g with
  | some _ => badAt o g ft H k
  | none => o.ite (o.emp c L) (o.both (k (.bool (!neg)) H ft) (k (.bool neg) H ft)) (k (.bool neg) H ft)

def eqK (o : Ops U) (nd : Bool) (d : Option TypeDesc) (g : Option Bool) (neg : Bool) (x y : AV U) (H : Heap U) (k : Kont U R) : Option R :=
  match d with
  | some .bool => match x, y with
    | .bool a, .bool b => k (.bool (if neg then o.bnot (o.beq a b) else o.beq a b)) H {}
    | _, _ => bad o g H k
  | some (.pointer _) => match x, y with
    | .nilptr, .nilptr => k (.bool (!neg)) H {}
    | .ptr _ _, .nilptr => k (.bool neg) H {}
    | _, _ => bad o g H k
  | some (.slice _) => match x, y with
    | .nilsl, .nilsl => k (.bool (!neg)) H {}
    | .fsl c L _, .nilsl => (if nd then nilK o g neg c L H {} k else bad o g H k)
    | .sl id ver, .nilsl =>
      match H[id]? with
      | some (.arr c L ver' _) => if ver' = ver ∧ nd then nilK o g neg c L H { rd := [id] } k else badAt o g { rd := [id] } H k
      | _ => badAt o g { rd := [id] } H k
    | _, _ => bad o g H k
  | _ => bad o g H k

def binK (o : Ops U) (nd : Bool) (d : Option TypeDesc) (g : Option Bool) (op : BinOp) (x y : AV U) (H : Heap U) (k : Kont U R) : Option R :=
  match x with
  | .int kd a =>
    match y with
    | .int kd' b =>
      match op with
      | .shl => chk o g (o.le 0 b) (k (.int kd (o.shift .shl kd a b)) H {})
      | .shr => chk o g (o.le 0 b) (k (.int kd (o.shift .shr kd a b)) H {})
      | op => if kd = kd' then intOpK o g op kd a b H k else bad o g H k
    | _ => bad o g H k
  | .str a =>
    match y with
    | .str b => strOpK o g op a b H k
    | _ => bad o g H k
  | x =>
    match op with
    | .eql => eqK o nd d g false x y H k
    | .neq => eqK o nd d g true x y H k
    | _ => bad o g H k

def unK (o : Ops U) (g : Option Bool) (op : UnOp) (x : AV U) (H : Heap U) (k : Kont U R) : Option R :=
  match op, x with
  | .not, .bool b => k (.bool (o.bnot b)) H {}
  | .neg, .int kd n => k (.int kd (o.sub kd 0 n)) H {}
  | _, _ => bad o g H k

def pickK (o : Ops U) (g : Option Bool) (c a b : AV U) (H : Heap U) (k : Kont U R) : Option R :=
  match c, a, b with
  | .bool c, .bool a, .bool b => k (.bool (o.bsel c a b)) H {}
  | .bool c, .int kd a, .int kd' b => if kd = kd' then k (.int kd (o.isel c a b)) H {} else bad o g H k
  | _, _, _ => bad o g H k

/-- The cells behind an address: of an object, of memory that stays, of a row's element. -/
def cellsAt (o : Ops U) (T : Tab U) (H : Heap U) : AV U → Option (List (AV U) × Nat × Foot)
  | .ptr id off => match H[id]? with
    | some (.cells cs) => some (cs, off, { rd := [id] })
    | _ => none
  | .fptr cs off => some (cs, off, {})
  | .aptr id ver i off => match H[id]? with
    | some (.arr c L ver' _) => if ver' = ver then some (cellsOf T c (o.get c L i), off, { rd := [id] }) else none
    | _ => none
  | _ => none

def loadK (e : Env U) (g : Option Bool) (t : TypeId) (a : AV U) (H : Heap U) (k : Kont U R) : Option R :=
  match cellsAt e.o e.T H a with
  | some (cs, off, ft) => match part? e.P t cs off with
    | some v => k v H ft
    | none => badAt e.o g { rd := adrs a } H k
  | none => badAt e.o g { rd := adrs a } H k

/-- A value out of an element's cells. -/
def ofCellsTo (T : Tab U) (c : Cd) (cs : List (AV U)) : Option (den U c) :=
  match c with
  | .st t => T.of t cs
  | c => match cs with
    | [v] => v.to T c
    | _ => none

def storeK (e : Env U) (t : TypeId) (a v : AV U) (s : St U) (k : Kont U R) : Option R :=
  if v.cells.length = e.P.cellsOf t ∧ e.P.cellsOf t ≠ 0 ∧ v.okv then
    match a with
    | .ptr id off =>
      match s.heap[id]? with
      | some (.cells cs) =>
        if mayAll s id off v.cells.length then
          match putCells cs off v.cells with
          | some cs' => k (.tuple []) (s.heap.set id (.cells cs')) { wr := [id] }
          | none => none
        else none
      | _ => none
    | .aptr id ver i off =>
      match purify s.heap v with
      | none => none
      | some (v', H1, ids) =>
        match H1[id]? with
        | some (.arr c L ver' true) =>
          if ver' = ver ∧ s.may id 0 ∧ ids.all (fun j => s.may j 0) then
            match putCells (cellsOf e.T c (e.o.get c L i)) off v'.cells with
            | some cs' => match ofCellsTo e.T c cs' with
              | some x => k (.tuple []) (H1.set id (.arr c (e.o.set c L i x) ver true)) { rd := sls v, wr := id :: ids }
              | none => none
            | none => none
          else none
        | _ => none
    | _ => none
  else none

/-- A new object: its number is the heap's length; or the place that a region has kept for it. -/
def newK (sl : Option Nat) (ob : Obj U) (v : Nat → AV U) (H : Heap U) (k : Kont U R) : Option R :=
  match sl with
  | none => k (v H.length) (H ++ [ob]) { al := true }
  | some id => match H[id]? with
    | some .hole => k (v id) (H.set id ob) { wr := [id] }
    | _ => none

def Foot.or (f g : Foot) : Foot := { rd := f.rd ++ g.rd, wr := f.wr ++ g.wr, al := f.al || g.al, all := f.all || g.all }

/-- A type's zero value, cell by cell. -/
def zeroOf (P : Program) (t : TypeId) : Option (List (AV U)) :=
  match (P.info? t).bind (·.zero) with
  | some z => if z.cells.toList.all (·.oneCell') then some (ofCells z) else none
  | none => none

def allocK (e : Env U) (sl : Option Nat) (t : TypeId) (H : Heap U) (k : Kont U R) : Option R :=
  match zeroOf e.P t with
  | some z => newK sl (.cells z) (fun id => .ptr id 0) H k
  | none => none

def boxK (e : Env U) (sl : Option Nat) (v : AV U) (H : Heap U) (k : Kont U R) : Option R :=
  if v.okv then newK sl (.cells v.cells) (fun id => .ptr id 0) H k else none

/-- Where the parts of a type lie. -/
def placesOf (P : Program) (t : TypeId) : Option (Nat → Option (Nat × Nat)) :=
  match P.underlying t with
  | some (.array _ el) => (P.info? el).map fun ie => fun i => some (i * ie.size, ie.size)
  | some (.struct fields) => (fields.toList.mapM fun f => (P.info? f.type).map fun i => (f.offset, i.size)).map fun places => (places.toArray[·]?)
  | _ => none

def buildK (e : Env U) (g : Option Bool) (t : TypeId) (parts : List (Nat × AV U)) (H : Heap U) (k : Kont U R) : Option R :=
  match zeroOf e.P t, placesOf e.P t with
  | some z, some pl =>
    if parts.all (fun p => p.2.okv) then
      match fillA pl z parts with
      | some cs => k (.agg cs) H {}
      | none => bad e.o g H k
    else bad e.o g H k
  | _, _ => bad e.o g H k

/-- The elements of a slice that is written out. -/
def elemsA (T : Tab U) (c : Cd) : List (AV U) → Heap U → Option (List (den U c) × Heap U × List Nat)
  | [], H => some ([], H, [])
  | v :: vs, H =>
    match purify H v with
    | none => none
    | some (v', H1, ids) =>
      match v'.to T c with
      | none => none
      | some x =>
        match elemsA T c vs H1 with
        | none => none
        | some (xs, H', ids') => some (x :: xs, H', ids ++ ids')

def mays (s : St U) (ids : List Nat) : Bool := ids.all fun j => s.may j 0

def elemCd (e : Env U) (t : TypeId) : Option (TypeId × Cd) :=
  match e.P.underlying t with
  | some (.slice el) => (e.T.cd el).map fun c => (el, c)
  | _ => none

def buildSliceK (e : Env U) (t : TypeId) (n : Nat) (parts : List (Nat × AV U)) (s : St U) (k : Kont U R) : Option R :=
  match elemCd e t with
  | none => none
  | some (el, c) =>
    if n = 0 ∧ parts.isEmpty then k (.fsl c [] .empty) s.heap {} else
    if n * c.size e.T > 2 ^ 20 ∨ parts.map (·.1) ≠ List.range n ∨ (zeroOf (U := U) e.P el).isNone then none else
    match elemsA e.T c (parts.map (·.2)) s.heap with
    | none => none
    | some (xs, H, ids) => if mays s ids then k (.fsl c xs .tight) H { rd := slsL (parts.map (·.2)), wr := ids } else none

def zeroAt (e : Env U) (el : TypeId) (c : Cd) : Option (den U c) :=
  match zeroOf e.P el with
  | some z => ofCellsTo e.T c z
  | none => none

def sameOpd : Operand → Operand → Bool
  | .tmp a, .tmp b => a == b
  | .const (.int k a), .const (.int k' b) => decide (k = k') && a == b
  | _, _ => false

def makeSliceK (e : Env U) (sl : Option Nat) (plain : Bool) (t : TypeId) (same : Bool) (n : AV U) (H : Heap U) (k : Kont U R) : Option R :=
  match elemCd e t, n with
  | some (el, c), .int .i64 n =>
    match zeroAt e el c with
    | none => none
    | some z =>
      if same then
        chk e.o none (e.o.mfit (e.P.bytesOf el) n)
          (if plain then k (.fsl c (e.o.rep c n z) .tight) H {} else newK sl (.arr c (e.o.rep c n z) 0 true) (fun id => .sl id 0) H k)
      else none
  | _, _ => none

/-- What is appended, as a list. -/
def listOf (c : Cd) (H : Heap U) : AV U → Option (List (den U c) × List Nat)
  | .sl id ver => match H[id]? with
    | some (.arr c' L ver' _) => if ver' = ver then (if h : c' = c then some (h ▸ L, [id]) else none) else none
    | _ => none
  | v => (toSl c v).map fun L => (L, [])

def isSliceD : Option TypeDesc → Bool
  | some (.slice _) => true
  | _ => false

def appendK (e : Env U) (sl : Option Nat) (st xt : TypeId) (s x : AV U) (S : St U) (k : Kont U R) : Option R :=
  match elemCd e st with
  | none => none
  | some (el, c) =>
    if !isSliceD (e.P.underlying xt) || (zeroOf (U := U) e.P el).map List.length != some (c.size e.T) then none else
    match listOf c S.heap x with
    | none => none
    | some (ys, rd) =>
      match s with
      | .nilsl => chk e.o none (e.o.fits (e.P.bytesOf el) 0 (e.o.len c ys)) (newK sl (.arr c ys 0 true) (fun id => .sl id 0) S.heap fun v H ft => k v H (ft.or { rd }))
      | .fsl c' L .empty =>
        if h : c' = c then
          chk e.o none (e.o.fits (e.P.bytesOf el) 0 (e.o.len c ys)) (newK sl (.arr c (e.o.app c (h ▸ L) ys) 0 true) (fun id => .sl id 0) S.heap fun v H ft => k v H (ft.or { rd }))
        else none
      | .fsl c' L .tight =>
        if h : c' = c then
          chk e.o none (e.o.fits (e.P.bytesOf el) (e.o.len c (h ▸ L)) (e.o.len c ys))
            (newK sl (.arr c (e.o.app c (h ▸ L) ys) 0 false) (fun id => .sl id 0) S.heap fun v H ft => k v H (ft.or { rd }))
        else none
      | .sl id ver =>
        match S.heap[id]? with
        | some (.arr c' L ver' w) =>
          if h : c' = c then
            if ver' = ver ∧ S.may id 0 then
              chk e.o none (e.o.fits (e.P.bytesOf el) (e.o.len c (h ▸ L)) (e.o.len c ys))
                (k (.sl id (ver + 1)) (S.heap.set id (.arr c (e.o.app c (h ▸ L) ys) (ver + 1) w)) { rd, wr := [id] })
            else none
          else none
        | _ => none
      | _ => none

def lenK (o : Ops U) (d : Option TypeDesc) (g : Option Bool) (x : AV U) (H : Heap U) (k : Kont U R) : Option R :=
  match d with
  | some (.slice _) =>
    match x with
    | .nilsl => k (.int .i64 0) H {}
    | .fsl c L _ => k (.int .i64 (o.len c L)) H {}
    | .sl id ver => match H[id]? with
      | some (.arr c L ver' _) => if ver' = ver then k (.int .i64 (o.len c L)) H { rd := [id] } else badAt o g { rd := [id] } H k
      | _ => badAt o g { rd := [id] } H k
    | _ => bad o g H k
  | some .string =>
    match x with
    | .str s => k (.int .i64 (o.slen s)) H {}
    | _ => bad o g H k
  | _ => bad o g H k

def minmaxK (o : Ops U) (g : Option Bool) (mx : Bool) (xs : List (AV U)) (H : Heap U) (k : Kont U R) : Option R :=
  match xs with
  | [.int kd a, .int kd' b] => if kd = kd' then k (.int kd (if mx then o.imax a b else o.imin a b)) H {} else bad o g H k
  | [.int kd a, .int kd' b, .int kd2 c] => if kd = kd' ∧ kd = kd2 then k (.int kd (if mx then o.imax (o.imax a b) c else o.imin (o.imin a b) c)) H {} else bad o g H k
  | _ => bad o g H k

/-- The address of one of an array's elements, whichever it is. -/
def arrayAtK (o : Ops U) (id off size : Nat) (i : Int) (H : Heap U) (k : Kont U R) : Nat → Option R
  | 0 => none
  | n + 1 => o.ite (o.eq i n) (k (.ptr id (off + n * size)) H {}) (arrayAtK o id off size i H k n)

def indexAddrK (e : Env U) (g : Option Bool) (t : TypeId) (x i : AV U) (H : Heap U) (k : Kont U R) : Option R :=
  match e.P.underlying t with
  | some (.slice el) =>
    match x, i with
    | .fsl c L _, .int _ i =>
      if e.T.cd el = some c then
        chk e.o g (e.o.band (e.o.le 0 i) (e.o.lt i (e.o.len c L))) (k (.fptr (cellsOf e.T c (e.o.get c L i)) 0) H {})
      else bad e.o g H k
    | .sl id ver, .int _ i =>
      match H[id]? with
      | some (.arr c L ver' _) =>
        if ver' = ver ∧ e.T.cd el = some c then chk e.o g (e.o.band (e.o.le 0 i) (e.o.lt i (e.o.len c L))) (k (.aptr id ver i 0) H { rd := [id] }) else badAt e.o g { rd := [id] } H k
      | _ => badAt e.o g { rd := [id] } H k
    | _, _ => bad e.o g H k
  | some (.array n el) =>
    match x, i with
    | .ptr id off, .int _ i =>
      match g with
      | none => if 2 ≤ n ∧ n ≤ 16 ∧ e.P.cellsOf el ≠ 0 then arrayAtK e.o id off (e.P.cellsOf el) i H k n else none
      | some _ => bad e.o g H k
    | _, _ => bad e.o g H k
  | _ => bad e.o g H k

def indexK (e : Env U) (g : Option Bool) (t : TypeId) (x i : AV U) (H : Heap U) (k : Kont U R) : Option R :=
  match e.P.underlying t, x, i with
  | some .string, .str s, .int _ i => chk e.o g (e.o.band (e.o.le 0 i) (e.o.lt i (e.o.slen s))) (k (.int .u8 (e.o.sget s i)) H {})
  | _, _, _ => bad e.o g H k

def fieldAddrK (o : Ops U) (P : Program) (g : Option Bool) (t : TypeId) (x : AV U) (f : Nat) (H : Heap U) (k : Kont U R) : Option R :=
  match P.underlying t with
  | some (.struct fields) =>
    match fields[f]? with
    | some fd =>
      if P.cellsOf fd.type = 0 then bad o g H k else
      match x with
      | .ptr id off => k (.ptr id (off + fd.offset)) H {}
      | .fptr cs off => k (.fptr cs (off + fd.offset)) H {}
      | .aptr id ver i off => k (.aptr id ver i (off + fd.offset)) H {}
      | _ => bad o g H k
    | none => bad o g H k
  | _ => bad o g H k

def fieldK (o : Ops U) (P : Program) (g : Option Bool) (t : TypeId) (x : AV U) (f : Nat) (H : Heap U) (k : Kont U R) : Option R :=
  match P.underlying t, x with
  | some (.struct fields), .agg cs =>
    match fields[f]? with
    | some fd => match part? P fd.type cs fd.offset with
      | some v => k v H {}
      | none => bad o g H k
    | none => bad o g H k
  | _, _ => bad o g H k

/-- A bound: none is the default. -/
def bound (d : Int) : Option (AV U) → Option Int
  | none => some d
  | some (.int _ i) => some i
  | _ => none

/-- A slice of a text. -/
def sliceStrK (o : Ops U) (g : Option Bool) (w : ByteArray) (lo hi mx : Option (AV U)) (H : Heap U) (k : Kont U R) : Option R :=
  match bound 0 lo, bound (o.slen w) hi, mx with
  | some l, some h, none => chk o g (o.band (o.le 0 l) (o.band (o.le l h) (o.le h (o.slen w)))) (k (.str (o.ssub w l h)) H {})
  | _, _, _ => bad o g H k

def sliceNilK (o : Ops U) (g : Option Bool) (lo hi mx : Option (AV U)) (H : Heap U) (k : Kont U R) : Option R :=
  match bound 0 lo, bound 0 hi, mx with
  | some l, some h, none => chk o g (o.band (o.eq l 0) (o.eq h 0)) (k .nilsl H {})
  | _, _, _ => bad o g H k

/-- A slice of a slice that stays: with a capacity it is tight. -/
def sliceFslK (o : Ops U) (g : Option Bool) (c : Cd) (L : List (den U c)) (sp : Sp) (lo hi mx : Option (AV U)) (H : Heap U) (ft : Foot) (k : Kont U R) : Option R :=
  match mx with
  | none =>
    match bound 0 lo, bound (o.len c L) hi with
    | some l, some h => chk o g (o.band (o.le 0 l) (o.band (o.le l h) (o.le h (o.len c L))))
        (k (.fsl c (o.cut c L l h) (match hi, sp with | none, .tight => .tight | _, _ => .unk)) H ft)
    | _, _ => bad o g H k
  | some m =>
    match bound 0 lo, (hi.bind fun h => bound 0 (some h)), bound 0 (some m) with
    | some l, some h, some m => chk o g (o.band (o.le 0 l) (o.band (o.le l h) (o.band (o.eq h m) (o.le h (o.len c L)))))
        (k (.fsl c (o.cut c L l h) .tight) H ft)
    | _, _, _ => bad o g H k

/-- A slice of a row: a part of it by itself (the row is that from now on; not its end alone only where it may be written); else what it holds, as it stays. -/
def sliceSlK (o : Ops U) (plain may : Bool) (id ver : Nat) (c : Cd) (L : List (den U c)) (w : Bool) (lo hi mx : Option (AV U)) (H : Heap U) (k : Kont U R) : Option R :=
  if plain ∨ (hi.isSome ∧ w = false) ∨ mx.isSome then
    if may ∨ w = false then
      sliceFslK o none c L .unk lo hi mx (if w then H.set id (.arr c L ver false) else H) (if w then { wr := [id] } else { rd := [id] }) k
    else none
  else if may then
    match bound 0 lo, bound (o.len c L) hi with
    | some l, some h => chk o none (o.band (o.le 0 l) (o.band (o.le l h) (o.le h (o.len c L)))) (k (.sl id (ver + 1)) (H.set id (.arr c (o.cut c L l h) (ver + 1) w)) { wr := [id] })
    | _, _ => none
  else none

def sliceK (e : Env U) (g : Option Bool) (plain : Bool) (t : TypeId) (x : AV U) (lo hi mx : Option (AV U)) (s : St U) (k : Kont U R) : Option R :=
  match e.P.underlying t with
  | some .string =>
    match x with
    | .str w => sliceStrK e.o g w lo hi mx s.heap k
    | _ => bad e.o g s.heap k
  | some (.slice el) =>
    match x with
    | .nilsl => if (e.T.cd el).isSome then sliceNilK e.o g lo hi mx s.heap k else bad e.o g s.heap k
    | .fsl c L sp => if e.T.cd el = some c then sliceFslK e.o g c L sp lo hi mx s.heap {} k else bad e.o g s.heap k
    | .sl id ver =>
      match g with
      | some _ => bad e.o g s.heap k
      | none =>
        match s.heap[id]? with
        | some (.arr c L ver' w) => if ver' = ver ∧ e.T.cd el = some c then sliceSlK e.o plain (s.may id 0) id ver c L w lo hi mx s.heap k else none
        | _ => none
    | _ => bad e.o g s.heap k
  | _ => bad e.o g s.heap k

def convK (e : Env U) (g : Option Bool) (src dst : TypeId) (x : AV U) (H : Heap U) (k : Kont U R) : Option R :=
  match e.P.underlying src, e.P.underlying dst, x with
  | some (.int _), some (.int kd), .int _ n => k (.int kd (e.o.conv kd n)) H {}
  | some .string, some .string, .str s => k (.str s) H {}
  | _, _, _ => bad e.o g H k

def mapTy (e : Env U) (t : TypeId) : Option (Cd × Cd) :=
  match e.P.underlying t with
  | some (.map kt vt) =>
    match e.P.underlying kt, e.T.cd vt with
    | some (.int kd), some vc => some (.int kd, vc)
    | some .string, some vc => some (.str, vc)
    | _, _ => none
  | _ => none

/-- A map's zero value. -/
def zeroFor (e : Env U) (t : TypeId) (vc : Cd) : Option (den U vc) :=
  match e.P.underlying t with
  | some (.map _ vt) =>
    match (e.P.info? vt).bind (·.zero) with
    | some (.agg cs) => if cs.toList.all (·.oneCell') then (AV.agg (cs.toList.map ofValue)).to e.T vc else none
    | some z => (ofValue z).to e.T vc
    | none => none
  | _ => none

def lookupK (e : Env U) (g : Option Bool) (t : TypeId) (m key : AV U) (ok : Bool) (H : Heap U) (k : Kont U R) : Option R :=
  match mapTy e t, m with
  | some (kc, vc), .map id =>
    match H[id]? with
    | some (.mp kc' vc' M) =>
      if h : kc' = kc ∧ vc' = vc then
        match key.to e.T kc, zeroFor e t vc with
        | some x, some z =>
          let M' : List (den U kc × den U vc) := h.1 ▸ h.2 ▸ M
          let v := AV.of e.T vc (e.o.mget kc vc M' x z)
          k (if ok then .tuple [v, .bool (e.o.mhas kc vc M' x)] else v) H { rd := [id] }
        | _, _ => badAt e.o g { rd := [id] } H k
      else badAt e.o g { rd := [id] } H k
    | _ => badAt e.o g { rd := [id] } H k
  | _, _ => bad e.o g H k

def mapUpdateK (e : Env U) (t : TypeId) (m key v : AV U) (s : St U) (k : Kont U R) : Option R :=
  match mapTy e t, m with
  | some (kc, vc), .map id =>
    match purify s.heap v with
    | none => none
    | some (v', H1, ids) =>
      match H1[id]? with
      | some (.mp kc' vc' M) =>
        if h : kc' = kc ∧ vc' = vc then
          if s.may id 0 ∧ mays s ids then
            match key.to e.T kc, v'.to e.T vc with
            | some x, some y => k (.tuple []) (H1.set id (.mp kc vc (e.o.mset kc vc (h.1 ▸ h.2 ▸ M) x y))) { rd := sls v, wr := id :: ids }
            | _, _ => none
          else none
        else none
      | _ => none
  | _, _ => none

def makeMapK (e : Env U) (sl : Option Nat) (t : TypeId) (H : Heap U) (k : Kont U R) : Option R :=
  match mapTy e t with
  | some (kc, vc) => newK sl (.mp kc vc []) (fun id => .map id) H k
  | none => none

/-- The codes of arguments: by their types; a function that captures nothing by itself. -/
def codesFor (T : Tab U) : List TypeId → List (AV U) → Option (List Cd)
  | [], [] => some []
  | t :: ts, v :: vs =>
    match (match T.cd t with
      | some c => some c
      | none => match v with
        | .func (.func f) [] [] => some (.fnc f)
        | _ => none), codesFor T ts vs with
    | some c, some cs => some (c :: cs)
    | _, _ => none
  | _, _ => none

def Cd.flat : Cd → Bool
  | .int _ => true
  | .bool => true
  | .str => true
  | _ => false

/-- A call whose callee is known by what it computes. Where numbers, bools, texts alone come back, what went in stays the call's own. -/
def compAV (v : AV U) (i : Nat) : Option (AV U) := match v with
  | .tuple vs => vs[i]?
  | v => if i = 0 then some v else none

def setAV (v : AV U) (i : Nat) (x : AV U) : AV U := match v with
  | .tuple vs => .tuple (vs.set i x)
  | _ => x

/-- A slice that came from a call with the room behind it: a row of one's own. -/
def ownK (sl : Option Nat) (i : Nat) (v : AV U) (H : Heap U) (k : Kont U R) : Option R :=
  match compAV v i with
  | some (.fsl c L _) => newK sl (.arr c L 0 false) (fun id => setAV v i (.sl id 0)) H k
  | _ => none

def pcallK (e : Env U) (sl : Option Nat) (g : Option Bool) (f : FuncId) (args : List (AV U)) (s : St U) (k : Kont U R) : Option R :=
  match e.P.funcs[f]? with
  | none => none
  | some fn =>
    if fn.body.isNone then none else
    match codesFor e.T fn.params.toList args, (match e.ann.rc f with | some rc => some rc | none => cdl e.T fn.resultTypes.toList) with
    | some pc, some rc =>
      match typed e.T pc args s.heap with
      | none => badAt e.o g { rd := slsL args } s.heap k
      | some (xs, H, ids) =>
        if rc.all Cd.flat then
          match g with
          | none => e.o.bind (e.o.call f xs rc) fun r => k (AV.ofHL e.T rc r) s.heap { rd := slsL args }
          | some b => e.o.bind (e.o.gcall b f xs rc) fun r => k (AV.ofHL e.T rc r) s.heap { rd := slsL args }
        else if mays s ids then
          match e.ann.slo f with
          | some i => (match g with
            | none => e.o.bind (e.o.call f xs rc) fun r => ownK sl i (AV.ofHL e.T rc r) H fun v H' ft => k v H' { rd := slsL args, wr := ids ++ ft.wr, al := ft.al }
            | some _ => none)
          | none => match g with
          | none => e.o.bind (e.o.call f xs rc) fun r => k (AV.ofHL e.T rc r) H { rd := slsL args, wr := ids }
          | some b => if ids.isEmpty then e.o.bind (e.o.gcall b f xs rc) fun r => k (AV.ofHL e.T rc r) s.heap { rd := slsL args } else none
        else none
    | _, _ => none

/-- How a call that is entered goes on. -/
abbrev Inl (U : Nat → Type) (R : Type) := FuncId → List (AV U) → St U → (AV U → Heap U → Option R) → Option R

/-- Is it an operation that turns the heap (then it is entered, under a guard, by parting the ways)? -/
def turns (e : Env U) (fid : FuncId) : Op → Bool
  | .store .. | .alloc .. | .box .. | .makeSlice .. | .makeMap .. | .mapUpdate .. | .buildSlice .. => true
  | .call { callee := .builtin .append, .. } => true
  | .call { callee := .value (.func f), .. } => e.ann.inl fid f || (e.ann.slo f).isSome
  | .call { callee := .value _, .. } => true
  | _ => false

def nilCheckK (o : Ops U) (g : Option Bool) (v : AV U) (H : Heap U) (k : Kont U R) : Option R :=
  match v with
  | .ptr id off => k (.ptr id off) H {}
  | .aptr id ver i off => k (.aptr id ver i off) H {}
  | .fptr cs off => k (.fptr cs off) H {}
  | .func fn a b => match fn with
    | .func f => k (.func (.func f) a b) H {}
    | _ => bad o g H k
  | _ => bad o g H k

def extractK (o : Ops U) (g : Option Bool) (v : AV U) (i : Nat) (H : Heap U) (k : Kont U R) : Option R :=
  match v with
  | .tuple vs => match vs[i]? with
    | some x => k x H {}
    | none => bad o g H k
  | _ => bad o g H k

/-- A builtin that is called. -/
def builtinK (e : Env U) (g : Option Bool) (sl : Option Nat) (b : Builtin) (ts : List TypeId) (xs : List (AV U)) (s : St U) (k : Kont U R) : Option R :=
  match b, ts, xs with
  | .len, t :: _, [x] => lenK e.o (e.P.underlying t) g x s.heap k
  | .append, [t, t'], [x, y] => appendK e sl t t' x y s k
  | .max, _, xs => minmaxK e.o g true xs s.heap k
  | .min, _, xs => minmaxK e.o g false xs s.heap k
  | _, _, _ => bad e.o g s.heap k

/-- A function that is called. -/
def callK (e : Env U) (inl : Inl U R) (dr : Bool) (fid : FuncId) (sl : Option Nat) (g : Option Bool) (f : AV U) (args : List (AV U)) (s : St U) (k : Kont U R) : Option R :=
  match f with
  | .func (.func f) first captured =>
    let as := first ++ args ++ captured
    if e.ann.inl fid f then (if dr then none else match g with | none => inl f as s fun r H' => k r H' { all := true } | some _ => none) else pcallK e sl g f as s k
  | _ => bad e.o g s.heap k

def opK (e : Env U) (inl : Inl U R) (dr : Bool) (fid : FuncId) (ops : Array Oper) (ch : List (Nat × Bool)) (g : Option Bool) (sl : Option Nat) (o : Oper) (s : St U) (k : Kont U R) : Option R :=
  let v := opd s.tmps ch
  let H := s.heap
  match o.op with
  | .move x => k (v x) H {}
  | .assign x => k (v x) H {}
  | .pick c a b =>
    match c with
    | .tmp tc =>
      match ops.findIdx? (fun o => o.dst == some tc) with
      | some j => pickK e.o g (v c) (opd s.tmps ((j, true) :: ch) a) (opd s.tmps ((j, false) :: ch) b) H k
      | none => bad e.o g H k
    | _ => bad e.o g H k
  | .alloc t => allocK e sl t H k
  | .box _ x => boxK e sl (v x) H k
  | .build t parts => buildK e g t (parts.toList.map fun p => (p.1, v p.2)) H k
  | .buildSlice t n parts => buildSliceK e t n (parts.toList.map fun p => (p.1, v p.2)) s k
  | .load t a => loadK e g t (v a) H k
  | .store t a x => storeK e t (v a) (v x) s k
  | .nilCheck x => nilCheckK e.o g (v x) H k
  | .binOp op t x y _ => binK e.o (!dr) (e.P.underlying t) g op (v x) (v y) H k
  | .unOp op _ x => unK e.o g op (v x) H k
  | .convert src dst x => convK e g src dst (v x) H k
  | .makeFunc fn first captured => k (.func fn (first.toList.map v) (captured.toList.map v)) H {}
  | .makeMap t none => makeMapK e sl t H k
  | .makeSlice t l c => makeSliceK e sl (match o.dst with | some d => e.ann.plain fid d | none => false) t (sameOpd l c) (v l) H k
  | .slice t x lo hi mx => sliceK e g (match o.dst with | some d => e.ann.plain fid d | none => false) t (v x) (lo.map v) (hi.map v) (mx.map v) s k
  | .fieldAddr t x f => fieldAddrK e.o e.P g t (v x) f H k
  | .field t x f => fieldK e.o e.P g t (v x) f H k
  | .indexAddr t x i => indexAddrK e g t (v x) (v i) H k
  | .index t x i => indexK e g t (v x) (v i) H k
  | .lookup t m key ok => lookupK e g t (v m) (v key) ok H k
  | .mapUpdate t m key x => mapUpdateK e t (v m) (v key) (v x) s k
  | .extract t i => extractK e.o g (v t) i H k
  | .call { callee := .builtin b, args := args, argTypes := ts } => builtinK e g sl b ts.toList (args.toList.map v) s k
  | .call { callee := .value f, args := args, .. } => callK e inl dr fid sl g (v f) (args.toList.map v) s k
  | _ => none

/-- The truth of a chain of guards. -/
def gOf (o : Ops U) (ops : Array Oper) (tmps : List (AV U)) : List (Nat × Bool) → Option Bool
  | [] => none
  | (j, w) :: rest =>
    let lit : Bool := match ((ops[j]?).bind (·.dst)).map (fun d => tmps.getD d .top) with
      | some (.bool b) => if w then b else o.bnot b
      | some (.when _ (.bool b)) => if w then b else o.bnot b
      | _ => false
    match rest with
    | [] => some lit
    | _ => match gOf o ops tmps rest with
      | some r => some (o.band lit r)
      | none => none

/-- is each guard of a chain told? -/
def gTold (ops : Array Oper) (tmps : List (AV U)) (ch : List (Nat × Bool)) : Bool :=
  ch.all fun (j, _) => match ((ops[j]?).bind (·.dst)).map (fun d => tmps.getD d .top) with
    | some (.bool _) => true
    | some (.when c (.bool _)) => c == chainOf ops (ops.size + 1) j
    | _ => false

/-- A guard stands ahead, and is written once. -/
def guardsOk (ops : Array Oper) : Bool :=
  ops.toList.zipIdx.all fun (o, i) => match o.guard with
    | none => true
    | some (j, _) => decide (j < i) && (match (ops[j]?).bind (·.dst) with
      | some d => (ops.toList.filter fun o' => o'.dst == some d).length == 1
      | none => false)

def put (tmps : List (AV U)) (d : Option Tmp) (v : AV U) : List (AV U) :=
  match d with
  | some d => tmps.set d v
  | none => tmps

abbrev Log := List (Nat × Foot)

/-- may an operation make an object? -/
def makes (A : Ann) : Op → Bool
  | .alloc _ => true
  | .box _ _ => true
  | .makeSlice _ _ _ => true
  | .makeMap _ _ => true
  | .call { callee := .builtin .append, .. } => true
  | .call { callee := .value (.func f), .. } => (A.slo f).isSome
  | _ => false

/-- The place that a region that draws keeps for what an operation makes. -/
def slotOf (A : Ann) (ops : Array Oper) (b : Option Nat) (i : Nat) : Option Nat :=
  b.map fun n => n + ((ops.toList.take i).filter fun o => makes A o.op).length

/-- What stands for a value that was not made. -/
def dummyOf (P : Program) (t : TypeId) : AV U :=
  match P.underlying t with
  | some .bool => .bool false
  | some (.int k) => .int k 0
  | some .string => .str ⟨#[]⟩
  | _ => .top

/-- One operation of a region. -/
def stepK (e : Env U) (inl : Inl U R) (fid : FuncId) (b : Option Nat) (ops : Array Oper) (i : Nat) (s : St U) (k : St U → Foot → Option R) : Option R :=
  match ops[i]? with
  | none => none
  | some o =>
    let ch := chainOf ops (ops.size + 1) i
    match ch with
    | [] => opK e inl b.isSome fid ops [] none (slotOf e.ann ops b i) o s fun v H ft => k { s with tmps := put s.tmps o.dst v, heap := H } ft
    | _ =>
      if gTold ops s.tmps ch then
        match gOf e.o ops s.tmps ch with
        | none => none
        | some g =>
          if turns e fid o.op then
            e.o.ite g (opK e inl b.isSome fid ops ch none (slotOf e.ann ops b i) o s fun v H ft => k { s with tmps := put s.tmps o.dst (.when ch v), heap := H } ft)
              (k { s with tmps := put s.tmps o.dst (.when ch (dummyOf e.P o.type)) } {})
          else opK e inl b.isSome fid ops ch (some g) none o s fun v H ft => k { s with tmps := put s.tmps o.dst (.when ch v), heap := H } ft
      else none

def runK (e : Env U) (inl : Inl U R) (fid : FuncId) (b : Option Nat) (ops : Array Oper) : List Nat → St U → Log → (St U → Log → Option R) → Option R
  | [], s, lg, k => k s lg
  | i :: is, s, lg, k => stepK e inl fid b ops i s fun s' ft => runK e inl fid b ops is s' ((i, ft) :: lg) k

/-- Behind a region nothing is told of what a guard made. -/
def clean (ops : List Oper) (tmps : List (AV U)) : List (AV U) :=
  ops.foldl (fun ts o => match o.guard, o.dst with | some _, some d => ts.set d .top | _, _ => ts) tmps

def Foot.any (f : Foot) : Bool := !f.rd.isEmpty || !f.wr.isEmpty || f.al || f.all

def Foot.indep (f g : Foot) : Bool :=
  !(f.all && g.any) && !(g.all && f.any) && !(f.al && g.al) && f.wr.all (fun j => !(g.rd.contains j) && !(g.wr.contains j)) && g.wr.all (fun j => !(f.rd.contains j))

/-- The temporaries that an operation looks at. -/
def looks (ops : Array Oper) (i : Nat) : List Tmp :=
  (match ops[i]? with
    | some o => o.op.operands.toList.filterMap fun | .tmp t => some t | _ => none
    | none => []) ++ (chainOf ops (ops.size + 1) i).filterMap fun p => (ops[p.1]?).bind (·.dst)

def dstOf (ops : Array Oper) (i : Nat) : Option Tmp := (ops[i]?).bind (·.dst)

def apartOf (ops : Array Oper) (i j : Nat) : Bool :=
  (match dstOf ops i with
    | some d => !(looks ops j).contains d && dstOf ops j != some d
    | none => true) &&
  (match dstOf ops j with
    | some d => !(looks ops i).contains d
    | none => true)

/-- What has no order between it does not touch what the other does. -/
def okDraw (ops : Array Oper) (lg : Log) : Bool :=
  let b := Region.before ops
  lg.all fun (i, fi) => !fi.all && !fi.al && lg.all fun (j, fj) => !(decide (i < j)) || (b.getD j 0).testBit i || (fi.indep fj && apartOf ops i j)

/-- What stands ahead has a lower number. -/
def afterOk (ops : Array Oper) : Bool :=
  ops.toList.zipIdx.all fun (o, i) => (o.after.toList.all fun e => !Region.binds .any e || decide (e.on < i)) &&
    (match o.guard with
      | some (j, _) => o.after.toList.any fun e => e.on == j && Region.binds .any e
      | none => true)

def regionK (e : Env U) (inl : Inl U R) (fid : FuncId) (ops : Array Oper) (draw : Bool) (s : St U) (k : St U → Option R) : Option R :=
  if !guardsOk ops then none else
  if draw then
    if !afterOk ops then none else
    runK e inl fid (some s.heap.length) ops (List.range ops.size)
      { s with heap := s.heap ++ List.replicate ((ops.toList.filter fun o => makes e.ann o.op).length) .hole } [] fun s' lg =>
      if okDraw ops lg then k { s' with tmps := clean ops.toList s'.tmps } else none
  else
    runK e inl fid none ops (List.range ops.size) s [] fun s' _ => k { s' with tmps := clean ops.toList s'.tmps }

/-- The temporaries that are places of a loop. -/
def tmpsOf (ls : List (Loc × Mo)) : List Tmp := ls.filterMap fun | (.tmp t, _) => some t | _ => none

/-- The temporaries that a code writes, or a loop of it takes over. -/
def wrote (A : Ann) (f : FuncId) : Nat → Code → List Tmp
  | _, .region _ ops _ => ops.toList.filterMap (·.dst)
  | l, .seq a b => wrote A f l a ++ wrote A f l b
  | l, .cond _ a b => wrote A f l a ++ wrote A f l b
  | _, .block id c => tmpsOf ((A.join f id).getD []) ++ wrote A f id c
  | l, .loop c => tmpsOf (A.loop f l) ++ wrote A f l c
  | l, .scope c => wrote A f l c
  | l, .rangeFunc _ ps a b => ps.toList ++ wrote A f l a ++ wrote A f l b
  | _, _ => []

/-- The value at a place. -/
def Loc.look (s : St U) : Loc → Option (AV U)
  | .tmp t => s.tmps[t]?
  | .cell t off =>
    match s.tmps[t]? with
    | some (.ptr id o) => match s.heap[id]? with
      | some (.cells cs) => cs[o + off]?
      | _ => none
    | _ => none

/-- What a place holds, as data. -/
def Mo.read (T : Tab U) (H : Heap U) (v : AV U) : (m : Mo) → Option (den U m.code × List Nat)
  | .pure c => (v.to T c).map fun x => (x, [])
  | .asl e w =>
    match v with
    | .nilsl => some (([] : List (den U e)), [])
    | .fsl c L .empty => if h : c = e then some ((h ▸ L : List (den U e)), []) else none
    | .fsl c L .tight => if h : c = e then (if w then none else some ((h ▸ L : List (den U e)), [])) else none
    | .sl id ver => match H[id]? with
      | some (.arr c L ver' w') => if h : c = e then (if ver' = ver ∧ (w = false ∨ w' = true) then some ((h ▸ L : List (den U e)), [id]) else none) else none
      | _ => none
    | _ => none
  | .frz e =>
    match v with
    | .sl id ver => match H[id]? with
      | some (.arr c L ver' _) => if h : c = e then (if ver' = ver then some ((h ▸ L : List (den U e)), [id]) else none) else none
      | _ => none
    | v => (v.to T (.sl e)).map fun x => (x, [])
  | .mp k v' =>
    match v with
    | .map id => match H[id]? with
      | some (.mp kc vc M) => if h : kc = k ∧ vc = v' then some ((h.1 ▸ h.2 ▸ M : List (den U k × den U v')), [id]) else none
      | _ => none
    | _ => none

def readLocs (T : Tab U) (s : St U) : (ls : List (Loc × Mo)) → Option (HL U (ls.map (·.2.code)) × List Nat)
  | [] => some ((), [])
  | (l, m) :: ls =>
    match l.look s with
    | none => none
    | some v =>
      match m.read T s.heap v with
      | none => none
      | some (x, ids) =>
        match readLocs T s ls with
        | none => none
        | some (xs, ids') => some ((x, xs), ids ++ ids')

/-- Put a value at a place. -/
def Loc.put (s : St U) (l : Loc) (v : AV U) : St U :=
  match l with
  | .tmp t => { s with tmps := s.tmps.set t v }
  | .cell t off =>
    match s.tmps[t]? with
    | some (.ptr id o) => match s.heap[id]? with
      | some (.cells cs) => { s with heap := s.heap.set id (.cells (cs.set (o + off) v)) }
      | _ => s
    | _ => s

/-- The state at a loop's head: the places hold the data; a row of the call's own is a new object. -/
def putLocs (T : Tab U) : (ls : List (Loc × Mo)) → HL U (ls.map (·.2.code)) → St U → St U
  | [], _, s => s
  | (l, .pure c) :: ls, (x, xs), s => putLocs T ls xs (l.put s (AV.of T c x))
  | (l, .asl e w) :: ls, (x, xs), s =>
    let s1 : St U := { s with heap := s.heap ++ [.arr e x 0 w] }
    putLocs T ls xs (l.put s1 (.sl s.heap.length 0))
  | (l, .frz e) :: ls, (x, xs), s => putLocs T ls xs (l.put s (AV.of T (.sl e) x))
  | (l, .mp k v) :: ls, (x, xs), s =>
    let s1 : St U := { s with heap := s.heap ++ [.mp k v x] }
    putLocs T ls xs (l.put s1 (.map s.heap.length))

def mutOf (s : St U) : List (Loc × Mo) → Option (List (Nat × Nat))
  | [] => some []
  | (.tmp _, _) :: ls => mutOf s ls
  | (.cell t off, _) :: ls =>
    match s.tmps[t]? with
    | some (.ptr id o) => (mutOf s ls).map ((id, o + off) :: ·)
    | _ => none

/-- A loop's place for a pointer is not written in it. -/
def locsOk (w : List Tmp) (ls : List (Loc × Mo)) : Bool :=
  ls.all fun | (.cell t _, _) => !w.contains t | (.tmp t, _) => w.contains t

/-- What a loop leaves of the state that it meets: what it writes is not told any more; the rows that it takes over are gone. -/
def baseOf (w : List Tmp) (s : St U) (ids : List Nat) (mu : List (Nat × Nat)) : St U :=
  { tmps := s.tmps.mapIdx fun t v => if w.contains t then .top else v
    heap := s.heap.mapIdx fun id ob => if ids.contains id then .dead else match ob with
      | .cells cs => .cells (cs.mapIdx fun off v => if mu.contains (id, off) then .top else v)
      | ob => ob
    base := s.heap.length, mu }

/-- Does a way end at a block's end? -/
def meets (id : Nat) : AEx → Bool
  | .normal => true
  | .exit id' => decide (id' = id)
  | _ => false

def execK (e : Env U) (inl : Inl U R) (fid : FuncId) (lid : Nat) : Code → St U → (AEx → St U → Option R) → Option R
  | .skip, s, k => k .normal s
  | .label _, s, k => k .normal s
  | .region _ ops draw, s, k => regionK e inl fid ops draw s (k .normal)
  | .seq a b, s, k => execK e inl fid lid a s fun x s' => match x with
    | .normal => execK e inl fid lid b s' k
    | x => k x s'
  | .cond c a b, s, k => match opd s.tmps [] c with
    | .bool t => e.o.ite t (execK e inl fid lid a s k) (execK e inl fid lid b s k)
    | _ => none
  | .block id c, s, k =>
    match e.ann.join fid id with
    | none => execK e inl fid id c s fun x s' => match x with
      | .exit id' => if id' = id then k .normal s' else k (.exit id') s'
      | x => k x s'
    | some ls =>
      match readLocs e.T s ls, mutOf s ls with
      | some (xs, ids), some mu =>
        let w := wrote e.ann fid lid (.block id c)
        let s0 := baseOf w s ids mu
        if locsOk w ls ∧ ids.Nodup ∧ (ls.map (·.1)).Nodup ∧ (mu.all fun p => s.may p.1 p.2) ∧ (ids.all fun j => s.may j 0)
            ∧ (belowL s.heap.length s0.tmps) ∧ (s0.heap.all (Obj.lows s.heap.length)) then
          e.o.join (fun xs => k .normal { putLocs e.T ls xs s0 with base := s.base, mu := s.mu }) fun next =>
            execK e inl fid id c (putLocs e.T ls xs s0) fun x s' =>
              match meets id x with
              | true => match readLocs e.T s' ls with
                | some (xs', ids') => if ids'.Nodup ∧ ids'.all (fun j => decide (s.heap.length ≤ j)) then next xs' else none
                | none => none
              | false => k x { s' with base := s.base, mu := s.mu }
        else none
      | _, _ => none
  | .loop c, s, k =>
    let ls := e.ann.loop fid lid
    match readLocs e.T s ls, mutOf s ls with
    | some (xs, ids), some mu =>
      let s0 := baseOf (wrote e.ann fid lid (.loop c)) s ids mu
      if locsOk (wrote e.ann fid lid (.loop c)) ls ∧ ids.Nodup ∧ (ls.map (·.1)).Nodup ∧ (mu.all fun p => s.may p.1 p.2) ∧ (ids.all fun j => s.may j 0)
          ∧ (belowL s.heap.length s0.tmps) ∧ (s0.heap.all (Obj.lows s.heap.length)) then
        e.o.loop (fun next xs => execK e inl fid lid c (putLocs e.T ls xs s0) fun x s' => match x with
          | .normal => match readLocs e.T s' ls with
            | some (xs', ids') => if ids'.Nodup ∧ ids'.all (fun j => decide (s.heap.length ≤ j)) then next xs' else none
            | none => none
          | x => k x { s' with base := s.base, mu := s.mu }) xs
      else none
    | _, _ => none
  | .exit id, s, k => k (.exit id) s
  | .scope c, s, k => execK e inl fid lid c s fun x s' => match x with
    | .goto _ => none
    | x => k x s'
  | .ret, s, k => k .ret s
  | _, _, _ => none

def resA (e : Env U) (s : St U) : ResultVar → Option (AV U)
  | .tmp t => some (s.tmps.getD t .top)
  | .cell a t => match cellsAt e.o e.T s.heap (s.tmps.getD a .top) with
    | some (cs, off, _) => part? e.P t cs off
    | none => none

def resultsA (e : Env U) (fn : Func) (s : St U) : Option (List (AV U)) := fn.results.toList.mapM (resA e s)

def tupOf (vs : List (AV U)) : AV U :=
  match vs with
  | [v] => v
  | vs => .tuple vs

def enterK (e : Env U) (inl : Inl U R) (f : FuncId) (args : List (AV U)) (s : St U) (k : List (AV U) → Heap U → Option R) : Option R :=
  match e.P.funcs[f]? with
  | none => none
  | some fn =>
    match fn.body with
    | none => none
    | some c =>
      execK e inl f 0 c { s with tmps := args ++ List.replicate (fn.ntmps - args.length) .top } fun x s' =>
        match x with
        | .normal | .ret => match resultsA e fn s' with
          | some vs => k vs s'.heap
          | none => none
        | _ => none

def inlK (e : Env U) : Nat → Inl U R
  | 0 => fun _ _ _ _ => none
  | d + 1 => fun f args s k => enterK e (inlK e d) f args s fun vs H => k (tupOf vs) H

/-- Has the result that is given with its room such a room? -/
def ownOk (A : Ann) (f : FuncId) (rc : List Cd) (vs : List (AV U)) (H : Heap U) : Bool :=
  match A.slo f with
  | none => true
  | some i => match vs[i]? with
    | some (.sl id ver) => (match H[id]? with | some (.arr c _ ver' _) => ver' == ver && rc[i]? == some (.sl c) | _ => false)
    | some .nilsl => true
    | some (.fsl _ _ .tight) => true
    | some (.fsl _ _ .empty) => true
    | _ => false

/-- A function on plain data: what it computes. -/
def pure (e : Env U) (d : Nat) (f : FuncId) (args : List (Σ c, den U c)) (rc : List Cd) : Option (HL U rc) :=
  enterK e (inlK e d) f (args.map fun x => AV.of e.T x.1 x.2) { tmps := [], heap := [], base := 0, mu := [] } fun vs H => cond (ownOk e.ann f rc vs H) (typedHL e.T rc vs H) none

end
end Go.Ab

namespace Go.Ab

inductive Own where
  | free | frz | obj (id : Nat)
  deriving DecidableEq

/-- Which object a cell belongs to; where objects lie; the machine's own slice of a row. -/
structure Gh where
  own : Nat → Nat → Own
  blk : Nat → Option Nat
  sv : Nat → Nat → Option (Option Addr × Nat × Nat × Nat)

def spOk : Sp → Nat → Nat → Prop
  | .unk, _, _ => True
  | .tight, n, c => c = n
  | .empty, _, c => c = 0

section
variable {U : Nat → Type}

inductive VRel (T : Tab U) (γ : Gh) (w : World) : AV U → Value → Prop
  | top (v : Value) : VRel T γ w .top v
  | bool (b : Bool) : VRel T γ w (.bool b) (.bool b)
  | int (k : IntKind) (n : Int) : VRel T γ w (.int k n) (.int k n)
  | str (s : ByteArray) : VRel T γ w (.str s) (.string s)
  | ptr (id off b : Nat) (h : γ.blk id = some b) : VRel T γ w (.ptr id off) (.pointer (some ⟨b, off, none⟩))
  | fptr (cs : List (AV U)) (off b o0 : Nat) (vs : Nat → Value)
      (hc : ∀ (i : Nat) av, cs[i]? = some av → γ.own b (o0 + i) = .frz ∧ w.cell? ⟨b, o0 + i, none⟩ = some (vs i) ∧ (vs i).oneCell' = true)
      (hv : ∀ (i : Nat) av, cs[i]? = some av → VRel T γ w av (vs i)) : VRel T γ w (.fptr cs off) (.pointer (some ⟨b, o0 + off, none⟩))
  | aptr (id ver : Nat) (i : Int) (off b o0 len cap size : Nat) (h : γ.sv id ver = some (some ⟨b, o0, none⟩, len, cap, size))
      (h0 : 0 ≤ i) (h1 : i < len) : VRel T γ w (.aptr id ver i off) (.pointer (some ⟨b, o0 + i.toNat * size + off, none⟩))
  | nilptr : VRel T γ w .nilptr (.pointer none)
  | nilsl : VRel T γ w .nilsl (.slice none 0 0)
  | fsl (c : Cd) (L : List (den U c)) (sp : Sp) (base : Option Addr) (len cap : Nat) (vs : Nat → Nat → Value)
      (hl : len = L.length) (hcap : len ≤ cap) (hsp : spOk sp len cap) (hn : base = none → cap = 0) (hs : ∀ a, base = some a → a.spot = none)
      (hc : ∀ a, base = some a → ∀ (i : Nat) x, L[i]? = some x → ∀ (j : Nat) av, (cellsOf T c x)[j]? = some av →
        γ.own a.block (a.off + i * c.size T + j) = .frz ∧ w.cell? ⟨a.block, a.off + i * c.size T + j, none⟩ = some (vs i j) ∧ (vs i j).oneCell' = true)
      (hv : ∀ (i : Nat) x, L[i]? = some x → ∀ (j : Nat) av, (cellsOf T c x)[j]? = some av → VRel T γ w av (vs i j)) : VRel T γ w (.fsl c L sp) (.slice base len cap)
  | sl (id ver : Nat) (base : Option Addr) (len cap size : Nat) (h : γ.sv id ver = some (base, len, cap, size)) : VRel T γ w (.sl id ver) (.slice base len cap)
  | map (id b : Nat) (h : γ.blk id = some b) : VRel T γ w (.map id) (.map (some b))
  | func (fn : Fn) (f c : List (AV U)) (fs cs : Array Value) (hf : f.length = fs.size) (hc : c.length = cs.size)
      (vf : ∀ (i : Nat) av x, f[i]? = some av → fs[i]? = some x → VRel T γ w av x)
      (vc : ∀ (i : Nat) av x, c[i]? = some av → cs[i]? = some x → VRel T γ w av x) : VRel T γ w (.func fn f c) (.func fn fs cs)
  | agg (cs : List (AV U)) (vs : Array Value) (hl : cs.length = vs.size) (h1 : ∀ (i : Nat) x, vs[i]? = some x → x.oneCell' = true)
      (hv : ∀ (i : Nat) av x, cs[i]? = some av → vs[i]? = some x → VRel T γ w av x) : VRel T γ w (.agg cs) (.agg vs)
  | tuple (cs : List (AV U)) (vs : Array Value) (hl : cs.length = vs.size)
      (hv : ∀ (i : Nat) av x, cs[i]? = some av → vs[i]? = some x → VRel T γ w av x) : VRel T γ w (.tuple cs) (.tuple vs)

/-- An object in memory. -/
def ORel (T : Tab U) (γ : Gh) (w : World) (id : Nat) : Obj U → Prop
  | .cells cs => ∃ b, γ.blk id = some b ∧ ∀ (i : Nat) av, cs[i]? = some av →
      γ.own b i = .obj id ∧ w.frozen? ⟨b, i, none⟩ = false ∧ ∃ x, w.cell? ⟨b, i, none⟩ = some x ∧ x.oneCell' = true ∧ VRel T γ w av x
  | .arr c L ver wr => ∃ base cap, γ.sv id ver = some (base, L.length, cap, c.size T) ∧ L.length ≤ cap ∧ (base = none → cap = 0) ∧
      ∀ a, base = some a → a.spot = none ∧
        (∀ o, a.off + L.length * c.size T ≤ o → o < a.off + cap * c.size T →
          γ.own a.block o = .obj id ∧ w.frozen? ⟨a.block, o, none⟩ = false ∧ (w.cell? ⟨a.block, o, none⟩).isSome = true) ∧
        (∀ (i : Nat) x, L[i]? = some x → ∀ (j : Nat) av, (cellsOf T c x)[j]? = some av →
          (γ.own a.block (a.off + i * c.size T + j) = if wr then .obj id else .frz) ∧ (wr = true → w.frozen? ⟨a.block, a.off + i * c.size T + j, none⟩ = false) ∧
          ∃ v, w.cell? ⟨a.block, a.off + i * c.size T + j, none⟩ = some v ∧ v.oneCell' = true ∧ VRel T γ w av v)
  | .mp kc vc M => ∃ b es clock, γ.blk id = some b ∧ w.heap[b]? = some (.map es clock) ∧ γ.own b 0 = .obj id ∧ es.size = M.length ∧
      ∀ (i : Nat) k v en, M[i]? = some (k, v) → es[i]? = some en → VRel T γ w (AV.of T kc k) en.key ∧ VRel T γ w (AV.of T vc v) en.val
  | .dead => True
  | .hole => γ.blk id = none ∧ ∀ ver, γ.sv id ver = none

structure HRel (T : Tab U) (γ : Gh) (w : World) (H : Heap U) : Prop where
  size : ∀ b o, γ.own b o ≠ .free → b < w.heap.size
  blk : ∀ id, H.length ≤ id → γ.blk id = none
  sv : ∀ id ver, H.length ≤ id → γ.sv id ver = none
  ver : ∀ id c L ver wr, H[id]? = some (.arr c L ver wr) → ∀ v, ver < v → γ.sv id v = none
  objs : ∀ id ob, H[id]? = some ob → ORel T γ w id ob

/-- From one moment to a later one: what is told stays told; what is no one's, and what stays for good, is as it was. -/
structure Ext (γ : Gh) (w : World) (γ' : Gh) (w' : World) : Prop where
  blk : ∀ id b, γ.blk id = some b → γ'.blk id = some b
  sv : ∀ id ver x, γ.sv id ver = some x → γ'.sv id ver = some x
  frz : ∀ b o, γ.own b o = .frz → γ'.own b o = .frz ∧ w'.cell? ⟨b, o, none⟩ = w.cell? ⟨b, o, none⟩
  free : ∀ b o, b < w.heap.size → γ.own b o = .free → γ'.own b o = .free
  size : w.heap.size ≤ w'.heap.size
  os : w'.os = w.os
  tape : w'.tape = w.tape
  output : w'.output = w.output
  same : ∀ b, b < w.heap.size → (∀ o id, γ.own b o ≠ .obj id) → w'.heap[b]? = w.heap[b]?

theorem Ext.refl (γ : Gh) (w : World) : Ext γ w γ w :=
  ⟨fun _ _ h => h, fun _ _ _ h => h, fun _ _ h => ⟨h, rfl⟩, fun _ _ _ h => h, Nat.le_refl _, rfl, rfl, rfl, fun _ _ _ => rfl⟩

theorem Ext.trans {γ γ' γ'' : Gh} {w w' w'' : World} (h : Ext γ w γ' w') (k : Ext γ' w' γ'' w'') : Ext γ w γ'' w'' :=
  ⟨fun _ _ x => k.blk _ _ (h.blk _ _ x), fun _ _ _ x => k.sv _ _ _ (h.sv _ _ _ x),
   fun b o x => ⟨(k.frz b o (h.frz b o x).1).1, ((k.frz b o (h.frz b o x).1).2).trans (h.frz b o x).2⟩,
   fun b o hb x => k.free b o (Nat.lt_of_lt_of_le hb h.size) (h.free b o hb x), Nat.le_trans h.size k.size,
   k.os.trans h.os, k.tape.trans h.tape, k.output.trans h.output,
   fun b hb x => by
     have h1 := h.same b hb x
     rw [← h1]
     refine k.same b (Nat.lt_of_lt_of_le hb h.size) fun o id e => ?_
     cases hq : γ.own b o with
     | free => rw [h.free b o hb hq] at e; cases e
     | frz => rw [(h.frz b o hq).1] at e; cases e
     | obj j => exact x o j hq⟩

theorem VRel.mono {T : Tab U} {γ γ' : Gh} {w w' : World} {av : AV U} {v : Value} (h : VRel T γ w av v) (x : Ext γ w γ' w') : VRel T γ' w' av v := by
  induction h with
  | top v => exact .top v
  | bool b => exact .bool b
  | int k n => exact .int k n
  | str s => exact .str s
  | ptr id off b h => exact .ptr id off b (x.blk _ _ h)
  | fptr cs off b o0 vs hc _ ih =>
    exact .fptr cs off b o0 vs (fun i av hi => ⟨(x.frz _ _ (hc i av hi).1).1, ((x.frz _ _ (hc i av hi).1).2).trans (hc i av hi).2.1, (hc i av hi).2.2⟩) ih
  | aptr id ver i off b o0 len cap size h h0 h1 => exact .aptr id ver i off b o0 len cap size (x.sv _ _ _ h) h0 h1
  | nilptr => exact .nilptr
  | nilsl => exact .nilsl
  | fsl c L sp base len cap vs hl hcap hsp hn hs hc _ ih =>
    exact .fsl c L sp base len cap vs hl hcap hsp hn hs
      (fun a ha i y hy j av hj => ⟨(x.frz _ _ (hc a ha i y hy j av hj).1).1, ((x.frz _ _ (hc a ha i y hy j av hj).1).2).trans (hc a ha i y hy j av hj).2.1, (hc a ha i y hy j av hj).2.2⟩) ih
  | sl id ver base len cap size h => exact .sl id ver base len cap size (x.sv _ _ _ h)
  | map id b h => exact .map id b (x.blk _ _ h)
  | func fn f c fs cs hf hc _ _ ihf ihc => exact .func fn f c fs cs hf hc ihf ihc
  | agg cs vs hl h1 _ ih => exact .agg cs vs hl h1 ih
  | tuple cs vs hl _ ih => exact .tuple cs vs hl ih

/-- The laws of a table of structs. -/
inductive Wk : AV U → AV U → Prop
  | refl (v : AV U) : Wk v v
  | sl (c : Cd) (L : List (den U c)) (sp : Sp) : Wk (.fsl c L sp) (.fsl c L .unk)
  | nil (c : Cd) : Wk .nilsl (.fsl c [] .unk)

structure Tab.Ok (P : Program) (T : Tab U) : Prop where
  size : ∀ t x, (T.cells t x).length = T.sz t
  plain : ∀ t x av, av ∈ T.cells t x → av.plain = true
  weak : ∀ t cs x, T.of t cs = some x → cs.length = (T.cells t x).length ∧ ∀ (i : Nat) (av av' : AV U), cs[i]? = some av → (T.cells t x)[i]? = some av' → Wk av av'
  cd : ∀ t c, T.cd t = some c → (∃ i, P.info? t = some i ∧ i.size = c.size T) ∧ ∃ d, P.underlying t = some d ∧ isAggD d = (match c with | .st _ => true | _ => false)

theorem VRel.weak {T : Tab U} {γ : Gh} {w : World} {av av' : AV U} {v : Value} (k : Wk av av') (h : VRel T γ w av v) : VRel T γ w av' v := by
  cases k with
  | refl => exact h
  | sl c L sp =>
    cases h with
    | fsl c L sp base len cap vs hl hcap hsp hn hs hc hv => exact .fsl c L .unk base len cap vs hl hcap trivial hn hs hc hv
  | nil c =>
    cases h
    exact .fsl c [] .unk none 0 0 (fun _ _ => undef) rfl (Nat.le_refl _) trivial (fun _ => rfl) (fun a h => by cases h) (fun a h => by cases h) (fun i x h => by simp at h)

/-- Plain data hangs on the memory that stays alone. -/
theorem VRel.plain {T : Tab U} {γ γ' : Gh} {w w' : World} {av : AV U} {v : Value}
    (hp : av.plain = true ∨ ∃ cs, av = .agg cs ∧ ∀ x ∈ cs, x.plain = true)
    (hT : ∀ t x av, av ∈ T.cells t x → av.plain = true) (h : VRel T γ w av v)
    (x : ∀ b o, γ.own b o = .frz → γ'.own b o = .frz ∧ w'.cell? ⟨b, o, none⟩ = w.cell? ⟨b, o, none⟩) : VRel T γ' w' av v := by
  have key : ∀ c y, ∀ av ∈ cellsOf T c y, av.plain = true ∨ c = c ∧ (∃ f, c = .fnc f) := by
    intro c y av hav
    cases c with
    | st t => exact .inl (hT t y av hav)
    | fnc f => exact .inr ⟨rfl, f, rfl⟩
    | int k => simp [cellsOf, AV.of, AV.cells] at hav; subst hav; exact .inl rfl
    | bool => simp [cellsOf, AV.of, AV.cells] at hav; subst hav; exact .inl rfl
    | str => simp [cellsOf, AV.of, AV.cells] at hav; subst hav; exact .inl rfl
    | sl e => simp [cellsOf, AV.of, AV.cells] at hav; subst hav; exact .inl rfl
    | slt e => simp [cellsOf, AV.of, AV.cells] at hav; subst hav; exact .inl rfl
    | mapc k v => simp [cellsOf, AV.of, AV.cells] at hav
  induction h with
  | top v => rcases hp with h | ⟨_, h, _⟩ <;> cases h
  | bool b => exact .bool b
  | int k n => exact .int k n
  | str s => exact .str s
  | ptr id off b h => rcases hp with h | ⟨_, h, _⟩ <;> cases h
  | fptr cs off b o0 vs hc _ ih => rcases hp with h | ⟨_, h, _⟩ <;> cases h
  | aptr id ver i off b o0 len cap size h h0 h1 => rcases hp with h | ⟨_, h, _⟩ <;> cases h
  | nilptr => exact .nilptr
  | nilsl => exact .nilsl
  | fsl c L sp base len cap vs hl hcap hsp hn hs hc hv ih =>
    refine .fsl c L sp base len cap vs hl hcap hsp hn hs
      (fun a ha i y hy j av hj => ⟨(x _ _ (hc a ha i y hy j av hj).1).1, ((x _ _ (hc a ha i y hy j av hj).1).2).trans (hc a ha i y hy j av hj).2.1, (hc a ha i y hy j av hj).2.2⟩) ?_
    intro i y hy j av hj
    rcases key c y av (List.mem_of_getElem? hj) with h | ⟨_, f, hf⟩
    · exact ih i y hy j av hj (.inl h)
    · subst hf
      have hv' := hv i y hy j av hj
      simp [cellsOf, AV.of, AV.cells, List.getElem?_cons] at hj
      obtain ⟨rfl, rfl⟩ := hj
      generalize vs i 0 = z at hv'
      cases hv' with
      | func fn f c fs cs hf hc vf vc => exact .func _ _ _ _ _ hf hc (fun i av x h => by simp at h) (fun i av x h => by simp at h)
  | sl id ver base len cap size h => rcases hp with h | ⟨_, h, _⟩ <;> cases h
  | map id b h => rcases hp with h | ⟨_, h, _⟩ <;> cases h
  | func fn f c fs cs hf hc _ _ ihf ihc => rcases hp with h | ⟨_, h, _⟩ <;> cases h
  | agg cs vs hl h1 _ ih =>
    rcases hp with h | ⟨cs', h, hall⟩
    · cases h
    · cases h
      exact .agg cs vs hl h1 fun i av y hi hy => ih i av y hi hy (.inl (hall av (List.mem_of_getElem? hi)))
  | tuple cs vs hl _ ih => rcases hp with h | ⟨_, h, _⟩ <;> cases h

end
end Go.Ab

namespace Go.Ab
section
variable {U : Nat → Type}

def keyEq : (c : Cd) → den U c → den U c → Bool
  | .int _, (a : Int), (b : Int) => decide (a = b)
  | .str, (a : ByteArray), (b : ByteArray) => a == b
  | _, _, _ => false

def mfind (kc : Cd) {V : Type} (k : den U kc) : List (den U kc × V) → Option V
  | [] => none
  | (k', v) :: M => if keyEq kc k k' then some v else mfind kc k M

def mput (kc : Cd) {V : Type} (k : den U kc) (v : V) : List (den U kc × V) → List (den U kc × V)
  | [] => [(k, v)]
  | (k', v') :: M => if keyEq kc k k' then (k, v) :: M else (k', v') :: mput kc k v M

def zeroHL (T : Tab U) : (cs : List Cd) → HL U cs
  | [] => ()
  | c :: cs => (zero T c, zeroHL T cs)

def iter {S R : Type} (F : (S → Option R) → S → Option R) : Nat → S → Option R
  | 0, _ => none
  | n + 1, x => F (iter F n) x

abbrev Callee (U : Nat → Type) := FuncId → List (Σ c, den U c) → (rc : List Cd) → Option (HL U rc)

/-- The bits of '&', '|', '^', '&^'. -/
def bitsOf (op : BinOp) (k : IntKind) (x y : Int) : Int :=
  let a := BitVec.ofInt k.bits x
  let b := BitVec.ofInt k.bits y
  match op with
  | .and => k.wrap (a &&& b).toNat
  | .or => k.wrap (a ||| b).toNat
  | .xor => k.wrap (a ^^^ b).toNat
  | _ => k.wrap (a &&& ~~~b).toNat

def shiftOf (op : BinOp) (k : IntKind) (x y : Int) : Int :=
  match op with
  | .shl => k.wrap (x * 2 ^ (min y.toNat k.bits))
  | _ => x.fdiv (2 ^ (min y.toNat k.bits))

open Classical in
/-- The operations; C: what callees compute; n: rounds. -/
noncomputable def real (T : Tab U) (C : Callee U) (n : Nat) : Ops U where
  add k a b := k.wrap (a + b)
  sub k a b := k.wrap (a - b)
  mul k a b := k.wrap (a * b)
  quo k a b := k.wrap (a.tdiv b)
  rem _ a b := a.tmod b
  bits := bitsOf
  shift := shiftOf
  conv k n := k.wrap n
  lt a b := decide (a < b)
  le a b := decide (a ≤ b)
  eq a b := decide (a = b)
  bnot b := !b
  bsel c a b := cond c a b
  isel c a b := cond c a b
  beq a b := a == b
  band a b := a && b
  bimp a b := !a || b
  imax a b := if b > a then b else a
  imin a b := if b < a then b else a
  seq a b := a.toList == b.toList
  slt a b := Op.bytesLess a.toList b.toList
  scat a b := a ++ b
  slen a := a.size
  sget a i := match a[i.toNat]? with | some b => b.toNat | none => 0
  ssub a l h := a.extract l.toNat h.toNat
  len _ L := L.length
  get c L i := L.getD i.toNat (zero T c)
  app _ a b := a ++ b
  set _ L i x := L.set i.toNat x
  cut _ L l h := (L.take h.toNat).drop l.toNat
  rep _ n x := List.replicate n.toNat x
  emp _ L := L.isEmpty
  sfit a b := decide (a.size + b.size ≤ 2 ^ 62)
  fits n a b := decide ((a + b) * n ≤ 2 ^ 47 ∧ a + b ≤ 2 ^ 62)
  mfit n a := decide (0 ≤ a ∧ a * n ≤ 2 ^ 47 ∧ a ≤ 2 ^ 62)
  mhas kc _ M k := (mfind kc k M).isSome
  mget kc _ M k z := (mfind kc k M).getD z
  mset kc _ M k v := mput kc k v M
  ite c a b := cond c a b
  both a b := if a = b then a else none
  call := C
  gcall b f xs rc := cond b (C f xs rc) (some (zeroHL T rc))
  bind := Option.bind
  loop F x := iter F n x
  join f b := b f

/-- Where a guard does not hold nothing has happened; else what is said. -/
def Two {R : Type} (k : Kont U R) (r : R) (g : Option Bool) (H : Heap U) (p : Prop) : Prop :=
  (g = some false → ∃ v ft, k v H ft = some r) ∧ (g ≠ some false → p)

/-- A run gives a value, turns nothing; the abstract machine goes on with that value. -/
def Reads {R : Type} (P : Program) (T : Tab U) (γ : Gh) (w : World) (m : Sem Value) (k : Kont U R) (r : R) (H : Heap U) : Prop :=
  ∃ x v ft, m.run P w = .ok x w ∧ k v H ft = some r ∧ VRel T γ w v x

theorem Two.mk {R : Type} {k : Kont U R} {r : R} {g : Option Bool} {H : Heap U} {p : Prop} {v : AV U} {ft : Foot}
    (h : k v H ft = some r) (hp : p) : Two k r g H p := ⟨fun _ => ⟨v, ft, h⟩, fun _ => hp⟩

variable {T : Tab U} {C : Callee U} {n : Nat}

theorem chk_some {R : Type} {g : Option Bool} {c : Bool} {x : Option R} {r : R} (h : chk (real T C n) g c x = some r) :
    x = some r ∧ (g ≠ some false → c = true) := by
  unfold chk at h
  cases g with
  | none => cases c <;> simp [real] at h ⊢; exact h
  | some b => cases b <;> cases c <;> simp [real] at h ⊢ <;> exact h

theorem Two.bad {R : Type} {k : Kont U R} {r : R} {g : Option Bool} {H : Heap U} {p : Prop}
    (h : bad (real T C n) g H k = some r) : Two k r g H p := by
  cases g with
  | none => simp [Ab.bad] at h
  | some b =>
    cases b with
    | true => simp [Ab.bad, real] at h
    | false => simp [Ab.bad, real] at h; exact ⟨fun _ => ⟨_, _, h⟩, fun e => absurd rfl e⟩

theorem Two.badAt {R : Type} {k : Kont U R} {r : R} {g : Option Bool} {ft : Foot} {H : Heap U} {p : Prop}
    (h : badAt (real T C n) g ft H k = some r) : Two k r g H p := by
  cases g with
  | none => simp [Ab.badAt] at h
  | some b =>
    cases b with
    | true => simp [Ab.badAt, real] at h
    | false => simp [Ab.badAt, real] at h; exact ⟨fun _ => ⟨_, _, h⟩, fun e => absurd rfl e⟩

theorem Two.chk {R : Type} {k : Kont U R} {r : R} {g : Option Bool} {H : Heap U} {p : Prop} {c : Bool} {v : AV U} {ft : Foot}
    (h : chk (real T C n) g c (k v H ft) = some r) (hp : c = true → k v H ft = some r → p) : Two k r g H p :=
  let ⟨h1, h2⟩ := chk_some h
  ⟨fun _ => ⟨v, ft, h1⟩, fun e => hp (h2 e) h1⟩

end
end Go.Ab

namespace Go.Ab
section
variable {U : Nat → Type} {T : Tab U} {C : Callee U} {n : Nat} {P : Program} {R : Type}

theorem guard_pure (op : BinOp) (t : TypeId) (x y : Operand) (a b : Value) (w : World) (h : ∀ c, a ≠ .agg c) (h' : a ≠ .nilIface) :
    (eqGuard op t x y a b).run P w = .ok () w := by
  cases a <;> first
    | exact absurd rfl h'
    | exact absurd rfl (h _)
    | (cases op <;> rfl)

theorem intOp_two (op : BinOp) (k : IntKind) (a b : Int) (γ : Gh) (w : World) (g : Option Bool) (H : Heap U) (kk : Kont U R) (r : R) (t : TypeId)
    (h : intOpK (real T C n) g op k a b H kk = some r) (hs : op ≠ .shl) (hs' : op ≠ .shr) :
    Two kk r g H (Reads P T γ w (binOp op t (.int k a) (.int k b)) kk r H) := by
  cases op <;> simp only [intOpK] at h <;>
    first
    | exact absurd rfl hs
    | exact absurd rfl hs'
    | exact Two.mk h ⟨.int k ((real T C n).bits _ k a b), _, _, by simp only [binOp, ne_eq, not_true_eq_false, if_false]; rfl, h, .int _ _⟩
    | (refine Two.mk h ⟨_, _, _, by simp [binOp, Op.intArith, Op.intCmp]; rfl, h, ?_⟩; first | exact .int _ _ | exact .bool _ | (simp [real]; exact .bool _))
    | (refine Two.chk h fun hc hk => ⟨_, _, _, by
        have hb : b ≠ 0 := by simpa [real] using hc
        simp [binOp, Op.intDiv, hb]; rfl, hk, .int _ _⟩)

theorem strOp_two (op : BinOp) (a b : ByteArray) (γ : Gh) (w : World) (g : Option Bool) (H : Heap U) (kk : Kont U R) (r : R) (t : TypeId)
    (h : strOpK (real T C n) g op a b H kk = some r) : Two kk r g H (Reads P T γ w (binOp op t (.string a) (.string b)) kk r H) := by
  cases op <;> simp only [strOpK] at h <;>
    first
    | exact Two.bad h
    | (refine Two.chk h fun hc hk => ⟨.string (a ++ b), _, _, by
        have hc : a.size + b.size ≤ 2 ^ 62 := by simpa [real] using hc
        have : ¬ (((a.size + b.size : Nat) : Int) > IntKind.i64.max) := by simp [IntKind.max, IntKind.signed, IntKind.bits]; omega
        simp only [binOp, Op.stringOp, if_neg this]; rfl, hk, .str _⟩)
    | (refine Two.mk h ⟨_, _, _, by simp [binOp, Op.stringOp]; rfl, h, ?_⟩
       simp [real]
       first | exact .bool _ | (cases Op.bytesLess a.toList b.toList <;> exact .bool _))

theorem nilK_two (neg : Bool) (c : Cd) (L : List (den U c)) (g : Option Bool) (H : Heap U) (ft : Foot) (kk : Kont U R) (r : R)
    (h : nilK (real T C n) g neg c L H ft kk = some r) :
    Two kk r g H (kk (.bool neg) H ft = some r ∧ (L.isEmpty = true → kk (.bool (!neg)) H ft = some r)) := by
  unfold nilK at h
  cases g with
  | some b => exact Two.badAt h
  | none =>
    refine ⟨(fun e => nomatch e), fun _ => ?_⟩
    simp only [real] at h
    cases hL : L.isEmpty with
    | false => simp [hL] at h; exact ⟨h, fun e => by simp at e⟩
    | true =>
      simp only [hL, cond_true] at h
      split at h
      · rename_i he
        exact ⟨he ▸ h, fun _ => h⟩
      · cases h

theorem equalIn_slice (d : Nat) (t el : TypeId) (base : Option Addr) (len cap : Nat) (w : World) (ht : P.underlying t = some (.slice el)) :
    (Op.equalIn (d + 1) t (.slice base len cap) (.slice none 0 0)).run P w = .ok base.isNone w := by
  cases base <;> simp [Op.equalIn, run_underlying ht]
theorem equal_slice (t el : TypeId) (base : Option Addr) (len cap : Nat) (w : World) (ht : P.underlying t = some (.slice el)) :
    (Op.equal t (.slice base len cap) (.slice none 0 0)).run P w = .ok base.isNone w := equalIn_slice 9999 t el base len cap w ht
theorem equalIn_ptr (d : Nat) (t el : TypeId) (base : Option Addr) (w : World) (ht : P.underlying t = some (.pointer el)) :
    (Op.equalIn (d + 1) t (.pointer base) (.pointer none)).run P w = .ok base.isNone w := by
  cases base <;> simp [Op.equalIn, run_underlying ht]
theorem equal_ptr (t el : TypeId) (base : Option Addr) (w : World) (ht : P.underlying t = some (.pointer el)) :
    (Op.equal t (.pointer base) (.pointer none)).run P w = .ok base.isNone w := equalIn_ptr 9999 t el base w ht
theorem equalIn_bool (d : Nat) (t : TypeId) (a b : Bool) (w : World) (ht : P.underlying t = some .bool) :
    (Op.equalIn (d + 1) t (.bool a) (.bool b)).run P w = .ok (a == b) w := by simp [Op.equalIn, run_underlying ht]
theorem equal_bool (t : TypeId) (a b : Bool) (w : World) (ht : P.underlying t = some .bool) :
    (Op.equal t (.bool a) (.bool b)).run P w = .ok (a == b) w := equalIn_bool 9999 t a b w ht

def eqOp (neg : Bool) : BinOp := if neg then .neq else .eql

theorem eq_run (neg : Bool) (t : TypeId) (x y : Value) (xo yo : Operand) (b : Bool) (w : World) (h : (Op.equal t x y).run P w = .ok b w)
    (hx : (∃ a l c, x = .slice a l c) ∨ (∃ a, x = .pointer a) ∨ ∃ a, x = .bool a) (hy : (∃ a l c, y = .slice a l c) ∨ y = .pointer none ∨ ∃ a, y = .bool a) :
    (do eqGuard (eqOp neg) t xo yo x y; binOp (eqOp neg) t x y : Sem Value).run P w = .ok (.bool (b != neg)) w := by
  have hg : (eqGuard (eqOp neg) t xo yo x y).run P w = .ok () w := by
    rcases hx with ⟨a, l, c, rfl⟩ | ⟨a, rfl⟩ | ⟨a, rfl⟩ <;> exact guard_pure _ _ _ _ _ _ _ (fun _ e => nomatch e) (fun e => nomatch e)
  simp only [Sem.run_bind, hg, Result.andThen_ok]
  cases neg <;> rcases hx with ⟨a, l, c, rfl⟩ | ⟨a, rfl⟩ | ⟨a, rfl⟩ <;> rcases hy with ⟨a', l', c', rfl⟩ | rfl | ⟨a', rfl⟩ <;>
    simp only [eqOp, binOp, Bool.false_eq_true, if_false, if_true] <;> simp [h]

theorem eqK_two (d : Option TypeDesc) (nd neg : Bool) (x y : AV U) (vx vy : Value) (xo yo : Operand) (γ : Gh) (w : World) (g : Option Bool) (H : Heap U) (kk : Kont U R) (r : R) (t : TypeId)
    (hd : P.underlying t = d) (hx : VRel T γ w x vx) (hy : VRel T γ w y vy) (hH : HRel T γ w H)
    (h : eqK (real T C n) nd d g neg x y H kk = some r) :
    Two kk r g H (Reads P T γ w (do eqGuard (eqOp neg) t xo yo vx vy; binOp (eqOp neg) t vx vy) kk r H) := by
  unfold eqK at h
  split at h
  · -- bools
    split at h
    · rename_i a b
      cases hx; cases hy
      refine Two.mk h ⟨_, _, _, eq_run neg t _ _ xo yo (a == b) w (equal_bool t a b w hd) (.inr (.inr ⟨_, rfl⟩)) (.inr (.inr ⟨_, rfl⟩)), h, ?_⟩
      cases neg <;> cases a <;> cases b <;> exact .bool _
    · exact Two.bad h
  · -- pointers
    split at h
    · cases hx; cases hy
      refine Two.mk h ⟨_, _, _, eq_run neg t _ _ xo yo true w (equal_ptr t _ none w hd) (.inr (.inl ⟨_, rfl⟩)) (.inr (.inl rfl)), h, ?_⟩
      cases neg <;> exact .bool _
    · cases hx; cases hy
      refine Two.mk h ⟨_, _, _, eq_run neg t _ _ xo yo false w (equal_ptr t _ _ w hd) (.inr (.inl ⟨_, rfl⟩)) (.inr (.inl rfl)), h, ?_⟩
      cases neg <;> exact .bool _
    · exact Two.bad h
  · -- slices
    rename_i el
    split at h
    · cases hx; cases hy
      refine Two.mk h ⟨_, _, _, eq_run neg t _ _ xo yo true w (equal_slice t el none 0 0 w hd) (.inl ⟨_, _, _, rfl⟩) (.inl ⟨_, _, _, rfl⟩), h, ?_⟩
      cases neg <;> exact .bool _
    · rename_i c L sp
      split at h
      · obtain ⟨h1, h2⟩ := nilK_two (n := n) (C := C) neg c L g H {} kk r h
        refine ⟨h1, fun hg => ?_⟩
        obtain ⟨k1, k2⟩ := h2 hg
        cases hy
        cases hx with
        | fsl c L sp base len cap vs hl hcap hsp hn hs hc hv =>
          have hr := eq_run neg t _ _ xo yo base.isNone w (equal_slice t el base len cap w hd) (.inl ⟨_, _, _, rfl⟩) (.inl ⟨_, _, _, rfl⟩)
          cases base with
          | none =>
            refine ⟨_, _, _, hr, k2 (by have := hn rfl; subst this; have : len = 0 := by omega
                                        rw [List.isEmpty_iff]; exact List.eq_nil_of_length_eq_zero (by omega)), ?_⟩
            cases neg <;> exact .bool _
          | some a => exact ⟨_, _, _, hr, k1, by cases neg <;> exact .bool _⟩
      · exact Two.bad h
    · rename_i id ver
      split at h
      · rename_i c L ver' wr ho
        split at h
        · rename_i hv
          obtain ⟨rfl, _⟩ := hv
          obtain ⟨h1, h2⟩ := nilK_two (n := n) (C := C) neg c L g H _ kk r h
          refine ⟨h1, fun hg => ?_⟩
          obtain ⟨k1, k2⟩ := h2 hg
          cases hy
          cases hx with
          | sl id ver base len cap size hs =>
            obtain ⟨base', cap', hsv, hle, hn, _⟩ := hH.objs _ _ ho
            rw [hs] at hsv
            cases hsv
            have hr := eq_run neg t _ _ xo yo base.isNone w (equal_slice t el base L.length cap w hd) (.inl ⟨_, _, _, rfl⟩) (.inl ⟨_, _, _, rfl⟩)
            cases base with
            | none =>
              refine ⟨_, _, _, hr, k2 (by have := hn rfl; rw [List.isEmpty_iff]; exact List.eq_nil_of_length_eq_zero (by omega)), ?_⟩
              cases neg <;> exact .bool _
            | some a => exact ⟨_, _, _, hr, k1, by cases neg <;> exact .bool _⟩
        · exact Two.badAt h
      · exact Two.badAt h
    · exact Two.bad h
  · exact Two.bad h

theorem binK_two (d : Option TypeDesc) (nd : Bool) (op : BinOp) (x y : AV U) (vx vy : Value) (xo yo : Operand) (γ : Gh) (w : World) (g : Option Bool) (H : Heap U) (kk : Kont U R) (r : R) (t : TypeId)
    (hd : P.underlying t = d) (hx : VRel T γ w x vx) (hy : VRel T γ w y vy) (hH : HRel T γ w H)
    (h : binK (real T C n) nd d g op x y H kk = some r) :
    Two kk r g H (Reads P T γ w (do eqGuard op t xo yo vx vy; binOp op t vx vy) kk r H) := by
  unfold binK at h
  split at h
  · rename_i kd a
    cases hx
    split at h
    · rename_i kd' b
      cases hy
      have hg : (eqGuard op t xo yo (.int kd a) (.int kd' b)).run P w = .ok () w := guard_pure _ _ _ _ _ _ _ (fun _ e => nomatch e) (fun e => nomatch e)
      split at h
      · refine Two.chk h fun hc hk => ⟨_, _, _, by
          have hb : ¬ b < 0 := by simp [real] at hc; omega
          simp only [Sem.run_bind, hg, Result.andThen_ok]
          simp only [binOp, Op.shift, if_neg hb]; rfl, hk, .int _ _⟩
      · refine Two.chk h fun hc hk => ⟨_, _, _, by
          have hb : ¬ b < 0 := by simp [real] at hc; omega
          simp only [Sem.run_bind, hg, Result.andThen_ok]
          simp only [binOp, Op.shift, if_neg hb]; rfl, hk, .int _ _⟩
      · rename_i n1 n2
        split at h
        · rename_i hk
          subst hk
          obtain ⟨h1, h2⟩ := intOp_two (P := P) op kd a b γ w g H kk r t h n1 n2
          refine ⟨h1, fun hg' => ?_⟩
          obtain ⟨x, v, ft, hr, hrest⟩ := h2 hg'
          exact ⟨x, v, ft, by simp only [Sem.run_bind, hg, Result.andThen_ok]; exact hr, hrest⟩
        · exact Two.bad h
    · exact Two.bad h
  · rename_i a
    cases hx
    split at h
    · rename_i b
      cases hy
      have hg : (eqGuard op t xo yo (.string a) (.string b)).run P w = .ok () w := guard_pure _ _ _ _ _ _ _ (fun _ e => nomatch e) (fun e => nomatch e)
      obtain ⟨h1, h2⟩ := strOp_two (P := P) op a b γ w g H kk r t h
      refine ⟨h1, fun hg' => ?_⟩
      obtain ⟨x, v, ft, hr, hrest⟩ := h2 hg'
      exact ⟨x, v, ft, by simp only [Sem.run_bind, hg, Result.andThen_ok]; exact hr, hrest⟩
    · exact Two.bad h
  · split at h
    · exact eqK_two d nd false x y vx vy xo yo γ w g H kk r t hd hx hy hH h
    · exact eqK_two d nd true x y vx vy xo yo γ w g H kk r t hd hx hy hH h
    · exact Two.bad h

end
end Go.Ab

namespace Go.Ab
section
variable {U : Nat → Type} {T : Tab U} {C : Callee U} {n : Nat} {P : Program} {R : Type}

theorem unK_two (op : UnOp) (x : AV U) (vx : Value) (γ : Gh) (w : World) (g : Option Bool) (H : Heap U) (kk : Kont U R) (r : R)
    (hx : VRel T γ w x vx) (h : unK (real T C n) g op x H kk = some r) : Two kk r g H (Reads P T γ w (Op.unary op vx) kk r H) := by
  unfold unK at h
  split at h
  · cases hx; exact Two.mk h ⟨_, _, _, rfl, h, .bool _⟩
  · cases hx; exact Two.mk h ⟨_, _, _, rfl, h, .int _ _⟩
  · exact Two.bad h

theorem pickK_two (c a b : AV U) (vc va vb : Value) (γ : Gh) (w : World) (g : Option Bool) (H : Heap U) (kk : Kont U R) (r : R)
    (hc : VRel T γ w c vc) (ha : vc = .bool true → VRel T γ w a va) (hb : vc = .bool false → VRel T γ w b vb)
    (h : pickK (real T C n) g c a b H kk = some r) :
    Two kk r g H (Reads P T γ w (do Pure.pure (if ← asBool vc then va else vb)) kk r H) := by
  unfold pickK at h
  split at h
  · rename_i c a b
    cases hc
    cases c with
    | true => cases ha rfl; exact Two.mk h ⟨_, _, _, by simp [asBool]; rfl, h, .bool _⟩
    | false => cases hb rfl; exact Two.mk h ⟨_, _, _, by simp [asBool]; rfl, h, .bool _⟩
  · rename_i c kd a kd' b
    split at h
    · rename_i hk
      subst hk
      cases hc
      cases c with
      | true => cases ha rfl; exact Two.mk h ⟨_, _, _, by simp [asBool]; rfl, h, .int _ _⟩
      | false => cases hb rfl; exact Two.mk h ⟨_, _, _, by simp [asBool]; rfl, h, .int _ _⟩
    · exact Two.bad h
  · exact Two.bad h

/-- Where an address lies: its cells hold what is told. -/
def Cells (T : Tab U) (γ : Gh) (w : World) (b o0 : Nat) (cs : List (AV U)) : Prop :=
  ∀ (i : Nat) c, cs[i]? = some c → ∃ y, w.cell? ⟨b, o0 + i, none⟩ = some y ∧ y.oneCell' = true ∧ VRel T γ w c y

theorem getD_in {α : Type} {L : List α} {i : Int} {d : α} (h0 : 0 ≤ i) (h1 : i < L.length) : L[i.toNat]? = some (L.getD i.toNat d) := by
  rw [List.getD_eq_getElem?_getD, List.getElem?_eq_getElem (by omega)]
  rfl

theorem cellsAt_rel {av : AV U} {x : Value} {cs : List (AV U)} {off : Nat} {ft : Foot} {γ : Gh} {w : World} {H : Heap U}
    (h : cellsAt (real T C n) T H av = some (cs, off, ft)) (hx : VRel T γ w av x) (hH : HRel T γ w H) :
    ∃ b o0, x = .pointer (some ⟨b, o0 + off, none⟩) ∧ Cells T γ w b o0 cs := by
  cases av <;> simp only [cellsAt] at h <;> try contradiction
  · rename_i id off'
    cases hx with
    | ptr id off b hb =>
      split at h
      · rename_i cs' ho
        simp at h
        obtain ⟨rfl, rfl, _⟩ := h
        obtain ⟨b', hb', hcs⟩ := hH.objs _ _ ho
        rw [hb] at hb'
        cases hb'
        exact ⟨b, 0, by simp, fun i c hi => by
          obtain ⟨_, _, y, h1, h2, h3⟩ := hcs i c hi
          exact ⟨y, by simpa using h1, h2, h3⟩⟩
      · cases h
  · cases hx with
    | fptr cs off b o0 vs hc hv =>
      simp at h
      obtain ⟨rfl, rfl, _⟩ := h
      exact ⟨b, o0, rfl, fun i c hi => ⟨vs i, (hc i c hi).2.1, (hc i c hi).2.2, hv i c hi⟩⟩
  · rename_i id ver i off'
    cases hx with
    | aptr id ver _ off b o0 len cap size hs h0 h1 =>
      split at h
      · rename_i c L ver' wr ho
        split at h
        · rename_i hv
          subst hv
          simp at h
          obtain ⟨rfl, rfl, _⟩ := h
          obtain ⟨base, cap', hsv, hle, hn, hcs⟩ := hH.objs _ _ ho
          rw [hs] at hsv
          cases hsv
          obtain ⟨_, _, hel⟩ := hcs _ rfl
          refine ⟨b, o0 + i.toNat * c.size T, by simp [Nat.add_assoc], fun j cj hj => ?_⟩
          obtain ⟨_, _, y, h1', h2, h3⟩ := hel i.toNat _ (getD_in (d := zero T c) h0 h1) j cj hj
          exact ⟨y, h1', h2, h3⟩
        · cases h
      · cases h

theorem addr_add (b o i : Nat) : (⟨b, o, none⟩ : Addr).add i = ⟨b, o + i, none⟩ := by unfold Addr.add; split <;> simp_all

theorem rangeMap {f : Nat → Value} {n j : Nat} {x : Value} (h : (List.map f (List.range n)).toArray[j]? = some x) : ∃ _ : j < n, f j = x := by
  simp only [List.getElem?_toArray, List.getElem?_map, Option.map_eq_some_iff] at h
  obtain ⟨a, h1, h2⟩ := h
  rw [List.getElem?_eq_some_iff] at h1
  obtain ⟨h3, h4⟩ := h1
  simp at h3 h4
  subst h4
  exact ⟨h3, h2⟩

theorem loadVar_run {t : TypeId} {b o0 off : Nat} {cs : List (AV U)} {v : AV U} {γ : Gh} {w : World} (hc : Cells T γ w b o0 cs) (hp : part? P t cs off = some v) :
    ∃ x, (loadVar t ⟨b, o0 + off, none⟩).run P w = .ok x w ∧ VRel T γ w v x := by
  unfold part? at hp
  split at hp
  · rename_i i d hi hd
    split at hp
    · rename_i hagg
      split at hp
      · rename_i hle
        cases hp
        have hex : ∀ j, j < i.size → ∃ y, w.cell? ⟨b, o0 + off + j, none⟩ = some y ∧ y.oneCell' = true ∧ ∀ c, cs[off + j]? = some c → VRel T γ w c y := by
          intro j hj
          obtain ⟨y, h1, h2, h3⟩ := hc (off + j) _ (List.getElem?_eq_getElem (by omega))
          refine ⟨y, by rw [Nat.add_assoc]; exact h1, h2, fun c hc' => ?_⟩
          rw [List.getElem?_eq_getElem (by omega)] at hc'
          cases hc'
          exact h3
        let f : Nat → Value := fun j => if hj : j < i.size then Classical.choose (hex j hj) else undef
        have hf : ∀ j (hj : j < i.size), w.cell? ⟨b, o0 + off + j, none⟩ = some (f j) ∧ (f j).oneCell' = true ∧ ∀ c, cs[off + j]? = some c → VRel T γ w c (f j) := by
          intro j hj
          simp only [f, dif_pos hj]
          exact Classical.choose_spec (hex j hj)
        have hrun := run_loadCells (P := P) w ⟨b, o0 + off, none⟩ i.size f (fun j hj => by rw [addr_add]; exact (hf j hj).1)
        have hag : (isAgg t).run P w = .ok true w := by
          cases d <;> simp [isAggD] at hagg <;> simp [isAgg, run_underlying hd]
        refine ⟨_, by simp [loadVar, hag, sizeOf, typeInfo, hi, hrun]; rfl, ?_⟩
        refine .agg _ _ (by simp; omega) ?_ ?_
        · intro j x hx
          obtain ⟨hj, rfl⟩ := rangeMap hx
          exact (hf j hj).2.1
        · intro j av x hav hx
          obtain ⟨hj, rfl⟩ := rangeMap hx
          rw [List.getElem?_take_of_lt hj, List.getElem?_drop] at hav
          exact (hf j hj).2.2 _ hav
      · cases hp
    · rename_i hagg
      obtain ⟨y, h1, h2, h3⟩ := hc _ _ hp
      have hag : (isAgg t).run P w = .ok false w := by
        cases d <;> simp [isAggD] at hagg <;> simp [isAgg, run_underlying hd]
      exact ⟨y, by simp [loadVar, hag, h1], h3⟩
  · cases hp

theorem loadK_two {e : Env U} (ho : e.o = real T C n) (hT : e.T = T) (hP : e.P = P) (t : TypeId) (a : AV U) (va : Value) (γ : Gh) (w : World) (g : Option Bool) (H : Heap U)
    (kk : Kont U R) (r : R) (ha : VRel T γ w a va) (hH : HRel T γ w H) (h : loadK e g t a H kk = some r) :
    Two kk r g H (Reads P T γ w (Instr.loadAt t va) kk r H) := by
  unfold loadK at h
  rw [ho, hT, hP] at h
  split at h
  · rename_i cs off ft hc
    split at h
    · rename_i v hp
      obtain ⟨b, o0, rfl, hcs⟩ := cellsAt_rel hc ha hH
      obtain ⟨x, hr, hv⟩ := loadVar_run hcs hp
      exact Two.mk h ⟨x, v, _, by simp [Instr.loadAt, Instr.sureAddr, hr], h, hv⟩
    · exact Two.badAt h
  · exact Two.badAt h

end
end Go.Ab

namespace Go.Ab
section
variable {U : Nat → Type} {T : Tab U} {C : Callee U} {n : Nat} {P : Program} {R : Type}

theorem sizeOf_run {t : TypeId} {i : TypeInfo} (h : P.info? t = some i) (w : World) : (sizeOf t).run P w = .ok i.size w := by
  simp [sizeOf, typeInfo, h]

theorem cellsOf_info {t : TypeId} (h : P.cellsOf t ≠ 0) : ∃ i, P.info? t = some i ∧ i.size = P.cellsOf t := by
  unfold Program.cellsOf at h ⊢
  cases hi : P.info? t with
  | none => simp [hi] at h
  | some i => exact ⟨i, rfl, by simp⟩

theorem fieldAddrK_two (t : TypeId) (x : AV U) (vx : Value) (f : Nat) (γ : Gh) (w : World) (g : Option Bool) (H : Heap U) (kk : Kont U R) (r : R)
    (hx : VRel T γ w x vx) (h : fieldAddrK (real T C n) P g t x f H kk = some r) : Two kk r g H (Reads P T γ w (Instr.fieldAt t vx f) kk r H) := by
  unfold fieldAddrK at h
  split at h
  · rename_i fields ht
    split at h
    · rename_i fd hf
      split at h
      · exact Two.bad h
      · rename_i hz
        obtain ⟨i, hi, hsz⟩ := cellsOf_info hz
        have hrun : ∀ a : Addr, a.spot = none → (Instr.fieldAt t (.pointer (some a)) f).run P w = .ok (.pointer (some ⟨a.block, a.off + fd.offset, none⟩)) w := by
          intro a ha
          obtain ⟨b, o, s⟩ := a
          simp at ha
          subst ha
          have hs0 : i.size ≠ 0 := by rw [hsz]; exact hz
          simp [Instr.fieldAt, run_underlying ht, hf, Instr.sureAddr, fieldPlace, sizeOf_run hi, hs0, addr_add]
        split at h
        · cases hx with
          | ptr id off b hb => exact Two.mk h ⟨_, _, _, hrun _ rfl, h, .ptr _ _ _ hb⟩
        · rename_i cs off
          cases hx with
          | fptr _ _ b o0 vs hc hv =>
            refine Two.mk h ⟨_, _, _, hrun _ rfl, h, ?_⟩
            show VRel T γ w (.fptr cs (off + fd.offset)) (.pointer (some ⟨b, o0 + off + fd.offset, none⟩))
            rw [Nat.add_assoc]
            exact .fptr cs _ b o0 vs hc hv
        · rename_i id ver i off
          cases hx with
          | aptr _ _ _ _ b o0 len cap size hs h0 h1 =>
            refine Two.mk h ⟨_, _, _, hrun _ rfl, h, ?_⟩
            show VRel T γ w (.aptr id ver i (off + fd.offset)) (.pointer (some ⟨b, o0 + i.toNat * size + off + fd.offset, none⟩))
            rw [Nat.add_assoc (o0 + i.toNat * size)]
            exact .aptr _ _ _ _ _ _ _ _ _ hs h0 h1
        · exact Two.bad h
    · exact Two.bad h
  · exact Two.bad h

theorem part_run {t : TypeId} {cs : List (AV U)} {vs : Array Value} {off : Nat} {v : AV U} {γ : Gh} {w : World} (hx : VRel T γ w (.agg cs) (.agg vs)) (hp : part? P t cs off = some v) :
    ∃ x, (part t vs off).run P w = .ok x w ∧ VRel T γ w v x := by
  cases hx with
  | agg cs vs hl h1 hv =>
    unfold part? at hp
    split at hp
    · rename_i i d hi hd
      split at hp
      · rename_i hagg
        split at hp
        · rename_i hle
          cases hp
          have hag : (isAgg t).run P w = .ok true w := by cases d <;> simp [isAggD] at hagg <;> simp [isAgg, run_underlying hd]
          refine ⟨_, by simp [part, hag, sizeOf_run hi]; rfl, ?_⟩
          refine .agg _ _ (by simp; omega) ?_ ?_
          · intro j x hx
            rw [Array.getElem?_extract] at hx
            split at hx
            · exact h1 _ _ hx
            · cases hx
          · intro j av x hav hx
            rw [Array.getElem?_extract] at hx
            split at hx
            · rename_i hj
              rw [List.getElem?_take_of_lt (by omega), List.getElem?_drop] at hav
              exact hv _ _ _ hav hx
            · cases hx
        · cases hp
      · rename_i hagg
        have hag : (isAgg t).run P w = .ok false w := by cases d <;> simp [isAggD] at hagg <;> simp [isAgg, run_underlying hd]
        have hlt : off < vs.size := by rw [← hl]; exact (List.getElem?_eq_some_iff.1 hp).1
        have hy : vs[off]? = some vs[off] := by simp [hlt]
        exact ⟨vs[off], by simp [part, hag, hlt], hv _ _ _ hp hy⟩
    · cases hp

theorem fieldK_two (t : TypeId) (x : AV U) (vx : Value) (f : Nat) (γ : Gh) (w : World) (g : Option Bool) (H : Heap U) (kk : Kont U R) (r : R)
    (hx : VRel T γ w x vx) (h : fieldK (real T C n) P g t x f H kk = some r) : Two kk r g H (Reads P T γ w (Instr.field t vx f) kk r H) := by
  unfold fieldK at h
  split at h
  · rename_i fields cs ht
    split at h
    · rename_i fd hf
      split at h
      · rename_i v hp
        have hx' := hx
        cases hx with
        | agg cs vs hl h1 hv =>
          obtain ⟨y, hr, hv'⟩ := part_run hx' hp
          exact Two.mk h ⟨y, v, _, by simp [Instr.field, run_underlying ht, hf, asAgg, hr], h, hv'⟩
      · exact Two.bad h
    · exact Two.bad h
  · exact Two.bad h

theorem band_true {a b : Bool} (h : (real T C n).band a b = true) : a = true ∧ b = true := by simpa [real] using h

theorem cd_size (ok : T.Ok P) {el : TypeId} {c : Cd} (h : T.cd el = some c) : ∃ i, P.info? el = some i ∧ i.size = c.size T := (ok.cd el c h).1

theorem arrayAtK_some {id off size : Nat} {i : Int} {H : Heap U} {kk : Kont U R} {r : R} : ∀ {m : Nat}, arrayAtK (real T C n) id off size i H kk m = some r →
    ∃ j : Nat, j < m ∧ i = j ∧ kk (.ptr id (off + j * size)) H {} = some r
  | 0, h => by cases h
  | m + 1, h => by
    simp only [arrayAtK] at h
    change cond (decide (i = m)) _ _ = some r at h
    by_cases hi : i = m
    · rw [decide_eq_true hi] at h
      exact ⟨m, by omega, hi, h⟩
    · rw [decide_eq_false hi] at h
      change arrayAtK (real T C n) id off size i H kk m = some r at h
      obtain ⟨j, h1, h2, h3⟩ := arrayAtK_some h
      exact ⟨j, by omega, h2, h3⟩

theorem indexAddrK_two {e : Env U} (ho : e.o = real T C n) (hT : e.T = T) (hP : e.P = P) (ok : T.Ok P) (t : TypeId) (x i : AV U) (vx vi : Value) (γ : Gh) (w : World) (g : Option Bool) (H : Heap U)
    (kk : Kont U R) (r : R) (hx : VRel T γ w x vx) (hi : VRel T γ w i vi) (hH : HRel T γ w H) (h : indexAddrK e g t x i H kk = some r) :
    Two kk r g H (Reads P T γ w (Instr.indexAt t vx vi) kk r H) := by
  unfold indexAddrK at h
  rw [ho, hT, hP] at h
  split at h
  · rename_i el ht
    split at h
    · rename_i c L sp kd i
      cases hi
      split at h
      · rename_i hc
        obtain ⟨inf, hinf, hsz⟩ := cd_size ok hc
        refine Two.chk h fun hb hk => ?_
        obtain ⟨hb1, hb2⟩ := band_true hb
        have h0 : 0 ≤ i := by simpa [real] using hb1
        have h1 : i < L.length := by simpa [real] using hb2
        cases hx with
        | fsl c L sp base len cap vs hl hcap hsp hn hs hcell hv =>
          subst hl
          cases base with
          | none => have := hn rfl; omega
          | some a =>
            obtain ⟨b, o, s⟩ := a
            have := hs _ rfl
            simp at this
            subst this
            refine ⟨.pointer (some ⟨b, o + i.toNat * c.size T, none⟩), _, _, ?_, hk, ?_⟩
            · have hlt : 0 ≤ i ∧ i < (L.length : Int) := ⟨h0, h1⟩
              simp [Instr.indexAt, asIntOf, run_underlying ht, hlt, sizeOf_run hinf, hsz, addr_add]
            · have hg : (real T C n).get c L i = L.getD i.toNat (zero T c) := rfl
              rw [hg]
              have hget := getD_in (d := zero T c) h0 h1
              exact .fptr _ 0 b (o + i.toNat * c.size T) (vs i.toNat) (fun j av hj => hcell _ rfl _ _ hget j av hj) (fun j av hj => hv _ _ hget j av hj)
      · exact Two.bad h
    · rename_i id ver kd i
      cases hi
      split at h
      · rename_i c L ver' wr hob
        split at h
        · rename_i hcv
          obtain ⟨rfl, hc⟩ := hcv
          obtain ⟨inf, hinf, hsz⟩ := cd_size ok hc
          refine Two.chk h fun hb hk => ?_
          obtain ⟨hb1, hb2⟩ := band_true hb
          have h0 : 0 ≤ i := by simpa [real] using hb1
          have h1 : i < L.length := by simpa [real] using hb2
          cases hx with
          | sl id ver base len cap size hs =>
            obtain ⟨base', cap', hsv, hle, hn, hcs⟩ := hH.objs _ _ hob
            rw [hs] at hsv
            cases hsv
            cases base with
            | none => have := hn rfl; omega
            | some a =>
              obtain ⟨hsp, _, _⟩ := hcs _ rfl
              obtain ⟨b, o, s⟩ := a
              simp at hsp
              subst hsp
              refine ⟨.pointer (some ⟨b, o + i.toNat * c.size T, none⟩), _, _, ?_, hk, ?_⟩
              · have hlt : 0 ≤ i ∧ i < (L.length : Int) := ⟨h0, h1⟩
                simp [Instr.indexAt, asIntOf, run_underlying ht, hlt, sizeOf_run hinf, hsz, addr_add]
              · exact .aptr id _ i 0 b o _ _ _ hs h0 h1
        · exact Two.badAt h
      · exact Two.badAt h
    · exact Two.bad h
  · rename_i m el ht
    split at h
    · rename_i id off kd i
      cases hi
      split at h
      · split at h
        · rename_i hm
          obtain ⟨j, hj, rfl, hk⟩ := arrayAtK_some h
          refine Two.mk hk ?_
          cases hx with
          | ptr id off b hb =>
            obtain ⟨inf, hinf, hsz⟩ := cellsOf_info hm.2.2
            refine ⟨_, _, _, ?_, hk, .ptr _ _ _ hb⟩
            have hlt : j < m := hj
            simp [Instr.indexAt, asIntOf, run_underlying ht, Instr.sureAddr, hlt, sizeOf_run hinf, hsz, addr_add]
        · cases h
      · exact Two.bad h
    · exact Two.bad h
  · exact Two.bad h

theorem indexK_two {e : Env U} (ho : e.o = real T C n) (hP : e.P = P) (t : TypeId) (x i : AV U) (vx vi : Value) (γ : Gh) (w : World) (g : Option Bool) (H : Heap U)
    (kk : Kont U R) (r : R) (hx : VRel T γ w x vx) (hi : VRel T γ w i vi) (h : indexK e g t x i H kk = some r) :
    Two kk r g H (Reads P T γ w (Instr.index t vx vi) kk r H) := by
  unfold indexK at h
  rw [ho, hP] at h
  split at h
  · rename_i s kd i ht
    cases hi; cases hx
    refine Two.chk h fun hb hk => ?_
    obtain ⟨hb1, hb2⟩ := band_true hb
    have h0 : 0 ≤ i := by simpa [real] using hb1
    have h1 : i < s.size := by simpa [real] using hb2
    have hlt : i.toNat < s.size := by omega
    refine ⟨.int .u8 (s[i.toNat]).toNat, _, _, ?_, hk, ?_⟩
    · simp [Instr.index, asIntOf, run_underlying ht, h0, hlt]
    · have : (real T C n).sget s i = (s[i.toNat]).toNat := by simp [real, hlt]
      rw [this]
      exact .int _ _
  · exact Two.bad h

theorem convK_two {e : Env U} (ho : e.o = real T C n) (hP : e.P = P) (src dst : TypeId) (x : AV U) (vx : Value) (γ : Gh) (w : World) (g : Option Bool) (H : Heap U)
    (kk : Kont U R) (r : R) (hx : VRel T γ w x vx) (h : convK e g src dst x H kk = some r) :
    Two kk r g H (Reads P T γ w (convert src dst vx) kk r H) := by
  unfold convK at h
  rw [ho, hP] at h
  split at h
  · rename_i k1 kd k2 m h1 h2
    cases hx
    exact Two.mk h ⟨.int kd (kd.wrap m), _, _, by simp [convert, run_underlying h1, run_underlying h2, Conv.intToInt], h, .int _ _⟩
  · rename_i s h1 h2
    cases hx
    exact Two.mk h ⟨.string s, _, _, by simp [convert, run_underlying h1, run_underlying h2], h, .str _⟩
  · exact Two.bad h

theorem lenK_two (d : Option TypeDesc) (t : TypeId) (ts : Array TypeId) (ty : TypeId) (x : AV U) (vx : Value) (γ : Gh) (w : World) (g : Option Bool) (H : Heap U)
    (kk : Kont U R) (r : R) (hd : P.underlying t = d) (ht : ts[0]? = some t) (hx : VRel T γ w x vx) (hH : HRel T γ w H) (h : lenK (real T C n) d g x H kk = some r) :
    Two kk r g H (Reads P T γ w (Builtin.len_ ts ty #[vx]) kk r H) := by
  unfold lenK at h
  split at h
  · rename_i el
    have hlen : ∀ a l c, (Builtin.len_ ts ty #[.slice a l c]).run P w = .ok (.int .i64 l) w := by
      intro a l c; simp [Builtin.len_, ht, run_underlying hd, goInt]
    split at h
    · cases hx; exact Two.mk h ⟨_, _, _, hlen _ _ _, h, .int _ _⟩
    · cases hx with
      | fsl c L sp base len cap vs hl hcap hsp hn hs hcell hv => subst hl; exact Two.mk h ⟨_, _, _, hlen _ _ _, h, .int _ _⟩
    · split at h
      · rename_i c L ver' wr hob
        split at h
        · rename_i hv
          subst hv
          cases hx with
          | sl id ver base len cap size hs =>
            obtain ⟨base', cap', hsv, hle, hn, hcs⟩ := hH.objs _ _ hob
            rw [hs] at hsv
            cases hsv
            exact Two.mk h ⟨_, _, _, hlen _ _ _, h, .int _ _⟩
        · exact Two.badAt h
      · exact Two.badAt h
    · exact Two.bad h
  · split at h
    · cases hx; exact Two.mk h ⟨_, _, _, by simp [Builtin.len_, ht, run_underlying hd, goInt]; rfl, h, .int _ _⟩
    · exact Two.bad h
  · exact Two.bad h

theorem minmaxK_two (mx : Bool) (ts : Array TypeId) (ty : TypeId) (xs : List (AV U)) (vs : Array Value) (γ : Gh) (w : World) (g : Option Bool) (H : Heap U)
    (kk : Kont U R) (r : R) (hl : xs.length = vs.size) (hx : ∀ (i : Nat) av x, xs[i]? = some av → vs[i]? = some x → VRel T γ w av x) (h : minmaxK (real T C n) g mx xs H kk = some r) :
    Two kk r g H (Reads P T γ w (if mx then Builtin.max_ ts ty vs else Builtin.min_ ts ty vs) kk r H) := by
  unfold minmaxK at h
  split at h
  · rename_i kd a kd' b
    split at h
    · rename_i hk
      subst hk
      obtain ⟨l⟩ := vs
      match l, hl, hx with
      | [x, y], _, hx =>
        have h1 := hx 0 _ _ rfl rfl
        have h2 := hx 1 _ _ rfl rfl
        cases h1; cases h2
        cases mx
        · exact Two.mk h ⟨_, _, _, by simp [Builtin.min_, Builtin.min2]; rfl, h, .int _ _⟩
        · exact Two.mk h ⟨_, _, _, by simp [Builtin.max_, Builtin.max2]; rfl, h, .int _ _⟩
    · exact Two.bad h
  · rename_i kd a kd' b kd2 c
    split at h
    · rename_i hk
      obtain ⟨rfl, rfl⟩ := hk
      obtain ⟨l⟩ := vs
      match l, hl, hx with
      | [x, y, z], _, hx =>
        have h1 := hx 0 _ _ rfl rfl
        have h2 := hx 1 _ _ rfl rfl
        have h3 := hx 2 _ _ rfl rfl
        cases h1; cases h2; cases h3
        cases mx
        · exact Two.mk h ⟨_, _, _, by simp [Builtin.min_, Builtin.min2]; rfl, h, .int _ _⟩
        · exact Two.mk h ⟨_, _, _, by simp [Builtin.max_, Builtin.max2]; rfl, h, .int _ _⟩
    · exact Two.bad h
  · exact Two.bad h

end
end Go.Ab

namespace Go.Ab
section
variable {U : Nat → Type} {T : Tab U} {C : Callee U} {n : Nat} {P : Program} {R : Type}

/-- An optional operand. -/
def ORelV (T : Tab U) (γ : Gh) (w : World) : Option (AV U) → Option Value → Prop
  | none, none => True
  | some a, some v => VRel T γ w a v
  | _, _ => False

theorem bound_run {d : Int} {lo : Option (AV U)} {lo' : Option Value} {i : Int} {γ : Gh} {w : World} (h : bound d lo = some i) (hr : ORelV T γ w lo lo') :
    (lo = none ∧ lo' = none ∧ i = d) ∨ (∃ k, lo = some (.int k i) ∧ lo' = some (.int k i)) := by
  unfold bound at h
  split at h
  · cases h
    cases lo' with
    | none => exact .inl ⟨rfl, rfl, rfl⟩
    | some v => exact hr.elim
  · cases h
    cases lo' with
    | none => exact hr.elim
    | some v => cases hr; exact .inr ⟨_, rfl, rfl⟩
  · cases h

theorem sliceBound_run {k : IntKind} {i : Int} {y : Nat} {code : BoundsCode} (h0 : 0 ≤ i) (h1 : i ≤ y) (w : World) :
    (Instr.sliceBound (.int k i) y code).run P w = .ok i.toNat w := by
  simp [Instr.sliceBound, asIntOf, h0, h1]

theorem bounds_run {isS : Bool} {len cap : Nat} {lo hi : Option (AV U)} {lo' hi' : Option Value} {l h : Int} {γ : Gh} {w : World}
    (hl : bound 0 lo = some l) (hh : bound (len : Int) hi = some h) (rl : ORelV T γ w lo lo') (rh : ORelV T γ w hi hi')
    (h0 : 0 ≤ l) (h1 : l ≤ h) (h2 : h ≤ len) (h3 : len ≤ cap) :
    (Instr.sliceBounds isS len cap lo' hi' none).run P w = .ok (l.toNat, h.toNat, cap) w := by
  have e : h = (h.toNat : Int) := by omega
  generalize h.toNat = m at e
  subst e
  rcases bound_run hh rh with ⟨rfl, rfl, h4⟩ | ⟨k, rfl, rfl⟩
  · have : m = len := by omega
    subst this
    rcases bound_run hl rl with ⟨rfl, rfl, rfl⟩ | ⟨k, rfl, rfl⟩
    · simp [Instr.sliceBounds]
    · have hb := sliceBound_run (P := P) (k := k) (code := .sliceB) h0 h1 w
      simp [Instr.sliceBounds, hb]
  · have ha := sliceBound_run (P := P) (k := k) (i := (m : Int)) (y := cap) (code := if isS then .sliceAcap else .sliceAlen) (by omega) (by omega) w
    rcases bound_run hl rl with ⟨rfl, rfl, rfl⟩ | ⟨k', rfl, rfl⟩
    · simp [Instr.sliceBounds, ha]
    · have hb := sliceBound_run (P := P) (k := k') (code := .sliceB) h0 h1 w
      simp [Instr.sliceBounds, ha, hb]

theorem bounds3_run {len cap : Nat} {lo hi mx : Option (AV U)} {lo' hi' mx' : Option Value} {l h m : Int} {γ : Gh} {w : World} {mv : AV U}
    (hmx : mx = some mv) (hl : bound 0 lo = some l) (hh : bound (len : Int) hi = some h) (hm : bound 0 mx = some m) (rl : ORelV T γ w lo lo') (rh : ORelV T γ w hi hi') (rm : ORelV T γ w mx mx')
    (hhi : hi ≠ none)
    (h0 : 0 ≤ l) (h1 : l ≤ h) (h12 : h = m) (h2 : h ≤ len) (h3 : len ≤ cap) :
    (Instr.sliceBounds true len cap lo' hi' mx').run P w = .ok (l.toNat, h.toNat, h.toNat) w := by
  subst h12
  have e : h = (h.toNat : Int) := by omega
  generalize h.toNat = m at e
  subst e
  rcases bound_run hm rm with ⟨rfl, _, _⟩ | ⟨km, rfl, rfl⟩
  · cases hmx
  rcases bound_run hh rh with ⟨rfl, _, _⟩ | ⟨k, rfl, rfl⟩
  · exact absurd rfl hhi
  · have ha := sliceBound_run (P := P) (k := km) (i := (m : Int)) (y := cap) (code := .slice3Acap) (by omega) (by omega) w
    have hb := sliceBound_run (P := P) (k := k) (i := (m : Int)) (y := m) (code := .slice3B) (by omega) (by omega) w
    rcases bound_run hl rl with ⟨rfl, rfl, rfl⟩ | ⟨k', rfl, rfl⟩
    · simp [Instr.sliceBounds, ha, hb]
    · have hc := sliceBound_run (P := P) (k := k') (code := .slice3C) h0 h1 w
      simp [Instr.sliceBounds, ha, hb, hc]

theorem sliceStrK_two (s : ByteArray) (t : TypeId) (lo hi mx : Option (AV U)) (lo' hi' mx' : Option Value) (γ : Gh) (w : World) (g : Option Bool) (H : Heap U)
    (kk : Kont U R) (r : R) (ht : P.underlying t = some .string) (rl : ORelV T γ w lo lo') (rh : ORelV T γ w hi hi') (rm : ORelV T γ w mx mx')
    (h : sliceStrK (real T C n) g s lo hi mx H kk = some r) :
    Two kk r g H (Reads P T γ w (Instr.sliceAt t (.string s) lo' hi' mx') kk r H) := by
  unfold sliceStrK at h
  split at h
  · rename_i l hh hl hhh
    refine Two.chk h fun hc hk => ?_
    obtain ⟨c1, c2⟩ := band_true hc
    obtain ⟨c2, c3⟩ := band_true c2
    have h0 : 0 ≤ l := by simpa [real] using c1
    have h1 : l ≤ hh := by simpa [real] using c2
    have h2 : hh ≤ s.size := by simpa [real] using c3
    cases mx' with
    | some v => exact rm.elim
    | none =>
      refine ⟨.string (s.extract l.toNat hh.toNat), _, _, ?_, hk, .str _⟩
      simp [Instr.sliceAt, Instr.slice, run_underlying ht, bounds_run (P := P) (isS := false) (len := s.size) (cap := s.size) hl hhh rl rh h0 h1 h2 (Nat.le_refl _)]
  · exact Two.bad h

theorem sliceNilK_two (t el : TypeId) (i : TypeInfo) (lo hi mx : Option (AV U)) (lo' hi' mx' : Option Value) (γ : Gh) (w : World) (g : Option Bool) (H : Heap U)
    (kk : Kont U R) (r : R) (ht : P.underlying t = some (.slice el)) (hi0 : P.info? el = some i) (rl : ORelV T γ w lo lo') (rh : ORelV T γ w hi hi') (rm : ORelV T γ w mx mx')
    (h : sliceNilK (real T C n) g lo hi mx H kk = some r) :
    Two kk r g H (Reads P T γ w (Instr.sliceAt t (.slice none 0 0) lo' hi' mx') kk r H) := by
  unfold sliceNilK at h
  split at h
  · rename_i l hh hl hhh
    refine Two.chk h fun hc hk => ?_
    obtain ⟨c1, c2⟩ := band_true hc
    have h0 : l = 0 := by simpa [real] using c1
    have h1 : hh = 0 := by simpa [real] using c2
    subst h0 h1
    cases mx' with
    | some v => exact rm.elim
    | none =>
      refine ⟨.slice none 0 0, _, _, ?_, hk, .nilsl⟩
      simp [Instr.sliceAt, Instr.slice, run_underlying ht, sizeOf_run hi0, bounds_run (P := P) (isS := true) (len := 0) (cap := 0) hl hhh rl rh (by omega) (by omega) (by omega) (Nat.le_refl _)]
  · exact Two.bad h

theorem cut_get {α : Type} {L : List α} {l h i : Nat} {x : α} (hx : ((L.take h).drop l)[i]? = some x) : L[l + i]? = some x ∧ l + i < h := by
  rw [List.getElem?_drop] at hx
  have hlt := (List.getElem?_eq_some_iff.1 hx).1
  simp at hlt
  refine ⟨?_, by omega⟩
  rw [List.getElem?_take_of_lt (by omega)] at hx
  exact hx

/-- A piece of a slice that stays. -/
theorem VRel.cut {c : Cd} {L : List (den U c)} {sp sp' : Sp} {base : Option Addr} {len cap : Nat} {γ : Gh} {w : World} (hx : VRel T γ w (.fsl c L sp) (.slice base len cap))
    (l h m : Nat) (h1 : l ≤ h) (h2 : h ≤ len) (hm1 : h ≤ m) (hm2 : m ≤ cap) (hsp' : spOk sp' (h - l) (m - l)) :
    VRel T γ w (.fsl c ((L.take h).drop l) sp') (.slice (if m = l then base else base.map (·.add (l * c.size T))) (h - l) (m - l)) := by
  cases hx with
  | fsl c L sp base len cap vs hl hcap hsp hn hs hcell hv =>
    subst hl
    refine .fsl c _ sp' _ _ _ (fun i j => vs (l + i) j) (by simp; omega) (by omega) hsp' ?_ ?_ ?_ ?_
    · intro e
      split at e
      · omega
      · simp at e; subst e; have := hn rfl; omega
    · intro a ha
      split at ha
      · exact hs _ ha
      · simp at ha
        obtain ⟨a0, rfl, rfl⟩ := ha
        have := hs _ rfl
        unfold Addr.add
        split <;> simp [this]
    · intro a ha i x hx j av hj
      obtain ⟨hx', hlt⟩ := cut_get hx
      split at ha
      · rename_i hml
        omega
      · simp at ha
        obtain ⟨a0, rfl, rfl⟩ := ha
        have h0 := hs _ rfl
        obtain ⟨b, o, s⟩ := a0
        simp at h0
        subst h0
        have := hcell _ rfl _ _ hx' j av hj
        rw [addr_add]
        rw [Nat.add_mul] at this
        simp only [← Nat.add_assoc] at this
        exact this
    · intro i x hx j av hj
      obtain ⟨hx', hlt⟩ := cut_get hx
      exact hv _ _ hx' j av hj

theorem slice_run {t el : TypeId} {i : TypeInfo} {base : Option Addr} {len cap : Nat} {lo' hi' mx' : Option Value} {l h m : Nat} {w : World}
    (ht : P.underlying t = some (.slice el)) (hi0 : P.info? el = some i)
    (hb : (Instr.sliceBounds true len cap lo' hi' mx').run P w = .ok (l, h, m) w) :
    (Instr.sliceAt t (.slice base len cap) lo' hi' mx').run P w = .ok (.slice (if m = l then base else base.map (·.add (l * i.size))) (h - l) (m - l)) w := by
  simp [Instr.sliceAt, Instr.slice, run_underlying ht, sizeOf_run hi0, hb]

theorem sliceFslK_two (ok : T.Ok P) (t el : TypeId) (c : Cd) (L : List (den U c)) (sp : Sp) (vx : Value) (lo hi mx : Option (AV U)) (lo' hi' mx' : Option Value) (γ : Gh) (w : World) (g : Option Bool) (H : Heap U) (ft : Foot)
    (kk : Kont U R) (r : R) (ht : P.underlying t = some (.slice el)) (hcd : T.cd el = some c) (hx : VRel T γ w (.fsl c L sp) vx)
    (rl : ORelV T γ w lo lo') (rh : ORelV T γ w hi hi') (rm : ORelV T γ w mx mx')
    (h : sliceFslK (real T C n) g c L sp lo hi mx H ft kk = some r) :
    Two kk r g H (Reads P T γ w (Instr.sliceAt t vx lo' hi' mx') kk r H) := by
  obtain ⟨inf, hinf, hsz⟩ := cd_size ok hcd
  have hx0 := hx
  cases hx with
  | fsl _ _ sp base len cap vs hl hcap hsp hn hs hcell hv =>
    unfold sliceFslK at h
    split at h
    · split at h
      · rename_i l hh hbl hbh
        refine Two.chk h fun hc hk => ?_
        obtain ⟨c1, c2⟩ := band_true hc
        obtain ⟨c2, c3⟩ := band_true c2
        have h0 : 0 ≤ l := by simpa [real] using c1
        have h1 : l ≤ hh := by simpa [real] using c2
        have h2 : hh ≤ len := by rw [hl]; simpa [real] using c3
        have hbh' : bound (len : Int) hi = some hh := by rw [hl]; exact hbh
        cases mx' with
        | some v => exact rm.elim
        | none =>
          have hb := bounds_run (P := P) (isS := true) hbl hbh' rl rh h0 h1 h2 hcap
          refine ⟨_, _, _, slice_run ht hinf hb, hk, ?_⟩
          rw [hsz]
          refine VRel.cut hx0 l.toNat hh.toNat cap (by omega) (by omega) (by omega) (Nat.le_refl _) ?_
          cases hi with
          | some v => exact trivial
          | none =>
            cases sp with
            | tight =>
              simp only [spOk] at hsp ⊢
              simp [bound] at hbh'
              omega
            | unk => exact trivial
            | empty => exact trivial
      · exact Two.bad h
    · rename_i mv
      split at h
      · rename_i l hh m hbl hbh hbm
        refine Two.chk h fun hc hk => ?_
        obtain ⟨c1, c2⟩ := band_true hc
        obtain ⟨c2, c3⟩ := band_true c2
        obtain ⟨c3, c4⟩ := band_true c3
        have h0 : 0 ≤ l := by simpa [real] using c1
        have h1 : l ≤ hh := by simpa [real] using c2
        have h12 : hh = m := by simpa [real] using c3
        have h2 : hh ≤ len := by rw [hl]; simpa [real] using c4
        have hhi : hi ≠ none := fun e => by rw [e] at hbh; cases hbh
        have hbh' : bound (len : Int) hi = some hh := by
          cases hi with
          | none => exact absurd rfl hhi
          | some v => cases v <;> first | exact hbh | (simp [bound] at hbh)
        have hb := bounds3_run (P := P) rfl hbl hbh' hbm rl rh rm hhi h0 h1 h12 h2 hcap
        refine ⟨_, _, _, slice_run ht hinf hb, hk, ?_⟩
        rw [hsz]
        exact VRel.cut hx0 l.toNat hh.toNat hh.toNat (by omega) (by omega) (by omega) (by omega) rfl
      · exact Two.bad h

end
end Go.Ab
