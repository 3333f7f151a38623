/- A reflective evaluator over the code of a program, and the proof that what it finds is what the machine of the model does. It asks of the program what ProgOK says; nothing of a law is said here. -/
import GoSem.Dispatch
import GoSem.Machine.Frame
/-! Values of the evaluator. -/
namespace Go.Sw
open Go

/-- Abstract values: what may lie in memory and be handed over. -/
inductive AV where
  | bool (b : Bool)
  | int (k : IntKind) (n : Int)
  | str (s : List UInt8)
  | list (l : List AV)          -- a slice whose elements do not change
  | ref (r off : Nat)           -- a pointer to a heap object's cell
  | nilp
  | map (r : Nat)
  | nilmap
  | func (f : Nat) (cap : List AV)
  | meth (f : Nat) (first : List AV)   -- a function with its first arguments
  | yield (l : Nat)             -- what a range over a function hands to it
  | nilf
  | iface (t : Nat) (v : AV)
  | nili
  | agg (cs : List AV)
  | nils                        -- a slice without room, as an argument
  | hsl (r ver sz off len : Nat)   -- a slice of a heap object's row, as long as it is this one; sz: the cells of an element
  deriving Inhabited

end Go.Sw
/-! Package variables that do not change: what each reads as. -/
namespace Go.Sw
open Go

def asciiSpace : List AV := [.int .u8 0, .int .u8 0, .int .u8 0, .int .u8 0, .int .u8 0, .int .u8 0, .int .u8 0, .int .u8 0, .int .u8 0, .int .u8 1, .int .u8 1, .int .u8 1, .int .u8 1, .int .u8 1, .int .u8 0, .int .u8 0, .int .u8 0, .int .u8 0, .int .u8 0, .int .u8 0, .int .u8 0, .int .u8 0, .int .u8 0, .int .u8 0, .int .u8 0, .int .u8 0, .int .u8 0, .int .u8 0, .int .u8 0, .int .u8 0, .int .u8 0, .int .u8 0, .int .u8 1, .int .u8 0, .int .u8 0, .int .u8 0, .int .u8 0, .int .u8 0, .int .u8 0, .int .u8 0, .int .u8 0, .int .u8 0, .int .u8 0, .int .u8 0, .int .u8 0, .int .u8 0, .int .u8 0, .int .u8 0, .int .u8 0, .int .u8 0, .int .u8 0, .int .u8 0, .int .u8 0, .int .u8 0, .int .u8 0, .int .u8 0, .int .u8 0, .int .u8 0, .int .u8 0, .int .u8 0, .int .u8 0, .int .u8 0, .int .u8 0, .int .u8 0, .int .u8 0, .int .u8 0, .int .u8 0, .int .u8 0, .int .u8 0, .int .u8 0, .int .u8 0, .int .u8 0, .int .u8 0, .int .u8 0, .int .u8 0, .int .u8 0, .int .u8 0, .int .u8 0, .int .u8 0, .int .u8 0, .int .u8 0, .int .u8 0, .int .u8 0, .int .u8 0, .int .u8 0, .int .u8 0, .int .u8 0, .int .u8 0, .int .u8 0, .int .u8 0, .int .u8 0, .int .u8 0, .int .u8 0, .int .u8 0, .int .u8 0, .int .u8 0, .int .u8 0, .int .u8 0, .int .u8 0, .int .u8 0, .int .u8 0, .int .u8 0, .int .u8 0, .int .u8 0, .int .u8 0, .int .u8 0, .int .u8 0, .int .u8 0, .int .u8 0, .int .u8 0, .int .u8 0, .int .u8 0, .int .u8 0, .int .u8 0, .int .u8 0, .int .u8 0, .int .u8 0, .int .u8 0, .int .u8 0, .int .u8 0, .int .u8 0, .int .u8 0, .int .u8 0, .int .u8 0, .int .u8 0, .int .u8 0, .int .u8 0, .int .u8 0, .int .u8 0, .int .u8 0, .int .u8 0, .int .u8 0, .int .u8 0, .int .u8 0, .int .u8 0, .int .u8 0, .int .u8 0, .int .u8 0, .int .u8 0, .int .u8 0, .int .u8 0, .int .u8 0, .int .u8 0, .int .u8 0, .int .u8 0, .int .u8 0, .int .u8 0, .int .u8 0, .int .u8 0, .int .u8 0, .int .u8 0, .int .u8 0, .int .u8 0, .int .u8 0, .int .u8 0, .int .u8 0, .int .u8 0, .int .u8 0, .int .u8 0, .int .u8 0, .int .u8 0, .int .u8 0, .int .u8 0, .int .u8 0, .int .u8 0, .int .u8 0, .int .u8 0, .int .u8 0, .int .u8 0, .int .u8 0, .int .u8 0, .int .u8 0, .int .u8 0, .int .u8 0, .int .u8 0, .int .u8 0, .int .u8 0, .int .u8 0, .int .u8 0, .int .u8 0, .int .u8 0, .int .u8 0, .int .u8 0, .int .u8 0, .int .u8 0, .int .u8 0, .int .u8 0, .int .u8 0, .int .u8 0, .int .u8 0, .int .u8 0, .int .u8 0, .int .u8 0, .int .u8 0, .int .u8 0, .int .u8 0, .int .u8 0, .int .u8 0, .int .u8 0, .int .u8 0, .int .u8 0, .int .u8 0, .int .u8 0, .int .u8 0, .int .u8 0, .int .u8 0, .int .u8 0, .int .u8 0, .int .u8 0, .int .u8 0, .int .u8 0, .int .u8 0, .int .u8 0, .int .u8 0, .int .u8 0, .int .u8 0, .int .u8 0, .int .u8 0, .int .u8 0, .int .u8 0, .int .u8 0, .int .u8 0, .int .u8 0, .int .u8 0, .int .u8 0, .int .u8 0, .int .u8 0, .int .u8 0, .int .u8 0, .int .u8 0, .int .u8 0, .int .u8 0, .int .u8 0, .int .u8 0, .int .u8 0, .int .u8 0, .int .u8 0, .int .u8 0, .int .u8 0, .int .u8 0, .int .u8 0, .int .u8 0, .int .u8 0, .int .u8 0, .int .u8 0, .int .u8 0, .int .u8 0, .int .u8 0, .int .u8 0, .int .u8 0, .int .u8 0, .int .u8 0, .int .u8 0, .int .u8 0, .int .u8 0, .int .u8 0]
def pow10 : List AV := [.int .u64 1, .int .u64 10, .int .u64 100, .int .u64 1000, .int .u64 10000, .int .u64 100000, .int .u64 1000000, .int .u64 10000000, .int .u64 100000000, .int .u64 1000000000, .int .u64 10000000000, .int .u64 100000000000, .int .u64 1000000000000, .int .u64 10000000000000, .int .u64 100000000000000, .int .u64 1000000000000000, .int .u64 10000000000000000, .int .u64 100000000000000000, .int .u64 1000000000000000000, .int .u64 10000000000000000000]
/-- how many functions there are. -/
def nFuncs : Nat := 419

def globs (b : Nat) : Option (List AV) := match b with
  | 0 => some asciiSpace
  | 3 => some pow10
  | _ => none

end Go.Sw
/-! A deterministic evaluator over the model's own code: values, what lies behind pointers, and what each operation does. -/
namespace Go.Sw
open Go
noncomputable section

/-- What a temporary, or a box's cell, holds. -/
inductive Slot where
  | undef
  | skip                        -- what an operation leaves that its guard did not want
  | v (x : AV)
  | nil0                        -- a slice without room
  | own (sz : Nat) (l : List AV)   -- a slice that this place alone may append to
  | loc (s off : Nat)           -- a pointer to a box of this frame
  | imm (cs : List AV)          -- a pointer to cells that do not change
  | er (r ver i j : Nat)        -- a pointer to a cell of an element of a heap object's row
  | it (s : List UInt8) (pos : Nat)   -- a range over a string
  | coin                        -- a truth that the order of evaluation leaves open
  | agg (cs : List Slot)
  | tup (cs : List Slot)
  deriving Inhabited

structure LoopO where
  fn : Nat
  tmps : List (Nat × AV)
  params : List Nat
  assign : Code
  body : Code
  state : Nat                   -- 0 ready, 1 busy, 2 done
  pending : Option Code
  deriving Inhabited

inductive HO where
  | cells (cs : List Slot)
  | map (es : List (AV × Slot))
  | row (ver sz : Nat) (l : List AV)
  | loop (L : LoopO)
  | busy                        -- a loop in a round
  | dead
  | free                        -- a place that was put aside
  deriving Inhabited

abbrev Heap := List HO

inductive Dfr where
  | clo (f : Nat) (cap : List AV)
  | mark
  deriving Inhabited

structure St where
  tmps : List (Nat × Slot)      -- the newest first
  locs : List (Nat × List Slot)
  heap : Heap
  wl : List (Nat × Nat)         -- cells of boxes that were written
  ht : Bool                     -- whether the heap was touched
  defs : List Dfr
  deriving Inhabited

inductive Res (α : Type) where
  | ok (a : α)
  | panic (v : AV) (h : Heap)
  | bad (why : String)
  | oof
  deriving Inhabited

def Res.bind {α β : Type} : Res α → (α → Res β) → Res β
  | .ok a, f => f a
  | .panic v h, _ => .panic v h
  | .bad w, _ => .bad w
  | .oof, _ => .oof

def opt {α : Type} (why : String) : Option α → Res α
  | some a => .ok a
  | none => .bad why

def guardR {α : Type} (why : String) (b : Bool) (x : Res α) : Res α := match b with | true => x | false => .bad why

instance : Monad Res where
  pure := Res.ok
  bind := Res.bind

inductive Ex where
  | normal
  | exit (id : Nat)
  | ret
  | panic (v : AV)
  deriving Inhabited

structure Hint where
  esc : List Nat := []                  -- boxes, and rows, that are laid on the heap
  keep : List (Nat × List Nat) := []    -- at the loop in a block: what is kept
  vars : List Nat := []                 -- what is kept where ways meet again
  take : List Nat := []                 -- moves and loads that hand over
  frz : List Nat := []                  -- assignments at which a row of the heap becomes a slice
  rnd : Bool := false                   -- in a round of a range over a function

/-- what is called: a function, or the next round of a range over a function. -/
inductive Fnv where
  | fn (f : Nat)
  | yld (l : Nat)
abbrev Call := Fnv → List AV → Heap → Res (Slot × Heap)

structure Cfg where
  P : Program
  hint : Nat → Hint
  pure : Nat → Bool := fun _ => false     -- functions that are called with an empty heap
  ro : Nat → Bool := fun _ => false       -- functions that are found to leave the heap as it is
  orc : Nat → Option (Call → List AV → Heap → Res (Slot × Heap)) := fun _ => none   -- functions whose contracts are given
  tbl : Nat → List AV → Option Slot := fun _ _ => none   -- calls whose results are known

def tagS : Slot → String
  | .undef => "undef" | .skip => "skip" | .v (.list _) => "list" | .v .nils => "nils" | .v _ => "v" | .nil0 => "nil0" | .own _ _ => "own" | .loc _ _ => "loc" | .imm _ => "imm" | .er _ _ _ _ => "er" | .it _ _ => "it" | .coin => "coin" | .agg _ => "agg" | .tup _ => "tup"

def memN (n : Nat) : List Nat → Bool
  | [] => false
  | m :: l => match Nat.beq n m with | true => true | false => memN n l

mutual
/-- what a slot is for others. -/
def view : Slot → Slot
  | .own _ l => .v (.list l)
  | .it _ _ => .undef
  | .agg cs => .agg (views cs)
  | .tup cs => .tup (views cs)
  | s => s
def views : List Slot → List Slot
  | [] => []
  | s :: l => view s :: views l
end

mutual
def toAV : Slot → Option AV
  | .v x => some x
  | .nil0 => some (.list [])
  | .own _ l => some (.list l)
  | .agg cs => match toAVs cs with | some xs => some (.agg xs) | none => none
  | _ => none
def toAVs : List Slot → Option (List AV)
  | [] => some []
  | s :: l => match toAV s with
    | some x => match toAVs l with | some xs => some (x :: xs) | none => none
    | none => none
end

mutual
/-- whether a value leads nowhere into the heap. -/
def noRef : AV → Bool
  | .ref _ _ | .map _ | .yield _ | .hsl _ _ _ _ _ => false
  | .list l => noRefs l
  | .func _ l => noRefs l
  | .meth _ l => noRefs l
  | .iface _ x => noRef x
  | .agg l => noRefs l
  | _ => true
def noRefs : List AV → Bool
  | [] => true
  | x :: l => match noRef x with | true => noRefs l | false => false
end
mutual
def noRefS : Slot → Bool
  | .v x => noRef x
  | .nil0 => true
  | .own _ l => noRefs l
  | .agg cs => noRefSs cs
  | .tup cs => noRefSs cs
  | _ => false
def noRefSs : List Slot → Bool
  | [] => true
  | s :: l => match noRefS s with | true => noRefSs l | false => false
end

/-- Whether all are plain values. -/
def allV : List Slot → Option (List AV)
  | [] => some []
  | .v x :: l => match allV l with | some xs => some (x :: xs) | none => none
  | _ :: _ => none

mutual
def ofConst : Value → Slot
  | .bool b => .v (.bool b)
  | .int k n => .v (.int k n)
  | .string s => .v (.str s.data.toList)
  | .pointer none => .v .nilp
  | .slice none 0 0 => .nil0
  | .map none => .v .nilmap
  | .nilFunc => .v .nilf
  | .nilIface => .v .nili
  | .agg ⟨cs⟩ => match allV (ofConsts cs) with | some xs => .v (.agg xs) | none => .agg (ofConsts cs)
  | _ => .undef
def ofConsts : List Value → List Slot
  | [] => []
  | c :: l => ofConst c :: ofConsts l
end

def getT (ts : List (Nat × Slot)) (t : Nat) : Slot :=
  List.rec (motive := fun _ => Slot) Slot.undef (fun p _ ih => Bool.rec (motive := fun _ => Slot) ih p.2 (Nat.beq p.1 t)) ts

def opd (st : St) : Operand → Slot
  | .tmp t => getT st.tmps t
  | .const c => ofConst c
  | .func f => .v (.func f [])
  | .global g => match globs g with | some cs => .imm cs | none => .undef

def cellsOfSlot : Slot → List Slot
  | .agg cs => cs
  | .v (.agg cs) => cs.map .v
  | s => [s]

def cellsOfAV : AV → List AV
  | .agg cs => cs
  | x => [x]

def isAggT (P : Program) (t : Nat) : Option Bool :=
  match P.underlying t with
  | some (.struct _) | some (.array _ _) => some true
  | some _ => some false
  | none => none
def sizeT (P : Program) (t : Nat) : Option Nat := match P.info? t with | some i => some i.size | none => none
/-- the bytes of a type of the program's own. -/
def bytesT (P : Program) (t : Nat) : Option Nat := match Nat.blt t P.types.size with | true => (match P.info? t with | some i => some i.bytes | none => none) | false => none
def zeroT (P : Program) (t : Nat) : Option Slot :=
  match P.info? t with
  | some i => match i.zero with | some z => some (ofConst z) | none => none
  | none => none

def assoc (s : Nat) : List (Nat × List Slot) → Option (List Slot)
  | [] => none
  | (k, c) :: l => match Nat.beq k s with | true => some c | false => assoc s l
def assocSet (s : Nat) (c : List Slot) : List (Nat × List Slot) → List (Nat × List Slot)
  | [] => [(s, c)]
  | (k, d) :: l => match Nat.beq k s with | true => (s, c) :: l | false => (k, d) :: assocSet s c l

def sliceL {α : Type} (cs : List α) (off n : Nat) : Option (List α) :=
  match Nat.beq ((cs.drop off).take n).length n with | true => some ((cs.drop off).take n) | false => none
def writeL {α : Type} (cs : List α) (off : Nat) : List α → List α
  | [] => cs
  | x :: l => writeL (cs.set off x) (off + 1) l

mutual
/-- whether values are the same. -/
def eqA : AV → AV → Bool
  | .bool a, .bool b => a == b
  | .int k a, .int k' b => decide (k = k') && decide (a = b)
  | .str a, .str b => a == b
  | .list l, .list m => eqAs l m
  | .ref r o, .ref r' o' => Nat.beq r r' && Nat.beq o o'
  | .nilp, .nilp => true
  | .map r, .map r' => Nat.beq r r'
  | .nilmap, .nilmap => true
  | .func f l, .func f' m => Nat.beq f f' && eqAs l m
  | .meth f l, .meth f' m => Nat.beq f f' && eqAs l m
  | .yield l, .yield m => Nat.beq l m
  | .nilf, .nilf => true
  | .iface t x, .iface t' y => Nat.beq t t' && eqA x y
  | .nili, .nili => true
  | .agg l, .agg m => eqAs l m
  | .nils, .nils => true
  | .hsl a b c d e, .hsl a' b' c' d' e' => Nat.beq a a' && Nat.beq b b' && Nat.beq c c' && Nat.beq d d' && Nat.beq e e'
  | _, _ => false
def eqAs : List AV → List AV → Bool
  | [], [] => true
  | x :: l, y :: m => eqA x y && eqAs l m
  | _, _ => false
end
mutual
def eqS : Slot → Slot → Bool
  | .undef, .undef => true
  | .skip, .skip => true
  | .v x, .v y => eqA x y
  | .nil0, .nil0 => true
  | .own s l, .own s' m => Nat.beq s s' && eqAs l m
  | .loc s o, .loc s' o' => Nat.beq s s' && Nat.beq o o'
  | .imm l, .imm m => eqAs l m
  | .er a b c d, .er a' b' c' d' => Nat.beq a a' && Nat.beq b b' && Nat.beq c c' && Nat.beq d d'
  | .it s p, .it s' p' => s == s' && Nat.beq p p'
  | .coin, .coin => true
  | .agg l, .agg m => eqSs l m
  | .tup l, .tup m => eqSs l m
  | _, _ => false
def eqSs : List Slot → List Slot → Bool
  | [], [] => true
  | x :: l, y :: m => eqS x y && eqSs l m
  | _, _ => false
end
def eqM : List (AV × Slot) → List (AV × Slot) → Bool
  | [], [] => true
  | (x, s) :: l, (y, t) :: m => eqA x y && eqS s t && eqM l m
  | _, _ => false
/-- whether objects are the same; of loops that are in no round that is not told. -/
def eqH : HO → HO → Bool
  | .cells l, .cells m => eqSs l m
  | .map l, .map m => eqM l m
  | .row a b l, .row a' b' m => Nat.beq a a' && Nat.beq b b' && eqAs l m
  | .busy, .busy => true
  | .dead, .dead => true
  | .free, .free => true
  | _, _ => false
def eqHs : List HO → List HO → Bool
  | [], [] => true
  | x :: l, y :: m => eqH x y && eqHs l m
  | _, _ => false
def eqL : List (Nat × List Slot) → List (Nat × List Slot) → Bool
  | [], [] => true
  | (a, l) :: r, (b, m) :: q => Nat.beq a b && eqSs l m && eqL r q
  | _, _ => false
def eqD : List Dfr → List Dfr → Bool
  | [], [] => true
  | .clo f l :: r, .clo g m :: q => Nat.beq f g && eqAs l m && eqD r q
  | .mark :: r, .mark :: q => eqD r q
  | _, _ => false

/-- what an operation does: what it yields, what a temporary is from then on, a box's new cells, a new heap. -/
structure Eff where
  dst : Slot
  src : Option (Nat × Slot) := none
  box : Option (Nat × List Slot) := none
  heap : Option Heap := none
  log : List (Nat × Nat) := []

/-- what an operation finds: its operands, the frame's boxes, the heap. -/
structure Env where
  S : Operand → Slot
  B : Nat → Option (List Slot)
  H : Heap
  A : Option Nat := none     -- where a new object is laid, if it is known

/-- a new object: where it lies, and the heap. -/
def lay (E : Env) (x : HO) : Nat × Heap :=
  match E.A with
  | none => (E.H.length, E.H ++ [x])
  | some r => (r, E.H.set r x)
/-- whether its place is free. -/
def layOk (E : Env) : Bool :=
  match E.A with
  | none => true
  | some r => match E.H[r]? with | some .free => true | _ => false

/-- an operand that is handed over: from then on it is what it is for others. -/
def handed (x : Operand) (s : Slot) : Option (Nat × Slot) :=
  match x, s with
  | _, .v _ => none
  | _, .nil0 => none
  | .tmp t, s => some (t, view s)
  | _, _ => none

/-- what lies behind a pointer. -/
def behind (E : Env) : Slot → Option (List Slot × Nat)
  | .loc s off => match E.B s with | some cs => some (cs, off) | none => none
  | .v (.ref r off) => match E.H[r]? with | some (.cells cs) => some (cs, off) | _ => none
  | .imm cs => some (cs.map .v, 0)
  | .er r ver i j => match E.H[r]? with
    | some (.row ver' _ l) => (match Nat.beq ver ver', l[i]? with | true, some x => some ((cellsOfAV x).map .v, j) | _, _ => none)
    | _ => none
  | _ => none

def elemOf (x : AV) (cs : List AV) : AV := match x with | .agg _ => .agg cs | _ => cs.headD .nilp

def logOf (s off n : Nat) : List (Nat × Nat) := (List.range n).map fun j => (s, off + j)

/-- other cells behind a pointer. -/
def setBehind (E : Env) (p : Slot) (cs : List Slot) (off n : Nat) (e : Eff) : Option Eff :=
  match p with
  | .loc s _ => some { e with box := some (s, cs), log := logOf s off n }
  | .v (.ref r _) => some { e with heap := some (E.H.set r (.cells cs)) }
  | .er r ver i _ => match E.H[r]? with
    | some (.row ver' sz l) => (match Nat.beq ver ver', l[i]?, toAVs cs with
      | true, some x, some xs => some { e with heap := some (E.H.set r (.row ver' sz (l.set i (elemOf x xs)))) }
      | _, _, _ => none)
    | _ => none
  | _ => none

/-- what may lie in a cell. -/
def plainCell : Slot → Bool
  | .v (.agg _) => false
  | .v _ | .nil0 | .own _ _ => true
  | _ => false

def mkAgg (cs : List Slot) : Slot := match allV cs with | some xs => .v (.agg xs) | none => .agg cs

/-- an empty slice, as a part of a value. -/
def nilV : Slot → Slot
  | .nil0 => .v (.list [])
  | s => s

def plainR : Slot → Slot
  | .agg cs => mkAgg (cs.map nilV)
  | s => s

def evLoad (P : Program) (take : Bool) (t : Nat) (p : Slot) (E : Env) : Res Eff := do
  let (cs, off) ← opt "load: pointer" (behind E p)
  let ag ← opt "load: type" (isAggT P t)
  let n ← opt "load: type" (sizeT P t)
  match ag with
  | true => do
    let l ← opt "load: cells" (sliceL cs off n)
    match take with
    | true => match allV l with
      | some xs => .ok { dst := .v (.agg xs) }
      | none => opt "load: take" (setBehind E p (writeL cs off (views l)) off n { dst := .agg l })
    | false => .ok { dst := mkAgg (views l) }
  | false => do
    let s ← opt "load: cell" (cs[off]?)
    match take with
    | true => match s with
      | .v x => .ok { dst := .v x }
      | s => opt "load: take" (setBehind E p (cs.set off (view s)) off 1 { dst := s })
    | false => .ok { dst := view s }

def evStore (P : Program) (t : Nat) (p : Slot) (x : Operand) (E : Env) : Res Eff := do
  let (cs, off) ← opt "store: pointer" (behind E p)
  let n ← opt "store: type" (sizeT P t)
  guardR "store: size" (Nat.beq (cellsOfSlot (E.S x)).length n && (cellsOfSlot (E.S x)).all plainCell && Nat.ble (off + n) cs.length)
    (opt "store: place" (setBehind E p (writeL cs off (cellsOfSlot (E.S x))) off n { dst := .undef, src := handed x (E.S x) }))

def fieldOf (P : Program) (t f : Nat) : Option (Nat × Nat) :=
  match P.underlying t with
  | some (.struct fs) => match fs[f]? with | some fd => some (fd.offset, fd.type) | none => none
  | _ => none

def addOff (p : Slot) (off : Nat) : Res Slot :=
  match p with
  | .loc s o => .ok (.loc s (o + off))
  | .v (.ref r o) => .ok (.v (.ref r (o + off)))
  | .imm cs => .ok (.imm (cs.drop off))
  | .er r ver i o => .ok (.er r ver i (o + off))
  | _ => .bad "a pointer"

def evFieldAddr (P : Program) (t : Nat) (p : Slot) (f : Nat) : Res Slot := do
  let (off, ft) ← opt "fieldAddr: field" (fieldOf P t f)
  let n ← opt "fieldAddr: size" (sizeT P ft)
  guardR "fieldAddr: no size" (!Nat.beq n 0) (addOff p off)

def idx {α : Type} (l : List α) (i : Int) : Option α :=
  match decide (0 ≤ i) with | true => l[i.toNat]? | false => none

def sized (n : Nat) (x : AV) : Option (List AV) :=
  match Nat.beq (cellsOfAV x).length n with | true => some (cellsOfAV x) | false => none

def inRange (n : Int) (len : Nat) : Bool := decide (0 ≤ n) && decide (n < (len : Int))

def elemAddr (l : List AV) (n : Int) (sz : Nat) : Res Slot := do
  let y ← opt "indexAddr: range" (idx l n)
  let cs ← opt "indexAddr: element" (sized sz y)
  .ok (.imm cs)

def evIndexAddr (P : Program) (t : Nat) (x i : Slot) : Res Slot :=
  match i with
  | .v (.int _ n) =>
    match P.underlying t with
    | some (.slice e) => do
      let sz ← opt "indexAddr: size" (sizeT P e)
      match x with
      | .v (.list l) => elemAddr l n sz
      | .own _ l => elemAddr l n sz
      | .v (.hsl r ver sz' off len) => guardR "indexAddr: range" (Nat.beq sz sz' && inRange n len) (.ok (.er r ver (off + n.toNat) 0))
      | _ => .bad "indexAddr: slice"
    | some (.array len e) => do
      let sz ← opt "indexAddr: size" (sizeT P e)
      guardR "indexAddr: range" (inRange n len) (addOff x (n.toNat * sz))
    | _ => .bad "indexAddr: type"
  | _ => .bad "indexAddr: index"

def partV (P : Program) (t : Nat) (cs : List AV) (off : Nat) : Res AV := do
  let ag ← opt "part: type" (isAggT P t)
  let n ← opt "part: type" (sizeT P t)
  match ag with
  | true => do let l ← opt "part" (sliceL cs off n); .ok (.agg l)
  | false => opt "part" (cs[off]?)

def evIndex (P : Program) (t : Nat) (x i : AV) : Res AV :=
  match i, x with
  | .int _ n, .str s => match P.underlying t with
    | some .string => do let b ← opt "index: string" (idx s n); .ok (.int .u8 b.toNat)
    | _ => .bad "index: type"
  | .int _ n, .agg cs => match P.underlying t with
    | some (.array len e) => guardR "index: range" (inRange n len) (do
        let sz ← opt "index: size" (sizeT P e)
        partV P e cs (n.toNat * sz))
    | _ => .bad "index: type"
  | _, _ => .bad "index"

def evField (P : Program) (t : Nat) (x : AV) (f : Nat) : Res AV :=
  match x with
  | .agg cs => do
    let (off, ft) ← opt "field" (fieldOf P t f)
    partV P ft cs off
  | _ => .bad "field: value"

/-- wraps; quickly, where nothing is to be wrapped. -/
def wr (k : IntKind) (n : Int) : Int :=
  match k with
  | .i64 => match decide (-9223372036854775808 ≤ n) && decide (n ≤ 9223372036854775807) with | true => n | false => k.wrap n
  | k => k.wrap n

def evArith (op : BinOp) (k : IntKind) (a b : Int) : Option AV :=
  match op with
  | .add => some (.int k (wr k (a + b)))
  | .sub => some (.int k (wr k (a - b)))
  | .mul => some (.int k (wr k (a * b)))
  | .quo => match decide (b = 0) with | true => none | false => some (.int k (wr k (a.tdiv b)))
  | .rem => match decide (b = 0) with | true => none | false => some (.int k (a.tmod b))
  | .eql => some (.bool (decide (a = b)))
  | .neq => some (.bool (!decide (a = b)))
  | .lss => some (.bool (decide (a < b)))
  | .leq => some (.bool (decide (a ≤ b)))
  | .gtr => some (.bool (decide (b < a)))
  | .geq => some (.bool (decide (b ≤ a)))
  | .and => some (.int k (k.wrap ((BitVec.ofInt k.bits a &&& BitVec.ofInt k.bits b).toNat)))
  | .or => some (.int k (k.wrap ((BitVec.ofInt k.bits a ||| BitVec.ofInt k.bits b).toNat)))
  | .xor => some (.int k (k.wrap ((BitVec.ofInt k.bits a ^^^ BitVec.ofInt k.bits b).toNat)))
  | .andNot => some (.int k (k.wrap ((BitVec.ofInt k.bits a &&& ~~~ BitVec.ofInt k.bits b).toNat)))
  | _ => none

def bigLen : Nat := 549755813888

def evStr (op : BinOp) (a b : List UInt8) : Option AV :=
  match op with
  | .eql => some (.bool (a == b))
  | .neq => some (.bool (!(a == b)))
  | .lss => some (.bool (Op.bytesLess a b))
  | .leq => some (.bool (Op.bytesLess a b || a == b))
  | .gtr => some (.bool (!(Op.bytesLess a b || a == b)))
  | .geq => some (.bool (!Op.bytesLess a b))
  | .add => match decide (a.length + b.length ≤ bigLen) with | true => some (.str (a ++ b)) | false => none
  | _ => none

def eqOp (op : BinOp) (r : Bool) : Option AV := match op with | .eql => some (.bool r) | .neq => some (.bool (!r)) | _ => none

def sameInts (k : IntKind) : List AV → List AV → Option Bool
  | [], [] => some true
  | .int k1 a :: l, .int k2 b :: m => match decide (k1 = k) && decide (k2 = k), sameInts k l m with
    | true, some r => some (decide (a = b) && r)
    | _, _ => none
  | _, _ => none

/-- '==' of arrays of integers. -/
def evArr (P : Program) (op : BinOp) (t : Nat) (a b : List AV) : Option AV :=
  match P.underlying t with
  | some (.array n e) => match P.underlying e, sizeT P e, Nat.beq a.length n && Nat.beq b.length n with
    | some (.int k), some 1, true => match sameInts k a b with | some r => eqOp op r | none => none
    | _, _, _ => none
  | _ => none

def evBin (P : Program) (op : BinOp) (t : Nat) (x y : AV) : Option AV :=
  match x, y with
  | .int k a, .int k' b =>
    match op with
    | .shl => match decide (0 ≤ b) with | true => some (.int k (k.wrap (a * 2 ^ (min b.toNat k.bits)))) | false => none
    | .shr => match decide (0 ≤ b) with | true => some (.int k (a.fdiv (2 ^ (min b.toNat k.bits)))) | false => none
    | _ => match decide (k = k') with | true => evArith op k a b | false => none
  | .str a, .str b => evStr op a b
  | .bool a, .bool b => match P.underlying t with | some .bool => eqOp op (a == b) | _ => none
  | .nilp, .ref _ _ | .ref _ _, .nilp => match P.underlying t with | some (.pointer _) => eqOp op false | _ => none
  | .agg a, .agg b => evArr P op t a b
  | .nilp, .nilp => match P.underlying t with | some (.pointer _) => eqOp op true | _ => none
  | .nilf, .func _ _ | .func _ _, .nilf => match P.underlying t with | some (.func _ _ _) => eqOp op false | _ => none
  | .nilf, .meth _ _ | .meth _ _, .nilf => match P.underlying t with | some (.func _ _ _) => eqOp op false | _ => none
  | .nilf, .nilf => match P.underlying t with | some (.func _ _ _) => eqOp op true | _ => none
  | .nilmap, .map _ | .map _, .nilmap => match P.underlying t with | some (.map _ _) => eqOp op false | _ => none
  | .nilmap, .nilmap => match P.underlying t with | some (.map _ _) => eqOp op true | _ => none
  | _, _ => none

def isNili : AV → Option Bool
  | .nili => some true
  | .iface _ _ => some false
  | _ => none

def nilOp (P : Program) (op : BinOp) (t : Nat) (a : AV) : Option AV :=
  match P.underlying t with
  | some (.interface _) => match isNili a with | some r => eqOp op r | none => none
  | _ => none

/-- an operation on two values; '==' of interface values only with the literal nil. -/
def evNil (P : Program) (op : BinOp) (t : Nat) (x y : Operand) (a b : AV) : Option AV :=
  match x, y with
  | .const .nilIface, _ => nilOp P op t b
  | _, .const .nilIface => nilOp P op t a
  | _, _ => evBin P op t a b

def evUn (op : UnOp) (x : AV) : Option AV :=
  match op, x with
  | .neg, .int k n => some (.int k (wr k (0 - n)))
  | .not, .bool b => some (.bool (!b))
  | .xor, .int k n => some (.int k (k.wrap ((BitVec.ofInt k.bits (if k.signed then -1 else k.max) ^^^ BitVec.ofInt k.bits n).toNat)))
  | _, _ => none

def bytesOf : List AV → Option (List UInt8)
  | [] => some []
  | .int .u8 n :: l => match decide (0 ≤ n) && decide (n < 256), bytesOf l with
    | true, some r => some (UInt8.ofNat n.toNat :: r)
    | _, _ => none
  | _ :: _ => none

def evConvert (P : Program) (src dst : Nat) (x : AV) : Option AV :=
  match P.underlying src, P.underlying dst, x with
  | some (.int _), some (.int k), .int _ n => some (.int k (wr k n))
  | some .string, some .string, .str s => some (.str s)
  | some (.slice e), some .string, .list l => match P.underlying e with
    | some (.int .u8) => match bytesOf l with | some s => some (.str s) | none => none
    | _ => none
  | _, _, _ => none

/-- a slice of a row, while it is as it was. -/
def rowPart (H : Heap) (r ver sz off len : Nat) : Option (List AV) :=
  match H[r]? with
  | some (.row ver' sz' l) => match Nat.beq ver ver' && Nat.beq sz sz' && Nat.ble (off + len) l.length with | true => some ((l.drop off).take len) | false => none
  | _ => none

def appended (H : Heap) : Slot → Res (List AV)
  | .v (.hsl r ver sz off len) => opt "append: row" (rowPart H r ver sz off len)
  | .v (.list l) => .ok l
  | .own _ l => .ok l
  | .nil0 => .ok []
  | .v (.str s) => .ok (s.map fun b => AV.int .u8 b.toNat)
  | _ => .bad "append: what is appended"

def sizedAll (sz : Nat) (l : List AV) : Bool := l.all fun z => Nat.beq (cellsOfAV z).length sz

/-- what an append yields: a slice of the place's own; or, on the heap, a row that is a new one. -/
def evAppend (P : Program) (hp : Bool) (t : Nat) (x : Operand) (sx y : Slot) (E : Env) : Res Eff :=
  match P.underlying t with
  | some (.slice e) => do
    let sz ← opt "append: size" (sizeT P e)
    let by_ ← opt "append: size" (bytesT P e)
    let ys ← appended E.H y
    guardR "append: element" (Nat.ble by_ 256 && !Nat.beq by_ 0 && !Nat.beq sz 0 && sizedAll sz ys)
      (match sx with
      | .nil0 => guardR "append: long" (decide (ys.length ≤ bigLen)) (match hp with
        | true => guardR "append: place" (layOk E && Nat.ble 1 ys.length) (.ok { dst := .v (.hsl (lay E (.row 0 sz ys)).1 0 sz 0 ys.length), heap := some (lay E (.row 0 sz ys)).2 })
        | false => .ok { dst := .own sz ys })
      | .own sz' l => guardR "append: long" (Nat.beq sz sz' && decide (l.length + ys.length ≤ bigLen)) (match hp with
        | true => guardR "append: place" (layOk E && Nat.ble 1 ys.length && Nat.beq l.length 0) (.ok { dst := .v (.hsl (lay E (.row 0 sz ys)).1 0 sz 0 ys.length), heap := some (lay E (.row 0 sz ys)).2, src := handed x sx })
        | false => .ok { dst := .own sz (l ++ ys), src := handed x sx })
      | .v (.hsl r ver _ 0 n) => match E.H[r]? with
        | some (.row ver' sz' l) => guardR "append: long" (Nat.beq sz sz' && Nat.beq ver ver' && Nat.ble n l.length && decide (n + ys.length ≤ bigLen))
            (.ok { dst := .v (.hsl r (ver + 1) sz 0 (n + ys.length)), heap := some (E.H.set r (.row (ver + 1) sz (l.take n ++ ys))) })
        | _ => .bad "append: row"
      | s => .bad ("append: not its own: " ++ tagS s))
  | _ => .bad "append: type"

def natOf (lo : Option Slot) (dflt : Nat) (top : Nat) : Option Nat :=
  match lo with
  | none => some dflt
  | some (.v (.int _ n)) => match decide (0 ≤ n) && decide (n ≤ (top : Int)) with | true => some n.toNat | false => none
  | _ => none

/-- the cells of a list's elements, if it has any. -/
def headSized (sz : Nat) : List AV → Bool
  | [] => true
  | x :: _ => Nat.beq (cellsOfAV x).length sz

def evSlice (P : Program) (t : Nat) (x : Slot) (lo hi : Option Slot) : Res Slot :=
  match P.underlying t, x with
  | some .string, .v (.str s) => do
    let h ← opt "slice: high" (natOf hi s.length s.length)
    let l ← opt "slice: low" (natOf lo 0 h)
    .ok (.v (.str ((s.take h).drop l)))
  | some (.slice e), .v (.list s) => do
    let sz ← opt "slice: size" (sizeT P e)
    let h ← opt "slice: high" (natOf hi s.length s.length)
    let l ← opt "slice: low" (natOf lo 0 h)
    guardR "slice: size" (headSized sz s) (.ok (.v (.list ((s.take h).drop l))))
  | some (.slice e), .nil0 => do
    let _ ← opt "slice: size" (sizeT P e)
    let h ← opt "slice: high" (natOf hi 0 0)
    let _ ← opt "slice: low" (natOf lo 0 h)
    .ok .nil0
  | some (.slice e), .v (.hsl r ver sz off len) => do
    let sz' ← opt "slice: size" (sizeT P e)
    let h ← opt "slice: high" (natOf hi len len)
    let l ← opt "slice: low" (natOf lo 0 h)
    guardR "slice: size" (Nat.beq sz sz') (match Nat.beq l 0 || Nat.blt l h with
      | true => .ok (.v (.hsl r ver sz (off + l) (h - l)))
      | false => .ok (.v (.list [])))
  | _, _ => .bad "slice"

def goI (n : Nat) : Slot := .v (.int .i64 (n : Nat))

def evLen (P : Program) (t : Nat) (x : Slot) (H : Heap) : Res Slot :=
  match P.underlying t, x with
  | some .string, .v (.str s) => .ok (goI s.length)
  | some (.slice _), .v (.list l) => .ok (goI l.length)
  | some (.slice _), .own _ l => .ok (goI l.length)
  | some (.slice _), .nil0 => .ok (goI 0)
  | some (.slice _), .v (.hsl _ _ _ _ n) => .ok (goI n)
  | some (.array n _), _ => .ok (goI n)
  | some (.map _ _), .v .nilmap => .ok (goI 0)
  | some (.map _ _), .v (.map r) => match H[r]? with
    | some (.map es) => .ok (goI es.length)
    | _ => .bad "len: map"
  | _, _ => .bad "len"

def fillS (place : Nat → Option (Nat × Nat)) (cells : List Slot) : List (Nat × Slot) → Option (List Slot)
  | [] => some cells
  | (i, s) :: rest =>
    match place i with
    | none => none
    | some (off, size) =>
      match Nat.beq (cellsOfSlot s).length size && (cellsOfSlot s).all plainCell && Nat.ble (off + size) cells.length with
      | true => fillS place (writeL cells off (cellsOfSlot s)) rest
      | false => none

def fieldsOf (P : Program) : List Field → Option (List (Nat × Nat))
  | [] => some []
  | f :: l => match sizeT P f.type with
    | some n => match fieldsOf P l with | some r => some ((f.offset, n) :: r) | none => none
    | none => none

def placesOf (P : Program) (t : Nat) : Option (Nat → Option (Nat × Nat)) :=
  match P.underlying t with
  | some (.struct fs) => match fieldsOf P fs.toList with | some l => some (fun i => l[i]?) | none => none
  | some (.array _ e) => match sizeT P e with | some n => some (fun i => some (i * n, n)) | none => none
  | _ => none

def evBuild (P : Program) (t : Nat) (parts : List (Nat × Slot)) : Res Slot := do
  let z ← opt "build: zero" (zeroT P t)
  let pl ← opt "build: places" (placesOf P t)
  let cs ← opt "build: parts" (fillS pl (cellsOfSlot z) parts)
  guardR "build: cells" (cs.all plainCell) (.ok (mkAgg cs))

def chunks {α : Type} (n : Nat) : Nat → List α → List (List α)
  | 0, _ => []
  | k + 1, l => l.take n :: chunks n k (l.drop n)

def ofCells (ag : Bool) (cs : List AV) : AV := match ag with | true => .agg cs | false => cs.headD .nilp

def repeatL {α : Type} : Nat → List α → List α
  | 0, _ => []
  | n + 1, l => l ++ repeatL n l

/-- a slice literal. -/
def evBuildSlice (P : Program) (t len : Nat) (parts : List (Nat × Slot)) : Res Slot :=
  match P.underlying t with
  | some (.slice e) => do
    let sz ← opt "buildSlice: size" (sizeT P e)
    let ag ← opt "buildSlice: type" (isAggT P e)
    let z ← opt "buildSlice: zero" (zeroT P e)
    let cs ← opt "buildSlice: parts" (fillS (fun i => some (i * sz, sz)) (repeatL len (cellsOfSlot z)) parts)
    let xs ← opt "buildSlice: values" (toAVs cs)
    guardR "buildSlice: long" (Nat.ble (len * sz) 16777216 && !Nat.beq sz 0 && Nat.beq (cellsOfSlot z).length sz && (ag || Nat.beq sz 1) && cs.all plainCell) (.ok (.own sz ((chunks sz len xs).map (ofCells ag))))
  | _ => .bad "buildSlice: type"

def evMaxMin (mx : Bool) : List AV → Option AV
  | [.int k a, .int _ b] => some (.int k (match mx with | true => (match decide (a < b) with | true => b | false => a) | false => (match decide (b < a) with | true => b | false => a)))
  | _ => none

def methodOf (P : Program) (t : Nat) (name : String) : Option Nat :=
  match P.info? t with
  | none => none
  | some i => match i.methods.find? (fun m => m.name == name) with
    | some m => match m.path.isEmpty, m.func, P.underlying t with
      | true, some (f, true), some (.pointer _) => some f
      | true, some (_, false), some (.pointer _) => none
      | true, some (f, false), some _ => some f
      | _, _, _ => none
    | none => none

def sameKey : AV → AV → Option Bool
  | .str a, .str b => some (a == b)
  | .int k a, .int k' b => match decide (k = k') with | true => some (decide (a = b)) | false => none
  | _, _ => none

def findKeyL (k : AV) : List (AV × Slot) → Option (Option Slot)
  | [] => some none
  | (k', s) :: l => match sameKey k k' with
    | some true => some (some s)
    | some false => findKeyL k l
    | none => none
def setKeyL (k : AV) (s : Slot) : List (AV × Slot) → List (AV × Slot)
  | [] => [(k, s)]
  | (k', s') :: l => match sameKey k k' with
    | some true => (k', s) :: l
    | _ => (k', s') :: setKeyL k s l
end
end Go.Sw
/-! The evaluator: operations, regions, code, functions. -/
namespace Go.Sw
open Go
noncomputable section

def toAVR (s : Slot) : Res AV := opt "a value" (toAV s)
def toArg (s : Slot) : Res AV := match s with | .nil0 => .ok .nils | s => toAVR s
def argsR : List Slot → Res (List AV)
  | [] => .ok []
  | s :: l => (toArg s).bind fun x => (argsR l).bind fun xs => .ok (x :: xs)

/-- whether an operation's result is laid on the heap; whether a move, or a load, hands over. -/
def onHeap (h : Hint) (dst : Option Nat) : Bool := match dst with | some d => memN d h.esc | none => false
def takes (h : Hint) (dst : Option Nat) : Bool := match dst with | some d => memN d h.take | none => false
def freezes (h : Hint) (dst : Option Nat) : Bool := match dst with | some d => memN d h.frz | none => false

/-- a new box. -/
def newBox (h : Hint) (site : Option Nat) (cs : List Slot) (src : Option (Nat × Slot)) (E : Env) : Res Eff :=
  match site with
  | none => .bad "a box without a name"
  | some d =>
    guardR "box: cell" (cs.all plainCell) (match memN d h.esc with
    | true => guardR "box: place" (layOk E) (.ok { dst := .v (.ref (lay E (.cells cs)).1 0), src := src, heap := some (lay E (.cells cs)).2 })
    | false => match E.B d with
      | some _ => .bad "box: there is one"
      | none => .ok { dst := .loc d 0, src := src, box := some (d, cs), log := logOf d 0 cs.length })

/-- a call with an empty heap: it finds none of the objects, and none of what it lays there is found again. -/
def pureCall (call : Call) (f : Fnv) (xs : List AV) (H : Heap) : Res Eff :=
  match call f xs [] with
  | .ok (r, _) => guardR "pure: result" (noRefS r) (.ok { dst := r })
  | .panic v _ => guardR "pure: panic" (noRef v) (.panic v H)
  | .bad w => .bad w
  | .oof => .oof

def openCall (call : Call) (f : Fnv) (xs : List AV) (H : Heap) : Res Eff :=
  match call f xs H with
  | .ok (r, H') => .ok { dst := r, heap := some H' }
  | .panic v H' => .panic v H'
  | .bad w => .bad w
  | .oof => .oof

def isPure (C : Cfg) : Fnv → Bool
  | .fn f => C.pure f
  | .yld _ => false

/-- a call that leaves the heap as it is. -/
def roCall (call : Call) (f : Fnv) (xs : List AV) (H : Heap) : Res Eff :=
  match call f xs H with
  | .ok (r, H') => guardR "ro: heap" (eqHs H' H) (.ok { dst := r })
  | .panic _ _ => .bad "ro: panic"
  | .bad w => .bad w
  | .oof => .oof

def isRo (C : Cfg) : Fnv → Bool
  | .fn f => C.ro f
  | .yld _ => false

def doCall (C : Cfg) (call : Call) (f : Fnv) (args : List Slot) (cap : List AV) (H : Heap) : Res Eff :=
  (argsR args).bind fun xs => match isPure C f && noRefs (xs ++ cap) with
    | true => pureCall call f (xs ++ cap) H
    | false => match isRo C f with
      | true => roCall call f (xs ++ cap) H
      | false => openCall call f (xs ++ cap) H

def pureR (r : Res Slot) : Res Eff := r.bind fun s => .ok { dst := s }
def pureV (r : Res AV) : Res Eff := r.bind fun s => .ok { dst := .v s }

def isAggAV : AV → Bool
  | .agg _ => true
  | _ => false

/-- a result that a frame may hand out. -/
def retOk : Slot → Bool
  | .v _ | .nil0 | .own _ _ => true
  | .agg cs => cs.all plainCell
  | _ => false
def retsOk : Slot → Bool
  | .tup cs => cs.all retOk
  | s => retOk s

def evPick (c a b : Slot) : Res Eff :=
  match c with
  | .v (.bool t) => match a, b with
    | .v (.bool p), .v (.bool q) => .ok { dst := .v (.bool (match t with | true => p | false => q)) }
    | _, _ => match t with
      | true => pureV (toAVR a)
      | false => pureV (toAVR b)
  | _ => .bad "pick"

def evNilCheck (p : Slot) : Res Eff :=
  match p with
  | .loc s off => .ok { dst := .loc s off }
  | .imm cs => .ok { dst := .imm cs }
  | .er r ver i j => .ok { dst := .er r ver i j }
  | .v (.ref r off) => .ok { dst := .v (.ref r off) }
  | _ => .bad "nilCheck"

def evMakeInterface (P : Program) (t : Nat) (x : Slot) : Res AV := do
  let a ← toAVR x
  match P.underlying t with
  | some (.interface _) => .bad "makeInterface"
  | some _ => .ok (.iface t a)
  | none => .bad "makeInterface"

def isZero : Slot → Bool
  | .v (.int _ n) => decide (n = 0)
  | _ => false

/-- x[:0:0]. -/
def evSlice0 (P : Program) (t : Nat) (x hi m : Slot) : Res Slot :=
  match x, P.underlying t with
  | .v (.list _), some (.slice e) => do
    let sz ← opt "slice: size" (sizeT P e)
    guardR "slice: max" (isZero hi && isZero m) (.ok (.own sz []))
  | _, _ => .bad "slice: max"

def evExtract (x : Operand) (s : Slot) (i : Nat) : Res Eff :=
  match s with
  | .tup cs => match cs[i]? with
    | some (.v y) => .ok { dst := .v y }
    | some c => match x with
      | .tmp t => guardR "extract: slot" (retOk c) (.ok { dst := c, src := some (t, .tup (cs.set i (view c))) })
      | _ => .bad "extract"
    | none => .bad "extract"
  | _ => .bad "extract: tuple"

def assertFails (P : Program) (t : Nat) (ok : Bool) : Res Slot :=
  match ok with
  | true => do let z ← opt "typeAssert: zero" (zeroT P t); .ok (.tup [view z, .v (.bool false)])
  | false => .bad "typeAssert: panics"

def evTypeAssert (P : Program) (x : Slot) (t : Nat) (ok : Bool) : Res Slot :=
  match P.underlying t with
  | some (.interface _) => .bad "typeAssert: interface"
  | none => .bad "typeAssert: type"
  | some _ => match x with
    | .v (.iface t' v) => match Nat.beq t' t with
      | true => .ok (match ok with | true => .tup [.v v, .v (.bool true)] | false => .v v)
      | false => assertFails P t ok
    | .v .nili => assertFails P t ok
    | _ => .bad "typeAssert"

/-- whether a map's keys are of the kind of this one. -/
def keyOk (P : Program) (kt : Nat) (k : AV) : Bool :=
  match k with
  | .str _ => match P.underlying kt with | some .string => true | _ => false
  | .int _ _ => match P.underlying kt with | some (.int _) => true | _ => false
  | _ => false

def evLookup (P : Program) (t : Nat) (m k : Slot) (ok : Bool) (H : Heap) : Res Slot :=
  match m, P.underlying t with
  | .v (.map r), some (.map kt et) => match H[r]? with
    | some (.map es) => do
        let key ← toAVR k
        let f ← opt "lookup: key" (findKeyL key es)
        let z ← opt "lookup: zero" (zeroT P et)
        guardR "lookup: kind" (keyOk P kt key) (.ok (match ok with
          | true => .tup [(match f with | some s => view s | none => view z), .v (.bool f.isSome)]
          | false => (match f with | some s => view s | none => view z)))
    | _ => .bad "lookup: map"
  | _, _ => .bad "lookup"

def evMapUpdate (P : Program) (t : Nat) (m k : Slot) (x : Operand) (s : Slot) (H : Heap) : Res Eff :=
  match m, P.underlying t with
  | .v (.map r), some (.map kt _) => match H[r]? with
    | some (.map es) => do
        let key ← toAVR k
        let _ ← opt "mapUpdate: key" (findKeyL key es)
        guardR "mapUpdate: value" (retOk s && keyOk P kt key) (.ok { dst := .undef, src := handed x s, heap := some (H.set r (.map (setKeyL key s es))) })
    | _ => .bad "mapUpdate: map"
  | _, _ => .bad "mapUpdate"

def evNext (x : Operand) (s : Slot) : Res Eff :=
  match s, x with
  | .it s pos, .tmp t => match decide (pos < s.length) with
    | true => .ok { dst := .tup [.v (.bool true), goI pos, .v (.int .i32 ((Utf8.decode ⟨s.toArray⟩ pos).1 : Nat))], src := some (t, .it s (pos + (Utf8.decode ⟨s.toArray⟩ pos).2)) }
    | false => .ok { dst := .tup [.v (.bool false)] }
  | _, _ => .bad "next"

def evMakeSlice (P : Program) (hp : Bool) (t : Nat) (n m : Slot) (E : Env) : Res Eff :=
  match n, m, P.underlying t with
  | .v (.int _ a), .v (.int _ b), some (.slice e) => do
    let sz ← opt "makeSlice: size" (sizeT P e)
    let by_ ← opt "makeSlice: size" (bytesT P e)
    let z ← opt "makeSlice: zero" (zeroT P e)
    let y ← toAVR z
    let ag ← opt "makeSlice: type" (isAggT P e)
    guardR "makeSlice: long" (decide (0 ≤ a) && decide (a ≤ b) && decide (b ≤ (bigLen : Int)) && Nat.ble by_ 256 && !Nat.beq sz 0 && (cellsOfSlot z).all plainCell && Nat.beq (cellsOfAV y).length sz && (ag == isAggAV y)) (match hp with
      | true => guardR "makeSlice: room" (decide (a = b) && layOk E) (.ok { dst := .v (.hsl (lay E (.row 0 sz (List.replicate a.toNat y))).1 0 sz 0 a.toNat), heap := some (lay E (.row 0 sz (List.replicate a.toNat y))).2 })
      | false => .ok { dst := .own sz (List.replicate a.toNat y) })
  | _, _, _ => .bad "makeSlice"

def evAppendOp (P : Program) (h : Hint) (dst : Option Nat) (c : Go.Call) (E : Env) : Res Eff :=
  match c.args.toList, c.argTypes.toList with
  | [x, y], [t, ty] => match P.underlying ty with
    | some (.slice _) => evAppend P (onHeap h dst) t x (E.S x) (E.S y) E
    | some .string => evAppend P (onHeap h dst) t x (E.S x) (E.S y) E
    | _ => .bad "append: type"
  | _, _ => .bad "append"

def evCall (C : Cfg) (call : Call) (h : Hint) (o : Oper) (c : Go.Call) (E : Env) : Res Eff :=
  match c.callee with
  | .builtin .len => match c.args.toList, c.argTypes.toList with
    | [x], [t] => pureR (evLen C.P t (E.S x) E.H)
    | _, _ => .bad "len"
  | .builtin .append => evAppendOp C.P h o.dst c E
  | .builtin .max => pureV (do let xs ← argsR (c.args.toList.map E.S); opt "max" (evMaxMin true xs))
  | .builtin .min => pureV (do let xs ← argsR (c.args.toList.map E.S); opt "min" (evMaxMin false xs))
  | .builtin _ => .bad "builtin"
  | .value f => match E.S f with
    | .v (.func g cap) => doCall C call (.fn g) (c.args.toList.map E.S) cap E.H
    | .v (.meth g first) => doCall C call (.fn g) (first.map .v ++ c.args.toList.map E.S) [] E.H
    | .v (.yield l) => doCall C call (.yld l) (c.args.toList.map E.S) [] E.H
    | _ => .bad "call: function"
  | .invoke x name => match E.S x with
    | .v (.iface t y) => match methodOf C.P t name with
      | some g => doCall C call (.fn g) (.v y :: c.args.toList.map E.S) [] E.H
      | none => .bad "invoke: method"
    | _ => .bad "invoke: interface"

def evAssign (x : Operand) (s : Slot) : Res Eff := .ok { dst := s, src := handed x s }

/-- a row of the heap becomes a slice of the place's own. -/
def evFreeze (x : Operand) (s : Slot) (E : Env) : Res Eff :=
  match s with
  | .v (.hsl r ver sz 0 n) => match E.H[r]? with
    | some (.row ver' sz' l) => guardR "freeze: row" (Nat.beq ver ver' && Nat.beq sz sz' && Nat.ble n l.length) (.ok { dst := .own sz (l.take n), heap := some (E.H.set r .dead) })
    | _ => .bad "freeze: row"
  | s => evAssign x s

/-- whether a slice is nil, where that is known. -/
def isNilSl : Slot → Option Bool
  | .nil0 => some true
  | .v (.list (_ :: _)) => some false
  | .own _ (_ :: _) => some false
  | .v (.hsl _ _ _ _ _) => some false
  | _ => none
def nilSl (P : Program) (op : BinOp) (t : Nat) (s : Slot) : Option AV :=
  match P.underlying t with
  | some (.slice _) => match isNilSl s with | some r => eqOp op r | none => none
  | _ => none

def evBinOp (P : Program) (op : BinOp) (t : Nat) (x y : Operand) (sx sy : Slot) : Res Eff :=
  match y with
  | .const (.slice none 0 0) => pureV (opt "binOp: nil slice" (nilSl P op t sx))
  | y => pureV (do let a ← toAVR sx; let b ← toAVR sy; opt "binOp" (evNil P op t x y a b))

def evCore (C : Cfg) (call : Call) (h : Hint) (o : Oper) (E : Env) : Res Eff :=
  match o.op with
  | .move x => match takes h o.dst with
    | true => .ok { dst := E.S x, src := handed x (E.S x) }
    | false => .ok { dst := view (E.S x) }
  | .assign x => match freezes h o.dst with
    | true => evFreeze x (E.S x) E
    | false => evAssign x (E.S x)
  | .pick c a b => evPick (E.S c) (E.S a) (E.S b)
  | .alloc e => do let z ← opt "alloc: zero" (zeroT C.P e); newBox h o.dst (cellsOfSlot z) none E
  | .box _ x => newBox h o.dst (cellsOfSlot (E.S x)) (handed x (E.S x)) E
  | .load t a => evLoad C.P (takes h o.dst) t (E.S a) E
  | .store t a x => evStore C.P t (E.S a) x E
  | .nilCheck x => evNilCheck (E.S x)
  | .binOp op t x y _ => evBinOp C.P op t x y (E.S x) (E.S y)
  | .unOp op _ x => pureV (do let a ← toAVR (E.S x); opt "unOp" (evUn op a))
  | .convert src dst x => pureV (do let a ← toAVR (E.S x); opt "convert" (evConvert C.P src dst a))
  | .makeInterface t x => pureV (evMakeInterface C.P t (E.S x))
  | .makeFunc (.func f) first captured => match first.toList with
    | [] => pureV (do let xs ← argsR (captured.toList.map E.S); .ok (.func f xs))
    | _ => match captured.toList with
      | [] => pureV (do let xs ← argsR (first.toList.map E.S); .ok (.meth f xs))
      | _ => .bad "makeFunc"
  | .fieldAddr t x f => pureR (evFieldAddr C.P t (E.S x) f)
  | .field t x f => pureV (do let a ← toAVR (E.S x); evField C.P t a f)
  | .indexAddr t x i => pureR (evIndexAddr C.P t (E.S x) (E.S i))
  | .index t x i => pureV (do let a ← toAVR (E.S x); let b ← toAVR (E.S i); evIndex C.P t a b)
  | .build t ps => pureR (evBuild C.P t (ps.toList.map fun (i, x) => (i, view (E.S x))))
  | .buildSlice t n ps => pureR (evBuildSlice C.P t n (ps.toList.map fun (i, x) => (i, view (E.S x))))
  | .slice t x lo hi none => pureR (evSlice C.P t (view (E.S x)) (lo.map E.S) (hi.map E.S))
  | .slice t x none (some hi) (some m) => pureR (evSlice0 C.P t (view (E.S x)) (E.S hi) (E.S m))
  | .extract x i => evExtract x (E.S x) i
  | .typeAssert x _ t ok => pureR (evTypeAssert C.P (E.S x) t ok)
  | .makeMap _ none => guardR "makeMap: place" (layOk E) (.ok { dst := .v (.map (lay E (.map [])).1), heap := some (lay E (.map [])).2 })
  | .lookup t m k ok => pureR (evLookup C.P t (E.S m) (E.S k) ok E.H)
  | .insert t m k x => evMapUpdate C.P t (E.S m) (E.S k) x (E.S x) E.H
  | .mapUpdate t m k x => evMapUpdate C.P t (E.S m) (E.S k) x (E.S x) E.H
  | .panic x => match E.S x with
    | .v (.iface t y) => .panic (.iface t y) E.H
    | _ => .bad "panic"
  | .range t x => match E.S x, C.P.underlying t with
    | .v (.str s), some .string => .ok { dst := .it s 0 }
    | _, _ => .bad "range"
  | .next x true => evNext x (E.S x)
  | .makeSlice t n m => evMakeSlice C.P (onHeap h o.dst) t (E.S n) (E.S m) E
  | .call c => evCall C call h o c E
  | _ => .bad "operation"

def envOf (A : Option Nat) (st : St) : Env := { S := opd st, B := fun s => assoc s st.locs, H := st.heap, A := A }

def setT (ts : List (Nat × Slot)) (p : Option (Nat × Slot)) : List (Nat × Slot) := match p with | some (t, s) => (t, s) :: ts | none => ts
def putT (ts : List (Nat × Slot)) (d : Option Nat) (s : Slot) : List (Nat × Slot) := match d with | some t => (t, s) :: ts | none => ts

def applyEff (st : St) (d : Option Nat) (e : Eff) : St :=
  { tmps := putT (setT st.tmps e.src) d e.dst,
    locs := match e.box with | some (s, cs) => assocSet s cs st.locs | none => st.locs,
    heap := match e.heap with | some H => H | none => st.heap,
    wl := e.log ++ st.wl,
    ht := match e.heap with | some _ => true | none => st.ht,
    defs := st.defs }

def evDefer (h : Hint) (f : Slot) (st : St) : Res St :=
  match h.rnd, f with
  | false, .v (.func g cap) => .ok { st with defs := .clo g cap :: st.defs }
  | _, _ => .bad "defer"

def evOp (C : Cfg) (call : Call) (h : Hint) (A : Option Nat) (o : Oper) (st : St) : Res St :=
  match o.op, o.dst with
  | .defer { callee := .value f, args := ⟨[]⟩, .. }, none => evDefer h (opd st f) st
  | .defer _, _ => .bad "defer"
  | _, _ => (evCore C call h o (envOf A st)).bind fun e => .ok (applyEff st o.dst e)

/-- what a guard's operation yielded: a truth, or nothing. -/
def yieldB (ops : Array Oper) (st : St) (j : Nat) : Option (Option Bool) :=
  match ops[j]? with
  | some o => match o.dst with
    | some d => match getT st.tmps d with
      | .v (.bool b) => some (some b)
      | .skip => some none
      | _ => none
    | none => none
  | none => none

/-- whether an operation that is passed over calls, if it were done, nothing but what there is. -/
def skipOk (o : Oper) (st : St) : Bool :=
  match o.op with
  | .call c => match c.callee with
    | .builtin _ => true
    | .value x => match opd st x with
      | .skip => true
      | .v (.func g _) => Nat.blt g nFuncs
      | .v (.meth g _) => Nat.blt g nFuncs
      | _ => false
    | .invoke x _ => match opd st x with
      | .skip => true
      | _ => false
  | _ => true

/-- one operation of a region, if its guard wants it. -/
def evOper (C : Cfg) (call : Call) (h : Hint) (A : Option Nat) (ops : Array Oper) (o : Oper) (st : St) : Res St :=
  match o.guard with
  | none => evOp C call h A o st
  | some (j, want) => match yieldB ops st j with
    | some (some b) => match want == b with
      | true => evOp C call h A o st
      | false => guardR "skip" (skipOk o st) (.ok { st with tmps := putT st.tmps o.dst .skip })
    | some none => guardR "skip" (skipOk o st) (.ok { st with tmps := putT st.tmps o.dst .skip })
    | none => .bad "guard"

/-! The same, with all that the code alone tells worked out ahead: for each operation it is worked out once. -/

structure SlF where
  fn : St → Slot
def slF : Operand → SlF
  | .tmp t => ⟨fun st => getT st.tmps t⟩
  | .const c => ⟨fun _ => ofConst c⟩
  | .func f => ⟨fun _ => .v (.func f [])⟩
  | .global g => match globs g with | some cs => ⟨fun _ => .imm cs⟩ | none => ⟨fun _ => .undef⟩

structure OpF where
  fn : Call → Option Nat → St → Res St

def putS (st : St) (d : Nat) (s : Slot) : St := { st with tmps := (d, s) :: st.tmps }

def bindR {α β : Type} (r : Res α) (f : α → Res β) : Res β :=
  Res.rec (motive := fun _ => Res β) (fun a => f a) (fun v h => .panic v h) (fun w => .bad w) .oof r

def opF (C : Cfg) (h : Hint) (o : Oper) : OpF :=
  match o.op, o.dst with
  | .move x, some d => match takes h o.dst with
    | true => ⟨fun call A st => evOp C call h A o st⟩
    | false => ⟨fun _ _ st => .ok (putS st d (view ((slF x).fn st)))⟩
  | .load t a, some d => match takes h o.dst with
    | true => ⟨fun call A st => evOp C call h A o st⟩
    | false => ⟨fun _ _ st => bindR (evLoad C.P false t ((slF a).fn st) (envOf none st)) fun e => .ok (putS st d e.dst)⟩
  | .fieldAddr t x f, some d => ⟨fun _ _ st => bindR (evFieldAddr C.P t ((slF x).fn st) f) fun s => .ok (putS st d s)⟩
  | .indexAddr t x i, some d => ⟨fun _ _ st => bindR (evIndexAddr C.P t ((slF x).fn st) ((slF i).fn st)) fun s => .ok (putS st d s)⟩
  | .binOp op t x y _, some d => ⟨fun _ _ st => bindR (evBinOp C.P op t x y ((slF x).fn st) ((slF y).fn st)) fun e => .ok (putS st d e.dst)⟩
  | .unOp op _ x, some d => ⟨fun _ _ st => bindR (toAVR ((slF x).fn st)) fun a => bindR (opt "unOp" (evUn op a)) fun b => .ok (putS st d (.v b))⟩
  | .pick c a b, some d => ⟨fun _ _ st => bindR (evPick ((slF c).fn st) ((slF a).fn st) ((slF b).fn st)) fun e => .ok (putS st d e.dst)⟩
  | .defer _, _ => ⟨fun call A st => evOp C call h A o st⟩
  | _, _ => ⟨fun call A st => bindR (evCore C call h o (envOf A st)) fun e => .ok (applyEff st o.dst e)⟩

def operF (C : Cfg) (h : Hint) (ops : Array Oper) (o : Oper) : OpF :=
  match o.guard with
  | none => opF C h o
  | some (j, want) => match ops[j]? with
    | some p => match p.dst with
      | some d => match want with
        | true => ⟨fun call A st => match getT st.tmps d with
          | .v (.bool b) => match b with
            | true => (opF C h o).fn call A st
            | false => guardR "skip" (skipOk o st) (.ok { st with tmps := putT st.tmps o.dst .skip })
          | .skip => guardR "skip" (skipOk o st) (.ok { st with tmps := putT st.tmps o.dst .skip })
          | _ => .bad "guard"⟩
        | false => ⟨fun call A st => match getT st.tmps d with
          | .v (.bool b) => match b with
            | false => (opF C h o).fn call A st
            | true => guardR "skip" (skipOk o st) (.ok { st with tmps := putT st.tmps o.dst .skip })
          | .skip => guardR "skip" (skipOk o st) (.ok { st with tmps := putT st.tmps o.dst .skip })
          | _ => .bad "guard"⟩
      | none => ⟨fun _ _ _ => .bad "guard"⟩
    | none => ⟨fun _ _ _ => .bad "guard"⟩

def evOpers (C : Cfg) (call : Call) (h : Hint) (ops : Array Oper) : List Oper → St → Res St
  | [], st => .ok st
  | o :: l, st => bindR ((operF C h ops o).fn call none st) fun st' => evOpers C call h ops l st'

/-! A region that draws its order: what its operations look at and touch. -/

structure Foot where
  rt : List Nat      -- tmps that are looked at
  wt : List Nat      -- tmps that are written
  rs : List Nat := []     -- boxes that are looked at
  ws : List Nat := []     -- boxes that are written
  rc : Bool := false      -- cells of the heap
  wc : Bool := false
  rm : Bool := false      -- maps
  wm : Bool := false
  rr : Bool := false      -- rows
  wr : Bool := false
  ra : Bool := false      -- the whole heap is looked at
  al : Bool := false      -- a new object
  all : Bool := false     -- the whole heap, and what is deferred

def tmpsOf : List Operand → List Nat
  | [] => []
  | .tmp t :: l => t :: tmpsOf l
  | _ :: l => tmpsOf l

def locOf : Slot → List Nat
  | .loc s _ => [s]
  | _ => []
def isRef : Slot → Bool
  | .v (.ref _ _) => true
  | _ => false
def isEr : Slot → Bool
  | .er _ _ _ _ => true
  | _ => false
def isHsl : Slot → Bool
  | .v (.hsl _ _ _ _ _) => true
  | _ => false
def isMapS : Slot → Bool
  | .v (.map _) => true
  | _ => false

def tmpT (x : Operand) : List Nat := match x with | .tmp t => [t] | _ => []
def handedT (S : Operand → Slot) (x : Operand) : List Nat := match S x with | .v _ => [] | .nil0 => [] | _ => tmpT x
def dstT (d : Option Nat) : List Nat := match d with | some t => [t] | none => []

def allF (rt wt : List Nat) : Foot := { rt, wt, all := true }

/-- what a function that is called with an empty heap leaves as it is. -/
def quietCall (C : Cfg) (g : Nat) (args : List Slot) : Bool :=
  match argsR args with
  | .ok xs => C.pure g && noRefs xs
  | _ => false

def footOp (C : Cfg) (h : Hint) (o : Oper) (S : Operand → Slot) : Foot :=
  let rt := tmpsOf o.op.operands.toList
  let d := dstT o.dst
  match o.op with
  | .move x => { rt, wt := d ++ (match takes h o.dst with | true => handedT S x | false => []) }
  | .assign x => match freezes h o.dst with
    | true => allF rt (d ++ handedT S x)
    | false => { rt, wt := d ++ handedT S x }
  | .alloc _ => match onHeap h o.dst with
    | true => { rt, wt := d, al := true }
    | false => { rt, wt := d, rs := d, ws := d }
  | .box _ x => match onHeap h o.dst with
    | true => { rt, wt := d ++ handedT S x, al := true }
    | false => { rt, wt := d ++ handedT S x, rs := d, ws := d }
  | .load _ a => { rt, wt := d, rs := locOf (S a), ws := (match takes h o.dst with | true => locOf (S a) | false => []), rc := isRef (S a), wc := isRef (S a) && takes h o.dst, rr := isEr (S a), wr := isEr (S a) && takes h o.dst }
  | .store _ a x => { rt, wt := d ++ handedT S x, rs := locOf (S a), ws := locOf (S a), rc := isRef (S a), wc := isRef (S a), rr := isEr (S a), wr := isEr (S a) }
  | .extract x i => { rt, wt := d ++ (match S x with | .tup cs => (match cs[i]? with | some (.v _) => [] | _ => tmpT x) | _ => tmpT x) }
  | .makeMap _ _ => { rt, wt := d, al := true }
  | .lookup .. => { rt, wt := d, rm := true }
  | .insert _ _ _ x => { rt, wt := d ++ handedT S x, rm := true, wm := true }
  | .mapUpdate _ _ _ x => { rt, wt := d ++ handedT S x, rm := true, wm := true }
  | .panic _ => allF rt d
  | .next x _ => { rt, wt := d ++ tmpT x }
  | .makeSlice .. => { rt, wt := d, al := onHeap h o.dst }
  | .defer _ => allF rt d
  | .call c => match c.callee with
    | .builtin .len => { rt, wt := d, rm := (match c.args.toList with | x :: _ => isMapS (S x) | [] => false) }
    | .builtin .append => match c.args.toList with
      | x :: l => { rt, wt := d ++ handedT S x, rr := isHsl (S x) || (match l with | y :: _ => isHsl (S y) | [] => false), wr := isHsl (S x), al := onHeap h o.dst }
      | [] => { rt, wt := d }
    | .builtin _ => { rt, wt := d }
    | .value (.func g) => match quietCall C g (c.args.toList.map S) with
      | true => { rt, wt := d }
      | false => match C.ro g with | true => { rt, wt := d, ra := true } | false => allF rt d
    | _ => allF rt d
  | _ => { rt, wt := d }

def guardT (ops : Array Oper) (g : Option (Nat × Bool)) : List Nat :=
  match g with
  | none => []
  | some (j, _) => match ops[j]? with | some p => dstT p.dst | none => []

def foot (C : Cfg) (h : Hint) (ops : Array Oper) (o : Oper) (st : St) : Foot :=
  let f := footOp C h o (opd st)
  { f with rt := guardT ops o.guard ++ f.rt }

def meets : List Nat → List Nat → Bool
  | [], _ => false
  | x :: l, m => match memN x m with | true => true | false => meets l m

def Foot.heap (f : Foot) : Bool := f.rc || f.wc || f.rm || f.wm || f.rr || f.wr || f.ra

/-- whether an operation cannot come before another one that was done before it; g: the one that was done. -/
def clash (f g : Foot) : Bool :=
  meets f.wt g.rt || meets f.wt g.wt || meets g.wt f.rt || meets f.ws g.rs || meets f.ws g.ws || meets g.ws f.rs
    || (f.wc && (g.rc || g.wc)) || (g.wc && f.rc) || (f.wm && (g.rm || g.wm)) || (g.wm && f.rm) || (f.wr && (g.rr || g.wr)) || (g.wr && f.rr)
    || (f.ra && (g.wc || g.wm || g.wr)) || (g.ra && (f.wc || f.wm || f.wr || f.al)) || (g.al && f.heap) || (f.all && (g.all || g.heap || g.al)) || (g.all && (f.heap || f.al))

/-- which operations come before each, as bits. -/
def maskOf (acc : List Nat) : List Edge → Nat
  | [] => 0
  | e :: l => match Region.binds .any e with
    | true => maskOf acc l ||| (2 ^ e.on) ||| acc.getD e.on 0
    | false => maskOf acc l
def masks : List Oper → List Nat → List Nat
  | [], acc => acc
  | o :: l, acc => masks l (acc ++ [maskOf acc o.after.toList])

/-- whether each comes after earlier ones alone. -/
def afterOk : Nat → List Oper → Bool
  | _, [] => true
  | i, o :: l => match o.after.toList.all (fun e => !Region.binds .any e || Nat.blt e.on i) with | true => afterOk (i + 1) l | false => false

/-- an operation that may lay an object on the heap. -/
def lays (h : Hint) (o : Oper) : Bool :=
  match o.op with
  | .alloc _ | .box _ _ | .makeSlice _ _ _ => onHeap h o.dst
  | .makeMap _ _ => true
  | .call { callee := .builtin .append, .. } => onHeap h o.dst
  | _ => false
def countLays (h : Hint) : List Oper → Nat
  | [] => 0
  | o :: l => (match lays h o with | true => 1 | false => 0) + countLays h l
/-- the place that was put aside for an operation's object. -/
def placeFor (h : Hint) (b : Nat) (o : Oper) : Option Nat := match lays h o with | true => some b | false => none

def apartAll (m : Nat) (f : Foot) : List (Nat × Foot) → Bool
  | [] => true
  | (j, g) :: l => match m.testBit j || !clash f g with
    | true => apartAll m f l
    | false => false

def skips (pn : Option (Nat × AV × Heap)) (m : Nat) : Bool := match pn with | some (p, _) => m.testBit p | none => false

/-- all operations, one after the other; behind a panic those that may have been done before it. b: the place of the next new object. -/
def evDrawn (C : Cfg) (call : Call) (h : Hint) (ops : Array Oper) (lay : Bool) : Nat → Nat → List Oper → List Nat → St → List (Nat × Foot) → Option (Nat × AV × Heap) → Res St
  | _, _, [], _, st, _, none => .ok st
  | _, _, [], _, _, _, some (_, v, H) => .panic v H
  | i, b, o :: l, ms, st, fs, pn =>
    match skips pn (ms.headD 0) with
    | true => evDrawn C call h ops lay (i + 1) (b + countLays h [o]) l ms.tail st fs pn
    | false =>
      guardR "order" (apartAll (ms.headD 0) (foot C h ops o st) fs && !(lay && (foot C h ops o st).all)) (match (operF C h ops o).fn call (placeFor h b o) st with
      | .ok st' => evDrawn C call h ops lay (i + 1) (b + countLays h [o]) l ms.tail st' ((i, foot C h ops o st) :: fs) pn
      | .panic v H => match pn, (foot C h ops o st).all with
        | none, true => evDrawn C call h ops lay (i + 1) (b + countLays h [o]) l ms.tail st ((i, foot C h ops o st) :: fs) (some (i, v, H))
        | _, _ => .bad "order: a panic"
      | .bad w => .bad w
      | .oof => .oof)

/-! Where the code alone tells that the order does not matter. -/

structure SF where
  R : Nat          -- tmps that are looked at, as bits
  W : Nat
  mr : Bool        -- memory may be looked at
  mw : Bool

def bitsOf : List Nat → Nat
  | [] => 0
  | t :: l => (2 ^ t) ||| bitsOf l

def sfoot (h : Hint) (ops : Array Oper) (o : Oper) : SF :=
  let R := bitsOf (guardT ops o.guard ++ tmpsOf o.op.operands.toList)
  let d := dstT o.dst
  match o.op with
  | .move x => ⟨R, bitsOf (d ++ (match takes h o.dst with | true => tmpT x | false => [])), false, false⟩
  | .assign x => ⟨R, bitsOf (d ++ tmpT x), freezes h o.dst, freezes h o.dst⟩
  | .alloc _ => ⟨R, bitsOf d, true, true⟩
  | .box _ x => ⟨R, bitsOf (d ++ tmpT x), true, true⟩
  | .load _ _ => ⟨R, bitsOf d, true, takes h o.dst⟩
  | .store _ _ x => ⟨R, bitsOf (d ++ tmpT x), true, true⟩
  | .makeMap _ _ => ⟨R, bitsOf d, true, true⟩
  | .lookup .. => ⟨R, bitsOf d, true, false⟩
  | .insert _ _ _ x => ⟨R, bitsOf (d ++ tmpT x), true, true⟩
  | .mapUpdate _ _ _ x => ⟨R, bitsOf (d ++ tmpT x), true, true⟩
  | .panic _ => ⟨R, bitsOf d, true, true⟩
  | .defer _ => ⟨R, bitsOf d, true, true⟩
  | .next x _ => ⟨R, bitsOf (d ++ tmpT x), false, false⟩
  | .makeSlice .. => ⟨R, bitsOf d, true, true⟩
  | .call c => match c.callee with
    | .builtin .len => ⟨R, bitsOf d, true, false⟩
    | .builtin .append => ⟨R, bitsOf (d ++ (match c.args.toList with | x :: _ => tmpT x | [] => [])), true, true⟩
    | .builtin _ => ⟨R, bitsOf d, false, false⟩
    | _ => ⟨R, bitsOf d, true, true⟩
  | _ => ⟨R, bitsOf d, false, false⟩

def sclash (f g : SF) : Bool :=
  !Nat.beq (Nat.land f.W (Nat.lor g.R g.W)) 0 || !Nat.beq (Nat.land g.W f.R) 0

def sureAt (m : Nat) (f : SF) : List (Nat × SF) → Bool
  | [] => true
  | (j, g) :: l => match m.testBit j || !sclash f g with | true => sureAt m f l | false => false

def sureFrom (h : Hint) (ops : Array Oper) : Nat → List Oper → List Nat → List (Nat × SF) → Bool
  | _, [], _, _ => true
  | i, o :: l, ms, fs => match sureAt (ms.headD 0) (sfoot h ops o) fs with
    | true => sureFrom h ops (i + 1) l ms.tail ((i, sfoot h ops o) :: fs)
    | false => false

def sure (h : Hint) (ops : Array Oper) (ms : List Nat) : Bool := sureFrom h ops 0 ops.toList ms []

structure PlF where
  fn : St → Bool
/-- whether an operation hands nothing over that the code does not tell. -/
def plF (o : Oper) : PlF :=
  match o.op with
  | .extract x i => ⟨fun st => match (slF x).fn st with
    | .tup cs => match cs[i]? with | some (.v _) => true | _ => false
    | _ => false⟩
  | _ => ⟨fun _ => true⟩

/-- whether an operation may look at memory, or write it. -/
structure BoF where
  b : Bool
def memOp (h : Hint) (ops : Array Oper) (o : Oper) : BoF := match (sfoot h ops o).mr || (sfoot h ops o).mw with | true => ⟨true⟩ | false => ⟨false⟩

structure FoF where
  fn : St → Foot
def footF (C : Cfg) (h : Hint) (o : Oper) : FoF :=
  match o.op with
  | .load _ a => match takes h o.dst with
    | true => ⟨fun st => footOp C h o (opd st)⟩
    | false => ⟨fun st => match (slF a).fn st with
      | .loc s _ => { rt := [], wt := [], rs := [s] }
      | .v (.ref _ _) => { rt := [], wt := [], rc := true }
      | .er _ _ _ _ => { rt := [], wt := [], rr := true }
      | _ => { rt := [], wt := [] }⟩
  | _ => ⟨fun st => footOp C h o (opd st)⟩

/-- the part of 'clash' that is of memory. -/
def clashM (f g : Foot) : Bool :=
  meets f.ws g.rs || meets f.ws g.ws || meets g.ws f.rs
    || (f.wc && (g.rc || g.wc)) || (g.wc && f.rc) || (f.wm && (g.rm || g.wm)) || (g.wm && f.rm) || (f.wr && (g.rr || g.wr)) || (g.wr && f.rr)
    || (f.ra && (g.wc || g.wm || g.wr)) || (g.ra && (f.wc || f.wm || f.wr || f.al)) || (g.al && f.heap) || (f.all && (g.all || g.heap || g.al)) || (g.all && (f.heap || f.al))

def apartM (m : Nat) (f : Foot) : List (Nat × Foot) → Bool
  | [] => true
  | (j, g) :: l => match m.testBit j || !clashM f g with
    | true => apartM m f l
    | false => false

def fastOps (C : Cfg) (call : Call) (h : Hint) (ops : Array Oper) : Nat → List Oper → List Nat → St → List (Nat × Foot) → Res St
  | _, [], _, st, _ => .ok st
  | i, o :: l, ms, st, fs => match (plF o).fn st with
    | true => match (memOp h ops o).b with
      | false => bindR ((operF C h ops o).fn call none st) fun st' => fastOps C call h ops (i + 1) l ms.tail st' fs
      | true => match apartM (ms.headD 0) ((footF C h o).fn st) fs with
        | true => bindR ((operF C h ops o).fn call none st) fun st' => fastOps C call h ops (i + 1) l ms.tail st' ((i, (footF C h o).fn st) :: fs)
        | false => .bad "fast"
    | false => .bad "fast"

/-- a region that draws its order; where it lays objects, their places are put aside ahead. -/
def evDraw0 (C : Cfg) (call : Call) (h : Hint) (ops : Array Oper) (st : St) : Res St :=
  guardR "order: after" (afterOk 0 ops.toList) (match countLays h ops.toList with
  | 0 => match sure h ops (masks ops.toList []) with
    | true => match fastOps C call h ops 0 ops.toList (masks ops.toList []) st [] with
      | .ok st' => .ok st'
      | _ => evDrawn C call h ops false 0 0 ops.toList (masks ops.toList []) st [] none
    | false => evDrawn C call h ops false 0 0 ops.toList (masks ops.toList []) st [] none
  | n + 1 => evDrawn C call h ops true 0 st.heap.length ops.toList (masks ops.toList []) { st with heap := st.heap ++ List.replicate (n + 1) .free, ht := true } [] none)

/-- whether the stores come behind the place, and the load behind them. -/
def coinOk (l : List Oper) : Bool :=
  match masks l [] with
  | [_, m1, m2, m3] => m1.testBit 0 && m2.testBit 0 && m3.testBit 0 && m3.testBit 1 && m3.testBit 2 && afterOk 0 l
  | _ => false

/-- two stores, in either order: a truth that is left open. -/
def isCoin (P : Program) (ops : Array Oper) : Option (Nat × Nat) :=
  match ops.toList with
  | [⟨some a, .alloc t, _, _, _, none⟩, ⟨none, .store t1 (.tmp a1) (.const (.bool true)), _, _, _, none⟩, ⟨none, .store t2 (.tmp a2) (.const (.bool false)), _, _, _, none⟩, ⟨some d, .load t3 (.tmp a3), _, _, _, none⟩] =>
    match P.underlying t, sizeT P t, zeroT P t, Nat.beq t t1 && Nat.beq t t2 && Nat.beq t t3 && Nat.beq a a1 && Nat.beq a a2 && Nat.beq a a3 && !Nat.beq a d && coinOk ops.toList with
    | some .bool, some 1, some (.v (.bool _)), true => some (a, d)
    | _, _, _, _ => none
  | _ => none

def evDraw (C : Cfg) (call : Call) (h : Hint) (ops : Array Oper) (st : St) : Res St :=
  match isCoin C.P ops with
  | some (a, d) => .ok { st with tmps := (d, .coin) :: (a, .undef) :: st.tmps, heap := st.heap ++ [.dead], ht := true }
  | none => evDraw0 C call h ops st

/-- tmps that code may write, or hand over. -/
def wrsOps : List Oper → List Nat
  | [] => []
  | o :: l => (dstT o.dst) ++ (match o.op with
      | .move x | .assign x | .box _ x | .store _ _ x | .mapUpdate _ _ _ x | .insert _ _ _ x | .extract x _ | .next x _ => tmpT x
      | .call c => (match c.args.toList with | x :: _ => tmpT x | _ => [])
      | _ => []) ++ wrsOps l

/-- no pointer to a box that is gone. -/
def fixLoc (L : List (Nat × List Slot)) (s : Slot) : Slot :=
  match s with
  | .loc b o => match assoc b L with | some _ => .loc b o | none => .undef
  | s => s

def keepT (ts : List (Nat × Slot)) (L : List (Nat × List Slot)) : List Nat → List (Nat × Slot)
  | [] => []
  | t :: l => (t, fixLoc L (getT ts t)) :: keepT ts L l
def keepL (ks : List Nat) : List (Nat × List Slot) → List (Nat × List Slot)
  | [] => []
  | (s, c) :: l => match memN s ks with | true => (s, c) :: keepL ks l | false => keepL ks l

def keepOf (b : Nat) : List (Nat × List Nat) → Option (List Nat)
  | [] => none
  | (k, l) :: r => match Nat.beq k b with | true => some l | false => keepOf b r

def keepAt (h : Hint) (b : Nat) (st : St) : St :=
  match keepOf b h.keep with
  | some ks => { st with tmps := keepT st.tmps (keepL ks st.locs) ks, locs := keepL ks st.locs, wl := [] }
  | none => st

abbrev LoopOp := (St → Res (Ex × St)) → St → Res (Ex × St)

def dropT (ws : List Nat) : List (Nat × Slot) → List (Nat × Slot)
  | [] => []
  | (t, s) :: l => match memN t ws, s with
    | false, .v x => (t, .v x) :: dropT ws l
    | _, _ => (t, .undef) :: dropT ws l

def noDefer (ops : List Oper) : Bool := ops.all fun o => match o.op with | .defer _ => false | _ => true

/-- a region; behind a panic of its own nothing is known of what it wrote. -/
def regionEnd (ops : List Oper) (st : St) (r : Res St) : Res (Ex × St) :=
  match r with
  | .ok st' => .ok (.normal, st')
  | .panic v H => guardR "panic beside defer" (noDefer ops) (.ok (.panic v, { tmps := dropT (wrsOps ops) st.tmps, locs := [], heap := H, wl := [], ht := true, defs := st.defs }))
  | .bad w => .bad w
  | .oof => .oof

/-- the newest of each. -/
def tidyT : List Nat → List (Nat × Slot) → List (Nat × Slot)
  | _, [] => []
  | seen, (t, s) :: l => match memN t seen with | true => tidyT seen l | false => (t, s) :: tidyT (t :: seen) l

def snapT : List (Nat × Slot) → List (Nat × AV)
  | [] => []
  | (t, s) :: l => match toAV (view s) with | some x => (t, x) :: snapT l | none => snapT l

def loopOf (f : Nat) (st : St) (ps : List Nat) (assign body : Code) : LoopO :=
  { fn := f, tmps := snapT (tidyT [] st.tmps), params := ps, assign := assign, body := body, state := 0, pending := none }

/-- behind a range over a function. -/
def rangeEnd (st : St) (l : Nat) (r : Res (Slot × Heap)) : Res (Ex × St) :=
  match r with
  | .ok (_, H) => match H[l]? with
    | some (.loop L') => match Nat.beq L'.state 1 with
      | true => .bad "range over a function: busy"
      | false => match L'.pending with
        | none => .ok (.normal, { st with heap := H.set l .dead, ht := true, defs := .mark :: st.defs })
        | some (.exit id) => .ok (.exit id, { st with heap := H.set l .dead, ht := true, defs := .mark :: st.defs })
        | some .ret => .ok (.ret, { st with heap := H.set l .dead, ht := true, defs := .mark :: st.defs })
        | some _ => .bad "range over a function: jump"
    | _ => .bad "range over a function: no loop"
  | .panic v H => .ok (.panic v, { st with heap := H, ht := true, defs := .mark :: st.defs })
  | .bad w => .bad w
  | .oof => .oof

def bothT (ts : List (Nat × Slot)) : List (Nat × Slot) → List (Nat × Slot)
  | [] => []
  | (t, s) :: l => (t, match eqS s (getT ts t) with | true => s | false => .undef) :: bothT ts l

/-- what comes of either of two ways. -/
def both (r r' : Res (Ex × St)) : Res (Ex × St) :=
  match r, r' with
  | .ok (.normal, s), .ok (.normal, s') => guardR "coin" (eqHs s'.heap s.heap && eqL s'.locs s.locs && eqD s'.defs s.defs) (.ok (.normal, { s with tmps := bothT s'.tmps s.tmps }))
  | _, _ => .bad "coin"

def evCode (C : Cfg) (call : Call) (loop : LoopOp) (f : Nat) (h : Hint) (blk : Nat) : Code → St → Res (Ex × St)
  | .skip, st => .ok (.normal, st)
  | .label _, st => .ok (.normal, st)
  | .region _ ops dr, st => regionEnd ops.toList st (match dr with
      | true => evDraw C call h ops st
      | false => evOpers C call h ops ops.toList st)
  | .seq a b, st => (evCode C call loop f h blk a st).bind fun (e, st') => match e with
    | .normal => evCode C call loop f h blk b st'
    | e => .ok (e, st')
  | .cond c x y, st => match opd st c with
    | .v (.bool b) => match b with | true => evCode C call loop f h blk x st | false => evCode C call loop f h blk y st
    | .coin => both (evCode C call loop f h blk x st) (evCode C call loop f h blk y st)
    | _ => .bad "cond"
  | .block id c, st => (evCode C call loop f h id c st).bind fun (e, st') => match e with
    | .exit i => match Nat.beq i id with | true => .ok (.normal, st') | false => .ok (.exit i, st')
    | e => .ok (e, st')
  | .loop c, st => loop (fun st => evCode C call loop f h blk c (keepAt h blk st)) st
  | .exit id, st => .ok (.exit id, st)
  | .scope c, st => evCode C call loop f h blk c st
  | .ret, st => .ok (.ret, st)
  | .rangeFunc g ps assign body, st => match h.rnd, opd st g with
    | false, .v (.func k cap) => rangeEnd st st.heap.length (call (.fn k) (.yield st.heap.length :: cap) (st.heap ++ [.loop (loopOf f st ps.toList assign body)]))
    | _, _ => .bad "range over a function: function"
  | _, _ => .bad "code"

/-- a loop of at most n rounds. -/
def iter (n : Nat) : LoopOp := fun body st =>
  match n with
  | 0 => .oof
  | n + 1 => (body st).bind fun (e, st') => match e with
    | .normal => iter n body st'
    | e => .ok (e, st')

/-- results beside others: each is what it is for others. -/
def resultV (P : Program) (st : St) : ResultVar → Res Slot
  | .tmp t => .ok (plainR (view (getT st.tmps t)))
  | .cell a t => (evLoad P false t (getT st.tmps a) (envOf none st)).bind fun e => .ok (plainR e.dst)

def resultsL (P : Program) (st : St) : List ResultVar → Res (List Slot)
  | [] => .ok []
  | r :: l => (resultV P st r).bind fun s => (resultsL P st l).bind fun ss => .ok (s :: ss)

/-- the results, and the heap behind them: one alone is handed out. -/
def resultsS (P : Program) (st : St) : List ResultVar → Res (List Slot × Heap)
  | [.tmp t] => .ok ([getT st.tmps t], st.heap)
  | [.cell a t] => (evLoad P true t (getT st.tmps a) (envOf none st)).bind fun e => .ok ([e.dst], match e.heap with | some H => H | none => st.heap)
  | l => (resultsL P st l).bind fun ss => .ok (ss, st.heap)

def retSlot (l : List Slot) : Slot := match l with | [s] => s | l => .tup l

/-- whether code writes temporaries that there are. -/
def codeOkB (n : Nat) : Code → Bool
  | .region _ ops _ => ops.toList.all fun o => match o.dst with | some t => Nat.blt t n | none => true
  | .seq a b => match codeOkB n a with | true => codeOkB n b | false => false
  | .cond _ a b => match codeOkB n a with | true => codeOkB n b | false => false
  | .block _ a => codeOkB n a
  | .loop a => codeOkB n a
  | .scope a => codeOkB n a
  | .rangeFunc _ ps a b => match ps.toList.all (fun p => Nat.blt p n), codeOkB n a with | true, true => codeOkB n b | _, _ => false
  | _ => true

/-- a frame's beginning. -/
def startT : List AV → Nat → List (Nat × Slot)
  | [], _ => []
  | .nils :: l, i => (i, .nil0) :: startT l (i + 1)
  | x :: l, i => (i, .v x) :: startT l (i + 1)
def startSt (args : List AV) (H : Heap) : St := { tmps := startT args 0, locs := [], heap := H, wl := [], ht := false, defs := [] }

def isRecover (ops : Array Oper) : Option (Option Nat) :=
  match ops.toList with
  | [o] => match o.op, o.guard with
    | .call { callee := .builtin .recover, .. }, none => some o.dst
    | _, _ => none
  | _ => none

def dfrEnd (rc : Bool) (r : Res (Ex × St)) : Res (Bool × Heap) := r.bind fun (e, st) => match e, st.defs with
  | .normal, [] => .ok (rc, st.heap)
  | .ret, [] => .ok (rc, st.heap)
  | _, _ => .bad "a deferred call's end"

/-- what recover gives. -/
def recV : Option AV → AV
  | some v => v
  | none => .nili

/-- a deferred function: whether it recovers, and the heap behind it. -/
def evDeferred (C : Cfg) (call : Call) (loop : LoopOp) (pn : Option AV) (f : Nat) (args : List AV) (H : Heap) : Res (Bool × Heap) :=
  match C.P.funcs[f]? with
  | none => .bad "no such function"
  | some fn =>
    guardR "a deferred call's results" fn.results.isEmpty (match fn.body with
    | some (.seq (.region id ops false) c) => match isRecover ops with
      | some d =>
        dfrEnd pn.isSome (evCode C call loop f (C.hint f) 0 c { startSt args H with tmps := putT (startT args 0) d (.v (recV pn)) })
      | none => dfrEnd false (evCode C call loop f (C.hint f) 0 (.seq (.region id ops false) c) (startSt args H))
    | some c => dfrEnd false (evCode C call loop f (C.hint f) 0 c (startSt args H))
    | none => .bad "no body")

/-- a frame's deferred calls, while a panic (if any) goes on: the panic that is left. -/
def evLeave (C : Cfg) (call : Call) (loop : LoopOp) : List Dfr → Option AV → Heap → Res (Option AV × Heap)
  | [], pn, H => .ok (pn, H)
  | .mark :: l, pn, H => evLeave C call loop l pn H
  | .clo f cap :: l, pn, H => (evDeferred C call loop pn f cap H).bind fun (rc, H') => evLeave C call loop l (match rc with | true => none | false => pn) H'

def funEnd (C : Cfg) (call : Call) (loop : LoopOp) (rs : List ResultVar) (st : St) (pn : Option AV) : Res (Slot × Heap) :=
  (evLeave C call loop st.defs pn st.heap).bind fun (pn', H') => match pn' with
    | some v => .panic v H'
    | none => (resultsS C.P { st with heap := H' } rs).bind fun (l, H2) => guardR "result" (l.all retOk) (.ok (retSlot l, H2))

def evFun (C : Cfg) (call : Call) (loop : LoopOp) (f : Nat) (args : List AV) (H : Heap) : Res (Slot × Heap) :=
  match C.P.funcs[f]? with
  | none => .bad "no such function"
  | some fn => match fn.body with
    | none => .bad "no body"
    | some c => (evCode C call loop f (C.hint f) 0 c (startSt args H)).bind fun (e, st) => match e with
      | .exit _ => .bad "exit"
      | .panic v => funEnd C call loop fn.results.toList st (some v)
      | _ => funEnd C call loop fn.results.toList st none

def setParams : List Nat → List AV → List (Nat × AV) → List (Nat × AV)
  | p :: ps, x :: xs, ts => setParams ps xs ((p, x) :: ts)
  | _, _, ts => ts

def jumpState : Option Code → Nat
  | none => 0
  | some _ => 2

def roundEnd (l : Nat) (L : LoopO) (st : St) (j : Option Code) : Res (Slot × Heap) :=
  match st.heap[l]?, st.defs with
  | some .busy, [] => .ok (.v (.bool j.isNone), st.heap.set l (.loop { L with state := jumpState j, pending := j }))
  | _, _ => .bad "a round's end"

/-- a round of a range over a function. -/
def evRound (C : Cfg) (call : Call) (loop : LoopOp) (l : Nat) (args : List AV) (H : Heap) : Res (Slot × Heap) :=
  match H[l]? with
  | some (.loop L) => guardR "a round" (Nat.beq L.state 0 && Nat.beq args.length L.params.length)
    ((evCode C call loop L.fn { C.hint L.fn with rnd := true } 0 L.assign { tmps := (setParams L.params args L.tmps).map (fun p => (p.1, .v p.2)), locs := [], heap := H, wl := [], ht := false, defs := [] }).bind fun (e, st) => match e with
      | .normal => match st.heap[l]? with
        | some (.loop L1) => guardR "a round's state" (Nat.beq L1.state 0) ((evCode C call loop L.fn { C.hint L.fn with rnd := true } 0 L.body { st with heap := st.heap.set l .busy }).bind fun (e, st) => match e with
          | .normal => roundEnd l L1 st none
          | .exit id => roundEnd l L1 st (some (.exit id))
          | .ret => roundEnd l L1 st (some .ret)
          | .panic v => match st.defs with | [] => .panic v st.heap | _ => .bad "a round's end")
        | _ => .bad "a round's loop"
      | _ => .bad "a round's assignment")
  | _ => .bad "a round's loop"

def evStep (C : Cfg) (call : Call) (loop : LoopOp) : Call := fun f args H => match f with
  | .fn f => match C.tbl f args with
    | some r => .ok (r, H)
    | none => match C.orc f with
      | some F => F call args H
      | none => evFun C call loop f args H
  | .yld l => evRound C call loop l args H

def ev (C : Cfg) : Nat → Call
  | 0 => fun _ _ _ => .oof
  | k + 1 => evStep C (ev C k) (iter k)

end
end Go.Sw
