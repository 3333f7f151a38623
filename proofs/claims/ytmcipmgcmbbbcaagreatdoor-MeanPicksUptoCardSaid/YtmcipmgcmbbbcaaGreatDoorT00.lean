/- The evaluator over values that are not known: trees of the ways that a function may take, and the proof that what they end in is what the machine of the model does; conditions: as each theorem names them. -/
import Derived.Test.YtmcipmgcmbbbcaaGreatDoorW00
import Derived.Test.YtmcipmgcmbbbcaaGreatDoorW05
import Derived.Test.YtmcipmgcmbbbcaaGreatDoorW09
/-! Trees of what the evaluator does where some values are not known: at each truth that is not known both ways are gone. -/
namespace Go.Sw
open Go
noncomputable section

inductive Tr (α : Type) where
  | ok (a : α)
  | br (b : Bool) (t f : Tr α)
  | panic (v : AV) (h : Heap)
  | bad
  | oof
  deriving Inhabited

def Tr.run {α : Type} : Tr α → Res α
  | .ok a => .ok a
  | .br b t f => match b with | true => t.run | false => f.run
  | .panic v h => .panic v h
  | .bad => .bad ""
  | .oof => .oof

def Tr.bind {α β : Type} (t : Tr α) (f : α → Tr β) : Tr β :=
  Tr.rec (motive := fun _ => Tr β) (fun a => f a) (fun b _ _ x y => .br b x y) (fun v h => .panic v h) .bad .oof t

/-- with a way for panics. -/
def Tr.mapP {α β : Type} (t : Tr α) (f : α → Tr β) (p : AV → Heap → Tr β) : Tr β :=
  Tr.rec (motive := fun _ => Tr β) (fun a => f a) (fun b _ _ x y => .br b x y) (fun v h => p v h) .bad .oof t

def liftT {α : Type} : Res α → Tr α
  | .ok a => .ok a
  | .panic v h => .panic v h
  | .bad _ => .bad
  | .oof => .oof

/-- a truth that is to be so, and one that is told by the code alone. -/
def gd {α : Type} (b : Bool) (t : Tr α) : Tr α := .br b t .bad
def gs {α : Type} (b : Bool) (t : Tr α) : Tr α := match b with | true => t | false => .bad
def optT {α : Type} : Option α → Tr α
  | some a => .ok a
  | none => .bad

/-! Values of a type, by their cells. -/

inductive Sh where
  | i (k : IntKind)
  | b
  | s
  | l
  | o

def shFields (f : Nat → Option (List Sh)) : List Field → Option (List Sh)
  | [] => some []
  | x :: l => match f x.type with | some a => (match shFields f l with | some r => some (a ++ r) | none => none) | none => none
def shOf (P : Program) : Nat → Nat → Option (List Sh)
  | 0, _ => none
  | n + 1, t => match P.underlying t with
    | some (.int k) => some [.i k]
    | some .bool => some [.b]
    | some .string => some [.s]
    | some (.slice _) => some [.l]
    | some (.struct fs) => shFields (shOf P n) fs.toList
    | some (.array m e) => match shOf P n e with | some l => some (repeatL m l) | none => none
    | some _ => some [.o]
    | none => none

def cellA (x : AV) (j : Nat) : AV := (cellsOfAV x).getD j .nilp
def AV.i (x : AV) (j : Nat) : Int := match cellA x j with | .int _ n => n | _ => 0
def AV.b (x : AV) (j : Nat) : Bool := match cellA x j with | .bool b => b | _ => false
def AV.s (x : AV) (j : Nat) : List UInt8 := match cellA x j with | .str s => s | _ => []
def AV.l (x : AV) (j : Nat) : List AV := match cellA x j with | .list l => l | _ => []

def expand (x : AV) : Nat → List Sh → List AV
  | _, [] => []
  | j, .i k :: l => .int k (x.i j) :: expand x (j + 1) l
  | j, .b :: l => .bool (x.b j) :: expand x (j + 1) l
  | j, .s :: l => .str (x.s j) :: expand x (j + 1) l
  | j, .l :: l => .list (x.l j) :: expand x (j + 1) l
  | j, .o :: l => cellA x j :: expand x (j + 1) l
def shC : List AV → List Sh → Bool
  | [], [] => true
  | .int k' _ :: c, .i k :: l => decide (k' = k) && shC c l
  | .bool _ :: c, .b :: l => shC c l
  | .str _ :: c, .s :: l => shC c l
  | .list _ :: c, .l :: l => shC c l
  | _ :: c, .o :: l => shC c l
  | _, _ => false
/-- whether a value has cells of these kinds, from one on. -/
def shapeAt (x : AV) (j : Nat) (sh : List Sh) : Bool := shC (((cellsOfAV x).drop j).take sh.length) sh
def shapeB (x : AV) (sh : List Sh) : Bool := shC (cellsOfAV x) sh

/-! The operations. -/

def tCases {α : Type} (n : Int) (f : Nat → Tr α) : Nat → Tr α
  | 0 => .bad
  | m + 1 => .br (decide (n = (m : Int))) (f m) (tCases n f m)

def isConst : Operand → Bool
  | .const _ => true
  | _ => false

def tElem (l : List AV) (n : Int) (sz : Nat) (sh : List Sh) : Tr Slot :=
  gs (Nat.beq sh.length sz) (gd (inRange n l.length) (gd (shapeB (l.getD n.toNat .nilp) sh) (.ok (.imm (expand (l.getD n.toNat .nilp) 0 sh)))))

def tIndexAddr (P : Program) (t : Nat) (x i : Slot) (cst : Bool) : Tr Slot :=
  match i with
  | .v (.int _ n) =>
    match P.underlying t with
    | some (.slice e) => match sizeT P e, shOf P 10 e with
      | some sz, some sh => (match x with
        | .v (.list l) => tElem l n sz sh
        | .own _ l => tElem l n sz sh
        | .v (.hsl r ver sz' off len) => gs (Nat.beq sz sz') (gd (inRange n len) (.ok (.er r ver (off + n.toNat) 0)))
        | _ => .bad)
      | _, _ => .bad
    | some (.array len e) => match cst with
      | true => liftT (evIndexAddr P t x i)
      | false => match sizeT P e with
        | some sz => tCases n (fun m => liftT (addOff x (m * sz))) len
        | none => .bad
    | _ => .bad
  | _ => .bad

def tIndex (P : Program) (t : Nat) (x i : AV) (cst : Bool) : Tr AV :=
  match i, x with
  | .int _ n, .str s => match P.underlying t with
    | some .string => gd (inRange n s.length) (.ok (.int .u8 (s.getD n.toNat 0).toNat))
    | _ => .bad
  | .int _ n, .agg cs => match P.underlying t with
    | some (.array len e) => match cst with
      | true => liftT (evIndex P t x i)
      | false => match sizeT P e with
        | some sz => tCases n (fun m => liftT (partV P e cs (m * sz))) len
        | none => .bad
    | _ => .bad
  | _, _ => .bad

def tLoad (P : Program) (take : Bool) (t : Nat) (p : Slot) (E : Env) : Tr Eff :=
  match p with
  | .er r ver i j => match take with
    | true => .bad
    | false => match E.H[r]? with
      | some (.row ver' _ l) => match isAggT P t, sizeT P t, shOf P 10 t with
        | some ag, some n, some sh => gs (Nat.beq sh.length n && (ag || Nat.beq n 1)) (gd (Nat.beq ver ver' && Nat.blt i l.length) (gd (shapeAt (l.getD i .nilp) j sh)
            (.ok { dst := match ag with | true => .v (.agg (expand (l.getD i .nilp) j sh)) | false => .v ((expand (l.getD i .nilp) j sh).headD .nilp) })))
        | _, _, _ => .bad
      | _ => .bad
  | p => liftT (evLoad P take t p E)

def tStore (P : Program) (t : Nat) (p : Slot) (x : Operand) (E : Env) : Tr Eff :=
  match p with
  | .er r ver i j => match E.H[r]? with
    | some (.row ver' sz l) => match sizeT P t, toAVs (cellsOfSlot (E.S x)) with
      | some n, some ys => gs (Nat.beq (cellsOfSlot (E.S x)).length n && (cellsOfSlot (E.S x)).all plainCell)
          (gd (Nat.beq ver ver' && Nat.blt i l.length && Nat.ble (j + n) (cellsOfAV (l.getD i .nilp)).length)
            (.ok { dst := .undef, src := handed x (E.S x), heap := some (E.H.set r (.row ver' sz (l.set i (elemOf (l.getD i .nilp) (writeL (cellsOfAV (l.getD i .nilp)) j ys))))) }))
      | _, _ => .bad
    | _ => .bad
  | p => liftT (evStore P t p x E)

def notNilI : Operand → Bool
  | .const .nilIface => false
  | _ => true

def tBinOp (P : Program) (op : BinOp) (t : Nat) (x y : Operand) (sx sy : Slot) : Tr Eff :=
  match y with
  | .const (.slice none 0 0) => (match P.underlying t with
    | some (.slice _) => (match sx with
      | .v (.list l) => gd (!l.isEmpty) (match eqOp op false with | some v => .ok { dst := .v v } | none => .bad)
      | .own _ l => gd (!l.isEmpty) (match eqOp op false with | some v => .ok { dst := .v v } | none => .bad)
      | sx => liftT (evBinOp P op t x y sx sy))
    | _ => .bad)
  | y => match sx, sy with
    | .v (.int k a), .v (.int k' b) => gs (notNilI x && notNilI y) (match op with
      | .shl => gd (decide (0 ≤ b)) (.ok { dst := .v (.int k (k.wrap (a * 2 ^ (min b.toNat k.bits)))) })
      | .shr => gd (decide (0 ≤ b)) (.ok { dst := .v (.int k (a.fdiv (2 ^ (min b.toNat k.bits)))) })
      | .quo => gs (decide (k = k')) (gd (!decide (b = 0)) (.ok { dst := .v (.int k (wr k (a.tdiv b))) }))
      | .rem => gs (decide (k = k')) (gd (!decide (b = 0)) (.ok { dst := .v (.int k (a.tmod b)) }))
      | op => liftT (evBinOp P op t x y sx sy))
    | .v (.str a), .v (.str b) => gs (notNilI x && notNilI y) (match op with
      | .add => gd (decide (a.length + b.length ≤ bigLen)) (.ok { dst := .v (.str (a ++ b)) })
      | op => liftT (evBinOp P op t x y sx sy))
    | sx, sy => liftT (evBinOp P op t x y sx sy)

def tConvert (P : Program) (src dst : Nat) (x : AV) : Tr AV :=
  match P.underlying src, P.underlying dst, x with
  | some (.slice e), some .string, .list l => match P.underlying e with
    | some (.int .u8) => gd (bytesOf l).isSome (.ok (.str ((bytesOf l).getD [])))
    | _ => .bad
  | _, _, x => optT (evConvert P src dst x)

def tAppended (H : Heap) : Slot → Tr (List AV)
  | .v (.hsl r ver sz off len) => match H[r]? with
    | some (.row ver' sz' l) => gs (Nat.beq sz sz') (gd (Nat.beq ver ver' && Nat.ble (off + len) l.length) (.ok ((l.drop off).take len)))
    | _ => .bad
  | .v (.list l) => .ok l
  | .own _ l => .ok l
  | .nil0 => .ok []
  | .v (.str s) => .ok (s.map fun b => AV.int .u8 b.toNat)
  | _ => .bad

def tAppend (P : Program) (hp : Bool) (t : Nat) (x : Operand) (sx y : Slot) (E : Env) : Tr Eff :=
  match P.underlying t with
  | some (.slice e) => (optT (sizeT P e)).bind fun sz => (optT (bytesT P e)).bind fun by_ => (tAppended E.H y).bind fun ys =>
    gs (Nat.ble by_ 256 && !Nat.beq by_ 0 && !Nat.beq sz 0) (gd (sizedAll sz ys)
      (match sx with
      | .nil0 => gd (decide (ys.length ≤ bigLen)) (match hp with
        | true => gs (layOk E) (gd (Nat.ble 1 ys.length) (.ok { dst := .v (.hsl (lay E (.row 0 sz ys)).1 0 sz 0 ys.length), heap := some (lay E (.row 0 sz ys)).2 }))
        | false => .ok { dst := .own sz ys })
      | .own sz' l => gs (Nat.beq sz sz') (gd (decide (l.length + ys.length ≤ bigLen)) (match hp with
        | true => gs (layOk E) (gd (Nat.ble 1 ys.length && Nat.beq l.length 0) (.ok { dst := .v (.hsl (lay E (.row 0 sz ys)).1 0 sz 0 ys.length), heap := some (lay E (.row 0 sz ys)).2, src := handed x sx }))
        | false => .ok { dst := .own sz (l ++ ys), src := handed x sx }))
      | .v (.hsl r ver _ 0 n) => match E.H[r]? with
        | some (.row ver' sz' l) => gs (Nat.beq sz sz') (gd (Nat.beq ver ver' && Nat.ble n l.length && decide (n + ys.length ≤ bigLen))
            (.ok { dst := .v (.hsl r (ver + 1) sz 0 (n + ys.length)), heap := some (E.H.set r (.row (ver + 1) sz (l.take n ++ ys))) }))
        | _ => .bad
      | _ => .bad))
  | _ => .bad

def tNat (lo : Option Slot) (dflt : Nat) (top : Nat) : Tr Nat :=
  match lo with
  | none => .ok dflt
  | some (.v (.int _ n)) => gd (decide (0 ≤ n) && decide (n ≤ (top : Int))) (.ok n.toNat)
  | _ => .bad

def tSlice (P : Program) (t : Nat) (x : Slot) (lo hi : Option Slot) : Tr Slot :=
  match P.underlying t, x with
  | some .string, .v (.str s) => (tNat hi s.length s.length).bind fun h => (tNat lo 0 h).bind fun l => .ok (.v (.str ((s.take h).drop l)))
  | some (.slice e), .v (.list s) => (optT (sizeT P e)).bind fun sz => (tNat hi s.length s.length).bind fun h => (tNat lo 0 h).bind fun l =>
      gd (headSized sz s) (.ok (.v (.list ((s.take h).drop l))))
  | some (.slice e), .nil0 => (optT (sizeT P e)).bind fun _ => (tNat hi 0 0).bind fun h => (tNat lo 0 h).bind fun _ => .ok .nil0
  | some (.slice e), .v (.hsl r ver sz off len) => (optT (sizeT P e)).bind fun sz' => (tNat hi len len).bind fun h => (tNat lo 0 h).bind fun l =>
      gs (Nat.beq sz sz') (.br (Nat.beq l 0 || Nat.blt l h) (.ok (.v (.hsl r ver sz (off + l) (h - l)))) (.ok (.v (.list []))))
  | _, _ => .bad

def tPick (c a b : Slot) : Tr Eff :=
  match c with
  | .v (.bool t) => match a, b with
    | .v (.bool p), .v (.bool q) => .ok { dst := .v (.bool (match t with | true => p | false => q)) }
    | _, _ => .br t (liftT (pureV (toAVR a))) (liftT (pureV (toAVR b)))
  | _ => .bad

/-! Maps whose keys are not known. -/

def mapF (k : AV) (es : List (AV × Slot)) : Bool := match findKeyL k es with | some (some _) => true | _ => false
def mapI (k : AV) (es : List (AV × Slot)) : Int := match findKeyL k es with | some (some (.v (.int _ n))) => n | _ => 0
def mapB (k : AV) (es : List (AV × Slot)) : Bool := match findKeyL k es with | some (some (.v (.bool b))) => b | _ => false
def mapOkI (kd : IntKind) (k : AV) (es : List (AV × Slot)) : Bool := match findKeyL k es with | some none => true | some (some (.v (.int k' _))) => decide (k' = kd) | _ => false
def mapOkB (k : AV) (es : List (AV × Slot)) : Bool := match findKeyL k es with | some none => true | some (some (.v (.bool _))) => true | _ => false

def tFound (ok : Bool) (f : Bool) (s : Slot) : Slot := match ok with | true => .tup [s, .v (.bool f)] | false => s

def tLookup (P : Program) (t : Nat) (m k : Slot) (ok : Bool) (H : Heap) : Tr Slot :=
  match m, P.underlying t with
  | .v (.map r), some (.map kt et) => match H[r]? with
    | some (.map es) => match toAV k, zeroT P et, P.underlying et with
      | some key, some (.v (.int k0 0)), some (.int kd) => gs (keyOk P kt key && decide (k0 = kd)) (gd (mapOkI kd key es) (.ok (tFound ok (mapF key es) (.v (.int kd (mapI key es))))))
      | some key, some (.v (.bool false)), some .bool => gs (keyOk P kt key) (gd (mapOkB key es) (.ok (tFound ok (mapF key es) (.v (.bool (mapB key es))))))
      | _, _, _ => liftT (evLookup P t m k ok H)
    | _ => .bad
  | _, _ => .bad

def tMapUpdate (P : Program) (t : Nat) (m k : Slot) (x : Operand) (s : Slot) (H : Heap) : Tr Eff :=
  match m, P.underlying t with
  | .v (.map r), some (.map kt _) => match H[r]? with
    | some (.map es) => match toAV k with
      | some key => gs (retOk s && keyOk P kt key) (gd (findKeyL key es).isSome (.ok { dst := .undef, src := handed x s, heap := some (H.set r (.map (setKeyL key s es))) }))
      | none => .bad
    | _ => .bad
  | _, _ => .bad

def tNext (x : Operand) (s : Slot) : Tr Eff :=
  match s, x with
  | .it s pos, .tmp t => .br (decide (pos < s.length))
      (.ok { dst := .tup [.v (.bool true), goI pos, .v (.int .i32 ((Utf8.decode ⟨s.toArray⟩ pos).1 : Nat))], src := some (t, .it s (pos + (Utf8.decode ⟨s.toArray⟩ pos).2)) })
      (.ok { dst := .tup [.v (.bool false)] })
  | _, _ => .bad

def tMakeSlice (P : Program) (hp : Bool) (t : Nat) (n m : Slot) (E : Env) : Tr Eff :=
  match n, m, P.underlying t with
  | .v (.int _ a), .v (.int _ b), some (.slice e) =>
    (optT (sizeT P e)).bind fun sz => (optT (bytesT P e)).bind fun by_ => (optT (zeroT P e)).bind fun z => (liftT (toAVR z)).bind fun y => (optT (isAggT P e)).bind fun ag =>
    gs (Nat.ble by_ 256 && !Nat.beq sz 0 && (cellsOfSlot z).all plainCell && Nat.beq (cellsOfAV y).length sz && (ag == isAggAV y))
      (gd (decide (0 ≤ a) && decide (a ≤ b) && decide (b ≤ (bigLen : Int))) (match hp with
      | true => gs (layOk E) (gd (decide (a = b)) (.ok { dst := .v (.hsl (lay E (.row 0 sz (List.replicate a.toNat y))).1 0 sz 0 a.toNat), heap := some (lay E (.row 0 sz (List.replicate a.toNat y))).2 }))
      | false => .ok { dst := .own sz (List.replicate a.toNat y) }))
  | _, _, _ => .bad

abbrev TCall := Fnv → List AV → Heap → Tr (Slot × Heap)

def tPure (tc : TCall) (f : Fnv) (xs : List AV) (H : Heap) : Tr Eff :=
  (tc f xs []).mapP (fun p => gd (noRefS p.1) (.ok { dst := p.1 })) (fun v _ => gd (noRef v) (.panic v H))
def tOpen (tc : TCall) (f : Fnv) (xs : List AV) (H : Heap) : Tr Eff :=
  (tc f xs H).bind fun p => .ok { dst := p.1, heap := some p.2 }

def tDoCall (C : Cfg) (tc : TCall) (f : Fnv) (args : List Slot) (cap : List AV) (H : Heap) : Tr Eff :=
  (liftT (argsR args)).bind fun xs => match isPure C f with
    | true => gd (noRefs (xs ++ cap)) (tPure tc f (xs ++ cap) H)
    | false => gs (!isRo C f) (tOpen tc f (xs ++ cap) H)

def tAppendOp (P : Program) (h : Hint) (dst : Option Nat) (c : Go.Call) (E : Env) : Tr Eff :=
  match c.args.toList, c.argTypes.toList with
  | [x, y], [t, ty] => match P.underlying ty with
    | some (.slice _) => tAppend P (onHeap h dst) t x (E.S x) (E.S y) E
    | some .string => tAppend P (onHeap h dst) t x (E.S x) (E.S y) E
    | _ => .bad
  | _, _ => .bad

def noCall : Call := fun _ _ _ => .oof

def tCall (C : Cfg) (tc : TCall) (h : Hint) (o : Oper) (c : Go.Call) (E : Env) : Tr Eff :=
  match c.callee with
  | .builtin .append => tAppendOp C.P h o.dst c E
  | .builtin _ => liftT (evCall C noCall h o c E)
  | .value f => match E.S f with
    | .v (.func g cap) => tDoCall C tc (.fn g) (c.args.toList.map E.S) cap E.H
    | .v (.meth g first) => tDoCall C tc (.fn g) (first.map .v ++ c.args.toList.map E.S) [] E.H
    | .v (.yield l) => tDoCall C tc (.yld l) (c.args.toList.map E.S) [] E.H
    | _ => .bad
  | .invoke x name => match E.S x with
    | .v (.iface t y) => match methodOf C.P t name with
      | some g => tDoCall C tc (.fn g) (.v y :: c.args.toList.map E.S) [] E.H
      | none => .bad
    | _ => .bad

def tPureV (t : Tr AV) : Tr Eff := t.bind fun s => .ok { dst := .v s }
def tPureR (t : Tr Slot) : Tr Eff := t.bind fun s => .ok { dst := s }

def tCore (C : Cfg) (tc : TCall) (h : Hint) (o : Oper) (E : Env) : Tr Eff :=
  match o.op with
  | .pick c a b => tPick (E.S c) (E.S a) (E.S b)
  | .load t a => tLoad C.P (takes h o.dst) t (E.S a) E
  | .store t a x => tStore C.P t (E.S a) x E
  | .binOp op t x y _ => tBinOp C.P op t x y (E.S x) (E.S y)
  | .convert src dst x => tPureV ((liftT (toAVR (E.S x))).bind fun a => tConvert C.P src dst a)
  | .indexAddr t x i => tPureR (tIndexAddr C.P t (E.S x) (E.S i) (isConst i))
  | .index t x i => tPureV ((liftT (toAVR (E.S x))).bind fun a => (liftT (toAVR (E.S i))).bind fun b => tIndex C.P t a b (isConst i))
  | .slice t x lo hi none => tPureR (tSlice C.P t (view (E.S x)) (lo.map E.S) (hi.map E.S))
  | .lookup t m k ok => tPureR (tLookup C.P t (E.S m) (E.S k) ok E.H)
  | .insert t m k x => tMapUpdate C.P t (E.S m) (E.S k) x (E.S x) E.H
  | .mapUpdate t m k x => tMapUpdate C.P t (E.S m) (E.S k) x (E.S x) E.H
  | .next x true => tNext x (E.S x)
  | .makeSlice t n m => tMakeSlice C.P (onHeap h o.dst) t (E.S n) (E.S m) E
  | .call c => tCall C tc h o c E
  | _ => liftT (evCore C noCall h o E)

def tOp (C : Cfg) (tc : TCall) (h : Hint) (A : Option Nat) (o : Oper) (st : St) : Tr St :=
  match o.op, o.dst with
  | .defer { callee := .value f, args := ⟨[]⟩, .. }, none => liftT (evDefer h (opd st f) st)
  | .defer _, _ => .bad
  | _, _ => (tCore C tc h o (envOf A st)).bind fun e => .ok (applyEff st o.dst e)

/-- where a temporary's truth is known. -/
def subT (d : Nat) (b : Bool) : List (Nat × Slot) → List (Nat × Slot)
  | [] => []
  | (k, s) :: l => match Nat.beq k d with
    | true => (match s with | .v (.bool _) => (k, .v (.bool b)) :: l | s => (k, s) :: l)
    | false => (k, s) :: subT d b l
def subSt (d : Nat) (b : Bool) (st : St) : St := { st with tmps := subT d b st.tmps }

def tSkip (o : Oper) (st : St) : Tr St := gs (skipOk o st) (.ok { st with tmps := putT st.tmps o.dst .skip })

def tOper (C : Cfg) (tc : TCall) (h : Hint) (A : Option Nat) (ops : Array Oper) (o : Oper) (st : St) : Tr St :=
  match o.guard with
  | none => tOp C tc h A o st
  | some (j, want) => match ops[j]? with
    | some p => match p.dst with
      | some d => match getT st.tmps d with
        | .v (.bool b) => match want with
          | true => .br b (tOp C tc h A o (subSt d true st)) (tSkip o (subSt d false st))
          | false => .br b (tSkip o (subSt d true st)) (tOp C tc h A o (subSt d false st))
        | .skip => tSkip o st
        | _ => .bad
      | none => .bad
    | none => .bad

def tOpers (C : Cfg) (tc : TCall) (h : Hint) (ops : Array Oper) : List Oper → St → Tr St
  | [], st => .ok st
  | o :: l, st => (tOper C tc h none ops o st).bind fun st' => tOpers C tc h ops l st'

/-- what an operation looks at and touches; a truth that is asked of the values. -/
def quietT (C : Cfg) (o : Oper) (S : Operand → Slot) : Bool :=
  match o.op with
  | .call c => match c.callee with
    | .value (.func g) => match C.pure g with
      | true => (match argsR (c.args.toList.map S) with | .ok xs => noRefs xs | _ => true)
      | false => true
    | _ => true
  | _ => true
def footT (C : Cfg) (h : Hint) (o : Oper) (S : Operand → Slot) : Foot :=
  match o.op with
  | .call c => match c.callee with
    | .value (.func g) => match C.pure g with
      | true => (match argsR (c.args.toList.map S) with
        | .ok _ => { rt := tmpsOf o.op.operands.toList, wt := dstT o.dst }
        | _ => footOp C h o S)
      | false => footOp C h o S
    | _ => footOp C h o S
  | _ => footOp C h o S
def footT' (C : Cfg) (h : Hint) (ops : Array Oper) (o : Oper) (st : St) : Foot :=
  { footT C h o (opd st) with rt := guardT ops o.guard ++ (footT C h o (opd st)).rt }

def tQuiet {α : Type} (C : Cfg) (o : Oper) (S : Operand → Slot) (t : Tr α) : Tr α :=
  match o.op with
  | .call c => match c.callee with
    | .value (.func g) => match C.pure g with
      | true => (match argsR (c.args.toList.map S) with
        | .ok xs => gd (noRefs xs) t
        | _ => t)
      | false => t
    | _ => t
  | _ => t

def tDrawn (C : Cfg) (tc : TCall) (h : Hint) (ops : Array Oper) (lay : Bool) : Nat → Nat → List Oper → List Nat → St → List (Nat × Foot) → Option (Nat × AV × Heap) → Tr St
  | _, _, [], _, st, _, none => .ok st
  | _, _, [], _, _, _, some (_, v, H) => .panic v H
  | i, b, o :: l, ms, st, fs, pn =>
    match skips pn (ms.headD 0) with
    | true => tDrawn C tc h ops lay (i + 1) (b + countLays h [o]) l ms.tail st fs pn
    | false =>
      tQuiet C o (opd st) (gs (apartAll (ms.headD 0) (footT' C h ops o st) fs && !(lay && (footT' C h ops o st).all)) ((tOper C tc h (placeFor h b o) ops o st).mapP
        (fun st' => tDrawn C tc h ops lay (i + 1) (b + countLays h [o]) l ms.tail st' ((i, footT' C h ops o st) :: fs) pn)
        (fun v H => match pn, (footT' C h ops o st).all with
          | none, true => tDrawn C tc h ops lay (i + 1) (b + countLays h [o]) l ms.tail st ((i, footT' C h ops o st) :: fs) (some (i, v, H))
          | _, _ => .bad)))

def tDraw0 (C : Cfg) (tc : TCall) (h : Hint) (ops : Array Oper) (st : St) : Tr St :=
  gs (afterOk 0 ops.toList) (match countLays h ops.toList with
  | 0 => tDrawn C tc h ops false 0 0 ops.toList (masks ops.toList []) st [] none
  | n + 1 => tDrawn C tc h ops true 0 st.heap.length ops.toList (masks ops.toList []) { st with heap := st.heap ++ List.replicate (n + 1) .free, ht := true } [] none)

def tDraw (C : Cfg) (tc : TCall) (h : Hint) (ops : Array Oper) (st : St) : Tr St :=
  match isCoin C.P ops with
  | some _ => .bad
  | none => tDraw0 C tc h ops st

def tRegion (ops : List Oper) (st : St) (r : Tr St) : Tr (Ex × St) :=
  r.mapP (fun st' => .ok (.normal, st')) (fun v H => gs (noDefer ops) (.ok (.panic v, { tmps := dropT (wrsOps ops) st.tmps, locs := [], heap := H, wl := [], ht := true, defs := st.defs })))

/-- what comes of a way through code: an end, or a loop's beginning. -/
inductive Out (β : Type) where
  | done (b : β)
  | head (blk : Nat) (st : St)

/-- a condition; where it is known, what it was found in. -/
def tCond {α : Type} (c : Operand) (st : St) (x y : St → Tr α) : Tr α :=
  match c with
  | .tmp t => match getT st.tmps t with
    | .v (.bool b) => .br b (x (subSt t true st)) (y (subSt t false st))
    | _ => .bad
  | c => match opd st c with
    | .v (.bool b) => (match b with | true => x st | false => y st)
    | _ => .bad

def tCode {β : Type} (C : Cfg) (tc : TCall) (f : Nat) (h : Hint) (blk : Nat) : Code → (Ex → St → Tr (Out β)) → St → Tr (Out β)
  | .skip, k, st => k .normal st
  | .label _, k, st => k .normal st
  | .region _ ops dr, k, st => (tRegion ops.toList st (match dr with
      | true => tDraw C tc h ops st
      | false => tOpers C tc h ops ops.toList st)).bind fun p => k p.1 p.2
  | .seq a b, k, st => tCode C tc f h blk a (fun e st' => match e with
    | .normal => tCode C tc f h blk b k st'
    | e => k e st') st
  | .cond c x y, k, st => tCond c st (fun st => tCode C tc f h blk x k st) (fun st => tCode C tc f h blk y k st)
  | .block id c, k, st => tCode C tc f h id c (fun e st' => match e with
    | .exit i => (match Nat.beq i id with | true => k .normal st' | false => k (.exit i) st')
    | e => k e st') st
  | .loop _, _, st => .ok (.head blk (keepAt h blk st))
  | .exit id, k, st => k (.exit id) st
  | .scope c, k, st => tCode C tc f h blk c k st
  | .ret, k, st => k .ret st
  | _, _, _ => .bad

/-- whether a loop's block is in code. -/
def hasLoop (b : Nat) (blk : Nat) : Code → Bool
  | .seq x y => hasLoop b blk x || hasLoop b blk y
  | .cond _ x y => hasLoop b blk x || hasLoop b blk y
  | .block id c => hasLoop b id c
  | .loop c => Nat.beq blk b || hasLoop b blk c
  | .scope c => hasLoop b blk c
  | _ => false

/-- the blocks of the loops. -/
def loopsIn (blk : Nat) : Code → List Nat
  | .seq x y => loopsIn blk x ++ loopsIn blk y
  | .cond _ x y => loopsIn blk x ++ loopsIn blk y
  | .block id c => loopsIn id c
  | .loop c => blk :: loopsIn blk c
  | .scope c => loopsIn blk c
  | _ => []
def nodupB : List Nat → Bool
  | [] => true
  | x :: l => !memN x l && nodupB l

/-- from a loop's beginning on. -/
def tAt {β : Type} (C : Cfg) (tc : TCall) (f : Nat) (h : Hint) (b : Nat) (blk : Nat) : Code → (Ex → St → Tr (Out β)) → St → Tr (Out β)
  | .seq x y, k, st => match hasLoop b blk x with
    | true => tAt C tc f h b blk x (fun e st' => match e with
      | .normal => tCode C tc f h blk y k st'
      | e => k e st') st
    | false => tAt C tc f h b blk y k st
  | .cond _ x y, k, st => match hasLoop b blk x with
    | true => tAt C tc f h b blk x k st
    | false => tAt C tc f h b blk y k st
  | .block id c, k, st => tAt C tc f h b id c (fun e st' => match e with
    | .exit i => (match Nat.beq i id with | true => k .normal st' | false => k (.exit i) st')
    | e => k e st') st
  | .loop c, k, st => match Nat.beq blk b with
    | true => tCode C tc f h blk c (fun e st' => match e with
      | .normal => .ok (.head blk (keepAt h blk st'))
      | e => k e st') (keepAt h blk st)
    | false => tAt C tc f h b blk c (fun e st' => match e with
      | .normal => .ok (.head blk (keepAt h blk st'))
      | e => k e st') st
  | .scope c, k, st => tAt C tc f h b blk c k st
  | _, _, _ => .bad

def dfrOut (rc : Bool) (e : Ex) (st : St) : Tr (Out (Bool × Heap)) := match e, st.defs with
  | .normal, [] => .ok (.done (rc, st.heap))
  | .ret, [] => .ok (.done (rc, st.heap))
  | _, _ => .bad
def noHead {β : Type} (t : Tr (Out β)) : Tr β := t.bind fun o => match o with
  | .done b => .ok b
  | .head _ _ => .bad

def tDeferred (C : Cfg) (tc : TCall) (pn : Option AV) (f : Nat) (args : List AV) (H : Heap) : Tr (Bool × Heap) :=
  match C.P.funcs[f]? with
  | none => .bad
  | some fn =>
    gs fn.results.isEmpty (match fn.body with
    | some (.seq (.region id ops false) c) => match isRecover ops with
      | some d => gs (nodupB (loopsIn 0 c)) (noHead (tCode C tc f (C.hint f) 0 c (dfrOut pn.isSome) { startSt args H with tmps := putT (startT args 0) d (.v (recV pn)) }))
      | none => gs (nodupB (loopsIn 0 (.seq (.region id ops false) c))) (noHead (tCode C tc f (C.hint f) 0 (.seq (.region id ops false) c) (dfrOut false) (startSt args H)))
    | some c => gs (nodupB (loopsIn 0 c)) (noHead (tCode C tc f (C.hint f) 0 c (dfrOut false) (startSt args H)))
    | none => .bad)

def tLeave (C : Cfg) (tc : TCall) : List Dfr → Option AV → Heap → Tr (Option AV × Heap)
  | [], pn, H => .ok (pn, H)
  | .mark :: l, pn, H => tLeave C tc l pn H
  | .clo f cap :: l, pn, H => (tDeferred C tc pn f cap H).bind fun p => tLeave C tc l (match p.1 with | true => none | false => pn) p.2

def tFunEnd (C : Cfg) (tc : TCall) (rs : List ResultVar) (st : St) (pn : Option AV) : Tr (Slot × Heap) :=
  (tLeave C tc st.defs pn st.heap).bind fun p => match p.1 with
    | some v => .panic v p.2
    | none => (liftT (resultsS C.P { st with heap := p.2 } rs)).bind fun q => gs (q.1.all retOk) (.ok (retSlot q.1, q.2))

def tEnd (C : Cfg) (tc : TCall) (rs : List ResultVar) (e : Ex) (st : St) : Tr (Out (Slot × Heap)) :=
  match e with
  | .exit _ => .bad
  | .panic v => (tFunEnd C tc rs st (some v)).bind fun r => .ok (.done r)
  | _ => (tFunEnd C tc rs st none).bind fun r => .ok (.done r)

/-- a function, from its beginning on, and from a loop's. -/
def tFun (C : Cfg) (tc : TCall) (f : Nat) (args : List AV) (H : Heap) : Tr (Out (Slot × Heap)) :=
  match C.P.funcs[f]? with
  | none => .bad
  | some fn => match fn.body with
    | none => .bad
    | some c => gs (nodupB (loopsIn 0 c)) (tCode C tc f (C.hint f) 0 c (tEnd C tc fn.results.toList) (startSt args H))
def tHd (C : Cfg) (tc : TCall) (f : Nat) (b : Nat) (st : St) : Tr (Out (Slot × Heap)) :=
  match C.P.funcs[f]? with
  | none => .bad
  | some fn => match fn.body with
    | none => .bad
    | some c => gs (nodupB (loopsIn 0 c)) (gs (hasLoop b 0 c) (tAt C tc f (C.hint f) b 0 c (tEnd C tc fn.results.toList) st))

/-- how a function goes on, from one loop's beginning to the next. -/
inductive Rea (C : Cfg) (tc : TCall) (f : Nat) : Tr (Out (Slot × Heap)) → Res (Slot × Heap) → Prop where
  | ok (r) : Rea C tc f (.ok (.done r)) (.ok r)
  | panic (v H) : Rea C tc f (.panic v H) (.panic v H)
  | brT (b t e r) : b = true → Rea C tc f t r → Rea C tc f (.br b t e) r
  | brF (b t e r) : b = false → Rea C tc f e r → Rea C tc f (.br b t e) r
  | head (b st r) : Rea C tc f (tHd C tc f b st) r → Rea C tc f (.ok (.head b st)) r

end
end Go.Sw
/-! What a tree says is what the evaluator does: operations. -/
namespace Go.Sw
open Go

/-- a is found, and so it is b. -/
def Le {α : Type} (a b : Res α) : Prop := match a with
  | .ok x => b = .ok x
  | .panic v h => b = .panic v h
  | _ => True
def TS {α : Type} (t : Tr α) (r : Res α) : Prop := Le t.run r

theorem Le.refl {α : Type} (a : Res α) : Le a a := by cases a <;> trivial
theorem Le.bind {α β : Type} {a b : Res α} {f g : α → Res β} (h : Le a b) (hf : ∀ x, Le (f x) (g x)) : Le (a.bind f) (b.bind g) := by
  cases a with
  | ok x => have h : b = .ok x := h; subst h; exact hf x
  | panic v H => have h : b = .panic v H := h; subst h; exact rfl
  | bad _ => trivial
  | oof => trivial
theorem Le.trans {α : Type} {a b c : Res α} (h : Le a b) (k : Le b c) : Le a c := by
  cases a with
  | ok x => have h : b = .ok x := h; subst h; exact k
  | panic v H => have h : b = .panic v H := h; subst h; exact k
  | bad _ => trivial
  | oof => trivial

section
variable {α β : Type}

theorem run_bind (t : Tr α) (f : α → Tr β) : (t.bind f).run = t.run.bind fun x => (f x).run := by
  induction t with
  | ok a => rfl
  | br b t e ht he =>
    show (Tr.br b (t.bind f) (e.bind f)).run = _
    cases b
    · exact he
    · exact ht
  | panic v h => rfl
  | bad => rfl
  | oof => rfl

theorem TS.ok (a : α) : TS (.ok a) (.ok a) := rfl
theorem TS.bad {r : Res α} : TS .bad r := trivial
theorem TS.oof {r : Res α} : TS .oof r := trivial
theorem TS.panic {v : AV} {H : Heap} : TS (α := α) (.panic v H) (.panic v H) := rfl
theorem TS.lift (r : Res α) : TS (liftT r) r := by cases r <;> trivial
theorem TS.opt {w : String} (o : Option α) : TS (optT o) (Sw.opt w o) := by cases o <;> trivial
theorem TS.bind {t : Tr α} {r : Res α} {f : α → Tr β} {g : α → Res β} (h : TS t r) (hf : ∀ x, TS (f x) (g x)) : TS (t.bind f) (r.bind g) := by
  unfold TS
  rw [run_bind]
  exact Le.bind h hf
theorem TS.br {b : Bool} {t e : Tr α} {r : Res α} (h1 : b = true → TS t r) (h2 : b = false → TS e r) : TS (.br b t e) r := by
  cases b
  · exact h2 rfl
  · exact h1 rfl
theorem TS.gd {b : Bool} {t : Tr α} {r : Res α} (h : b = true → TS t r) : TS (gd b t) r := TS.br h fun _ => TS.bad
theorem TS.gs {b : Bool} {t : Tr α} {r : Res α} (h : b = true → TS t r) : TS (gs b t) r := by
  cases b
  · exact TS.bad
  · exact h rfl
theorem TS.guard {w : String} {b : Bool} {t : Tr α} {r : Res α} (h : TS t r) : TS (Sw.gd b t) (guardR w b r) := by
  cases b
  · exact TS.bad
  · exact h
theorem TS.guardS {w : String} {b : Bool} {t : Tr α} {r : Res α} (h : TS t r) : TS (Sw.gs b t) (guardR w b r) := by
  cases b
  · exact TS.bad
  · exact h
theorem TS.le {t : Tr α} {r r' : Res α} (h : TS t r) (k : Le r r') : TS t r' := Le.trans h k
theorem TS.of_eq {t : Tr α} {r r' : Res α} (h : TS t r) (k : r = r') : TS t r' := k ▸ h

theorem run_mapP (t : Tr α) (f : α → Tr β) (p : AV → Heap → Tr β) : (t.mapP f p).run = match t.run with
    | .ok a => (f a).run
    | .panic v h => (p v h).run
    | .bad _ => .bad ""
    | .oof => .oof := by
  induction t with
  | ok a => rfl
  | br b t e ht he =>
    show (Tr.br b (t.mapP f p) (e.mapP f p)).run = _
    cases b
    · exact he
    · exact ht
  | panic v h => rfl
  | bad => rfl
  | oof => rfl
theorem TS.mapP {t : Tr α} {r : Res α} {f : α → Tr β} {p : AV → Heap → Tr β} {q : Res β} (h : TS t r) (h1 : ∀ a, r = .ok a → TS (f a) q) (h2 : ∀ v H, r = .panic v H → TS (p v H) q) : TS (t.mapP f p) q := by
  unfold TS at *
  rw [run_mapP]
  cases hr : t.run with
  | ok a => rw [hr] at h; exact h1 a h
  | panic v H => rw [hr] at h; exact h2 v H h
  | bad w => trivial
  | oof => trivial
end

/-! Cells. -/

theorem cellA_of {x : AV} {c : AV} {r : List AV} {j : Nat} (h : (cellsOfAV x).drop j = c :: r) : cellA x j = c ∧ (cellsOfAV x).drop (j + 1) = r := by
  have h0 : (cellsOfAV x)[j]? = some c := by
    have : ((cellsOfAV x).drop j)[0]? = some c := by rw [h]; rfl
    simpa [List.getElem?_drop] using this
  constructor
  · unfold cellA
    rw [List.getD_eq_getElem?_getD, h0]
    rfl
  · have := congrArg List.tail h
    simpa [List.tail_drop] using this

theorem expand_eq {x : AV} : ∀ (sh : List Sh) (j : Nat), shC (((cellsOfAV x).drop j).take sh.length) sh = true → expand x j sh = ((cellsOfAV x).drop j).take sh.length
  | [], j, _ => by simp [expand]
  | q :: sh, j, h => by
    cases hd : (cellsOfAV x).drop j with
    | nil => rw [hd] at h; simp [shC] at h
    | cons c r =>
      obtain ⟨hc, hr⟩ := cellA_of hd
      rw [hd] at h
      simp only [List.length_cons, List.take_succ_cons] at h ⊢
      have ih := fun hh => expand_eq (x := x) sh (j + 1) (by rw [hr]; exact hh)
      rw [hr] at ih
      cases q <;> cases c <;> first
        | (simp [shC] at h; done)
        | (simp only [shC, Bool.and_eq_true, decide_eq_true_eq] at h
           simp only [expand, AV.i, AV.b, AV.s, AV.l, hc]
           first
             | (obtain ⟨h1, h2⟩ := h; subst h1; rw [ih h2])
             | rw [ih h])

theorem shC_len : ∀ {l : List AV} {sh : List Sh}, shC l sh = true → l.length = sh.length
  | [], [], _ => rfl
  | [], _ :: _, h => by simp [shC] at h
  | x :: _, [], h => by cases x <;> simp [shC] at h
  | x :: l, q :: sh, h => by
    have : shC l sh = true := by
      cases q <;> cases x <;> first
        | (simp [shC] at h; done)
        | (simp only [shC, Bool.and_eq_true, decide_eq_true_eq] at h
           first | exact h.2 | exact h)
    simp [shC_len this]

theorem expand_all {x : AV} {sh : List Sh} (h : shapeB x sh = true) : expand x 0 sh = cellsOfAV x := by
  unfold shapeB at h
  have hl := shC_len h
  have := expand_eq (x := x) sh 0 (by simpa [← hl] using h)
  simpa [← hl] using this

/-! Operations. -/
theorem mbok {α β : Type} (a : α) (f : α → Res β) : (Bind.bind (Res.ok a) f : Res β) = f a := rfl
theorem opt_some {α : Type} {w : String} (a : α) : Sw.opt w (some a) = .ok a := rfl
section
variable {P : Program} {E : Env}

theorem TS.cases {α : Type} {w : String} {n : Int} {f : Nat → Tr α} {g : Nat → Res α} (hf : ∀ m, TS (f m) (g m)) : ∀ (m len : Nat), m ≤ len → TS (tCases n f m) (guardR w (inRange n len) (g n.toNat))
  | 0, _, _ => TS.bad
  | m + 1, len, hm => by
    refine TS.br (fun h => ?_) (fun _ => TS.cases hf m len (by omega))
    have h : n = (m : Int) := by simpa using h
    subst h
    have : inRange (m : Int) len = true := by unfold inRange; simp; omega
    rw [this]
    exact hf m

theorem TS.elem {l : List AV} {n : Int} {sz : Nat} {sh : List Sh} : TS (tElem l n sz sh) (elemAddr l n sz) := by
  refine TS.gs fun h1 => TS.gd fun h2 => TS.gd fun h3 => ?_
  unfold inRange at h2
  simp only [Bool.and_eq_true, decide_eq_true_eq] at h2
  obtain ⟨h4, h5⟩ := h2
  have h6 : n.toNat < l.length := by omega
  have h7 : l[n.toNat]? = some (l.getD n.toNat .nilp) := by
    rw [List.getD_eq_getElem?_getD, List.getElem?_eq_getElem h6]; rfl
  have h8 : idx l n = some (l.getD n.toNat .nilp) := by
    unfold idx
    simp only [h4, decide_true, h7]
  have hlen := shC_len (show shC (cellsOfAV (l.getD n.toNat .nilp)) sh = true from h3)
  have h1 := Nat.eq_of_beq_eq_true h1
  have h9 : sized sz (l.getD n.toNat .nilp) = some (cellsOfAV (l.getD n.toNat .nilp)) := by
    unfold sized
    have : Nat.beq (cellsOfAV (l.getD n.toNat .nilp)).length sz = true := by rw [hlen, h1]; exact Nat.beq_refl sz
    rw [this]
  unfold elemAddr
  rw [h8, expand_all h3]
  show Le _ ((Sw.opt "indexAddr: element" (sized sz (l.getD n.toNat .nilp))).bind _)
  rw [h9]
  exact rfl

theorem TS.indexAddr {t : Nat} {x i : Slot} {c : Bool} : TS (tIndexAddr P t x i c) (evIndexAddr P t x i) := by
  unfold tIndexAddr evIndexAddr
  split
  · rename_i k n
    split
    · rename_i e he
      split
      · rename_i sz sh h1 h2
        have hopt : Sw.opt "indexAddr: size" (sizeT P e) = .ok sz := by rw [h1]; rfl
        simp only [he]
        rw [hopt]
        show TS _ (match x with | .v (.list l) => elemAddr l n sz | .own _ l => elemAddr l n sz | .v (.hsl r ver sz' off len) => guardR "indexAddr: range" (Nat.beq sz sz' && inRange n len) (.ok (.er r ver (off + n.toNat) 0)) | _ => .bad "indexAddr: slice")
        split
        · exact TS.elem
        · exact TS.elem
        · refine TS.gs fun h3 => TS.gd fun h4 => ?_
          show TS _ (guardR _ _ _)
          rw [h3, h4]
          exact rfl
        · exact TS.bad
      · exact TS.bad
    · rename_i len e he
      cases c with
      | true =>
        have := TS.lift (evIndexAddr P t x (.v (.int k n)))
        unfold evIndexAddr at this
        simp only [he] at this
        simpa only [he] using this
      | false =>
        simp only
        split
        · rename_i sz h1
          have hopt : Sw.opt "indexAddr: size" (sizeT P e) = .ok sz := by rw [h1]; rfl
          simp only [he]
          rw [hopt]
          exact TS.cases (g := fun m => addOff x (m * sz)) (fun m => TS.lift _) len len (Nat.le_refl _)
        · exact TS.bad
    · exact TS.bad
  · exact TS.bad

theorem getD_idx {α : Type} {l : List α} {n : Int} {d : α} (h : inRange n l.length = true) : idx l n = some (l.getD n.toNat d) := by
  unfold inRange at h
  simp only [Bool.and_eq_true, decide_eq_true_eq] at h
  obtain ⟨h4, h5⟩ := h
  have h6 : n.toNat < l.length := by omega
  unfold idx
  simp only [h4, decide_true]
  rw [List.getD_eq_getElem?_getD, List.getElem?_eq_getElem h6]; rfl

theorem TS.index {t : Nat} {x i : AV} {c : Bool} : TS (tIndex P t x i c) (evIndex P t x i) := by
  unfold tIndex
  split
  · rename_i k n s
    split
    · rename_i hu
      refine TS.gd fun h => ?_
      unfold evIndex
      simp only [hu, getD_idx (d := 0) h]
      exact rfl
    · exact TS.bad
  · rename_i k n cs
    split
    · rename_i len e hu
      cases c with
      | true => exact TS.lift _
      | false =>
        simp only
        split
        · rename_i sz h1
          unfold evIndex
          simp only [hu, h1]
          exact TS.cases (g := fun m => partV P e cs (m * sz)) (fun m => TS.lift _) len len (Nat.le_refl _)
        · exact TS.bad
    · exact TS.bad
  · exact TS.bad

theorem behind_er {r ver i j : Nat} {ver' sz : Nat} {l : List AV} (h1 : E.H[r]? = some (.row ver' sz l)) (h2 : Nat.beq ver ver' = true) (h3 : i < l.length) :
    behind E (.er r ver i j) = some ((cellsOfAV (l.getD i .nilp)).map .v, j) := by
  unfold behind
  simp only [h1]
  have : l[i]? = some (l.getD i .nilp) := by rw [List.getD_eq_getElem?_getD, List.getElem?_eq_getElem h3]; rfl
  simp only [h2, this]

theorem views_v (l : List AV) : views (l.map .v) = l.map .v := by
  induction l with
  | nil => rfl
  | cons x l ih => simp [views, view, ih]
theorem allV_v (l : List AV) : allV (l.map .v) = some l := by
  induction l with
  | nil => rfl
  | cons x l ih => simp [allV, ih]

theorem TS.load {tk : Bool} {t : Nat} {p : Slot} : TS (tLoad P tk t p E) (evLoad P tk t p E) := by
  unfold tLoad
  split
  · rename_i r ver i j
    split
    · exact TS.bad
    · split
      · rename_i ver' sz l hr
        split
        · rename_i ag n sh ha hn hs
          refine TS.gs fun h1 => TS.gd fun h2 => TS.gd fun h3 => ?_
          simp only [Bool.and_eq_true, Bool.or_eq_true] at h1 h2
          have hb := behind_er (j := j) hr h2.1 (Nat.blt_eq.mp h2.2)
          have hlen := Nat.eq_of_beq_eq_true h1.1
          have hex := expand_eq sh j h3
          have hsl := shC_len h3
          unfold evLoad
          simp only [hb, ha, hn, opt_some, mbok]
          rw [hlen] at hex hsl
          have hcell : ((((cellsOfAV (l.getD i .nilp)).map Slot.v).drop j).take n) = (expand (l.getD i .nilp) j sh).map .v := by rw [hex, List.map_take, List.map_drop]
          cases ag with
          | true =>
            have hsz : sliceL ((cellsOfAV (l.getD i .nilp)).map Slot.v) j n = some ((expand (l.getD i .nilp) j sh).map .v) := by
              unfold sliceL
              rw [hcell]
              have : Nat.beq ((expand (l.getD i .nilp) j sh).map Slot.v).length n = true := by
                rw [List.length_map, hex, hsl]; exact Nat.beq_refl n
              rw [this]
            simp only [hsz, opt_some, mbok, views_v, mkAgg, allV_v]
            exact rfl
          | false =>
            have hn1 : n = 1 := by
              rcases h1.2 with h | h
              · cases h
              · exact Nat.eq_of_beq_eq_true h
            subst hn1
            have hc : ((cellsOfAV (l.getD i .nilp)).map Slot.v)[j]? = some (.v ((expand (l.getD i .nilp) j sh).headD .nilp)) := by
              rw [hex]
              have : ((cellsOfAV (l.getD i .nilp)).drop j).take 1 ≠ [] := by
                intro h0; rw [h0] at hsl; cases hsl
              rw [List.getElem?_map]
              cases hd : (cellsOfAV (l.getD i .nilp)).drop j with
              | nil => rw [hd] at this; exact absurd rfl this
              | cons c r =>
                have h0 : (cellsOfAV (l.getD i .nilp))[j]? = some c := by
                  have : ((cellsOfAV (l.getD i .nilp)).drop j)[0]? = some c := by rw [hd]; rfl
                  simpa [List.getElem?_drop] using this
                rw [h0]
                simp
            simp only [hc, opt_some, mbok]
            exact rfl
        · exact TS.bad
      · exact TS.bad
  · exact TS.lift _

theorem writeL_map (f : AV → Slot) : ∀ (ys : List AV) (cs : List AV) (j : Nat), writeL (cs.map f) j (ys.map f) = (writeL cs j ys).map f
  | [], _, _ => rfl
  | y :: ys, cs, j => by
    simp only [List.map_cons, writeL]
    rw [← List.map_set, writeL_map f ys]
theorem toAVs_v (l : List AV) : toAVs (l.map .v) = some l := by
  induction l with
  | nil => rfl
  | cons x l ih => simp [toAVs, toAV, ih]
theorem toAVs_len : ∀ {l : List Slot} {xs : List AV}, toAVs l = some xs → xs.length = l.length
  | [], _, h => by cases h; rfl
  | s :: l, xs, h => by
    simp only [toAVs] at h
    split at h
    · split at h
      · rename_i h2; cases h; simp [toAVs_len h2]
      · cases h
    · cases h
theorem toAVs_set : ∀ {cs : List Slot} {xs : List AV} {s : Slot} {x : AV} (j : Nat), toAVs cs = some xs → toAV s = some x → toAVs (cs.set j s) = some (xs.set j x)
  | [], _, _, _, _, h, _ => by cases h; rfl
  | c :: cs, xs, s, x, j, h, hs => by
    simp only [toAVs] at h
    split at h
    · rename_i y hy
      split at h
      · rename_i ys hys
        cases h
        cases j with
        | zero => simp [toAVs, hs, hys]
        | succ j => simp [toAVs, hy, toAVs_set j hys hs]
      · cases h
    · cases h
theorem toAVs_writeL : ∀ {ss : List Slot} {ys : List AV} {cs : List Slot} {xs : List AV} (j : Nat), toAVs cs = some xs → toAVs ss = some ys → toAVs (writeL cs j ss) = some (writeL xs j ys)
  | [], _, _, _, _, h, hs => by cases hs; exact h
  | s :: ss, ys, cs, xs, j, h, hs => by
    simp only [toAVs] at hs
    split at hs
    · rename_i y hy
      split at hs
      · rename_i zs hzs
        cases hs
        exact toAVs_writeL (j + 1) (toAVs_set j h hy) hzs
      · cases hs
    · cases hs

theorem TS.store {t : Nat} {p : Slot} {x : Operand} : TS (tStore P t p x E) (evStore P t p x E) := by
  unfold tStore
  split
  · rename_i r ver i j
    split
    · rename_i ver' sz l hr
      split
      · rename_i n ys hn hy
        refine TS.gs fun h1 => TS.gd fun h2 => ?_
        simp only [Bool.and_eq_true] at h1 h2
        obtain ⟨⟨h2, h3⟩, h4⟩ := h2
        have hi := Nat.blt_eq.mp h3
        unfold evStore
        simp only [behind_er (j := j) hr h2 hi, hn, opt_some, mbok]
        have hg : (Nat.beq (cellsOfSlot (E.S x)).length n && (cellsOfSlot (E.S x)).all plainCell && Nat.ble (j + n) ((cellsOfAV (l.getD i .nilp)).map Slot.v).length) = true := by
          simp only [Bool.and_eq_true, List.length_map]
          exact ⟨h1, h4⟩
        rw [hg]
        have hw := toAVs_writeL j (toAVs_v (cellsOfAV (l.getD i .nilp))) hy
        have hli : l[i]? = some (l.getD i .nilp) := by rw [List.getD_eq_getElem?_getD, List.getElem?_eq_getElem hi]; rfl
        unfold setBehind
        simp only [hr, h2, hli, hw]
        exact rfl
      · exact TS.bad
    · exact TS.bad
  · exact TS.lift _

theorem TS.binOp {op : BinOp} {t : Nat} {x y : Operand} {sx sy : Slot} : TS (tBinOp P op t x y sx sy) (evBinOp P op t x y sx sy) := by
  unfold tBinOp
  split
  · split
    · rename_i e hu
      have ne : ∀ (l : List AV), (!l.isEmpty) = true → ∃ a r, l = a :: r := by
        intro l h
        cases l with
        | nil => cases h
        | cons a r => exact ⟨a, r, rfl⟩
      split
      · rename_i l
        refine TS.gd fun h => ?_
        obtain ⟨a, r, rfl⟩ := ne l h
        unfold evBinOp pureV
        simp only [nilSl, hu, isNilSl]
        cases eqOp op false <;> exact (by trivial)
      · rename_i s l
        refine TS.gd fun h => ?_
        obtain ⟨a, r, rfl⟩ := ne l h
        unfold evBinOp pureV
        simp only [nilSl, hu, isNilSl]
        cases eqOp op false <;> exact (by trivial)
      · exact TS.lift _
    · exact TS.bad
  · rename_i hy0
    have hev : ∀ a b, evBinOp P op t x y (.v a) (.v b) = pureV (Sw.opt "binOp" (evNil P op t x y a b)) := by
      intro a b
      unfold evBinOp
      split
      · exact (hy0 rfl).elim
      · rfl
    have hnn : ∀ a b, (notNilI x && notNilI y) = true → evNil P op t x y a b = evBin P op t a b := by
      intro a b h
      simp only [Bool.and_eq_true] at h
      unfold evNil
      split
      · exact absurd h.1 (by simp [notNilI])
      · exact absurd h.2 (by simp [notNilI])
      · rfl
    split
    · rename_i k a k' b
      refine TS.gs fun hg => ?_
      have hn := hnn (.int k a) (.int k' b) hg
      split
      · refine TS.gd fun h => ?_
        rw [hev, hn]
        unfold evBin pureV
        simp only [h]
        exact rfl
      · refine TS.gd fun h => ?_
        rw [hev, hn]
        unfold evBin pureV
        simp only [h]
        exact rfl
      · refine TS.gs fun hk => TS.gd fun h => ?_
        rw [hev, hn]
        have h : decide (b = 0) = false := by simpa using h
        unfold evBin pureV evArith
        simp only [hk, h]
        exact rfl
      · refine TS.gs fun hk => TS.gd fun h => ?_
        rw [hev, hn]
        have h : decide (b = 0) = false := by simpa using h
        unfold evBin pureV evArith
        simp only [hk, h]
        exact rfl
      · exact TS.lift _
    · rename_i a b
      refine TS.gs fun hg => ?_
      have hn := hnn (.str a) (.str b) hg
      split
      · refine TS.gd fun h => ?_
        rw [hev, hn]
        unfold evBin pureV evStr
        simp only [h]
        exact rfl
      · exact TS.lift _
    · exact TS.lift _
end
end Go.Sw
/-! What a tree says is what the evaluator does: slices, maps, calls. -/
namespace Go.Sw
open Go

theorem guard_t {α : Type} {w : String} {b : Bool} {r : Res α} (h : b = true) : guardR w b r = r := by subst h; rfl
theorem and3 {a b : Bool} (h1 : a = true) (h2 : b = true) : (a && b) = true := by rw [h1, h2]; rfl

section
variable {P : Program} {E : Env}

theorem TS.convert {src dst : Nat} {x : AV} : TS (tConvert P src dst x) (Sw.opt "convert" (evConvert P src dst x)) := by
  unfold tConvert
  split
  · rename_i e l h1 h2
    split
    · rename_i h3
      refine TS.gd fun h => ?_
      unfold evConvert
      simp only [h1, h2, h3]
      cases hb : bytesOf l with
      | none => rw [hb] at h; cases h
      | some s => exact rfl
    · exact TS.bad
  · exact TS.opt _

theorem TS.appended {H : Heap} {y : Slot} : TS (tAppended H y) (appended H y) := by
  unfold tAppended
  split
  · rename_i r ver sz off len
    split
    · rename_i ver' sz' l hr
      refine TS.gs fun h1 => TS.gd fun h2 => ?_
      simp only [Bool.and_eq_true] at h2
      unfold Sw.appended rowPart
      simp only [hr, h1, h2.1, h2.2, Bool.and_self]
      exact rfl
    · exact TS.bad
  all_goals first | exact rfl | exact TS.bad

theorem TS.append {hp : Bool} {t : Nat} {x : Operand} {sx y : Slot} : TS (tAppend P hp t x sx y E) (evAppend P hp t x sx y E) := by
  unfold tAppend
  split
  · rename_i e hu
    unfold evAppend
    simp only [hu]
    refine TS.bind (TS.opt _) fun sz => TS.bind (TS.opt _) fun by_ => TS.bind TS.appended fun ys => ?_
    refine TS.gs fun h1 => TS.gd fun h2 => ?_
    rw [guard_t (and3 h1 h2)]
    split
    · refine TS.guard ?_
      cases hp with
      | true =>
        refine TS.gs fun h3 => TS.gd fun h4 => ?_
        simp only
        rw [guard_t (and3 h3 h4)]
        exact rfl
      | false => exact rfl
    · rename_i sz' l
      refine TS.gs fun h3 => TS.gd fun h4 => ?_
      simp only
      rw [guard_t (and3 h3 h4)]
      cases hp with
      | true =>
        refine TS.gs fun h5 => TS.gd fun h6 => ?_
        simp only [Bool.and_eq_true] at h6
        simp only
        rw [guard_t (and3 (and3 h5 h6.1) h6.2)]
        exact rfl
      | false => exact rfl
    · rename_i r ver s n
      split
      · rename_i ver' sz' l hr
        refine TS.gs fun h3 => TS.gd fun h4 => ?_
        simp only [Bool.and_eq_true] at h4
        simp only [hr]
        rw [guard_t (and3 (and3 (and3 h3 h4.1.1) h4.1.2) h4.2)]
        exact rfl
      · exact TS.bad
    · exact TS.bad
  · exact TS.bad

theorem TS.nat {w : String} {lo : Option Slot} {d top : Nat} : TS (tNat lo d top) (Sw.opt w (natOf lo d top)) := by
  unfold tNat natOf
  split
  · exact rfl
  · refine TS.gd fun h => ?_
    simp only [h]
    exact rfl
  · exact TS.bad

theorem TS.slice {t : Nat} {x : Slot} {lo hi : Option Slot} : TS (tSlice P t x lo hi) (evSlice P t x lo hi) := by
  unfold tSlice
  split
  · rename_i s hu
    unfold evSlice
    simp only [hu]
    exact TS.bind TS.nat fun h => TS.bind TS.nat fun l => rfl
  · rename_i e s hu
    unfold evSlice
    simp only [hu]
    exact TS.bind (TS.opt _) fun sz => TS.bind TS.nat fun h => TS.bind TS.nat fun l => TS.guard rfl
  · rename_i e hu
    unfold evSlice
    simp only [hu]
    exact TS.bind (TS.opt _) fun sz => TS.bind TS.nat fun h => TS.bind TS.nat fun l => rfl
  · rename_i e r ver sz off len hu
    unfold evSlice
    simp only [hu]
    refine TS.bind (TS.opt _) fun sz => TS.bind TS.nat fun h => TS.bind TS.nat fun l => TS.guardS ?_
    refine TS.br (fun hb => ?_) (fun hb => ?_)
    · simp only [hb]; exact rfl
    · simp only [hb]; exact rfl
  · exact TS.bad

theorem TS.pick {c a b : Slot} : TS (tPick c a b) (evPick c a b) := by
  unfold tPick
  split
  · rename_i t
    split
    · exact rfl
    · rename_i hne
      have he : evPick (.v (.bool t)) a b = match t with | true => pureV (toAVR a) | false => pureV (toAVR b) := by
        unfold evPick
        cases a <;> first | rfl | skip
        rename_i x
        cases x <;> first | rfl | skip
        cases b <;> first | rfl | skip
        rename_i y
        cases y <;> first | rfl | skip
        exact (hne _ _ rfl rfl).elim
      rw [he]
      refine TS.br (fun h => ?_) (fun h => ?_)
      · subst h; exact TS.lift _
      · subst h; exact TS.lift _
  · exact TS.bad

theorem toAVR_some {s : Slot} {x : AV} (h : toAV s = some x) : toAVR s = .ok x := by unfold toAVR; rw [h]; rfl

theorem TS.lookup {t : Nat} {m k : Slot} {ok : Bool} {H : Heap} : TS (tLookup P t m k ok H) (evLookup P t m k ok H) := by
  unfold tLookup
  split
  · rename_i r kt et hu
    split
    · rename_i es hr
      split
      · rename_i key k0 kd hk hz hue
        refine TS.gs fun h1 => TS.gd fun h2 => ?_
        simp only [Bool.and_eq_true, decide_eq_true_eq] at h1
        obtain ⟨h1, h3⟩ := h1
        subst h3
        unfold evLookup
        unfold mapOkI at h2
        unfold mapF mapI
        cases hf : findKeyL key es with
        | none => rw [hf] at h2; cases h2
        | some f =>
          simp only [hu, hr, toAVR_some hk, hf, hz, opt_some, mbok, guard_t h1]
          rw [hf] at h2
          cases f with
          | none => cases ok <;> exact rfl
          | some s =>
            split at h2
            · rename_i he; cases he
            · rename_i k' n he
              cases he
              have h2 : k' = k0 := by simpa using h2
              subst h2
              cases ok <;> exact rfl
            · cases h2
      · rename_i key hk hz hue
        refine TS.gs fun h1 => TS.gd fun h2 => ?_
        unfold evLookup
        unfold mapOkB at h2
        unfold mapF mapB
        cases hf : findKeyL key es with
        | none => rw [hf] at h2; cases h2
        | some f =>
          simp only [hu, hr, toAVR_some hk, hf, hz, opt_some, mbok, guard_t h1]
          rw [hf] at h2
          cases f with
          | none => cases ok <;> exact rfl
          | some s =>
            split at h2
            · rename_i he; cases he
            · rename_i b he
              cases he
              cases ok <;> exact rfl
            · cases h2
      · exact TS.lift _
    · exact TS.bad
  · exact TS.bad

theorem TS.mapUpdate {t : Nat} {m k : Slot} {x : Operand} {s : Slot} {H : Heap} : TS (tMapUpdate P t m k x s H) (evMapUpdate P t m k x s H) := by
  unfold tMapUpdate
  split
  · rename_i r kt et hu
    split
    · rename_i es hr
      split
      · rename_i key hk
        refine TS.gs fun h1 => TS.gd fun h2 => ?_
        unfold evMapUpdate
        cases hf : findKeyL key es with
        | none => rw [hf] at h2; cases h2
        | some f =>
          simp only [hu, hr, toAVR_some hk, hf, opt_some, mbok, guard_t h1]
          exact rfl
      · exact TS.bad
    · exact TS.bad
  · exact TS.bad

theorem TS.next {x : Operand} {s : Slot} : TS (tNext x s) (evNext x s) := by
  unfold tNext
  split
  · refine TS.br (fun h => ?_) (fun h => ?_)
    · unfold evNext; simp only [h]; exact rfl
    · unfold evNext; simp only [h]; exact rfl
  · exact TS.bad

theorem TS.makeSlice {hp : Bool} {t : Nat} {n m : Slot} : TS (tMakeSlice P hp t n m E) (evMakeSlice P hp t n m E) := by
  unfold tMakeSlice
  split
  · rename_i k a k' b e hu
    unfold evMakeSlice
    simp only [hu]
    refine TS.bind (TS.opt _) fun sz => TS.bind (TS.opt _) fun by_ => TS.bind (TS.opt _) fun z => TS.bind (TS.lift _) fun y => TS.bind (TS.opt _) fun ag => ?_
    refine TS.gs fun h1 => TS.gd fun h2 => ?_
    simp only [Bool.and_eq_true] at h1 h2
    obtain ⟨⟨⟨⟨a1, a2⟩, a3⟩, a4⟩, a5⟩ := h1
    obtain ⟨⟨b1, b2⟩, b3⟩ := h2
    rw [guard_t (by simp only [b1, b2, b3, a1, a2, a3, a4, a5, Bool.and_self])]
    cases hp with
    | true =>
      refine TS.gs fun h3 => TS.gd fun h4 => ?_
      simp only
      rw [guard_t (and3 h4 h3)]
      exact rfl
    | false => exact rfl
  · exact TS.bad
end

section
variable {C : Cfg} {tc : TCall} {call : Call}

def TCS (tc : TCall) (call : Call) : Prop := ∀ f xs H, TS (tc f xs H) (call f xs H)

theorem TS.open_ (hc : TCS tc call) {f : Fnv} {xs : List AV} {H : Heap} : TS (tOpen tc f xs H) (openCall call f xs H) := by
  unfold tOpen openCall
  have h := hc f xs H
  unfold TS at *
  rw [run_bind]
  cases hr : (tc f xs H).run with
  | ok p => rw [hr] at h; have h : call f xs H = .ok p := h; rw [h]; exact rfl
  | panic v H' => rw [hr] at h; have h : call f xs H = .panic v H' := h; rw [h]; exact rfl
  | bad w => trivial
  | oof => trivial

theorem TS.pure_ (hc : TCS tc call) {f : Fnv} {xs : List AV} {H : Heap} : TS (tPure tc f xs H) (pureCall call f xs H) := by
  unfold tPure
  refine TS.mapP (hc f xs []) (fun p hp => ?_) (fun v H' hp => ?_)
  · unfold pureCall
    rw [hp]
    exact TS.guard rfl
  · unfold pureCall
    rw [hp]
    exact TS.guard rfl

theorem TS.doCall (hc : TCS tc call) {f : Fnv} {args : List Slot} {cap : List AV} {H : Heap} : TS (tDoCall C tc f args cap H) (Sw.doCall C call f args cap H) := by
  unfold tDoCall Sw.doCall
  refine TS.bind (TS.lift _) fun xs => ?_
  cases hp : isPure C f with
  | true =>
    refine TS.gd fun h => ?_
    rw [h]
    exact TS.pure_ hc
  | false =>
    refine TS.gs fun h => ?_
    have h : isRo C f = false := by simpa using h
    simp only [Bool.false_and, h]
    exact TS.open_ hc

theorem TS.appendOp {P : Program} {h : Hint} {dst : Option Nat} {c : Go.Call} {E : Env} : TS (tAppendOp P h dst c E) (evAppendOp P h dst c E) := by
  unfold tAppendOp
  split
  · rename_i x y t ty h1 h2
    unfold evAppendOp
    simp only [h1, h2]
    split
    · rename_i hu; simp only [hu]; exact TS.append
    · rename_i hu; simp only [hu]; exact TS.append
    · exact TS.bad
  · exact TS.bad

theorem TS.call_ (hc : TCS tc call) {h : Hint} {o : Oper} {c : Go.Call} {E : Env} : TS (tCall C tc h o c E) (evCall C call h o c E) := by
  unfold tCall
  split
  · rename_i hcl
    unfold evCall
    simp only [hcl]
    exact TS.appendOp
  · rename_i b hne hcl
    refine TS.of_eq (TS.lift _) ?_
    unfold evCall
    simp only [hcl]
    cases b <;> rfl
  · rename_i f hcl
    unfold evCall
    simp only [hcl]
    split
    · rename_i g cap hf; simp only [hf]; exact TS.doCall hc
    · rename_i g first hf; simp only [hf]; exact TS.doCall hc
    · rename_i l hf; simp only [hf]; exact TS.doCall hc
    · exact TS.bad
  · rename_i x name hcl
    unfold evCall
    simp only [hcl]
    split
    · rename_i t y hx
      simp only [hx]
      split
      · rename_i g hm; simp only [hm]; exact TS.doCall hc
      · exact TS.bad
    · exact TS.bad

theorem TS.pureV {t : Tr AV} {r : Res AV} (h : TS t r) : TS (tPureV t) (Sw.pureV r) := TS.bind h fun _ => rfl
theorem TS.pureR {t : Tr Slot} {r : Res Slot} (h : TS t r) : TS (tPureR t) (Sw.pureR r) := TS.bind h fun _ => rfl

theorem TS.core (hc : TCS tc call) {h : Hint} {o : Oper} {E : Env} : TS (tCore C tc h o E) (evCore C call h o E) := by
  unfold tCore
  split
  all_goals first
    | (rename_i ho; unfold evCore; simp only [ho]; first
        | exact TS.pick
        | exact TS.load
        | exact TS.store
        | exact TS.binOp
        | exact TS.lookup.pureR
        | exact TS.mapUpdate
        | exact TS.next
        | exact TS.makeSlice
        | exact TS.slice.pureR
        | exact TS.indexAddr.pureR
        | exact TS.call_ hc
        | exact TS.pureV (TS.bind (TS.lift _) fun a => TS.convert)
        | exact TS.pureV (TS.bind (TS.lift _) fun a => TS.bind (TS.lift _) fun b => TS.index))
    | skip
  refine TS.of_eq (TS.lift _) ?_
  unfold evCore
  cases ho : o.op <;> first
    | rfl
    | (simp_all; done)
    | (rename_i fn _ _; cases fn <;> rfl)
    | (rename_i t x lo hi m; cases lo <;> cases hi <;> cases m <;> first | rfl | (simp_all; done))
    | (rename_i x s; cases s <;> first | rfl | (simp_all; done))
    | skip
end
end Go.Sw
/-! What a tree says is what the evaluator does: regions. -/
namespace Go.Sw
open Go

section
variable {C : Cfg} {tc : TCall} {call : Call} {h : Hint} {ops : Array Oper}

theorem TS.op (hc : TCS tc call) {A : Option Nat} {o : Oper} {st : St} : TS (tOp C tc h A o st) (evOp C call h A o st) := by
  obtain ⟨dst, op, ty, ps, af, g⟩ := o
  have gen1 : ∀ (op : Op), (∀ c, op ≠ .defer c) → tOp C tc h A ⟨dst, op, ty, ps, af, g⟩ st = (tCore C tc h ⟨dst, op, ty, ps, af, g⟩ (envOf A st)).bind fun e => .ok (applyEff st dst e) := by
    intro op hne
    cases op <;> first | rfl | exact absurd rfl (hne _)
  have gen2 : ∀ (op : Op), (∀ c, op ≠ .defer c) → evOp C call h A ⟨dst, op, ty, ps, af, g⟩ st = (evCore C call h ⟨dst, op, ty, ps, af, g⟩ (envOf A st)).bind fun e => .ok (applyEff st dst e) := by
    intro op hne
    cases op <;> first | rfl | exact absurd rfl (hne _)
  cases op with
  | defer c =>
    have e : tOp C tc h A ⟨dst, .defer c, ty, ps, af, g⟩ st = liftT (evOp C call h A ⟨dst, .defer c, ty, ps, af, g⟩ st) := by
      obtain ⟨callee, ⟨args⟩, ats⟩ := c
      cases callee <;> cases args <;> cases dst <;> rfl
    rw [e]
    exact TS.lift _
  | _ => rw [gen1 _ (fun c hc => by cases hc), gen2 _ (fun c hc => by cases hc)]; exact TS.bind (TS.core hc) fun e => TS.ok _

theorem subT_eq {d : Nat} {b : Bool} : ∀ (ts : List (Nat × Slot)), getT ts d = .v (.bool b) → subT d b ts = ts
  | [], _ => rfl
  | (k, s) :: l, hg => by
    have hg : (Bool.rec (motive := fun _ => Slot) (getT l d) s (Nat.beq k d)) = .v (.bool b) := hg
    unfold subT
    cases hk : Nat.beq k d with
    | true =>
      rw [hk] at hg
      have hg : s = .v (.bool b) := hg
      subst hg
      rfl
    | false =>
      rw [hk] at hg
      have hg : getT l d = .v (.bool b) := hg
      simp only [subT_eq l hg]
theorem subSt_eq {d : Nat} {b : Bool} {st : St} (hg : getT st.tmps d = .v (.bool b)) : subSt d b st = st := by
  unfold subSt; rw [subT_eq _ hg]

theorem TS.oper (hc : TCS tc call) {A : Option Nat} {o : Oper} {st : St} : TS (tOper C tc h A ops o st) (evOper C call h A ops o st) := by
  unfold tOper
  split
  · rename_i hg; unfold evOper; simp only [hg]; exact TS.op hc
  · rename_i j want hg
    split
    · rename_i p hp
      split
      · rename_i d hd
        split
        · rename_i b hb
          have hy : yieldB ops st j = some (some b) := by unfold yieldB; simp only [hp, hd, hb]
          unfold evOper
          simp only [hg, hy]
          cases want with
          | true =>
            refine TS.br (fun e => ?_) (fun e => ?_)
            · subst e; rw [subSt_eq hb]; exact TS.op hc
            · subst e; rw [subSt_eq hb]; exact TS.guardS rfl
          | false =>
            refine TS.br (fun e => ?_) (fun e => ?_)
            · subst e; rw [subSt_eq hb]; exact TS.guardS rfl
            · subst e; rw [subSt_eq hb]; exact TS.op hc
        · rename_i hb
          have hy : yieldB ops st j = some none := by unfold yieldB; simp only [hp, hd, hb]
          unfold evOper
          simp only [hg, hy]
          exact TS.guardS rfl
        · exact TS.bad
      · exact TS.bad
    · exact TS.bad

theorem TS.opers (hc : TCS tc call) : ∀ (l : List Oper) (st : St), TS (tOpers C tc h ops l st) (evOpers C call h ops l st)
  | [], _ => rfl
  | o :: l, st => by
    unfold tOpers evOpers
    rw [bindR_eq, operF_eq]
    exact TS.bind (TS.oper hc) fun st' => TS.opers hc l st'

theorem foot_quiet {o : Oper} {st : St} (hq : quietT C o (opd st) = true) : footOp C h o (opd st) = footT C h o (opd st) := by
  unfold footT
  split
  · rename_i c ho
    split
    · rename_i g hcl
      cases hp : C.pure g with
      | true =>
        unfold quietT at hq
        simp only [ho, hcl, hp] at hq
        cases hx : argsR (c.args.toList.map (opd st)) with
        | ok xs =>
          rw [hx] at hq
          have hq : noRefs xs = true := hq
          unfold footOp
          simp only [ho, hcl]
          have : quietCall C g (c.args.toList.map (opd st)) = true := by
            unfold quietCall
            simp only [hx, hp, hq, Bool.and_self]
          simp only [this]
        | panic _ _ => rfl
        | bad _ => rfl
        | oof => rfl
      | false => rfl
    · rfl
  · rfl

theorem foot_quiet' {o : Oper} {st : St} (hq : quietT C o (opd st) = true) : foot C h ops o st = footT' C h ops o st := by
  unfold foot footT'
  rw [foot_quiet hq]

theorem TS.quiet {α : Type} {o : Oper} {st : St} {t : Tr α} {r : Res α} (k : quietT C o (opd st) = true → TS t r) : TS (tQuiet C o (opd st) t) r := by
  unfold tQuiet
  unfold quietT at k
  split
  · rename_i c ho
    simp only [ho] at k
    split
    · rename_i g hcl
      simp only [hcl] at k
      cases hp : C.pure g with
      | true =>
        simp only [hp] at k
        cases hx : argsR (c.args.toList.map (opd st)) with
        | ok xs => rw [hx] at k; exact TS.gd k
        | panic _ _ => rw [hx] at k; exact k rfl
        | bad _ => rw [hx] at k; exact k rfl
        | oof => rw [hx] at k; exact k rfl
      | false => exact k (by simp only [hp])
    · rename_i hne
      refine k ?_
      split
      · rename_i g hcl; exact (hne g hcl).elim
      · rfl
  · rename_i hne
    refine k ?_
    split
    · rename_i c ho; exact (hne c ho).elim
    · rfl

theorem TS.drawn (hc : TCS tc call) {lay : Bool} : ∀ (l : List Oper) (i b : Nat) (ms : List Nat) (st : St) (fs : List (Nat × Foot)) (pn : Option (Nat × AV × Heap)),
    TS (tDrawn C tc h ops lay i b l ms st fs pn) (evDrawn C call h ops lay i b l ms st fs pn)
  | [], i, b, ms, st, fs, none => rfl
  | [], i, b, ms, st, fs, some (p, v, H) => rfl
  | o :: l, i, b, ms, st, fs, pn => by
    unfold tDrawn evDrawn
    cases hsk : skips pn (ms.headD 0) with
    | true => exact TS.drawn hc l _ _ _ _ _ _
    | false =>
      refine TS.quiet fun hq => ?_
      rw [foot_quiet' hq, operF_eq]
      refine TS.guardS (TS.mapP (TS.oper hc) (fun st' he => ?_) (fun v H he => ?_))
      · rw [he]; exact TS.drawn hc l _ _ _ _ _ _
      · rw [he]
        cases pn with
        | some p => exact TS.bad
        | none =>
          cases (footT' C h ops o st).all with
          | true => exact TS.drawn hc l _ _ _ _ _ _
          | false => exact TS.bad

theorem fast_seq : ∀ (l : List Oper) (i : Nat) (ms : List Nat) (st : St) (fs : List (Nat × Foot)) (s : St), fastOps C call h ops i l ms st fs = .ok s → evOpers C call h ops l st = .ok s
  | [], _, _, _, _, _, e => e
  | o :: l, i, ms, st, fs, s, e => by
    unfold fastOps at e
    unfold evOpers
    rw [bindR_eq]
    split at e
    · split at e
      · rw [bindR_eq] at e
        obtain ⟨st', h1, h2⟩ := Res.bind_ok e
        rw [h1]
        exact fast_seq l _ _ _ _ _ h2
      · split at e
        · rw [bindR_eq] at e
          obtain ⟨st', h1, h2⟩ := Res.bind_ok e
          rw [h1]
          exact fast_seq l _ _ _ _ _ h2
        · cases e
    · cases e

theorem drawn_some {lay : Bool} : ∀ (l : List Oper) (i b : Nat) (ms : List Nat) (st : St) (fs : List (Nat × Foot)) (p : Nat × AV × Heap) (s : St), evDrawn C call h ops lay i b l ms st fs (some p) ≠ .ok s
  | [], _, _, _, _, _, _, _, e => by cases e
  | o :: l, i, b, ms, st, fs, p, s, e => by
    unfold evDrawn at e
    split at e
    · exact drawn_some l _ _ _ _ _ _ _ e
    · unfold guardR at e
      split at e
      · split at e
        · exact drawn_some l _ _ _ _ _ _ _ e
        · cases e
        · cases e
        · cases e
      · cases e

theorem drawn_seq {b : Nat} : ∀ (l : List Oper) (i : Nat) (ms : List Nat) (st : St) (fs : List (Nat × Foot)), countLays h l = 0 → 
    (∀ s, evDrawn C call h ops false i b l ms st fs none = .ok s → evOpers C call h ops l st = .ok s) ∧
    (∀ v H, evDrawn C call h ops false i b l ms st fs none = .panic v H → ∀ s, evOpers C call h ops l st ≠ .ok s)
  | [], _, _, _, _, _ => ⟨fun s e => e, fun v H e => by cases e⟩
  | o :: l, i, ms, st, fs, hl => by
    have h1 : countLays h [o] = 0 ∧ countLays h l = 0 := by
      have e1 : countLays h (o :: l) = (match lays h o with | true => 1 | false => 0) + countLays h l := rfl
      have e2 : countLays h [o] = (match lays h o with | true => 1 | false => 0) + 0 := rfl
      rw [e1] at hl
      rw [e2]
      omega
    have hpl : placeFor h b o = none := by
      unfold placeFor
      have : (match lays h o with | true => 1 | false => 0) + 0 = 0 := h1.1
      cases hx : lays h o with
      | true => rw [hx] at this; simp at this
      | false => rfl
    have hs : skips (none : Option (Nat × AV × Heap)) (ms.headD 0) = false := rfl
    have ih := drawn_seq (b := b) l
    constructor
    · intro s e
      unfold evDrawn at e
      rw [hs] at e
      simp only [hpl, h1.1, Nat.add_zero] at e
      unfold evOpers
      rw [bindR_eq]
      unfold guardR at e
      split at e
      · split at e
        · rename_i st' hst
          rw [hst]
          exact (ih _ _ _ _ h1.2).1 s e
        · split at e
          · exact (drawn_some _ _ _ _ _ _ _ _ e).elim
          · cases e
        · cases e
        · cases e
      · cases e
    · intro v H e s e2
      unfold evDrawn at e
      rw [hs] at e
      simp only [hpl, h1.1, Nat.add_zero] at e
      unfold evOpers at e2
      rw [bindR_eq] at e2
      obtain ⟨st', h3, h4⟩ := Res.bind_ok e2
      unfold guardR at e
      split at e
      · rw [h3] at e
        exact (ih _ _ _ _ h1.2).2 v H e s h4
      · cases e

theorem TS.draw0 (hc : TCS tc call) {st : St} : TS (tDraw0 C tc h ops st) (evDraw0 C call h ops st) := by
  unfold tDraw0 evDraw0
  refine TS.guardS ?_
  split
  · rename_i hcl
    have hd := TS.drawn (C := C) (h := h) (ops := ops) (lay := false) hc ops.toList 0 0 (masks ops.toList []) st [] none
    simp only [hcl]
    split
    · split
      · rename_i s hf
        have hq := fast_seq _ _ _ _ _ _ hf
        have hds := drawn_seq (C := C) (call := call) (h := h) (ops := ops) (b := 0) ops.toList 0 (masks ops.toList []) st [] hcl
        unfold TS at hd ⊢
        cases hr : (tDrawn C tc h ops false 0 0 ops.toList (masks ops.toList []) st [] none).run with
        | ok s' =>
          rw [hr] at hd
          have := hds.1 s' hd
          rw [hq] at this
          exact this
        | panic v H =>
          rw [hr] at hd
          exact (hds.2 v H hd s hq).elim
        | bad w => trivial
        | oof => trivial
      · exact hd
    · exact hd
  · rename_i n hcl
    simp only [hcl]
    exact TS.drawn hc _ _ _ _ _ _ _

theorem TS.draw (hc : TCS tc call) {st : St} : TS (tDraw C tc h ops st) (evDraw C call h ops st) := by
  unfold tDraw evDraw
  split
  · exact TS.bad
  · rename_i hn; simp only [hn]; exact TS.draw0 hc

theorem TS.region {l : List Oper} {st : St} {t : Tr St} {r : Res St} (k : TS t r) : TS (tRegion l st t) (regionEnd l st r) := by
  unfold tRegion
  refine TS.mapP k (fun st' he => ?_) (fun v H he => ?_)
  · rw [he]; exact rfl
  · rw [he]; exact TS.guardS rfl
end
end Go.Sw
