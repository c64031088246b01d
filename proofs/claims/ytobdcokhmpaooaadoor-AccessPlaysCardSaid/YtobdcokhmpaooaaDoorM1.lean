/- The small language: the model's operations resolved into a few kinds; the resolver; what a run asks. -/
import Derived.Eval
import Derived.Orders
import Derived.OrdersHeld
namespace Go.HM
open Go

/-- How two cells of a struct are compared. -/
inductive EK where
  | int | bool | str

/-- Instructions, resolved. -/
inductive MI where
  | mov (x : Operand)
  | pick (c a b : Operand)
  | icmp (op : BinOp) (x y : Operand)
  | iar (op : BinOp) (x y : Operand)
  | idiv (op : BinOp) (x y : Operand)
  | idivC (op : BinOp) (x : Operand) (k : IntKind) (n : Int)
  | ish (op : BinOp) (x y : Operand)
  | ishC (op : BinOp) (x : Operand) (n : Nat)
  | scmp (op : BinOp) (x y : Operand)
  | sadd (x y : Operand)
  | beq (neg : Bool) (x y : Operand)
  | ifnil (neg : Bool) (x : Operand)
  | ptnil (neg : Bool) (x : Operand)
  | slnil (neg : Bool) (x : Operand)
  | fnnil (neg : Bool) (x : Operand)
  | aeq (neg : Bool) (ks : List EK) (x y : Operand)
  | bnot (x : Operand)
  | ineg (x : Operand)
  | ixor (x : Operand)
  | conv (k : IntKind) (x : Operand)
  | cstr (x : Operand)
  | mkif (t : TypeId) (x : Operand)
  | mkfn (fn : Fn) (first captured : List Operand)
  | ext (x : Operand) (i : Nat)
  | fldC (off : Nat) (x : Operand)
  | fldA (off n : Nat) (x : Operand)
  | fadr (off : Nat) (x : Operand)
  | bld (zero : List Value) (parts : List (Nat × Nat × Operand))
  | lenS (x : Operand)
  | lenStr (x : Operand)
  | lenA (n : Nat) (x : Operand)
  | capS (x : Operand)
  | mnmx (isMin : Bool) (x y : Operand)
  | nilchk (x : Operand)
  | idxS (size : Nat) (x i : Operand)
  | idxA (n size : Nat) (x i : Operand)
  | idxAC (off : Nat) (x : Operand)
  | ixStr (x i : Operand)
  | slS (size : Nat) (x : Operand) (lo hi mx : Option Operand)
  | slStr (x : Operand) (lo hi : Option Operand)
  | slA (n size : Nat) (x : Operand) (lo hi mx : Option Operand)
  | arA (n : Nat) (x : Operand)
  | al (t : TypeId) (zero : List Value)
  | bx (t : TypeId) (agg : Bool) (x : Operand)
  | bldS (elem : TypeId) (len : Nat) (zero : List Value) (parts : List (Nat × Nat × Operand))
  | ld1 (x : Operand)
  | ldn (n : Nat) (x : Operand)
  | st1 (x v : Operand)
  | stn (n : Nat) (x v : Operand)
  | mkSl (t : TypeId) (l c : Operand)
  | cvBS (x : Operand)
  | cvSB (elem : TypeId) (x : Operand)
  | bi (b : Builtin) (ats : List TypeId) (ty : TypeId) (args : List Operand)
  | call (f : FuncId) (args : List Operand)
  | dcall (fv : Operand) (args : List Operand)
  | raw (op : Op) (ty : TypeId)

/-- Does it leave the world alone? -/
def MI.light : MI → Bool
  | .al .. | .bx .. | .bldS .. | .st1 .. | .stn .. | .mkSl .. | .cvBS .. | .cvSB .. | .bi .. | .call .. | .dcall .. | .raw .. => false
  | _ => true

/-! ### The resolver -/
def tyAgg (P : Program) (t : TypeId) : Option Bool :=
  match P.underlying t with
  | some (.struct _) | some (.array _ _) => some true
  | some _ => some false
  | none => none

def tySize (P : Program) (t : TypeId) : Option Nat := (P.info? t).map (·.size)

def tyZero (P : Program) (t : TypeId) : Option Value := (P.info? t).bind (·.zero)

def isNilIf : Operand → Bool
  | .const .nilIface => true
  | _ => false
def isNilPtr : Operand → Bool
  | .const (.pointer none) => true
  | _ => false
def isNilSl : Operand → Bool
  | .const (.slice none 0 0) => true
  | _ => false
def isNilFn : Operand → Bool
  | .const .nilFunc => true
  | _ => false

/-- A constant that is no less than 0. -/
def constNat : Operand → Option Nat
  | .const (.int _ (.ofNat n)) => some n
  | _ => none

def constInt : Operand → Option (IntKind × Int)
  | .const (.int k n) => some (k, n)
  | _ => none

def eqKinds (P : Program) : List Field → Nat → Option (List EK)
  | [], _ => some []
  | f :: fs, i =>
    if f.offset == i && f.name != "_" then
      match P.underlying f.type, eqKinds P fs (i + 1) with
      | some (.int _), some r => some (.int :: r)
      | some .bool, some r => some (.bool :: r)
      | some .string, some r => some (.str :: r)
      | _, _ => none
    else none

def toBinI (op : BinOp) (x y : Operand) : MI :=
  match op with
  | .eql | .neq | .lss | .leq | .gtr | .geq => .icmp op x y
  | .add | .sub | .mul | .and | .or | .xor | .andNot => .iar op x y
  | .quo | .rem => match constInt y with
    | some (k, n) => if n = 0 then .idiv op x y else .idivC op x k n
    | none => .idiv op x y
  | .shl | .shr => match constNat y with
    | some n => .ishC op x n
    | none => .ish op x y

def isEq : BinOp → Option Bool
  | .eql => some false
  | .neq => some true
  | _ => none

def toBin (P : Program) (op : BinOp) (t : TypeId) (x y : Operand) : Option MI :=
  match P.underlying t with
  | some (.int _) => some (toBinI op x y)
  | some .string =>
    match op with
    | .add => some (.sadd x y)
    | .eql | .neq | .lss | .leq | .gtr | .geq => some (.scmp op x y)
    | _ => none
  | some .bool => (isEq op).map fun g => .beq g x y
  | some (.interface _) => if isNilIf y then (isEq op).map fun g => .ifnil g x else none
  | some (.pointer _) => if isNilPtr y then (isEq op).map fun g => .ptnil g x else none
  | some (.slice _) => if isNilSl y then (isEq op).map fun g => .slnil g x else none
  | some (.func _ _ _) => if isNilFn y then (isEq op).map fun g => .fnnil g x else none
  | some (.struct fs) =>
    if P.stoodInHeld t || P.eqGuardType P.depth t then none else
    match isEq op, eqKinds P fs.toList 0 with
    | some g, some ks => some (.aeq g ks x y)
    | _, _ => none
  | _ => none

/-- The parts of a struct or an array, by where they lie. -/
def placeParts (place : Nat → Option (Nat × Nat)) : List (Nat × Operand) → Option (List (Nat × Nat × Operand))
  | [] => some []
  | (i, x) :: r => match place i, placeParts place r with
    | some (off, n), some ps => some ((off, n, x) :: ps)
    | _, _ => none

def placesOf (P : Program) (t : TypeId) : Option (Nat → Option (Nat × Nat)) :=
  match P.underlying t with
  | some (.struct fs) => match fs.toList.mapM (fun f => (P.info? f.type).map fun i => (f.offset, i.size)) with
    | some places => some (places.toArray[·]?)
    | none => none
  | some (.array _ e) => match P.info? e with
    | some ie => some fun i => some (i * ie.size, ie.size)
    | none => none
  | _ => none

def toParts (P : Program) (t : TypeId) (parts : List (Nat × Operand)) : Option (List (Nat × Nat × Operand)) :=
  match placesOf P t with
  | some place => placeParts place parts
  | none => none

def toBuiltin (P : Program) (b : Builtin) (ats : List TypeId) (ty : TypeId) (args : List Operand) : Option MI :=
  match b, ats, args with
  | .len, [t], [x] =>
    match P.underlying t with
    | some .string => some (.lenStr x)
    | some (.slice _) => some (.lenS x)
    | some (.array n _) => some (.lenA n x)
    | _ => none
  | .cap, [t], [x] =>
    match P.underlying t with
    | some (.slice _) => some (.capS x)
    | _ => none
  | .min, _, [x, y] => (match P.underlying ty with | some (.int _) => some (.mnmx true x y) | _ => none)
  | .max, _, [x, y] => (match P.underlying ty with | some (.int _) => some (.mnmx false x y) | _ => none)
  | .append, _, _ | .copy, _, _ | .clear, _, _ => some (.bi b ats ty args)
  | _, _, _ => none

def hasBody (P : Program) (f : FuncId) : Bool :=
  match P.funcs[f]? with
  | some fn => fn.body.isSome && fn.name != "runtime.NumGoroutine"
  | none => false

def toCall (P : Program) (c : Call) (ty : TypeId) : Option MI :=
  match c.callee with
  | .builtin b => toBuiltin P b c.argTypes.toList ty c.args.toList
  | .value (.func f) => if hasBody P f then some (.call f c.args.toList) else none
  | .value (.tmp t) => some (.dcall (.tmp t) c.args.toList)
  | _ => none

def toConv (P : Program) (src dst : TypeId) (x : Operand) : Option MI :=
  match P.underlying src, P.underlying dst with
  | some (.int _), some (.int k) => some (.conv k x)
  | some .string, some .string => some (.cstr x)
  | some (.slice e), some .string => (match P.underlying e with | some (.int .u8) => some (.cvBS x) | _ => none)
  | some .string, some (.slice e) => (match P.underlying e with | some (.int .u8) => some (.cvSB e x) | _ => none)
  | _, _ => none

def toIdx (P : Program) (t : TypeId) (x i : Operand) : Option MI :=
  match P.underlying t with
  | some (.array n e) => match tySize P e with
    | some s => match constNat i with
      | some j => if j < n then some (.idxAC (j * s) x) else some (.idxA n s x i)
      | none => some (.idxA n s x i)
    | none => none
  | some (.slice e) => (tySize P e).map fun s => .idxS s x i
  | _ => none

def toSl (P : Program) (t : TypeId) (x : Operand) (lo hi mx : Option Operand) : Option MI :=
  match P.underlying t with
  | some (.array n e) => (tySize P e).map fun s => .slA n s x lo hi mx
  | some (.slice e) => (tySize P e).map fun s => .slS s x lo hi mx
  | some .string => (match mx with | none => some (.slStr x lo hi) | _ => none)
  | _ => none

def toBldS (P : Program) (t : TypeId) (len : Nat) (parts : List (Nat × Operand)) : Option MI :=
  match P.underlying t with
  | some (.slice e) => match P.info? e with
    | some ie => match ie.zero with
      | some z => if len * ie.size > 2 ^ 24 then none else
        match placeParts (fun i => some (i * ie.size, ie.size)) parts with
        | some ps => some (.bldS e len (((Array.range (len * ie.size)).map (z.cells[· % z.cells.size]!)).toList) ps)
        | none => none
      | none => none
    | none => none
  | _ => none

def toFld (P : Program) (t : TypeId) (x : Operand) (f : Nat) : Option MI :=
  match P.underlying t with
  | some (.struct fs) => match fs[f]? with
    | some fd => match tyAgg P fd.type, tySize P fd.type with
      | some true, some n => some (.fldA fd.offset n x)
      | some false, _ => some (.fldC fd.offset x)
      | _, _ => none
    | none => none
  | _ => none

def toFadr (P : Program) (t : TypeId) (x : Operand) (f : Nat) : Option MI :=
  match P.underlying t with
  | some (.struct fs) => match fs[f]? with
    | some fd => match tySize P fd.type with
      | some n => if n = 0 then none else some (.fadr fd.offset x)
      | none => none
    | none => none
  | _ => none

def toMI (P : Program) (o : Op) (ty : TypeId) : Option MI :=
  match o with
  | .move x | .assign x => some (.mov x)
  | .pick c a b => some (.pick c a b)
  | .alloc t => (tyZero P t).map fun z => .al t z.cells.toList
  | .box t x => (tyAgg P t).map fun g => .bx t g x
  | .build t parts => match tyZero P t, toParts P t parts.toList with
    | some z, some ps => some (.bld z.cells.toList ps)
    | _, _ => none
  | .buildSlice t len parts => toBldS P t len parts.toList
  | .load t a =>
    match tyAgg P t, tySize P t with
    | some false, _ => some (.ld1 a)
    | some true, some n => some (.ldn n a)
    | _, _ => none
  | .store t a x =>
    match tyAgg P t, tySize P t with
    | some false, some 1 => some (.st1 a x)
    | some true, some n => some (.stn n a x)
    | _, _ => none
  | .nilCheck x => some (.nilchk x)
  | .binOp op t x y _ => toBin P op t x y
  | .unOp op t x =>
    match op, P.underlying t with
    | .not, some .bool => some (.bnot x)
    | .neg, some (.int _) => some (.ineg x)
    | .xor, some (.int _) => some (.ixor x)
    | _, _ => none
  | .convert src dst x => toConv P src dst x
  | .makeInterface t x =>
    match P.underlying t with
    | some (.interface _) | none => none
    | _ => some (.mkif t x)
  | .makeFunc fn first captured => some (.mkfn fn first.toList captured.toList)
  | .makeSlice t l c => some (.mkSl t l c)
  | .slice t x lo hi mx => toSl P t x lo hi mx
  | .sliceToArrayPointer t x =>
    match P.underlying t with
    | some (.array n _) => some (.arA n x)
    | _ => none
  | .fieldAddr s x f => toFadr P s x f
  | .field t x f => toFld P t x f
  | .indexAddr t x i => toIdx P t x i
  | .index t x i =>
    match P.underlying t with
    | some .string => some (.ixStr x i)
    | _ => none
  | .extract x i => some (.ext x i)
  | .call c => toCall P c ty
  | _ => none

def toInstr (P : Program) (o : Op) (ty : TypeId) : Option MI :=
  match toMI P o ty with
  | some i => some i
  | none => match o with
    | .select .. => none
    | op => some (.raw op ty)

/-- The small language's code. -/
inductive MC where
  | nil
  | op (g : Option (Nat × Bool)) (d : Option Nat) (i : MI) (k : MC)
  | both (a b : MC)
  | draw (m : MC)
  | seq (a b : MC)
  | cond (c : Operand) (a b : MC)
  | block (id : Nat) (a : MC)
  | loop (a : MC)
  | exit (id : Nat)
  | ret

/-- The slot by which an operation is guarded. -/
def gSlot (ops : Array Oper) (g : Option (Nat × Bool)) : Option (Option (Nat × Bool)) :=
  match g with
  | none => some none
  | some (j, want) => match (ops[j]?).bind (·.dst) with
    | some s => some (some (s, want))
    | none => none

def dstOk (n : Nat) (d : Option Nat) : Bool :=
  match d with
  | none => true
  | some d => Nat.blt d n

/-- One operation ahead of the rest. -/
def chainOp (P : Program) (n : Nat) (ops : Array Oper) (i : Nat) (k : Option MC) : Option MC :=
  match ops[i]?, k with
  | some o, some k => match gSlot ops o.guard, toInstr P o.op o.type with
    | some g, some m => if dstOk n o.dst then some (.op g o.dst m k) else none
    | _, _ => none
  | _, _ => none

/-- Operations in an order, as the small language's. -/
def chain (P : Program) (n : Nat) (ops : Array Oper) : List Nat → Option MC
  | [] => some .nil
  | i :: rest => chainOp P n ops i (chain P n ops rest)

def lightAt (P : Program) (ops : Array Oper) (i : Nat) : Bool :=
  match ops[i]? with
  | some o => match toInstr P o.op o.type with
    | some m => m.light
    | none => false
  | none => false

def allOf : List (Option MC) → Option MC
  | [] => none
  | [m] => m
  | m :: ms => match m, allOf ms with
    | some a, some b => some (.both a b)
    | _, _ => none

/-- A region whose order is open: what leaves the world alone comes as soon as it may; of the others whichever may. -/
def anyOrder (P : Program) (n : Nat) (ops : Array Oper) : Nat → Array Bool → Option MC
  | 0, listed => if (Region.ready .any ops listed).isEmpty then some .nil else none
  | fuel + 1, listed =>
    match (Region.ready .any ops listed).find? (fun i => Region.free .any ops listed i && lightAt P ops i) with
    | some i => chainOp P n ops i (anyOrder P n ops fuel (listed.setIfInBounds i true))
    | none => match Region.ready .any ops listed with
      | [] => some .nil
      | r :: rs => allOf ((r :: rs).map fun i => chainOp P n ops i (anyOrder P n ops fuel (listed.setIfInBounds i true)))

def toMC (P : Program) (n : Nat) : Code → Option MC
  | .skip => some .nil
  | .region _ ops false => chain P n ops (List.range ops.size)
  | .region _ ops true =>
    if Region.noSelect ops then (anyOrder P n ops ops.size (Array.replicate ops.size false)).map .draw else none
  | .seq a b => match toMC P n a, toMC P n b with
    | some x, some y => some (.seq x y)
    | _, _ => none
  | .cond c a b => match toMC P n a, toMC P n b with
    | some x, some y => some (.cond c x y)
    | _, _ => none
  | .block id a => (toMC P n a).map (.block id)
  | .loop a => (toMC P n a).map .loop
  | .exit id => some (.exit id)
  | .ret => some .ret
  | _ => none

/-- A result: a slot, or a variable's cells. -/
inductive RV where
  | tmp (t : Nat)
  | c1 (t : Nat)
  | cn (t n : Nat)

structure MFn where
  nt : Nat
  np : Nat
  rs : List RV
  code : MC

def toRV (P : Program) : ResultVar → Option RV
  | .tmp t => some (.tmp t)
  | .cell a t =>
    match tyAgg P t, tySize P t with
    | some false, _ => some (.c1 a)
    | some true, some n => some (.cn a n)
    | _, _ => none

def toRVs (P : Program) : List ResultVar → Option (List RV)
  | [] => some []
  | r :: rs => match toRV P r, toRVs P rs with
    | some x, some y => some (x :: y)
    | _, _ => none

def toFn (P : Program) (f : FuncId) : Option MFn :=
  match P.funcs[f]? with
  | some fn => match fn.body with
    | some c => match toMC P fn.ntmps c, toRVs P fn.results.toList with
      | some m, some rs => if Nat.ble (fn.params.size + fn.nfree) fn.ntmps && P.follows .mixedOrders then some ⟨fn.ntmps, fn.params.size + fn.nfree, rs, m⟩ else none
      | _, _ => none
    | none => none
  | none => none

/-! ### What a run asks -/
/-- What is known of a frame's slots: the newest entry of a slot counts. -/
abbrev Env := List (Nat × Value)

def Env.get : Env → Nat → Option Value
  | [], _ => none
  | (d, v) :: e, t => cond (Nat.beq d t) (some v) (Env.get e t)

def Env.rho (e : Env) : Operand → Value
  | .tmp t => (Env.get e t).getD undef
  | .const v => v
  | .global g => .pointer (some ⟨g, 0, none⟩)
  | .func f => .func (.func f) #[] #[]

def Env.knows (e : Env) (x : Operand) : Prop :=
  match x with
  | .tmp t => (Env.get e t).isSome = true
  | _ => True

/-- Which worlds count, of those that a region in an open order may be met in. -/
def inS (S : Option (World → Prop)) (w : World) : Prop :=
  match S with
  | none => True
  | some S => S w

def alike (S : Option (World → Prop)) (w w' : World) : Prop :=
  match S with
  | none => w' = w
  | some S => S w'

def mkOper (o : Op) (ty : TypeId) : Oper := { dst := none, op := o, type := ty, pos := "", after := #[], guard := none }

/-- An operation that leaves the world alone. -/
inductive Lit (P : Program) (S : Option (World → Prop)) (s : Sem Next) (w : World) (k : Value → World → Prop) : Prop
  | mk (v : Value) (h : ∀ w', alike S w w' → s.run P w' = .ok (.value v) w') (hk : k v w)

/-- Any operation. -/
inductive Evt (P : Program) (S : Option (World → Prop)) (s : Sem Next) (w : World) (k : Value → World → Prop) : Prop
  | val (v : Value) (w' : World) (h : s.run P w = .ok (.value v) w') (hS : inS S w') (hk : k v w')
  | skip (w' : World) (h : s.run P w = .ok .skip w') (hS : inS S w') (hk : k undef w')
  | call (f : FuncId) (args : Array Value) (w₁ : World) (h : s.run P w = .ok (.enter f args) w₁)
      (hc : Calls P f args w₁ fun e w' => match e with | .returned v => inS S w' ∧ k v w' | _ => False)

/-- What an instruction asks: of whatever operation of the model it stands for. -/
def MI.ev (P : Program) (S : Option (World → Prop)) (i : MI) (e : Env) (w : World) (k : Value → World → Prop) : Prop :=
  ∀ o ty, toInstr P o ty = some i → (∀ x ∈ o.operands, e.knows x) ∧
    if i.light then Lit P S (execOp e.rho (mkOper o ty)) w k else Evt P S (execOp e.rho (mkOper o ty)) w k

def push (d : Option Nat) (v : Value) (e : Env) : Env :=
  match d with
  | some d => (d, v) :: e
  | none => e

/-- All that is known of some slots is known. -/
def Sub (a e : Env) : Prop := ∀ t v, Env.get a t = some v → Env.get e t = some v

/-- A loop: what holds at each round's head, told by a state of one's own choosing, which a round lowers. -/
inductive LoopEv (body : (Exit → Env → World → Prop) → Env → World → Prop) (Q : Exit → Env → World → Prop) (e : Env) (w : World) : Prop
  | mk (I : Env → World → Nat → Prop) (n₀ : Nat) (e₀ : Env) (hs : Sub e₀ e) (h₀ : I e₀ w n₀)
      (round : ∀ e w n, I e w n → body (fun ex e' w' => match ex with
        | .normal => ∃ e'' n', Sub e'' e' ∧ I e'' w' n' ∧ n' < n
        | ex => Q ex e' w') e w)

/-- A region whose order is open: a condition on worlds that holds from its begin to its end. -/
inductive DrawEv (w : World) (body : (World → Prop) → World → Prop) : Prop
  | mk (S : World → Prop) (hS : S { w with drawn := w.drawn + 1 }) (h : body S { w with drawn := w.drawn + 1 })

/-- Whoever gets through an exit that ends a piece. -/
def thenK (next : Env → World → Prop) (Q : Exit → Env → World → Prop) (ex : Exit) (e : Env) (w : World) : Prop :=
  match ex with
  | .normal => next e w
  | .exit id => Q (.exit id) e w
  | .ret => Q .ret e w
  | _ => False

def blockK (id : Nat) (Q : Exit → Env → World → Prop) (ex : Exit) (e : Env) (w : World) : Prop :=
  match ex with
  | .normal => Q .normal e w
  | .exit id' => if id' = id then Q .normal e w else Q (.exit id') e w
  | .ret => Q .ret e w
  | _ => False

def onlyNormal (next : Env → World → Prop) (ex : Exit) (e : Env) (w : World) : Prop :=
  match ex with
  | .normal => next e w
  | _ => False

/-- An operation that is guarded by a slot is carried out where the slot holds the Bool that it wants. -/
def guarded (g : Option (Nat × Bool)) (e : Env) (yes no : Prop) : Prop :=
  match g with
  | none => yes
  | some (j, want) => ∃ v, Env.get e j = some v ∧ (v = .bool want → yes) ∧ (v ≠ .bool want → no)

/-- From here on fewer worlds may count, if this one does. -/
def Turn (S : Option (World → Prop)) (w : World) (K : Option (World → Prop) → Prop) : Prop :=
  match S with
  | none => K none
  | some S => ∃ S' : World → Prop, S' w ∧ (∀ x, S' x → S x) ∧ K (some S')

theorem Turn.self {S : Option (World → Prop)} {w : World} {K : Option (World → Prop) → Prop} (h : inS S w) (hk : K S) : Turn S w K := by
  cases S with
  | none => exact hk
  | some S => exact ⟨S, h, fun _ h => h, hk⟩

theorem Turn.mono {S : Option (World → Prop)} {w : World} {K K' : Option (World → Prop) → Prop} (h : ∀ S, K S → K' S) (hk : Turn S w K) : Turn S w K' := by
  cases S with
  | none => exact h _ hk
  | some S => obtain ⟨S', h1, h2, h3⟩ := hk; exact ⟨S', h1, h2, h _ h3⟩

/-- What a run of the code asks. -/
def run (P : Program) (S : Option (World → Prop)) : MC → (Exit → Env → World → Prop) → Env → World → Prop
  | .nil, Q, e, w => Q .normal e w
  | .op g d i k, Q, e, w => Turn S w fun S => guarded g e (i.ev P S e w fun v w' => run P S k Q (push d v e) w') (run P S k Q (push d undef e) w)
  | .both a b, Q, e, w => run P S a Q e w ∧ run P S b Q e w
  | .draw m, Q, e, w => DrawEv w fun S w => run P (some S) m (onlyNormal fun e w => Q .normal e w) e w
  | .seq a b, Q, e, w => run P S a (thenK (fun e w => run P S b Q e w) Q) e w
  | .cond c a b, Q, e, w => e.knows c ∧ ∃ t, e.rho c = .bool t ∧ (t = true → run P S a Q e w) ∧ (t = false → run P S b Q e w)
  | .block id a, Q, e, w => run P S a (blockK id Q) e w
  | .loop a, Q, e, w => LoopEv (run P S a) Q e w
  | .exit id, Q, e, w => Q (.exit id) e w
  | .ret, Q, e, w => Q .ret e w

end Go.HM
