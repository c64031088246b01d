/- Values of the small language's instructions, reckoned; and that the model comes to the same. -/
import Derived.Test.YtobdcokhmpaooaaDoorM2
import Derived.Laws.Sem
import Derived.Laws.Tables
import Derived.Laws.Build
import Derived.Laws.StructEq
namespace Go.HM
open Go
set_option linter.unusedSimpArgs false
set_option linter.unusedVariables false

/-- What a slot is known to hold: a value; a Bool that has been told; a place in a box of the frame's own. -/
inductive EV where
  | v (x : Value)
  | t
  | f
  | box (i off : Nat)

abbrev EEnv := List (Nat × EV)

def EEnv.get : EEnv → Nat → Option EV
  | [], _ => none
  | (d, v) :: e, t => cond (Nat.beq d t) (some v) (EEnv.get e t)

def EV.den (β : Nat → Nat) : EV → Value
  | .v x => x
  | .t => .bool true
  | .f => .bool false
  | .box i off => .pointer (some ⟨β i, off, none⟩)

def denE (β : Nat → Nat) : EEnv → Env
  | [] => []
  | (d, v) :: e => (d, v.den β) :: denE β e

def EV.val : EV → Option Value
  | .v x => some x
  | .t => some (.bool true)
  | .f => some (.bool false)
  | .box _ _ => none

def constE (x : Value) : Option EV :=
  match x with
  | .bool true => some .t
  | .bool false => some .f
  | v => some (.v v)

def opE (e : EEnv) (x : Operand) : Option EV :=
  match x with
  | .tmp t => e.get t
  | .const v => constE v
  | .global g => some (.v (.pointer (some ⟨g, 0, none⟩)))
  | .func f => some (.v (.func (.func f) #[] #[]))

def opV (e : EEnv) (x : Operand) : Option Value :=
  match opE e x with
  | some ev => ev.val
  | none => none

def opVs (e : EEnv) : List Operand → Option (List Value)
  | [] => some []
  | x :: xs => match opV e x, opVs e xs with
    | some v, some vs => some (v :: vs)
    | _, _ => none

def optV (e : EEnv) (x : Option Operand) : Option (Option Value) :=
  match x with
  | none => some none
  | some x => match opV e x with
    | some v => some (some v)
    | none => none

/-! ### Values -/
def sameK : IntKind → IntKind → Bool
  | .i8, .i8 | .i16, .i16 | .i32, .i32 | .i64, .i64 | .u8, .u8 | .u16, .u16 | .u32, .u32 | .u64, .u64 => true
  | _, _ => false

theorem sameK_eq {a b : IntKind} (h : sameK a b = true) : a = b := by cases a <;> cases b <;> first | rfl | cases h

def icmpV (op : BinOp) (x y : Int) : Option EV :=
  match op with
  | .eql => some (.v (.bool (x == y)))
  | .neq => some (.v (.bool (x != y)))
  | .lss => some (.v (.bool (decide (x < y))))
  | .leq => some (.v (.bool (decide (x ≤ y))))
  | .gtr => some (.v (.bool (decide (x > y))))
  | .geq => some (.v (.bool (decide (x ≥ y))))
  | _ => none

def bAnd (k : IntKind) (x y : Int) : Int := k.wrap ((BitVec.ofInt k.bits x &&& BitVec.ofInt k.bits y).toNat : Nat)
def bOr (k : IntKind) (x y : Int) : Int := k.wrap ((BitVec.ofInt k.bits x ||| BitVec.ofInt k.bits y).toNat : Nat)
def bXor (k : IntKind) (x y : Int) : Int := k.wrap ((BitVec.ofInt k.bits x ^^^ BitVec.ofInt k.bits y).toNat : Nat)
def bAndNot (k : IntKind) (x y : Int) : Int := k.wrap ((BitVec.ofInt k.bits x &&& ~~~ BitVec.ofInt k.bits y).toNat : Nat)
def shlV (k : IntKind) (x : Int) (n : Nat) : Int := k.wrap (x * 2 ^ min n k.bits)
def shrV (k : IntKind) (x : Int) (n : Nat) : Int := x.fdiv (2 ^ min n k.bits)

def iarV (op : BinOp) (kd : IntKind) (x y : Int) : Option EV :=
  match op with
  | .add => some (.v (.int kd (kd.wrap (x + y))))
  | .sub => some (.v (.int kd (kd.wrap (x - y))))
  | .mul => some (.v (.int kd (kd.wrap (x * y))))
  | .and => some (.v (.int kd (bAnd kd x y)))
  | .or => some (.v (.int kd (bOr kd x y)))
  | .xor => some (.v (.int kd (bXor kd x y)))
  | .andNot => some (.v (.int kd (bAndNot kd x y)))
  | _ => none

def idivV (op : BinOp) (kd : IntKind) (x y : Int) : Option EV :=
  match op with
  | .quo => some (.v (.int kd (kd.wrap (x.tdiv y))))
  | .rem => some (.v (.int kd (x.tmod y)))
  | _ => none

def ishV (op : BinOp) (kd : IntKind) (x : Int) (n : Nat) : Option EV :=
  match op with
  | .shl => some (.v (.int kd (shlV kd x n)))
  | .shr => some (.v (.int kd (shrV kd x n)))
  | _ => none

def scmpV (op : BinOp) (x y : ByteArray) : Option EV :=
  match op with
  | .eql => some (.v (.bool (x.toList == y.toList)))
  | .neq => some (.v (.bool (!(x.toList == y.toList))))
  | .lss => some (.v (.bool (Op.bytesLess x.toList y.toList)))
  | .geq => some (.v (.bool (!Op.bytesLess x.toList y.toList)))
  | .leq => some (.v (.bool (Op.bytesLess x.toList y.toList || x.toList == y.toList)))
  | .gtr => some (.v (.bool (!(Op.bytesLess x.toList y.toList || x.toList == y.toList))))
  | _ => none

def asI (u : Option Value) : Option (IntKind × Int) :=
  match u with
  | some (.int k n) => some (k, n)
  | _ => none

def two (u v : Option Value) (f : IntKind → Int → Int → Option EV) : Option EV :=
  match asI u, asI v with
  | some (a, x), some (b, y) => cond (sameK a b) (f a x y) none
  | _, _ => none

def asB (u : Option Value) : Option Bool :=
  match u with
  | some (.bool b) => some b
  | _ => none

def asS (u : Option Value) : Option ByteArray :=
  match u with
  | some (.string b) => some b
  | _ => none

def asP (u : Option Value) : Option (Nat × Nat) :=
  match u with
  | some (.pointer (some ⟨b, o, none⟩)) => some (b, o)
  | _ => none

def asA (u : Option Value) : Option (List Value) :=
  match u with
  | some (.agg cs) => some cs.toList
  | _ => none

def asT (u : Option Value) : Option (List Value) :=
  match u with
  | some (.tuple cs) => some cs.toList
  | _ => none

def asSl (u : Option Value) : Option (Option Addr × Nat × Nat) :=
  match u with
  | some (.slice a n c) => some (a, n, c)
  | _ => none

/-- A value of one cell. -/
def isOne : Value → Bool
  | .agg _ | .tuple _ => false
  | _ => true

def cellsL : Value → List Value
  | .agg cs => cs.toList
  | v => [v]

def nthL : List Value → Nat → Option Value
  | v :: _, 0 => some v
  | _ :: l, i + 1 => nthL l i
  | [], _ => none

def takeL : List Value → Nat → Option (List Value)
  | _, 0 => some []
  | v :: l, n + 1 => match takeL l n with
    | some r => some (v :: r)
    | none => none
  | [], _ + 1 => none

def subL : List Value → Nat → Nat → Option (List Value)
  | l, 0, n => takeL l n
  | _ :: l, i + 1, n => subL l i n
  | [], _ + 1, _ => none

/-- Cells put over others, from a place on. -/
def putL : Nat → List Value → List Value → Option (List Value)
  | 0, [], cs => some cs
  | 0, v :: vs, _ :: cs => match putL 0 vs cs with
    | some r => some (v :: r)
    | none => none
  | n + 1, vs, c :: cs => match putL n vs cs with
    | some r => some (c :: r)
    | none => none
  | _, _, [] => none

def fillL (cells : List Value) : List (Nat × Nat × Value) → Option (List Value)
  | [] => some cells
  | (off, size, v) :: r => cond (Nat.beq (cellsL v).length size) (match putL off (cellsL v) cells with
    | some cells' => fillL cells' r
    | none => none) none

def partVs (e : EEnv) : List (Nat × Nat × Operand) → Option (List (Nat × Nat × Value))
  | [] => some []
  | (o, n, x) :: r => match opV e x, partVs e r with
    | some v, some vs => some ((o, n, v) :: vs)
    | _, _ => none

def ifnilV (neg : Bool) (u : Option Value) : Option EV :=
  match u with
  | some .nilIface => cond neg (some .f) (some .t)
  | some (.iface _ _) => cond neg (some .t) (some .f)
  | _ => none

def ptnilV (neg : Bool) (u : Option EV) : Option EV :=
  match u with
  | some (.v (.pointer none)) => cond neg (some .f) (some .t)
  | some (.v (.pointer (some _))) => cond neg (some .t) (some .f)
  | some (.box _ _) => cond neg (some .t) (some .f)
  | _ => none

def slnilV (neg : Bool) (u : Option Value) : Option EV :=
  match u with
  | some (.slice none _ _) => cond neg (some .f) (some .t)
  | some (.slice (some _) _ _) => cond neg (some .t) (some .f)
  | _ => none

def fnnilV (neg : Bool) (u : Option Value) : Option EV :=
  match u with
  | some .nilFunc => cond neg (some .f) (some .t)
  | some (.func _ _ _) => cond neg (some .t) (some .f)
  | _ => none

def eqCell (ek : EK) (u v : Value) : Option Bool :=
  match ek with
  | .int => match asI (some u), asI (some v) with
    | some (a, x), some (b, y) => cond (sameK a b) (some (x == y)) none
    | _, _ => none
  | .bool => match asB (some u), asB (some v) with
    | some x, some y => some (x == y)
    | _, _ => none
  | .str => match asS (some u), asS (some v) with
    | some x, some y => some (x.toList == y.toList)
    | _, _ => none

def eqCells : List EK → List Value → List Value → Option Bool
  | [], [], [] => some true
  | ek :: ks, u :: us, v :: vs => match eqCell ek u v, eqCells ks us vs with
    | some t, some r => some (t && r)
    | _, _ => none
  | _, _, _ => none

def notEV : Option EV → Option EV
  | some .t => some .f
  | some .f => some .t
  | some (.v (.bool b)) => some (.v (.bool (!b)))
  | _ => none

def addOff (off : Nat) : Option EV → Option EV
  | some (.box i o) => some (.box i (o + off))
  | some (.v (.pointer (some ⟨b, o, none⟩))) => some (.v (.pointer (some ⟨b, o + off, none⟩)))
  | _ => none

def nilchkE : Option EV → Option EV
  | some (.box i o) => some (.box i o)
  | some (.v (.pointer (some a))) => some (.v (.pointer (some a)))
  | some (.v (.func (.func f) x y)) => some (.v (.func (.func f) x y))
  | _ => none

def beqV (neg : Bool) (u v : Option Value) : Option EV :=
  match asB u, asB v with
  | some a, some b => cond neg (some (.v (.bool (!(a == b))))) (some (.v (.bool (a == b))))
  | _, _ => none

/-- What a silent instruction comes to. -/
def MI.sil (i : MI) (e : EEnv) : Option EV :=
  match i with
  | .mov x => opE e x
  | .pick c a b => match opE e c with
    | some .t => match opE e b with
      | some _ => opE e a
      | none => none
    | some .f => match opE e a with
      | some _ => opE e b
      | none => none
    | _ => none
  | .icmp op x y => two (opV e x) (opV e y) fun _ a b => icmpV op a b
  | .iar op x y => two (opV e x) (opV e y) fun k a b => iarV op k a b
  | .idivC op x kd n => match asI (opV e x) with
    | some (k, a) => cond (sameK k kd) (idivV op k a n) none
    | none => none
  | .ishC op x n => match asI (opV e x) with
    | some (k, a) => ishV op k a n
    | none => none
  | .scmp op x y => match asS (opV e x), asS (opV e y) with
    | some a, some b => scmpV op a b
    | _, _ => none
  | .beq neg x y => beqV neg (opV e x) (opV e y)
  | .ifnil neg x => ifnilV neg (opV e x)
  | .ptnil neg x => ptnilV neg (opE e x)
  | .slnil neg x => slnilV neg (opV e x)
  | .fnnil neg x => fnnilV neg (opV e x)
  | .aeq neg ks x y => match asA (opV e x), asA (opV e y) with
    | some us, some vs => match eqCells ks us vs with
      | some t => cond neg (some (.v (.bool (!t)))) (some (.v (.bool t)))
      | none => none
    | _, _ => none
  | .bnot x => notEV (opE e x)
  | .ineg x => match asI (opV e x) with
    | some (k, a) => some (.v (.int k (k.wrap (0 - a))))
    | none => none
  | .ixor x => match asI (opV e x) with
    | some (k, a) => some (.v (.int k (bXor k (if k.signed then -1 else k.max) a)))
    | none => none
  | .conv k x => match asI (opV e x) with
    | some (_, a) => some (.v (.int k (k.wrap a)))
    | none => none
  | .cstr x => match asS (opV e x) with
    | some a => some (.v (.string a))
    | none => none
  | .mkif t x => match opV e x with
    | some u => some (.v (.iface t u))
    | none => none
  | .mkfn fn first captured => match opVs e first, opVs e captured with
    | some us, some vs => some (.v (.func fn us.toArray vs.toArray))
    | _, _ => none
  | .ext x i => match asT (opV e x) with
    | some vs => match nthL vs i with
      | some v => some (.v v)
      | none => none
    | none => none
  | .fldC off x => match asA (opV e x) with
    | some vs => match nthL vs off with
      | some v => some (.v v)
      | none => none
    | none => none
  | .fldA off n x => match asA (opV e x) with
    | some vs => match subL vs off n with
      | some r => some (.v (.agg r.toArray))
      | none => none
    | none => none
  | .fadr off x => addOff off (opE e x)
  | .idxAC off x => addOff off (opE e x)
  | .bld zero parts => match partVs e parts with
    | some ps => match fillL zero ps with
      | some cs => some (.v (.agg cs.toArray))
      | none => none
    | none => none
  | .lenS x => match asSl (opV e x) with
    | some (_, n, _) => some (.v (.int .i64 (n : Nat)))
    | none => none
  | .lenStr x => match asS (opV e x) with
    | some s => some (.v (.int .i64 (s.size : Nat)))
    | none => none
  | .capS x => match asSl (opV e x) with
    | some (_, _, c) => some (.v (.int .i64 (c : Nat)))
    | none => none
  | .mnmx isMin x y => match asI (opV e x), asI (opV e y) with
    | some (k, a), some (_, b) => cond isMin (some (.v (.int k (if b < a then b else a)))) (some (.v (.int k (if b > a then b else a))))
    | _, _ => none
  | .nilchk x => nilchkE (opE e x)
  | _ => none

/-! ### That the model comes to the same -/
theorem denE_get {β : Nat → Nat} {e : EEnv} {t : Nat} {ev : EV} (h : EEnv.get e t = some ev) : Env.get (denE β e) t = some (ev.den β) := by
  induction e with
  | nil => cases h
  | cons p e ih =>
    obtain ⟨d, v⟩ := p
    simp only [EEnv.get] at h
    simp only [denE, Env.get]
    cases hb : Nat.beq d t
    · rw [hb] at h; exact ih h
    · rw [hb] at h
      simp only [cond_true, Option.some.injEq] at h
      simp only [cond_true, h]

theorem constE_den {x : Value} {ev : EV} (h : constE x = some ev) (β : Nat → Nat) : ev.den β = x := by
  unfold constE at h
  split at h <;> (simp only [Option.some.injEq] at h; subst h; rfl)

theorem opE_sound {e : EEnv} {x : Operand} {ev : EV} (h : opE e x = some ev) (β : Nat → Nat) : (denE β e).knows x ∧ (denE β e).rho x = ev.den β := by
  cases x with
  | tmp t =>
    have := denE_get (β := β) (show EEnv.get e t = some ev from h)
    simp [Env.knows, Env.rho, this]
  | const v => exact ⟨trivial, (constE_den h β).symm⟩
  | global g => simp only [opE, Option.some.injEq] at h; subst h; exact ⟨trivial, rfl⟩
  | func f => simp only [opE, Option.some.injEq] at h; subst h; exact ⟨trivial, rfl⟩

theorem val_den {ev : EV} {v : Value} (h : ev.val = some v) (β : Nat → Nat) : ev.den β = v := by
  cases ev <;> simp only [EV.val, Option.some.injEq] at h <;> first | exact h | cases h

theorem opV_sound {e : EEnv} {x : Operand} {v : Value} (h : opV e x = some v) (β : Nat → Nat) : (denE β e).knows x ∧ (denE β e).rho x = v := by
  unfold opV at h
  split at h
  · rename_i ev hev
    obtain ⟨h1, h2⟩ := opE_sound hev β
    exact ⟨h1, h2.trans (val_den h β)⟩
  · cases h

theorem opVs_sound {e : EEnv} : ∀ {xs : List Operand} {vs : List Value}, opVs e xs = some vs → ∀ (β : Nat → Nat), (∀ x ∈ xs, (denE β e).knows x) ∧ xs.map (denE β e).rho = vs
  | [], vs, h, β => by simp only [opVs, Option.some.injEq] at h; subst h; simp
  | x :: xs, vs, h, β => by
    simp only [opVs] at h
    split at h
    · rename_i v vs' hv hvs
      simp only [Option.some.injEq] at h; subst h
      obtain ⟨h1, h2⟩ := opV_sound hv β
      obtain ⟨h3, h4⟩ := opVs_sound hvs β
      exact ⟨by intro y hy; rcases List.mem_cons.1 hy with rfl | hy; exact h1; exact h3 y hy, by simp [h2, h4]⟩
    · cases h

theorem asI_some {u : Option Value} {k : IntKind} {n : Int} (h : asI u = some (k, n)) : u = some (.int k n) := by
  unfold asI at h; split at h <;> simp_all
theorem asB_some {u : Option Value} {b : Bool} (h : asB u = some b) : u = some (.bool b) := by unfold asB at h; split at h <;> simp_all
theorem asS_some {u : Option Value} {b : ByteArray} (h : asS u = some b) : u = some (.string b) := by unfold asS at h; split at h <;> simp_all
theorem asP_some {u : Option Value} {b o : Nat} (h : asP u = some (b, o)) : u = some (.pointer (some ⟨b, o, none⟩)) := by unfold asP at h; split at h <;> simp_all
theorem asA_some {u : Option Value} {l : List Value} (h : asA u = some l) : u = some (.agg l.toArray) := by
  unfold asA at h; split at h <;> simp_all
  subst h; rfl
theorem asT_some {u : Option Value} {l : List Value} (h : asT u = some l) : u = some (.tuple l.toArray) := by
  unfold asT at h; split at h <;> simp_all
  subst h; rfl
theorem asSl_some {u : Option Value} {a : Option Addr} {n c : Nat} (h : asSl u = some (a, n, c)) : u = some (.slice a n c) := by unfold asSl at h; split at h <;> simp_all

theorem two_some {u v : Option Value} {f : IntKind → Int → Int → Option EV} {ev : EV} (h : two u v f = some ev) : ∃ k x y, u = some (.int k x) ∧ v = some (.int k y) ∧ f k x y = some ev := by
  unfold two at h
  split at h
  · rename_i a x b y ha hb
    cases hk : sameK a b
    · rw [hk] at h; cases h
    · rw [hk] at h
      have := sameK_eq hk
      subst this
      exact ⟨a, x, y, asI_some ha, asI_some hb, h⟩
  · cases h

theorem nthL_eq : ∀ (l : List Value) (i : Nat), nthL l i = l[i]?
  | [], _ => by simp [nthL]
  | v :: l, 0 => by simp [nthL]
  | v :: l, i + 1 => by simp only [nthL, List.getElem?_cons_succ]; exact nthL_eq l i

theorem takeL_some : ∀ (l : List Value) (n : Nat) (r : List Value), takeL l n = some r → r = l.take n ∧ n ≤ l.length
  | l, 0, r, h => by cases l <;> simp_all [takeL]
  | [], n + 1, r, h => by simp [takeL] at h
  | v :: l, n + 1, r, h => by
    simp only [takeL] at h
    split at h
    · rename_i r' hr
      simp only [Option.some.injEq] at h; subst h
      obtain ⟨h1, h2⟩ := takeL_some l n r' hr
      exact ⟨by simp [h1], by simp; omega⟩
    · cases h

theorem subL_some : ∀ (l : List Value) (i n : Nat) (r : List Value), subL l i n = some r → r = (l.drop i).take n ∧ i + n ≤ l.length
  | l, 0, n, r, h => by
    have h' : takeL l n = some r := by cases l <;> simpa [subL] using h
    obtain ⟨h1, h2⟩ := takeL_some l n r h'
    exact ⟨by simp [h1], by omega⟩
  | [], i + 1, n, r, h => by simp [subL] at h
  | v :: l, i + 1, n, r, h => by
    simp only [subL] at h
    obtain ⟨h1, h2⟩ := subL_some l i n r h
    exact ⟨by simp [h1], by simp; omega⟩

theorem putL_some : ∀ (o : Nat) (vs cs r : List Value), putL o vs cs = some r → r = cs.take o ++ vs ++ cs.drop (o + vs.length) ∧ o + vs.length ≤ cs.length
  | 0, [], cs, r, h => by cases cs <;> simp_all [putL]
  | 0, v :: vs, [], r, h => by simp [putL] at h
  | 0, v :: vs, c :: cs, r, h => by
    simp only [putL] at h
    split at h
    · rename_i r' hr
      simp only [Option.some.injEq] at h; subst h
      obtain ⟨h1, h2⟩ := putL_some 0 vs cs r' hr
      refine ⟨by simp [h1], by simp; omega⟩
    · cases h
  | o + 1, vs, [], r, h => by simp [putL] at h
  | o + 1, vs, c :: cs, r, h => by
    simp only [putL] at h
    split at h
    · rename_i r' hr
      simp only [Option.some.injEq] at h; subst h
      obtain ⟨h1, h2⟩ := putL_some o vs cs r' hr
      refine ⟨by simp [h1, Nat.add_right_comm], by simp; omega⟩
    · cases h

theorem cellsL_eq (v : Value) : v.cells.toList = cellsL v := by cases v <;> rfl

theorem foldl_put (off : Nat) : ∀ (vs : List Value) (k : Nat) (cells : Array Value), off + k + vs.length ≤ cells.size →
    ((vs.zipIdx k).foldl (fun cs (x : Value × Nat) => cs.setIfInBounds (off + x.2) x.1) cells).toList = cells.toList.take (off + k) ++ vs ++ cells.toList.drop (off + k + vs.length)
  | [], k, cells, h => by simp
  | v :: vs, k, cells, h => by
    simp only [List.zipIdx_cons, List.foldl_cons]
    rw [foldl_put off vs (k + 1) _ (by simp at h ⊢; omega)]
    have hlt : off + k < cells.toList.length := by simp at h ⊢; omega
    simp only [Array.toList_setIfInBounds]
    rw [show off + (k + 1) = (off + k) + 1 from by omega, List.take_set, List.drop_set_of_lt (by omega)]
    rw [List.take_succ_eq_append_getElem hlt, List.set_append_right _ _ (by simp; omega)]
    simp only [List.length_take, List.append_assoc, List.length_cons]
    rw [show off + k - min (off + k) cells.toList.length = 0 from by omega]
    simp [Nat.add_assoc, Nat.add_comm, Nat.add_left_comm]

/-- Parts as a build has them, and as the small language has them. -/
def PRel (place : Nat → Option (Nat × Nat)) : List (Nat × Value) → List (Nat × Nat × Value) → Prop
  | [], [] => True
  | p :: ps, q :: qs => (place p.1 = some (q.1, q.2.1) ∧ p.2 = q.2.2) ∧ PRel place ps qs
  | _, _ => False

theorem fill_sound (place : Nat → Option (Nat × Nat)) : ∀ (ps : List (Nat × Value)) (qs : List (Nat × Nat × Value)) (cells : Array Value) (cs : List Value),
    PRel place ps qs → fillL cells.toList qs = some cs → Instr.fill place cells ps = some cs.toArray
  | [], [], cells, cs, _, h => by
    simp only [fillL, Option.some.injEq] at h
    subst h; simp [Instr.fill]
  | (i, v) :: ps, (off, size, v') :: qs, cells, cs, hf, h => by
    · obtain ⟨⟨h1, h2⟩, hr⟩ := hf
      simp only at h1 h2
      subst h2
      simp only [fillL] at h
      cases hb : Nat.beq (cellsL v).length size
      · rw [hb] at h; cases h
      · rw [hb] at h
        simp only [cond_true] at h
        split at h
        · rename_i cells' hput
          obtain ⟨e1, e2⟩ := putL_some off (cellsL v) cells.toList cells' hput
          have hs : v.cells.size = size := by
            have := Nat.eq_of_beq_eq_true hb
            rw [← this, ← cellsL_eq]; simp
          simp only [Instr.fill, h1]
          have hlen : (cellsL v).length = v.cells.size := by rw [← cellsL_eq]; simp
          rw [if_neg (by
            rw [← hlen]
            simp only [Array.length_toList] at e2
            simp only [hlen, ne_eq, hs, not_true_eq_false, false_or, decide_false, Bool.false_or, Nat.not_lt, gt_iff_lt]
            simp; omega)]
          refine fill_sound place ps qs _ cs hr ?_
          have := foldl_put off v.cells.toList 0 cells (by simp at e2 ⊢; omega)
          rw [← Array.foldl_toList, Array.toList_zipIdx]
          simp only [Nat.add_zero] at this
          rw [this]
          rw [e1] at h
          rw [cellsL_eq]
          exact h
        · cases h
  | [], _ :: _, _, _, hf, _ => hf.elim
  | _ :: _, [], _, _, hf, _ => hf.elim

theorem parts_rel {e : EEnv} {place : Nat → Option (Nat × Nat)} (β : Nat → Nat) : ∀ (parts : List (Nat × Operand)) (ps : List (Nat × Nat × Operand)) (vs : List (Nat × Nat × Value)),
    placeParts place parts = some ps → partVs e ps = some vs → (∀ p ∈ parts, (denE β e).knows p.2) ∧ PRel place (parts.map fun p => (p.1, (denE β e).rho p.2)) vs
  | [], ps, vs, h, hv => by
    simp only [placeParts, Option.some.injEq] at h; subst h
    simp only [partVs, Option.some.injEq] at hv; subst hv
    simp [PRel]
  | (i, x) :: r, ps, vs, h, hv => by
    simp only [placeParts] at h
    split at h
    · rename_i off n ps' hp hps
      simp only [Option.some.injEq] at h; subst h
      simp only [partVs] at hv
      split at hv
      · rename_i v vs' hv1 hvs
        simp only [Option.some.injEq] at hv; subst hv
        obtain ⟨h1, h2⟩ := opV_sound hv1 β
        obtain ⟨h3, h4⟩ := parts_rel β r ps' vs' hps hvs
        refine ⟨fun p hp => ?_, ?_⟩
        · rcases List.mem_cons.1 hp with rfl | hp
          · exact h1
          · exact h3 p hp
        · exact ⟨⟨hp, h2⟩, h4⟩
      · cases hv
    · cases h

theorem built_of {P : Program} {t : TypeId} {z : Value} {place : Nat → Option (Nat × Nat)} {ps : List (Nat × Value)} {vs : List (Nat × Nat × Value)} {cs : List Value}
    (hz : tyZero P t = some z) (hp : placesOf P t = some place) (hr : PRel place ps vs) (hf : fillL z.cells.toList vs = some cs) : P.built t ps = some cs.toArray := by
  have hfill := fill_sound place ps vs z.cells cs hr hf
  unfold tyZero at hz
  cases hi : P.info? t with
  | none => simp [hi] at hz
  | some it =>
    simp only [hi, Option.bind_some] at hz
    unfold placesOf at hp
    unfold Program.built
    split at hp
    · rename_i fs hu
      split at hp
      · rename_i places hpl
        simp only [Option.some.injEq] at hp; subst hp
        simp only [hi, hu, hz, hpl]
        exact hfill
      · cases hp
    · rename_i n e hu
      split at hp
      · rename_i ie hie
        simp only [Option.some.injEq] at hp; subst hp
        simp only [hi, hu, hz, hie]
        exact hfill
      · cases hp
    · cases hp

theorem sil_light {i : MI} {e : EEnv} {ev : EV} (h : i.sil e = some ev) : i.light = true := by
  cases i <;> first | rfl | (simp only [MI.sil] at h; cases h)

theorem run_und {P : Program} {t : TypeId} {d : TypeDesc} (h : P.underlying t = some d) (w : World) : (underlying t).run P w = .ok d w := run_underlying h w

theorem und_of_agg {P : Program} {t : TypeId} {g : Bool} (h : tyAgg P t = some g) (w : World) : (isAgg t).run P w = .ok g w := by
  unfold tyAgg at h
  split at h
  · rename_i fs hu
    simp only [Option.some.injEq] at h; subst h
    simp [isAgg, run_underlying hu, pure]
  · rename_i n e hu
    simp only [Option.some.injEq] at h; subst h
    simp [isAgg, run_underlying hu, pure]
  · rename_i d h1 h2 hu
    simp only [Option.some.injEq] at h; subst h
    simp only [isAgg, Sem.run_bind, run_underlying hu, Result.andThen_ok]
    rfl
  · cases h

theorem size_of {P : Program} {t : TypeId} {n : Nat} (h : tySize P t = some n) (w : World) : (sizeOf t).run P w = .ok n w := by
  simp only [tySize, Option.map_eq_some_iff] at h
  obtain ⟨i, hi, rfl⟩ := h
  simp [sizeOf, typeInfo, hi]

/-- Comparing cells one by one, as the model compares a struct's fields. -/
theorem eqCells_sound {P : Program} {xs ys : List Value} (d : Nat) (w : World) : ∀ (fs : List Field) (i : Nat) (ks : List EK) (us vs : List Value) (r : Bool),
    eqKinds P fs i = some ks → us = xs.drop i → vs = ys.drop i → eqCells ks us vs = some r → (Op.eqFields (d + 1) xs.toArray ys.toArray fs).run P w = .ok r w
  | [], i, ks, us, vs, r, hk, hu, hv, h => by
    simp only [eqKinds, Option.some.injEq] at hk; subst hk
    unfold eqCells at h
    split at h <;> simp_all [Op.eqFields, pure]
  | f :: fs, i, ks, us, vs, r, hk, hu, hv, h => by
    simp only [eqKinds] at hk
    split at hk
    · rename_i hoff
      simp only [Bool.and_eq_true, beq_iff_eq, bne_iff_ne, ne_eq] at hoff
      obtain ⟨ho, hn⟩ := hoff
      have part_of : ∀ (l : List Value) (c : Value) (l' : List Value), l.drop i = c :: l' → ∀ (g : tyAgg P f.type = some false), (part f.type l.toArray f.offset).run P w = .ok c w := fun l c l' hl g => by
        have hc : l[i]? = some c := by
          have := congrArg (fun l => l[0]?) hl
          simpa using this
        simp [part, und_of_agg g, ho, hc, pure]
      have next : ∀ (l : List Value) (c : Value) (l' : List Value), l.drop i = c :: l' → l' = l.drop (i + 1) := fun l c l' hl => by
        rw [← List.drop_drop, hl]; simp
      have main : ∀ (ek : EK) (ks' : List EK), eqKinds P fs (i + 1) = some ks' → ks = ek :: ks' → tyAgg P f.type = some false →
          (∀ (u v : Value) (t : Bool), eqCell ek u v = some t → (Op.equalIn (d + 1) f.type u v).run P w = .ok t w) →
          (Op.eqFields (d + 1) xs.toArray ys.toArray (f :: fs)).run P w = .ok r w := fun ek ks' hks' hke hg heq => by
        subst hke
        match us, vs, h, hu, hv with
        | u :: us', v :: vs', h, hu, hv =>
          simp only [eqCells] at h
          split at h
          · rename_i t r' ht hr'
            simp only [Option.some.injEq] at h
            have ih := eqCells_sound d w fs (i + 1) ks' us' vs' r' hks' (next xs u us' hu.symm) (next ys v vs' hv.symm) hr'
            simp only [Op.eqFields, ne_eq, hn, not_false_eq_true, if_true, Sem.run_bind, part_of xs u us' hu.symm hg, part_of ys v vs' hv.symm hg, heq u v t ht, Result.andThen_ok]
            cases t
            · simp only [Bool.not_false, if_true]
              rw [← h]; rfl
            · simp only [Bool.not_true, Bool.false_eq_true, if_false]
              rw [← h]; simpa using ih
          · cases h
        | [], _, h, _, _ => simp [eqCells] at h
        | _ :: _, [], h, _, _ => simp [eqCells] at h
      split at hk
      · rename_i kd r' hty hr'
        simp only [Option.some.injEq] at hk
        refine main .int r' hr' hk.symm (by simp [tyAgg, hty]) fun u v t ht => ?_
        simp only [eqCell] at ht
        split at ht
        · rename_i a x b y ha hb
          have e1 := asI_some ha; have e2 := asI_some hb
          simp only [Option.some.injEq] at e1 e2
          subst e1 e2
          cases hs : sameK a b
          · rw [hs] at ht; cases ht
          · rw [hs] at ht
            have := sameK_eq hs; subst this
            simp only [cond_true, Option.some.injEq] at ht
            subst ht
            exact run_equalIn_int w d f.type a kd x y hty
        · cases ht
      · rename_i r' hty hr'
        simp only [Option.some.injEq] at hk
        refine main .bool r' hr' hk.symm (by simp [tyAgg, hty]) fun u v t ht => ?_
        simp only [eqCell] at ht
        split at ht
        · rename_i x y ha hb
          have e1 := asB_some ha; have e2 := asB_some hb
          simp only [Option.some.injEq] at e1 e2
          subst e1 e2
          simp only [Option.some.injEq] at ht; subst ht
          exact run_equalIn_bool' w d f.type x y hty
        · cases ht
      · rename_i r' hty hr'
        simp only [Option.some.injEq] at hk
        refine main .str r' hr' hk.symm (by simp [tyAgg, hty]) fun u v t ht => ?_
        simp only [eqCell] at ht
        split at ht
        · rename_i x y ha hb
          have e1 := asS_some ha; have e2 := asS_some hb
          simp only [Option.some.injEq] at e1 e2
          subst e1 e2
          simp only [Option.some.injEq] at ht; subst ht
          exact run_equalIn_string w d f.type x y hty
        · cases ht
      · cases hk
    · cases hk

theorem dead {P : Program} {o : Op} {ty : TypeId} {i : MI} {e : EEnv} {ev : EV} (h : toInstr P o ty = some i) (hn : toMI P o ty = none) (hs : i.sil e = some ev) : False := by
  unfold toInstr at h
  rw [hn] at h
  simp only at h
  split at h
  · cases h
  · simp only [Option.some.injEq] at h
    subst h
    cases hs

theorem binI_sound {P : Program} {op : BinOp} {t yT ty : TypeId} {x y : Operand} {e : EEnv} {ev : EV} {β : Nat → Nat} (hs0 : (toBinI op x y).sil e = some ev) :
    ((denE β e).knows x ∧ (denE β e).knows y) ∧ ∀ w, (execOp (denE β e).rho (mkOper (.binOp op t x y yT) ty)).run P w = .ok (.value (ev.den β)) w := by
  have cmp : ∀ (hs : (MI.icmp op x y).sil e = some ev) (hop : ∀ (a b : Int) (r : EV), icmpV op a b = some r → ∀ k, eqGuard op t x y (.int k a) (.int k b) = pure () ∧ binOp op t (.int k a) (.int k b) = pure (r.den β)),
      ((denE β e).knows x ∧ (denE β e).knows y) ∧ ∀ w, (execOp (denE β e).rho (mkOper (.binOp op t x y yT) ty)).run P w = .ok (.value (ev.den β)) w := fun hs hop => by
    simp only [MI.sil] at hs
    obtain ⟨k, a, b, hx, hy, hf⟩ := two_some hs
    obtain ⟨k1, r1⟩ := opV_sound hx β
    obtain ⟨k2, r2⟩ := opV_sound hy β
    refine ⟨⟨k1, k2⟩, fun w => ?_⟩
    obtain ⟨g1, g2⟩ := hop a b ev hf k
    simp only [execOp, mkOper, r1, r2, g1, g2]
    rfl
  have ari : ∀ (hs : (MI.iar op x y).sil e = some ev) (hop : ∀ (k : IntKind) (a b : Int) (r : EV), iarV op k a b = some r → eqGuard op t x y (.int k a) (.int k b) = pure () ∧ binOp op t (.int k a) (.int k b) = pure (r.den β)),
      ((denE β e).knows x ∧ (denE β e).knows y) ∧ ∀ w, (execOp (denE β e).rho (mkOper (.binOp op t x y yT) ty)).run P w = .ok (.value (ev.den β)) w := fun hs hop => by
    simp only [MI.sil] at hs
    obtain ⟨k, a, b, hx, hy, hf⟩ := two_some hs
    obtain ⟨k1, r1⟩ := opV_sound hx β
    obtain ⟨k2, r2⟩ := opV_sound hy β
    refine ⟨⟨k1, k2⟩, fun w => ?_⟩
    obtain ⟨g1, g2⟩ := hop k a b ev hf
    simp only [execOp, mkOper, r1, r2, g1, g2]
    rfl
  have div : ∀ (hs : (match constInt y with | some (k, n) => if n = 0 then MI.idiv op x y else .idivC op x k n | none => .idiv op x y).sil e = some ev)
      (hop : ∀ (k : IntKind) (a n : Int) (r : EV), n ≠ 0 → idivV op k a n = some r → eqGuard op t x y (.int k a) (.int k n) = pure () ∧ ∀ w, (binOp op t (.int k a) (.int k n)).run P w = .ok (r.den β) w),
      ((denE β e).knows x ∧ (denE β e).knows y) ∧ ∀ w, (execOp (denE β e).rho (mkOper (.binOp op t x y yT) ty)).run P w = .ok (.value (ev.den β)) w := fun hs hop => by
    split at hs
    · rename_i kd n hy
      split at hs
      · cases hs
      · rename_i hn
        have ey : y = .const (.int kd n) := by
          unfold constInt at hy; split at hy <;> simp_all
        subst ey
        simp only [MI.sil] at hs
        split at hs
        · rename_i k a ha
          have ex := asI_some ha
          obtain ⟨k1, r1⟩ := opV_sound ex β
          cases hk : sameK k kd
          · rw [hk] at hs; cases hs
          · rw [hk] at hs
            have := sameK_eq hk; subst this
            obtain ⟨g1, g2⟩ := hop k a n ev hn hs
            refine ⟨⟨k1, trivial⟩, fun w => ?_⟩
            have r2 : (denE β e).rho (.const (.int k n)) = .int k n := rfl
            simp only [execOp, mkOper, r1, r2, g1]
            simp [g2]
        · cases hs
    · cases hs
  have shf : ∀ (hs : (match constNat y with | some n => MI.ishC op x n | none => .ish op x y).sil e = some ev)
      (hop : ∀ (k k' : IntKind) (a : Int) (n : Nat) (r : EV), ishV op k a n = some r → eqGuard op t x y (.int k a) (.int k' n) = pure () ∧ ∀ w, (binOp op t (.int k a) (.int k' n)).run P w = .ok (r.den β) w),
      ((denE β e).knows x ∧ (denE β e).knows y) ∧ ∀ w, (execOp (denE β e).rho (mkOper (.binOp op t x y yT) ty)).run P w = .ok (.value (ev.den β)) w := fun hs hop => by
    split at hs
    · rename_i n hy
      obtain ⟨kd, ey⟩ : ∃ kd, y = .const (.int kd (n : Int)) := by
        unfold constNat at hy
        split at hy
        · rename_i kd m
          simp only [Option.some.injEq] at hy; subst hy
          exact ⟨kd, rfl⟩
        · cases hy
      subst ey
      simp only [MI.sil] at hs
      split at hs
      · rename_i k a ha
        have ex := asI_some ha
        obtain ⟨k1, r1⟩ := opV_sound ex β
        obtain ⟨g1, g2⟩ := hop k kd a n ev hs
        refine ⟨⟨k1, trivial⟩, fun w => ?_⟩
        have r2 : (denE β e).rho (.const (.int kd (n : Int))) = .int kd n := rfl
        simp only [execOp, mkOper, r1, r2, g1]
        simp [g2]
      · cases hs
    · cases hs
  cases op <;> simp only [toBinI] at hs0
  case add => exact ari hs0 fun k a b r hr => by simp only [iarV, Option.some.injEq] at hr; subst hr; exact ⟨rfl, by simp [binOp, Op.intArith, EV.den]⟩
  case sub => exact ari hs0 fun k a b r hr => by simp only [iarV, Option.some.injEq] at hr; subst hr; exact ⟨rfl, by simp [binOp, Op.intArith, EV.den]⟩
  case mul => exact ari hs0 fun k a b r hr => by simp only [iarV, Option.some.injEq] at hr; subst hr; exact ⟨rfl, by simp [binOp, Op.intArith, EV.den]⟩
  case and => exact ari hs0 fun k a b r hr => by simp only [iarV, Option.some.injEq] at hr; subst hr; exact ⟨rfl, by simp [binOp, Op.intBits, EV.den, bAnd]⟩
  case or => exact ari hs0 fun k a b r hr => by simp only [iarV, Option.some.injEq] at hr; subst hr; exact ⟨rfl, by simp [binOp, Op.intBits, EV.den, bOr]⟩
  case xor => exact ari hs0 fun k a b r hr => by simp only [iarV, Option.some.injEq] at hr; subst hr; exact ⟨rfl, by simp [binOp, Op.intBits, EV.den, bXor]⟩
  case andNot => exact ari hs0 fun k a b r hr => by simp only [iarV, Option.some.injEq] at hr; subst hr; exact ⟨rfl, by simp [binOp, Op.intBits, EV.den, bAndNot]⟩
  case eql => exact cmp hs0 fun a b r hr k => by simp only [icmpV, Option.some.injEq] at hr; subst hr; exact ⟨rfl, by simp [binOp, Op.intCmp, EV.den]⟩
  case neq => exact cmp hs0 fun a b r hr k => by simp only [icmpV, Option.some.injEq] at hr; subst hr; exact ⟨rfl, by simp [binOp, Op.intCmp, EV.den]⟩
  case lss => exact cmp hs0 fun a b r hr k => by simp only [icmpV, Option.some.injEq] at hr; subst hr; exact ⟨rfl, by simp [binOp, Op.intCmp, EV.den]⟩
  case leq => exact cmp hs0 fun a b r hr k => by simp only [icmpV, Option.some.injEq] at hr; subst hr; exact ⟨rfl, by simp [binOp, Op.intCmp, EV.den]⟩
  case gtr => exact cmp hs0 fun a b r hr k => by simp only [icmpV, Option.some.injEq] at hr; subst hr; exact ⟨rfl, by simp [binOp, Op.intCmp, EV.den]⟩
  case geq => exact cmp hs0 fun a b r hr k => by simp only [icmpV, Option.some.injEq] at hr; subst hr; exact ⟨rfl, by simp [binOp, Op.intCmp, EV.den]⟩
  case quo => exact div hs0 fun k a n r hn hr => by simp only [idivV, Option.some.injEq] at hr; subst hr; exact ⟨rfl, fun w => by simp [binOp, Op.intDiv, EV.den, hn]⟩
  case rem => exact div hs0 fun k a n r hn hr => by simp only [idivV, Option.some.injEq] at hr; subst hr; exact ⟨rfl, fun w => by simp [binOp, Op.intDiv, EV.den, hn]⟩
  case shl => exact shf hs0 fun k k' a n r hr => by simp only [ishV, Option.some.injEq] at hr; subst hr; exact ⟨rfl, fun w => (by have hn : ¬ ((n : Int) < 0) := (by omega); simp only [binOp, Op.shift, hn, if_false, EV.den, shlV, Int.toNat_natCast]; rfl)⟩
  case shr => exact shf hs0 fun k k' a n r hr => by simp only [ishV, Option.some.injEq] at hr; subst hr; exact ⟨rfl, fun w => (by have hn : ¬ ((n : Int) < 0) := (by omega); simp only [binOp, Op.shift, hn, if_false, EV.den, shrV, Int.toNat_natCast]; rfl)⟩

section
variable {P : Program} (w : World) (d : Nat)
theorem eqN_ifn (t : TypeId) {ms : Array (String × TypeId)} (hu : P.underlying t = some (.interface ms)) : (Op.equalIn (d + 1) t .nilIface .nilIface).run P w = .ok true w := by simp [Op.equalIn, run_underlying hu]
theorem eqN_if (t tx : TypeId) (vx : Value) {ms : Array (String × TypeId)} (hu : P.underlying t = some (.interface ms)) : (Op.equalIn (d + 1) t (.iface tx vx) .nilIface).run P w = .ok false w := by simp [Op.equalIn, run_underlying hu]
theorem eqN_ptr (t : TypeId) {el : TypeId} (pa : Option Addr) (hu : P.underlying t = some (.pointer el)) : (Op.equalIn (d + 1) t (.pointer pa) (.pointer none)).run P w = .ok pa.isNone w := by cases pa <;> simp [Op.equalIn, run_underlying hu]
theorem eqN_sl (t : TypeId) {el : TypeId} (a : Option Addr) (n c : Nat) (hu : P.underlying t = some (.slice el)) : (Op.equalIn (d + 1) t (.slice a n c) (.slice none 0 0)).run P w = .ok a.isNone w := by cases a <;> simp [Op.equalIn, run_underlying hu]
theorem eqN_fnn (t : TypeId) {ps rs : Array TypeId} {va : Bool} (hu : P.underlying t = some (.func ps rs va)) : (Op.equalIn (d + 1) t .nilFunc .nilFunc).run P w = .ok true w := by simp [Op.equalIn, run_underlying hu]
theorem eqN_fn (t : TypeId) {ps rs : Array TypeId} {va : Bool} (f : Fn) (x y : Array Value) (hu : P.underlying t = some (.func ps rs va)) : (Op.equalIn (d + 1) t (.func f x y) .nilFunc).run P w = .ok false w := by simp [Op.equalIn, run_underlying hu]
end

/-- '==' and '!=' against nil, by what the model's '==' says. -/
theorem bin_nil {P : Program} {op : BinOp} {t yT ty : TypeId} {x : Operand} {c u : Value} {e : EEnv} {ev : EV} {β : Nat → Nat} {g b : Bool} (hg : isEq op = some g)
    (r1 : (denE β e).rho x = u) (hgd : ∀ op, eqGuard op t x (.const c) u c = pure ()) (hb : ∀ op', isEq op' = some false → binOp .eql t u c = (do pure (.bool (← Op.equal t u c)))) (hb' : binOp .neq t u c = (do pure (.bool (!(← Op.equal t u c)))))
    (he : ∀ w, (Op.equal t u c).run P w = .ok b w) (hev : ev.den β = .bool (cond g (!b) b)) :
    ∀ w, (execOp (denE β e).rho (mkOper (.binOp op t x (.const c) yT) ty)).run P w = .ok (.value (ev.den β)) w := by
  intro w
  have r2 : (denE β e).rho (.const c) = c := rfl
  unfold isEq at hg
  split at hg
  · simp only [Option.some.injEq] at hg; subst hg
    simp only [execOp, mkOper, r1, r2, hgd, hb .eql rfl, hev]
    simp [he]
  · simp only [Option.some.injEq] at hg; subst hg
    simp only [execOp, mkOper, r1, r2, hgd, hb', hev]
    simp [he]
  · cases hg

theorem toBin_sound {P : Program} {op : BinOp} {t yT ty : TypeId} {x y : Operand} {i : MI} {e : EEnv} {ev : EV} {β : Nat → Nat} (hmi : toBin P op t x y = some i) (hs : i.sil e = some ev) :
    ((denE β e).knows x ∧ (denE β e).knows y) ∧ ∀ w, (execOp (denE β e).rho (mkOper (.binOp op t x y yT) ty)).run P w = .ok (.value (ev.den β)) w := by
  unfold toBin at hmi
  split at hmi
  · simp only [Option.some.injEq] at hmi; subst hmi
    exact binI_sound hs
  · -- strings
    have sc : ∀ (hs : (MI.scmp op x y).sil e = some ev), (∀ (a b : ByteArray) (r : EV), scmpV op a b = some r → binOp op t (.string a) (.string b) = pure (r.den β)) →
        ((denE β e).knows x ∧ (denE β e).knows y) ∧ ∀ w, (execOp (denE β e).rho (mkOper (.binOp op t x y yT) ty)).run P w = .ok (.value (ev.den β)) w := fun hs hop => by
      simp only [MI.sil] at hs
      split at hs
      · rename_i a b ha hb
        obtain ⟨k1, r1⟩ := opV_sound (asS_some ha) β
        obtain ⟨k2, r2⟩ := opV_sound (asS_some hb) β
        refine ⟨⟨k1, k2⟩, fun w => ?_⟩
        simp only [execOp, mkOper, r1, r2, hop a b ev hs, eqGuard_at_string]
        rfl
      · cases hs
    split at hmi
    · simp only [Option.some.injEq] at hmi; subst hmi; cases hs
    all_goals first
      | (simp only [Option.some.injEq] at hmi; subst hmi; exact sc hs fun a b r hr => by simp only [scmpV, Option.some.injEq] at hr; subst hr; simp [binOp, Op.stringOp, EV.den])
      | cases hmi
  · rename_i hu -- bools
    simp only [Option.map_eq_some_iff] at hmi
    obtain ⟨g, hg, rfl⟩ := hmi
    simp only [MI.sil, beqV] at hs
    split at hs
    · rename_i a b ha hb
      obtain ⟨k1, r1⟩ := opV_sound (asB_some ha) β
      obtain ⟨k2, r2⟩ := opV_sound (asB_some hb) β
      refine ⟨⟨k1, k2⟩, fun w => ?_⟩
      have he : (Op.equal t (.bool a) (.bool b)).run P w = .ok (a == b) w := run_equalIn_bool' w 9999 t a b hu
      unfold isEq at hg
      split at hg
      · simp only [Option.some.injEq] at hg; subst hg
        simp only [cond_false, Option.some.injEq] at hs; subst hs
        simp only [execOp, mkOper, r1, r2, eqGuard_at_bool]
        simp [binOp, he, EV.den]
      · simp only [Option.some.injEq] at hg; subst hg
        simp only [cond_true, Option.some.injEq] at hs; subst hs
        simp only [execOp, mkOper, r1, r2, eqGuard_at_bool]
        simp [binOp, he, EV.den]
      · cases hg
    · cases hs
  · rename_i ms hu -- interfaces
    split at hmi
    · rename_i hy
      simp only [Option.map_eq_some_iff] at hmi
      obtain ⟨g, hg, rfl⟩ := hmi
      have ey : y = .const .nilIface := by unfold isNilIf at hy; split at hy <;> simp_all
      subst ey
      simp only [MI.sil, ifnilV] at hs
      split at hs
      · rename_i hx
        obtain ⟨k1, r1⟩ := opV_sound hx β
        exact ⟨⟨k1, trivial⟩, bin_nil (b := true) hg r1 (fun op => eqGuard_nil_constR ..) (fun _ _ => rfl) rfl (fun w => eqN_ifn w 9999 t hu) (by cases g <;> (simp only [cond_true, cond_false, Option.some.injEq] at hs; subst hs; rfl))⟩
      · rename_i tx vx hx
        obtain ⟨k1, r1⟩ := opV_sound hx β
        exact ⟨⟨k1, trivial⟩, bin_nil (b := false) hg r1 (fun op => eqGuard_at_iface ..) (fun _ _ => rfl) rfl (fun w => eqN_if w 9999 t tx vx hu) (by cases g <;> (simp only [cond_true, cond_false, Option.some.injEq] at hs; subst hs; rfl))⟩
      · cases hs
    · cases hmi
  · rename_i el hu -- pointers
    split at hmi
    · rename_i hy
      simp only [Option.map_eq_some_iff] at hmi
      obtain ⟨g, hg, rfl⟩ := hmi
      have ey : y = .const (.pointer none) := by unfold isNilPtr at hy; split at hy <;> simp_all
      subst ey
      simp only [MI.sil, ptnilV] at hs
      have fin : ∀ (pa : Option Addr) (k1 : (denE β e).knows x) (r1 : (denE β e).rho x = .pointer pa) (hev : ev.den β = .bool (cond g (!pa.isNone) pa.isNone)),
          ((denE β e).knows x ∧ (denE β e).knows (.const (.pointer none))) ∧ ∀ w, (execOp (denE β e).rho (mkOper (.binOp op t x (.const (.pointer none)) yT) ty)).run P w = .ok (.value (ev.den β)) w := fun pa k1 r1 hev =>
        ⟨⟨k1, trivial⟩, bin_nil hg r1 (fun op => eqGuard_at_pointer ..) (fun _ _ => rfl) rfl (fun w => eqN_ptr w 9999 t pa hu) hev⟩
      split at hs
      · rename_i hx
        obtain ⟨k1, r1⟩ := opE_sound hx β
        exact fin none k1 r1 (by cases g <;> (simp only [cond_true, cond_false, Option.some.injEq] at hs; subst hs; rfl))
      · rename_i a hx
        obtain ⟨k1, r1⟩ := opE_sound hx β
        exact fin (some a) k1 r1 (by cases g <;> (simp only [cond_true, cond_false, Option.some.injEq] at hs; subst hs; rfl))
      · rename_i bi bo hx
        obtain ⟨k1, r1⟩ := opE_sound hx β
        exact fin _ k1 r1 (by cases g <;> (simp only [cond_true, cond_false, Option.some.injEq] at hs; subst hs; rfl))
      · cases hs
    · cases hmi
  · rename_i el hu -- slices
    split at hmi
    · rename_i hy
      simp only [Option.map_eq_some_iff] at hmi
      obtain ⟨g, hg, rfl⟩ := hmi
      have ey : y = .const (.slice none 0 0) := by unfold isNilSl at hy; split at hy <;> simp_all
      subst ey
      simp only [MI.sil, slnilV] at hs
      split at hs
      · rename_i n c hx
        obtain ⟨k1, r1⟩ := opV_sound hx β
        exact ⟨⟨k1, trivial⟩, bin_nil (b := true) hg r1 (fun op => eqGuard_at_slice ..) (fun _ _ => rfl) rfl (fun w => eqN_sl w 9999 t none n c hu) (by cases g <;> (simp only [cond_true, cond_false, Option.some.injEq] at hs; subst hs; rfl))⟩
      · rename_i a n c hx
        obtain ⟨k1, r1⟩ := opV_sound hx β
        exact ⟨⟨k1, trivial⟩, bin_nil (b := false) hg r1 (fun op => eqGuard_at_slice ..) (fun _ _ => rfl) rfl (fun w => eqN_sl w 9999 t (some a) n c hu) (by cases g <;> (simp only [cond_true, cond_false, Option.some.injEq] at hs; subst hs; rfl))⟩
      · cases hs
    · cases hmi
  · rename_i ps rs va hu -- functions
    split at hmi
    · rename_i hy
      simp only [Option.map_eq_some_iff] at hmi
      obtain ⟨g, hg, rfl⟩ := hmi
      have ey : y = .const .nilFunc := by unfold isNilFn at hy; split at hy <;> simp_all
      subst ey
      simp only [MI.sil, fnnilV] at hs
      split at hs
      · rename_i hx
        obtain ⟨k1, r1⟩ := opV_sound hx β
        exact ⟨⟨k1, trivial⟩, bin_nil (b := true) hg r1 (fun op => eqGuard_at_nilFunc ..) (fun _ _ => rfl) rfl (fun w => eqN_fnn w 9999 t hu) (by cases g <;> (simp only [cond_true, cond_false, Option.some.injEq] at hs; subst hs; rfl))⟩
      · rename_i fn p q hx
        obtain ⟨k1, r1⟩ := opV_sound hx β
        exact ⟨⟨k1, trivial⟩, bin_nil (b := false) hg r1 (fun op => eqGuard_at_func ..) (fun _ _ => rfl) rfl (fun w => eqN_fn w 9999 t fn p q hu) (by cases g <;> (simp only [cond_true, cond_false, Option.some.injEq] at hs; subst hs; rfl))⟩
      · cases hs
    · cases hmi
  · rename_i fs hu -- structs
    split at hmi
    · cases hmi
    · rename_i hst
      simp only [Bool.or_eq_true, not_or, Bool.not_eq_true] at hst
      split at hmi
      · rename_i g ks hg hks
        simp only [Option.some.injEq] at hmi; subst hmi
        simp only [MI.sil] at hs
        split at hs
        · rename_i us vs ha hb
          obtain ⟨k1, r1⟩ := opV_sound (asA_some ha) β
          obtain ⟨k2, r2⟩ := opV_sound (asA_some hb) β
          split at hs
          · rename_i r hr
            refine ⟨⟨k1, k2⟩, fun w => ?_⟩
            have hfo : P.fieldsOf t = fs := by simp [Program.fieldsOf, hu]
            have he : (Op.equalIn 10000 t (.agg us.toArray) (.agg vs.toArray)).run P w = .ok r w := by
              rw [run_equalIn_agg w 9999 t _ _ (by rw [hfo]; exact hu) hst.1, hfo]
              exact eqCells_sound 9998 w fs.toList 0 ks us vs r hks rfl rfl hr
            have hgd := run_eqGuard_agg (P := P) w op t x y us.toArray vs.toArray hst.2
            unfold isEq at hg
            split at hg
            · simp only [Option.some.injEq] at hg; subst hg
              simp only [cond_false, Option.some.injEq] at hs; subst hs
              simp only [execOp, mkOper, r1, r2]
              simp [hgd, run_eql_struct, he, EV.den]
            · simp only [Option.some.injEq] at hg; subst hg
              simp only [cond_true, Option.some.injEq] at hs; subst hs
              simp only [execOp, mkOper, r1, r2]
              simp [hgd, run_neq_struct, he, EV.den]
            · cases hg
          · cases hs
        · cases hs
      · cases hmi
  · cases hmi

theorem sil_sound {P : Program} {o : Op} {ty : TypeId} {i : MI} {e : EEnv} {ev : EV} (β : Nat → Nat) (h : toInstr P o ty = some i) (hs : i.sil e = some ev) :
    (∀ x ∈ o.operands, (denE β e).knows x) ∧ ∀ w, (execOp (denE β e).rho (mkOper o ty)).run P w = .ok (.value (ev.den β)) w := by
  have hmi : toMI P o ty = some i := by
    cases hm : toMI P o ty with
    | none => exact (dead h hm hs).elim
    | some j => unfold toInstr at h; rw [hm] at h; exact h
  have one : ∀ {x : Operand} {v : Value}, opV e x = some v → ∀ y ∈ #[x], (denE β e).knows y := fun h y hy => by
    rw [Array.mem_singleton.1 hy]; exact (opV_sound h β).1
  have two' : ∀ {x y : Operand}, (denE β e).knows x → (denE β e).knows y → ∀ z ∈ #[x, y], (denE β e).knows z := fun h1 h2 z hz => by
    simp only [List.mem_toArray, List.mem_cons, List.not_mem_nil, or_false] at hz
    rcases hz with rfl | rfl
    · exact h1
    · exact h2
  cases o <;> simp only [toMI] at hmi <;> try (cases hmi; done)
  case move x =>
    simp only [Option.some.injEq] at hmi; subst hmi
    obtain ⟨h1, h2⟩ := opE_sound (show opE e x = some ev from hs) β
    exact ⟨fun y hy => by rw [Array.mem_singleton.1 hy]; exact h1, fun w => by simp only [execOp, mkOper, h2]; rfl⟩
  case assign x =>
    simp only [Option.some.injEq] at hmi; subst hmi
    obtain ⟨h1, h2⟩ := opE_sound (show opE e x = some ev from hs) β
    exact ⟨fun y hy => by rw [Array.mem_singleton.1 hy]; exact h1, fun w => by simp only [execOp, mkOper, h2]; rfl⟩
  case pick c a b =>
    simp only [Option.some.injEq] at hmi; subst hmi
    simp only [MI.sil] at hs
    have fin : ∀ (t : Bool) (ec u v : EV), opE e c = some ec → ec.den β = .bool t → opE e a = some u → opE e b = some v → ev = (if t then u else v) →
        (∀ x ∈ (Op.pick c a b).operands, (denE β e).knows x) ∧ ∀ w, (execOp (denE β e).rho (mkOper (.pick c a b) ty)).run P w = .ok (.value (ev.den β)) w := fun t ec u v hc hd ha hb he => by
      obtain ⟨k1, r1⟩ := opE_sound hc β
      obtain ⟨k2, r2⟩ := opE_sound ha β
      obtain ⟨k3, r3⟩ := opE_sound hb β
      refine ⟨fun x hx => ?_, fun w => ?_⟩
      · simp only [Op.operands, List.mem_toArray, List.mem_cons, List.not_mem_nil, or_false] at hx
        rcases hx with rfl | rfl | rfl
        · exact k1
        · exact k2
        · exact k3
      · simp only [execOp, mkOper, r1, r2, r3, hd, he]
        cases t <;> rfl
    split at hs
    · rename_i hc
      split at hs
      · rename_i v hb; exact fin true .t ev v hc rfl hs hb rfl
      · cases hs
    · rename_i hc
      split at hs
      · rename_i u ha; exact fin false .f u ev hc rfl ha hs rfl
      · cases hs
    · cases hs
  case build t parts =>
    split at hmi
    · rename_i z ps hz hps
      simp only [Option.some.injEq] at hmi; subst hmi
      simp only [MI.sil] at hs
      split at hs
      · rename_i vs hvs
        split at hs
        · rename_i cs hcs
          simp only [Option.some.injEq] at hs; subst hs
          unfold toParts at hps
          split at hps
          · rename_i place hplace
            obtain ⟨h1, h2⟩ := parts_rel β parts.toList ps vs hps hvs
            refine ⟨fun x hx => ?_, fun w => ?_⟩
            · simp only [Op.operands, List.mem_toArray, List.mem_map] at hx
              obtain ⟨p, hp, rfl⟩ := hx
              exact h1 p hp
            · have hb := built_of hz hplace h2 hcs
              have : (parts.map fun p => (p.1, (denE β e).rho p.2)).toList = parts.toList.map fun p => (p.1, (denE β e).rho p.2) := by simp
              rw [← this] at hb
              simp only [execOp, mkOper, Sem.run_bind]
              rw [run_build w t _ _ hb]
              rfl
          · cases hps
        · cases hs
      · cases hs
    · cases hmi
  case nilCheck x =>
    simp only [Option.some.injEq] at hmi; subst hmi
    simp only [MI.sil] at hs
    unfold nilchkE at hs
    split at hs
    · rename_i i o hx
      simp only [Option.some.injEq] at hs; subst hs
      obtain ⟨h1, h2⟩ := opE_sound hx β
      exact ⟨fun y hy => by rw [Array.mem_singleton.1 hy]; exact h1, fun w => by simp only [execOp, mkOper, h2]; rfl⟩
    · rename_i a hx
      simp only [Option.some.injEq] at hs; subst hs
      obtain ⟨h1, h2⟩ := opE_sound hx β
      exact ⟨fun y hy => by rw [Array.mem_singleton.1 hy]; exact h1, fun w => by simp only [execOp, mkOper, h2]; rfl⟩
    · rename_i f p q hx
      simp only [Option.some.injEq] at hs; subst hs
      obtain ⟨h1, h2⟩ := opE_sound hx β
      exact ⟨fun y hy => by rw [Array.mem_singleton.1 hy]; exact h1, fun w => by simp only [execOp, mkOper, h2]; rfl⟩
    · cases hs
  case binOp op t x y yT =>
    obtain ⟨h1, h2⟩ := toBin_sound (yT := yT) (ty := ty) (β := β) hmi hs
    exact ⟨two' h1.1 h1.2, h2⟩
  case unOp op t x =>
    have kn : ∀ (h : (denE β e).knows x), ∀ z ∈ (Op.unOp op t x).operands, (denE β e).knows z := fun h z hz => by rw [Array.mem_singleton.1 hz]; exact h
    split at hmi
    · simp only [Option.some.injEq] at hmi; subst hmi
      simp only [MI.sil] at hs
      unfold notEV at hs
      split at hs
      all_goals first
        | (rename_i hx; simp only [Option.some.injEq] at hs; subst hs; obtain ⟨h1, h2⟩ := opE_sound hx β; exact ⟨kn h1, fun w => by simp only [execOp, mkOper, h2]; rfl⟩)
        | cases hs
    · simp only [Option.some.injEq] at hmi; subst hmi
      simp only [MI.sil] at hs
      split at hs
      · rename_i k a ha
        simp only [Option.some.injEq] at hs; subst hs
        obtain ⟨h1, h2⟩ := opV_sound (asI_some ha) β
        exact ⟨kn h1, fun w => by simp only [execOp, mkOper, h2]; rfl⟩
      · cases hs
    · simp only [Option.some.injEq] at hmi; subst hmi
      simp only [MI.sil] at hs
      split at hs
      · rename_i k a ha
        simp only [Option.some.injEq] at hs; subst hs
        obtain ⟨h1, h2⟩ := opV_sound (asI_some ha) β
        exact ⟨kn h1, fun w => by simp only [execOp, mkOper, h2]; rfl⟩
      · cases hs
    · cases hmi
  case convert src dst x =>
    have kn : ∀ (h : (denE β e).knows x), ∀ z ∈ (Op.convert src dst x).operands, (denE β e).knows z := fun h z hz => by rw [Array.mem_singleton.1 hz]; exact h
    unfold toConv at hmi
    split at hmi
    · rename_i k1 k hu1 hu2
      simp only [Option.some.injEq] at hmi; subst hmi
      simp only [MI.sil] at hs
      split at hs
      · rename_i k' a ha
        simp only [Option.some.injEq] at hs; subst hs
        obtain ⟨h1, h2⟩ := opV_sound (asI_some ha) β
        refine ⟨kn h1, fun w => ?_⟩
        simp only [execOp, mkOper, h2]
        simp [convert, run_underlying hu1, run_underlying hu2, Conv.intToInt, EV.den]
      · cases hs
    · rename_i hu1 hu2
      simp only [Option.some.injEq] at hmi; subst hmi
      simp only [MI.sil] at hs
      split at hs
      · rename_i a ha
        simp only [Option.some.injEq] at hs; subst hs
        obtain ⟨h1, h2⟩ := opV_sound (asS_some ha) β
        refine ⟨kn h1, fun w => ?_⟩
        simp only [execOp, mkOper, h2]
        simp [convert, run_underlying hu1, run_underlying hu2, EV.den]
      · cases hs
    · split at hmi
      · simp only [Option.some.injEq] at hmi; subst hmi; cases hs
      · cases hmi
    · split at hmi
      · simp only [Option.some.injEq] at hmi; subst hmi; cases hs
      · cases hmi
    · cases hmi
  case makeInterface t x =>
    have kn : ∀ (h : (denE β e).knows x), ∀ z ∈ (Op.makeInterface t x).operands, (denE β e).knows z := fun h z hz => by rw [Array.mem_singleton.1 hz]; exact h
    split at hmi
    · cases hmi
    · cases hmi
    · rename_i h1 h2
      simp only [Option.some.injEq] at hmi; subst hmi
      simp only [MI.sil] at hs
      split at hs
      · rename_i u hu
        simp only [Option.some.injEq] at hs; subst hs
        obtain ⟨k1, r1⟩ := opV_sound hu β
        refine ⟨kn k1, fun w => ?_⟩
        simp only [execOp, mkOper, r1]
        have hc : P.concrete t = true := by
          unfold Program.concrete
          split
          · rename_i ms hms; exact (h1 ms hms).elim
          · rename_i hn; exact (h2 hn).elim
          · rfl
        simp [run_makeInterface w t u hc, EV.den]
      · cases hs
  case makeFunc fn first captured =>
    simp only [Option.some.injEq] at hmi; subst hmi
    simp only [MI.sil] at hs
    split at hs
    · rename_i us vs hu hv
      simp only [Option.some.injEq] at hs; subst hs
      obtain ⟨k1, r1⟩ := opVs_sound hu β
      obtain ⟨k2, r2⟩ := opVs_sound hv β
      refine ⟨fun z hz => ?_, fun w => ?_⟩
      · simp only [Op.operands, Array.mem_append] at hz
        rcases hz with hz | hz
        · exact k1 z (by simpa using hz)
        · exact k2 z (by simpa using hz)
      · simp only [execOp, mkOper, Instr.makeFunc, EV.den]
        have e1 : first.map (denE β e).rho = us.toArray := Array.toList_inj.1 (by rw [Array.toList_map]; exact r1)
        have e2 : captured.map (denE β e).rho = vs.toArray := Array.toList_inj.1 (by rw [Array.toList_map]; exact r2)
        rw [e1, e2]; rfl
    · cases hs
  case fieldAddr s x f =>
    have kn : ∀ (h : (denE β e).knows x), ∀ z ∈ (Op.fieldAddr s x f).operands, (denE β e).knows z := fun h z hz => by rw [Array.mem_singleton.1 hz]; exact h
    unfold toFadr at hmi
    split at hmi
    · rename_i fs hu
      split at hmi
      · rename_i fd hf
        split at hmi
        · rename_i n hn
          split at hmi
          · cases hmi
          · rename_i h0
            simp only [Option.some.injEq] at hmi; subst hmi
            simp only [MI.sil] at hs
            have fin : ∀ (b o : Nat), (denE β e).knows x → (denE β e).rho x = .pointer (some ⟨b, o, none⟩) → ev.den β = .pointer (some ⟨b, o + fd.offset, none⟩) →
                (∀ z ∈ (Op.fieldAddr s x f).operands, (denE β e).knows z) ∧ ∀ w, (execOp (denE β e).rho (mkOper (.fieldAddr s x f) ty)).run P w = .ok (.value (ev.den β)) w := fun b o k1 r1 hd => by
              refine ⟨kn k1, fun w => ?_⟩
              simp only [execOp, mkOper, r1, hd]
              simp [Instr.fieldAt, run_underlying hu, hf, Instr.sureAddr, fieldPlace, size_of hn, h0, Addr.add_lit]
            unfold addOff at hs
            split at hs
            · rename_i bi o hx
              simp only [Option.some.injEq] at hs; subst hs
              obtain ⟨h1, h2⟩ := opE_sound hx β
              exact fin _ o h1 h2 rfl
            · rename_i b o hx
              simp only [Option.some.injEq] at hs; subst hs
              obtain ⟨h1, h2⟩ := opE_sound hx β
              exact fin b o h1 h2 rfl
            · cases hs
        · cases hmi
      · cases hmi
    · cases hmi
  case field t x f =>
    have kn : ∀ (h : (denE β e).knows x), ∀ z ∈ (Op.field t x f).operands, (denE β e).knows z := fun h z hz => by rw [Array.mem_singleton.1 hz]; exact h
    unfold toFld at hmi
    split at hmi
    · rename_i fs hu
      split at hmi
      · rename_i fd hf
        split at hmi
        · rename_i n hg hn
          simp only [Option.some.injEq] at hmi; subst hmi
          simp only [MI.sil] at hs
          split at hs
          · rename_i vs ha
            split at hs
            · rename_i r hr
              simp only [Option.some.injEq] at hs; subst hs
              obtain ⟨k1, r1⟩ := opV_sound (asA_some ha) β
              obtain ⟨e1, e2⟩ := subL_some _ _ _ _ hr
              refine ⟨kn k1, fun w => ?_⟩
              have e3 : vs.toArray.extract fd.offset (fd.offset + n) = r.toArray := by
                rw [e1]
                apply Array.toList_inj.1
                simp [List.extract_eq_take_drop]
              simp only [execOp, mkOper, r1]
              simp [Instr.field, run_underlying hu, hf, asAgg, part, und_of_agg hg, size_of hn, EV.den, pure]
              exact e1.symm
            · cases hs
          · cases hs
        · rename_i hg
          simp only [Option.some.injEq] at hmi; subst hmi
          simp only [MI.sil] at hs
          split at hs
          · rename_i vs ha
            split at hs
            · rename_i v hv
              simp only [Option.some.injEq] at hs; subst hs
              obtain ⟨k1, r1⟩ := opV_sound (asA_some ha) β
              rw [nthL_eq] at hv
              refine ⟨kn k1, fun w => ?_⟩
              simp only [execOp, mkOper, r1]
              simp [Instr.field, run_underlying hu, hf, asAgg, part, und_of_agg hg, EV.den, pure, hv]
            · cases hs
          · cases hs
        · cases hmi
      · cases hmi
    · cases hmi
  case indexAddr t x j =>
    unfold toIdx at hmi
    split at hmi
    · rename_i n el hu
      split at hmi
      · rename_i sz hsz
        split at hmi
        · rename_i m hm
          split at hmi
          · rename_i hlt
            simp only [Option.some.injEq] at hmi; subst hmi
            obtain ⟨kd, ej⟩ : ∃ kd, j = .const (.int kd (m : Int)) := by
              unfold constNat at hm
              split at hm
              · rename_i kd m'
                simp only [Option.some.injEq] at hm; subst hm
                exact ⟨kd, rfl⟩
              · cases hm
            subst ej
            simp only [MI.sil] at hs
            have fin : ∀ (b o : Nat), (denE β e).knows x → (denE β e).rho x = .pointer (some ⟨b, o, none⟩) → ev.den β = .pointer (some ⟨b, o + m * sz, none⟩) →
                (∀ z ∈ (Op.indexAddr t x (.const (.int kd (m : Int)))).operands, (denE β e).knows z) ∧ ∀ w, (execOp (denE β e).rho (mkOper (.indexAddr t x (.const (.int kd (m : Int)))) ty)).run P w = .ok (.value (ev.den β)) w := fun b o k1 r1 hd => by
              refine ⟨two' k1 trivial, fun w => ?_⟩
              have r2 : (denE β e).rho (.const (.int kd (m : Int))) = .int kd m := rfl
              have h1 : (0 : Int) ≤ m ∧ (m : Int) < n := ⟨by omega, by omega⟩
              simp only [execOp, mkOper, r1, r2, hd]
              simp [Instr.indexAt, run_underlying hu, asIntOf, Instr.sureAddr, size_of hsz, h1, hlt, Addr.add_lit, pure]
            unfold addOff at hs
            split at hs
            · rename_i bi o hx
              simp only [Option.some.injEq] at hs; subst hs
              obtain ⟨h1, h2⟩ := opE_sound hx β
              exact fin _ o h1 h2 rfl
            · rename_i b o hx
              simp only [Option.some.injEq] at hs; subst hs
              obtain ⟨h1, h2⟩ := opE_sound hx β
              exact fin b o h1 h2 rfl
            · cases hs
          · simp only [Option.some.injEq] at hmi; subst hmi; cases hs
        · simp only [Option.some.injEq] at hmi; subst hmi; cases hs
      · cases hmi
    · simp only [Option.map_eq_some_iff] at hmi
      obtain ⟨_, _, rfl⟩ := hmi
      cases hs
    · cases hmi
  case extract x ix =>
    simp only [Option.some.injEq] at hmi; subst hmi
    simp only [MI.sil] at hs
    split at hs
    · rename_i vs hv
      split at hs
      · rename_i v hn
        simp only [Option.some.injEq] at hs; subst hs
        obtain ⟨k1, r1⟩ := opV_sound (asT_some hv) β
        rw [nthL_eq] at hn
        refine ⟨fun z hz => by rw [Array.mem_singleton.1 hz]; exact k1, fun w => ?_⟩
        simp only [execOp, mkOper, r1]
        simp [Instr.extract, hn, EV.den, pure]
      · cases hs
    · cases hs
  case call c =>
    unfold toCall at hmi
    split at hmi
    · rename_i b hb
      have hc : ∀ (xs : List Operand), c.args.toList = xs → (∀ z ∈ (Op.call c).operands, z ∈ xs) := fun xs hx z hz => by
        simp only [Op.operands, Call.operands, hb, Array.mem_append] at hz
        rcases hz with hz | hz
        · simp at hz
        · rw [← hx]; simpa using hz
      unfold toBuiltin at hmi
      split at hmi
      · rename_i t x hat hargs
        have ea : c.args = #[x] := Array.toList_inj.1 (by simpa using hargs)
        have et : c.argTypes = #[t] := Array.toList_inj.1 (by simpa using hat)
        have kn : (denE β e).knows x → ∀ z ∈ (Op.call c).operands, (denE β e).knows z := fun h z hz => by
          have := hc [x] hargs z hz
          rw [List.mem_singleton.1 this]; exact h
        split at hmi
        · rename_i hu
          simp only [Option.some.injEq] at hmi; subst hmi
          simp only [MI.sil] at hs
          split at hs
          · rename_i s hsv
            simp only [Option.some.injEq] at hs; subst hs
            obtain ⟨k1, r1⟩ := opV_sound (asS_some hsv) β
            refine ⟨kn k1, fun w => ?_⟩
            simp only [execOp, mkOper]
            simp [resolve, hb, ea, et, r1, invoke, builtin, Builtin.len_, run_underlying hu, goInt, EV.den, pure]
          · cases hs
        · rename_i el hu
          simp only [Option.some.injEq] at hmi; subst hmi
          simp only [MI.sil] at hs
          split at hs
          · rename_i a n cp hsv
            simp only [Option.some.injEq] at hs; subst hs
            obtain ⟨k1, r1⟩ := opV_sound (asSl_some hsv) β
            refine ⟨kn k1, fun w => ?_⟩
            simp only [execOp, mkOper]
            simp [resolve, hb, ea, et, r1, invoke, builtin, Builtin.len_, run_underlying hu, goInt, EV.den, pure]
          · cases hs
        · simp only [Option.some.injEq] at hmi; subst hmi; cases hs
        · cases hmi
      · rename_i t x hat hargs
        have ea : c.args = #[x] := Array.toList_inj.1 (by simpa using hargs)
        have et : c.argTypes = #[t] := Array.toList_inj.1 (by simpa using hat)
        have kn : (denE β e).knows x → ∀ z ∈ (Op.call c).operands, (denE β e).knows z := fun h z hz => by
          have := hc [x] hargs z hz
          rw [List.mem_singleton.1 this]; exact h
        split at hmi
        · rename_i el hu
          simp only [Option.some.injEq] at hmi; subst hmi
          simp only [MI.sil] at hs
          split at hs
          · rename_i a n cp hsv
            simp only [Option.some.injEq] at hs; subst hs
            obtain ⟨k1, r1⟩ := opV_sound (asSl_some hsv) β
            refine ⟨kn k1, fun w => ?_⟩
            simp only [execOp, mkOper]
            simp [resolve, hb, ea, et, r1, invoke, builtin, Builtin.cap_, run_underlying hu, goInt, EV.den, pure]
          · cases hs
        · cases hmi
      · rename_i x y hargs
        have ea : c.args = #[x, y] := Array.toList_inj.1 (by simpa using hargs)
        split at hmi
        · rename_i kd hu
          simp only [Option.some.injEq] at hmi; subst hmi
          simp only [MI.sil] at hs
          split at hs
          · rename_i k a k' b hx hy
            obtain ⟨k1, r1⟩ := opV_sound (asI_some hx) β
            obtain ⟨k2, r2⟩ := opV_sound (asI_some hy) β
            simp only [cond_true, Option.some.injEq] at hs; subst hs
            refine ⟨fun z hz => ?_, fun w => ?_⟩
            · have := hc [x, y] hargs z hz
              simp only [List.mem_cons, List.not_mem_nil, or_false] at this
              rcases this with rfl | rfl
              · exact k1
              · exact k2
            · simp only [execOp, mkOper]
              simp [resolve, hb, ea, r1, r2, invoke, builtin, Builtin.min_, Builtin.min2, EV.den, pure]
          · cases hs
        · cases hmi
      · rename_i x y hargs
        have ea : c.args = #[x, y] := Array.toList_inj.1 (by simpa using hargs)
        split at hmi
        · rename_i kd hu
          simp only [Option.some.injEq] at hmi; subst hmi
          simp only [MI.sil] at hs
          split at hs
          · rename_i k a k' b hx hy
            obtain ⟨k1, r1⟩ := opV_sound (asI_some hx) β
            obtain ⟨k2, r2⟩ := opV_sound (asI_some hy) β
            simp only [cond_false, Option.some.injEq] at hs; subst hs
            refine ⟨fun z hz => ?_, fun w => ?_⟩
            · have := hc [x, y] hargs z hz
              simp only [List.mem_cons, List.not_mem_nil, or_false] at this
              rcases this with rfl | rfl
              · exact k1
              · exact k2
            · simp only [execOp, mkOper]
              simp [resolve, hb, ea, r1, r2, invoke, builtin, Builtin.max_, Builtin.max2, EV.den, pure]
          · cases hs
        · cases hmi
      all_goals first
        | (simp only [Option.some.injEq] at hmi; subst hmi; cases hs; done)
        | cases hmi
    · split at hmi
      · simp only [Option.some.injEq] at hmi; subst hmi; cases hs
      · cases hmi
    · simp only [Option.some.injEq] at hmi; subst hmi; cases hs
    · cases hmi
  all_goals first
    | ((repeat' split at hmi) <;> first | (cases hmi; done) | (simp only [Option.some.injEq] at hmi; subst hmi; cases hs; done) | (simp only [Option.map_eq_some_iff] at hmi; obtain ⟨_, _, rfl⟩ := hmi; cases hs; done))
    | (unfold toBldS at hmi; (repeat' split at hmi) <;> first | (cases hmi; done) | (simp only [Option.some.injEq] at hmi; subst hmi; cases hs; done))
    | (unfold toSl at hmi; (repeat' split at hmi) <;> first | (cases hmi; done) | (simp only [Option.some.injEq] at hmi; subst hmi; cases hs; done) | (simp only [Option.map_eq_some_iff] at hmi; obtain ⟨_, _, rfl⟩ := hmi; cases hs; done))

end Go.HM
