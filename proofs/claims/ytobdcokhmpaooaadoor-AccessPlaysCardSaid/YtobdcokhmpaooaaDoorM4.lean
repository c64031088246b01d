/- The silent run: from event to event. -/
import Derived.Test.YtobdcokhmpaooaaDoorM3
namespace Go.HM
open Go
set_option linter.unusedSimpArgs false
set_option linter.unusedVariables false

abbrev LM := List (Nat × List Value)

def LM.get : LM → Nat → Option (List Value)
  | [], _ => none
  | (d, v) :: e, t => cond (Nat.beq d t) (some v) (LM.get e t)

/-- What goes on behind a piece of code. -/
inductive KF where
  | seq (c : MC)
  | blk (id : Nat)
  | lp (I : Env → World → Nat → Prop) (n : Nat)

/-- Where a run stands: (in a region in an open order: which boxes are held), the code, what goes on behind it, the slots, the boxes. -/
structure Cfg where
  md : Option LM
  c : MC
  ks : List KF
  e : EEnv
  lm : LM

def pushE (d : Option Nat) (v : EV) (e : EEnv) (lm : LM) : Option (EEnv × LM) :=
  match d with
  | some d => some ((d, v) :: e, lm)
  | none => some (e, lm)

def goOn (md : Option LM) (d : Option Nat) (v : EV) (k : MC) (ks : List KF) (e : EEnv) (lm : LM) : Option Cfg :=
  match d with
  | some d => some ⟨md, k, ks, (d, v) :: e, lm⟩
  | none => some ⟨md, k, ks, e, lm⟩

def mem (d : Nat) : List Nat → Bool
  | [] => false
  | x :: l => cond (Nat.beq x d) true (mem d l)

/-- The boxes that may be read: in a region in an open order, those that are held. -/
def rdLM (md : Option LM) (lm : LM) : LM :=
  match md with
  | none => lm
  | some h => h

def heldBy (md : Option LM) (d : Nat) : Bool :=
  match md with
  | none => false
  | some h => match LM.get h d with
    | some _ => true
    | none => false

/-- A local box of one's own: where, and what is in it then. -/
def boxSt (md : Option LM) (lm : LM) (u : Option EV) (vs : List Value) : Option LM :=
  match u with
  | some (.box i o) => cond (heldBy md i) none (match LM.get lm i with
    | some cs => match putL o vs cs with
      | some cs' => some ((i, cs') :: lm)
      | none => none
    | none => none)
  | _ => none

/-- No slot holds a place in this box. -/
def noBox (d : Nat) : EEnv → Bool
  | [] => true
  | (_, .box i _) :: e => cond (Nat.beq i d) false (noBox d e)
  | _ :: e => noBox d e

def newBox (loc : List Nat) (md : Option LM) (d : Option Nat) (cs : List Value) (e : EEnv) (lm : LM) : Option (EEnv × LM) :=
  match d with
  | some d => cond (mem d loc) (cond (noBox d e) (cond (heldBy md d) none (match LM.get lm d with
    | none => some ((d, .box d 0) :: e, (d, cs) :: lm)
    | some _ => none)) none) none
  | none => none

def allOne : List Value → Bool
  | [] => true
  | v :: l => cond (isOne v) (allOne l) false

/-- Instructions on boxes of the frame's own. -/
def MI.box (loc : List Nat) (md : Option LM) (i : MI) (d : Option Nat) (e : EEnv) (lm : LM) : Option (EEnv × LM) :=
  match i with
  | .al _ zero => newBox loc md d zero e lm
  | .bx _ _ x => match opV e x with
    | some v => newBox loc md d (cellsL v) e lm
    | none => none
  | .ld1 x => match opE e x with
    | some (.box i o) => match LM.get (rdLM md lm) i with
      | some cs => match nthL cs o with
        | some v => pushE d (.v v) e lm
        | none => none
      | none => none
    | _ => none
  | .ldn n x => match opE e x with
    | some (.box i o) => match LM.get (rdLM md lm) i with
      | some cs => match subL cs o n with
        | some vs => pushE d (.v (.agg vs.toArray)) e lm
        | none => none
      | none => none
    | _ => none
  | .st1 x v => match opV e v with
    | some u => cond (isOne u) (match boxSt md lm (opE e x) [u] with
      | some lm' => pushE d (.v undef) e lm'
      | none => none) none
    | none => none
  | .stn n x v => match asA (opV e v) with
    | some vs => cond (cond (Nat.beq vs.length n) (allOne vs) false) (match boxSt md lm (opE e x) vs with
      | some lm' => pushE d (.v undef) e lm'
      | none => none) none
    | none => none
  | _ => none

inductive Gd where
  | yes | no | open_

def gd (g : Option (Nat × Bool)) (e : EEnv) : Gd :=
  match g with
  | none => .yes
  | some (j, want) => match EEnv.get e j with
    | some .t => cond want .yes .no
    | some .f => cond want .no .yes
    | some (.v (.tuple _)) => .no
    | _ => .open_

/-- An operation that is carried out. -/
def stepYes (loc : List Nat) (md : Option LM) (g : Option (Nat × Bool)) (d : Option Nat) (i : MI) (k : MC) (ks : List KF) (e : EEnv) (lm : LM) : Option Cfg :=
  match i.sil e with
  | some ev => goOn md d ev k ks e lm
  | none => match i.box loc md d e lm with
    | some (e', lm') => some ⟨md, k, ks, e', lm'⟩
    | none => match g with
      | some _ => some ⟨md, .op none d i k, ks, e, lm⟩
      | none => none

def stepOp (loc : List Nat) (md : Option LM) (g : Option (Nat × Bool)) (d : Option Nat) (i : MI) (k : MC) (ks : List KF) (e : EEnv) (lm : LM) : Option Cfg :=
  match gd g e with
  | .no => goOn md d (.v undef) k ks e lm
  | .yes => stepYes loc md g d i k ks e lm
  | .open_ => none

def stepNil (md : Option LM) (ks : List KF) (e : EEnv) (lm : LM) : Option Cfg :=
  match md with
  | some _ => some ⟨none, .nil, ks, e, lm⟩
  | none => match ks with
    | .seq c :: ks => some ⟨none, c, ks, e, lm⟩
    | .blk _ :: ks => some ⟨none, .nil, ks, e, lm⟩
    | _ => none

def stepExit (id : Nat) (ks : List KF) (e : EEnv) (lm : LM) : Option Cfg :=
  match ks with
  | .seq _ :: ks => some ⟨none, .exit id, ks, e, lm⟩
  | .blk id' :: ks => cond (Nat.beq id id') (some ⟨none, .nil, ks, e, lm⟩) (some ⟨none, .exit id, ks, e, lm⟩)
  | .lp _ _ :: ks => some ⟨none, .exit id, ks, e, lm⟩
  | [] => none

def stepRet (ks : List KF) (e : EEnv) (lm : LM) : Option Cfg :=
  match ks with
  | _ :: ks => some ⟨none, .ret, ks, e, lm⟩
  | [] => none

/-- One silent step. -/
def step (loc : List Nat) (x : Cfg) : Option Cfg :=
  match x with
  | ⟨md, .nil, ks, e, lm⟩ => stepNil md ks e lm
  | ⟨md, .op g d i k, ks, e, lm⟩ => stepOp loc md g d i k ks e lm
  | ⟨none, .seq a b, ks, e, lm⟩ => some ⟨none, a, .seq b :: ks, e, lm⟩
  | ⟨none, .cond c a b, ks, e, lm⟩ => match opE e c with
    | some .t => some ⟨none, a, ks, e, lm⟩
    | some .f => some ⟨none, b, ks, e, lm⟩
    | _ => none
  | ⟨none, .block id a, ks, e, lm⟩ => some ⟨none, a, .blk id :: ks, e, lm⟩
  | ⟨none, .exit id, ks, e, lm⟩ => stepExit id ks e lm
  | ⟨none, .ret, ks, e, lm⟩ => stepRet ks e lm
  | _ => none

/-- Silent steps, so many at most. -/
def exec (loc : List Nat) : Nat → Cfg → Cfg
  | 0, x => x
  | n + 1, x => match step loc x with
    | some y => exec loc n y
    | none => x

/-! ### Which operation of the model an instruction stands for -/
def MI.tag : MI → Nat
  | .mov _ => 0 | .pick .. => 1
  | .icmp .. | .iar .. | .idiv .. | .idivC .. | .ish .. | .ishC .. | .scmp .. | .sadd .. | .beq .. | .ifnil .. | .ptnil .. | .slnil .. | .fnnil .. | .aeq .. => 2
  | .bnot _ | .ineg _ | .ixor _ => 3
  | .conv .. | .cstr _ | .cvBS _ | .cvSB .. => 4
  | .mkif .. => 5 | .mkfn .. => 6 | .ext .. => 7 | .fldC .. | .fldA .. => 8 | .fadr .. => 9 | .bld .. => 10
  | .lenS _ | .lenStr _ | .lenA .. | .capS _ | .mnmx .. | .bi .. | .call .. | .dcall .. => 11
  | .nilchk _ => 12 | .idxS .. | .idxA .. | .idxAC .. => 13 | .ixStr .. => 14 | .slS .. | .slStr .. | .slA .. => 15 | .arA .. => 16
  | .al .. => 17 | .bx .. => 18 | .bldS .. => 19 | .ld1 _ | .ldn .. => 20 | .st1 .. | .stn .. => 21 | .mkSl .. => 22 | .raw .. => 23

def opTag : Op → Nat
  | .move _ | .assign _ => 0 | .pick .. => 1 | .binOp .. => 2 | .unOp .. => 3 | .convert .. => 4 | .makeInterface .. => 5 | .makeFunc .. => 6 | .extract .. => 7
  | .field .. => 8 | .fieldAddr .. => 9 | .build .. => 10 | .call _ => 11 | .nilCheck _ => 12 | .indexAddr .. => 13 | .index .. => 14 | .slice .. => 15 | .sliceToArrayPointer .. => 16
  | .alloc _ => 17 | .box .. => 18 | .buildSlice .. => 19 | .load .. => 20 | .store .. => 21 | .makeSlice .. => 22 | _ => 24

theorem tag_eq {P : Program} {o : Op} {ty : TypeId} {i : MI} (h : toMI P o ty = some i) : i.tag = opTag o := by
  cases o <;> simp only [toMI] at h <;> try (cases h; done)
  case move => cases h; rfl
  case assign => cases h; rfl
  case pick => cases h; rfl
  case alloc => simp only [Option.map_eq_some_iff] at h; obtain ⟨_, _, rfl⟩ := h; rfl
  case box => simp only [Option.map_eq_some_iff] at h; obtain ⟨_, _, rfl⟩ := h; rfl
  case build => split at h <;> first | (cases h; done) | (simp only [Option.some.injEq] at h; subst h; rfl)
  case buildSlice => unfold toBldS at h; (repeat' split at h) <;> first | (cases h; done) | (simp only [Option.some.injEq] at h; subst h; rfl)
  case load => (repeat' split at h) <;> first | (cases h; done) | (simp only [Option.some.injEq] at h; subst h; rfl)
  case store => (repeat' split at h) <;> first | (cases h; done) | (simp only [Option.some.injEq] at h; subst h; rfl)
  case nilCheck => cases h; rfl
  case binOp op t x y yT =>
    unfold toBin at h
    split at h
    · simp only [Option.some.injEq] at h; subst h
      unfold toBinI
      cases op <;> simp only <;> (repeat' split) <;> rfl
    all_goals ((repeat' split at h) <;> first | (cases h; done) | (simp only [Option.some.injEq] at h; subst h; rfl) | (simp only [Option.map_eq_some_iff] at h; obtain ⟨_, _, rfl⟩ := h; rfl))
  case unOp => (repeat' split at h) <;> first | (cases h; done) | (simp only [Option.some.injEq] at h; subst h; rfl)
  case convert => unfold toConv at h; (repeat' split at h) <;> first | (cases h; done) | (simp only [Option.some.injEq] at h; subst h; rfl)
  case makeInterface => (repeat' split at h) <;> first | (cases h; done) | (simp only [Option.some.injEq] at h; subst h; rfl)
  case makeFunc => cases h; rfl
  case makeSlice => cases h; rfl
  case slice => unfold toSl at h; (repeat' split at h) <;> first | (cases h; done) | (simp only [Option.some.injEq] at h; subst h; rfl) | (simp only [Option.map_eq_some_iff] at h; obtain ⟨_, _, rfl⟩ := h; rfl)
  case sliceToArrayPointer => (repeat' split at h) <;> first | (cases h; done) | (simp only [Option.some.injEq] at h; subst h; rfl)
  case fieldAddr => unfold toFadr at h; (repeat' split at h) <;> first | (cases h; done) | (simp only [Option.some.injEq] at h; subst h; rfl)
  case field => unfold toFld at h; (repeat' split at h) <;> first | (cases h; done) | (simp only [Option.some.injEq] at h; subst h; rfl)
  case indexAddr => unfold toIdx at h; (repeat' split at h) <;> first | (cases h; done) | (simp only [Option.some.injEq] at h; subst h; rfl) | (simp only [Option.map_eq_some_iff] at h; obtain ⟨_, _, rfl⟩ := h; rfl)
  case index => (repeat' split at h) <;> first | (cases h; done) | (simp only [Option.some.injEq] at h; subst h; rfl)
  case extract => cases h; rfl
  case call =>
    unfold toCall at h
    split at h
    · unfold toBuiltin at h; (repeat' split at h) <;> first | (cases h; done) | (simp only [Option.some.injEq] at h; subst h; rfl)
    all_goals ((repeat' split at h) <;> first | (cases h; done) | (simp only [Option.some.injEq] at h; subst h; rfl))

theorem mi_of {P : Program} {o : Op} {ty : TypeId} {i : MI} (h : toInstr P o ty = some i) (hi : i.tag ≠ 23) : toMI P o ty = some i := by
  unfold toInstr at h
  split at h
  · rename_i j hj; rw [hj]; exact h
  · split at h
    · cases h
    · simp only [Option.some.injEq] at h; subst h; exact absurd rfl hi

/-! ### What the model does at what changes the world, and at loads -/
section
variable {P : Program} {o : Op} {ty : TypeId}

theorem al_run {t : TypeId} {zero : List Value} (h : toInstr P o ty = some (.al t zero)) : o.operands = #[] ∧ ∀ (ρ : Operand → Value) (w : World),
    (execOp ρ (mkOper o ty)).run P w = .ok (.value (.pointer (some ⟨w.heap.size, 0, none⟩))) { w with heap := w.heap.push (.cells zero.toArray t) } := by
  replace h := mi_of h (by simp [MI.tag])
  have ht := tag_eq h
  cases o <;> first | (exfalso; revert ht; simp [MI.tag, opTag]; done) | skip
  rename_i t'
  simp only [toMI, Option.map_eq_some_iff] at h
  obtain ⟨z, hz, e⟩ := h
  simp only [MI.al.injEq] at e
  obtain ⟨rfl, rfl⟩ := e
  refine ⟨rfl, fun ρ w => ?_⟩
  have hz' : (zeroValue t').run P w = .ok z w := by
    unfold tyZero at hz
    cases hi : P.info? t' with
    | none => simp [hi] at hz
    | some it => simp only [hi, Option.bind_some] at hz; simp [zeroValue, typeInfo, hi, hz]
  simp only [execOp, mkOper, Instr.alloc, Sem.run_bind, hz', Result.andThen_ok]
  simp [newVar, newRow, newObj, Sem.run, pure, Sem.bind]

theorem bx_run {t : TypeId} {g : Bool} {x : Operand} (h : toInstr P o ty = some (.bx t g x)) : o.operands = #[x] ∧ ∀ (ρ : Operand → Value) (w : World),
    (execOp ρ (mkOper o ty)).run P w = .ok (.value (.pointer (some ⟨w.heap.size, 0, none⟩))) { w with heap := w.heap.push (.cells (cellsL (ρ x)).toArray t) } := by
  replace h := mi_of h (by simp [MI.tag])
  have ht := tag_eq h
  cases o <;> first | (exfalso; revert ht; simp [MI.tag, opTag]; done) | skip
  rename_i t' x'
  simp only [toMI, Option.map_eq_some_iff] at h
  obtain ⟨z, hz, e⟩ := h
  simp only [MI.bx.injEq] at e
  obtain ⟨rfl, rfl, rfl⟩ := e
  refine ⟨rfl, fun ρ w => ?_⟩
  have : (cellsL (ρ x')).toArray = (ρ x').cells := by rw [← cellsL_eq]
  rw [this]
  simp [execOp, mkOper, Instr.box, newVar, newRow, newObj, Sem.run, pure, Sem.bind]

theorem ld1_run {x : Operand} (h : toInstr P o ty = some (.ld1 x)) : o.operands = #[x] ∧ ∀ (ρ : Operand → Value) (w : World) (a : Addr) (v : Value), ρ x = .pointer (some a) → w.cell? a = some v →
    (execOp ρ (mkOper o ty)).run P w = .ok (.value v) w := by
  replace h := mi_of h (by simp [MI.tag])
  have ht := tag_eq h
  cases o <;> first | (exfalso; revert ht; simp [MI.tag, opTag]; done) | skip
  rename_i t x'
  simp only [toMI] at h
  split at h
  · rename_i hg
    simp only [Option.some.injEq, MI.ld1.injEq] at h; subst h
    refine ⟨rfl, fun ρ w a v hr hc => ?_⟩
    simp [execOp, mkOper, Instr.loadAt, hr, Instr.sureAddr, run_load1 hg hc, pure]
  · cases h
  · cases h

theorem ldn_run {x : Operand} {n : Nat} (h : toInstr P o ty = some (.ldn n x)) : o.operands = #[x] ∧ ∀ (ρ : Operand → Value) (w : World) (b off : Nat) (cs : List Value), ρ x = .pointer (some ⟨b, off, none⟩) →
    cs.length = n → (∀ i v, cs[i]? = some v → w.cell? ⟨b, off + i, none⟩ = some v) → (execOp ρ (mkOper o ty)).run P w = .ok (.value (.agg cs.toArray)) w := by
  replace h := mi_of h (by simp [MI.tag])
  have ht := tag_eq h
  cases o <;> first | (exfalso; revert ht; simp [MI.tag, opTag]; done) | skip
  rename_i t x'
  simp only [toMI] at h
  split at h
  · cases h
  · rename_i m hg hn
    simp only [Option.some.injEq, MI.ldn.injEq] at h
    obtain ⟨rfl, rfl⟩ := h
    refine ⟨rfl, fun ρ w b off cs hr hl hc => ?_⟩
    simp [execOp, mkOper, Instr.loadAt, hr, Instr.sureAddr, run_loadN hg hn hl hc, pure]
  · cases h

theorem isOne_one {v : Value} (h : isOne v = true) : v.oneCell' = true := by cases v <;> first | rfl | cases h
theorem isOne_cells {v : Value} (h : isOne v = true) : v.cells = #[v] := by cases v <;> first | rfl | cases h

theorem allOne_mem : ∀ {vs : List Value}, allOne vs = true → ∀ v ∈ vs, isOne v = true
  | [], _, _, hv => by cases hv
  | u :: vs, h, v, hv => by
    simp only [allOne] at h
    cases hu : isOne u
    · rw [hu] at h; cases h
    · rw [hu] at h
      rcases List.mem_cons.1 hv with rfl | hv
      · exact hu
      · exact allOne_mem h v hv

theorem cell_of_block {w : World} {b off : Nat} {c : Array Value} {t : TypeId} {fr : Nat × Nat} (h : w.heap[b]? = some (.cells c t fr)) : w.cell? ⟨b, off, none⟩ = c[off]? := by
  simp [World.cell?, h]

/-- Cells stored into one block. -/
theorem run_storeCells (b : Nat) (t : TypeId) (lo hi : Nat) (off : Nat) : ∀ (vs : List Value) (i : Nat) (w : World) (c : Array Value), w.heap[b]? = some (.cells c t (lo, hi)) →
    off + i + vs.length ≤ c.size → (hi ≤ off + i ∨ off + i + vs.length ≤ lo ∨ hi ≤ lo) → (∀ v ∈ vs, isOne v = true) →
    (storeCells ⟨b, off, none⟩ vs i).run P w = .ok () (w.setRow b (c.toList.take (off + i) ++ vs ++ c.toList.drop (off + i + vs.length)).toArray)
  | [], i, w, c, h, hl, hf, h1 => by
    have : w.setRow b c = w := by
      unfold World.setRow
      have hlt : b < w.heap.size := (Array.getElem?_eq_some_iff.1 h).1
      have hv : w.heap[b] = .cells c t (lo, hi) := (Array.getElem?_eq_some_iff.1 h).2
      congr 1
      apply Array.ext
      · simp
      · intro k h1 h2
        simp only [Array.getElem_modify]
        split
        · rename_i hk; subst hk; simp [hv]
        · rfl
    simp [storeCells, pure, Sem.run, this]
  | v :: vs, i, w, c, h, hl, hf, h1 => by
    have hadd : (Addr.add ⟨b, off, none⟩ i) = ⟨b, off + i, none⟩ := by
      unfold Addr.add; split
      · rename_i e; subst e; rfl
      · rfl
    have hlt : off + i < c.size := by simp at hl; omega
    have hfz : w.frozen? ⟨b, off + i, none⟩ = false := by
      simp only [World.frozen?, h]
      simp only [List.length_cons] at hf
      simp; omega
    simp only [storeCells, Sem.run_bind, hadd, run_store P w _ v .plain (isOne_one (h1 v (by simp)))]
    rw [cell_of_block h]
    simp only [Array.getElem?_eq_getElem hlt, hfz, Bool.false_eq_true, if_false, Result.andThen_ok]
    rw [setCell_eq_setRow w b (off + i) c t (lo, hi) v h]
    have h' := setRow_heap w b c (c.setIfInBounds (off + i) v) t (lo, hi) h
    rw [show i + 1 = i + 1 from rfl, run_storeCells b t lo hi off vs (i + 1) _ _ h' (by simp at hl ⊢; omega) (by simp only [List.length_cons] at hf; omega) (fun u hu => h1 u (by simp [hu]))]
    rw [setRow_setRow]
    congr 2
    have hlt' : off + i < c.toList.length := by simpa using hlt
    simp only [Array.toList_setIfInBounds]
    rw [show off + (i + 1) = (off + i) + 1 from by omega, List.take_set, List.drop_set_of_lt (by omega)]
    rw [List.take_succ_eq_append_getElem hlt', List.set_append_right _ _ (by simp; omega)]
    simp only [List.length_take, List.append_assoc, List.length_cons]
    rw [show off + i - min (off + i) c.toList.length = 0 from by omega]
    simp [Nat.add_assoc, Nat.add_comm, Nat.add_left_comm]

theorem st1_run {x v : Operand} (h : toInstr P o ty = some (.st1 x v)) : o.operands = #[x, v] ∧ ∀ (ρ : Operand → Value) (w : World) (b off : Nat) (c : List Value) (t : TypeId) (lo hi : Nat), ρ x = .pointer (some ⟨b, off, none⟩) →
    w.heap[b]? = some (.cells c.toArray t (lo, hi)) → off + 1 ≤ c.length → (hi ≤ off ∨ off + 1 ≤ lo ∨ hi ≤ lo) → isOne (ρ v) = true →
    (execOp ρ (mkOper o ty)).run P w = .ok .skip (w.setRow b (c.take off ++ [ρ v] ++ c.drop (off + 1)).toArray) := by
  replace h := mi_of h (by simp [MI.tag])
  have ht := tag_eq h
  cases o <;> first | (exfalso; revert ht; simp [MI.tag, opTag]; done) | skip
  rename_i t' x' v'
  simp only [toMI] at h
  split at h
  · rename_i hg hn
    simp only [Option.some.injEq, MI.st1.injEq] at h
    obtain ⟨rfl, rfl⟩ := h
    refine ⟨rfl, fun ρ w b off c t lo hi hr hb hl hf h1 => ?_⟩
    have hst := run_storeCells (P := P) b t lo hi off [ρ v'] 0 w c.toArray hb (by simpa using hl) (by simpa using hf) (by simpa using h1)
    simp only [Nat.add_zero, List.length_singleton] at hst
    simp only [execOp, mkOper, Instr.storeAt, hr, Instr.sureAddr]
    simp [storeVar, isOne_cells h1, size_of hn, hst, pure]
  · cases h
  · cases h

theorem stn_run {x v : Operand} {n : Nat} (h : toInstr P o ty = some (.stn n x v)) : o.operands = #[x, v] ∧ ∀ (ρ : Operand → Value) (w : World) (b off : Nat) (c vs : List Value) (t : TypeId) (lo hi : Nat), ρ x = .pointer (some ⟨b, off, none⟩) →
    w.heap[b]? = some (.cells c.toArray t (lo, hi)) → off + vs.length ≤ c.length → (hi ≤ off ∨ off + vs.length ≤ lo ∨ hi ≤ lo) → ρ v = .agg vs.toArray → vs.length = n → (∀ u ∈ vs, isOne u = true) →
    (execOp ρ (mkOper o ty)).run P w = .ok .skip (w.setRow b (c.take off ++ vs ++ c.drop (off + vs.length)).toArray) := by
  replace h := mi_of h (by simp [MI.tag])
  have ht := tag_eq h
  cases o <;> first | (exfalso; revert ht; simp [MI.tag, opTag]; done) | skip
  rename_i t' x' v'
  simp only [toMI] at h
  split at h
  · cases h
  · rename_i m hg hn
    simp only [Option.some.injEq, MI.stn.injEq] at h
    obtain ⟨rfl, rfl, rfl⟩ := h
    refine ⟨rfl, fun ρ w b off c vs t lo hi hr hb hl hf hv hvn h1 => ?_⟩
    have hst := run_storeCells (P := P) b t lo hi off vs 0 w c.toArray hb (by simpa using hl) (by simpa using hf) h1
    simp only [Nat.add_zero] at hst
    simp only [execOp, mkOper, Instr.storeAt, hr, Instr.sureAddr, hv]
    simp [storeVar, Value.cells, hvn, size_of hn, hst, pure]
  · cases h
end

end Go.HM
