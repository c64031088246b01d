/- What comes in: how the arguments' cells lie, out of how they read; the frame of a law's row. -/
import Derived.Test.YtobdcokhmpaooaaDoorM10
import Derived.ChangeSame
import Derived.ChangeVars
import Derived.JoinedOf
import Derived.RowKit
import Derived.LaidLaws
import Derived.LaidHandle
import Derived.Carry
namespace Go.HM
open Go Go.RowKit Go.ChangeShapes Go.WideShapes
set_option linter.unusedSimpArgs false
set_option linter.unusedVariables false

section
variable {H : Type} {enc : TypeId × Value → H} {P : Program} {w : World} {base : Nat} {spare : Nat → Bool} {held : Bool}

/-- These cells read, as some datum of a type. -/
def Reads (enc : TypeId × Value → H) (P : Program) (w : World) (base : Nat) (spare : Nat → Bool) (held : Bool) (t : TypeId) (cs : List Value) : Prop := ∃ f x, DataW.trod enc P w base spare held f t cs = some x

theorem Reads.of {t : TypeId} {v : Value} {d : DataW H} {ps : List MemPlace} (h : DataW.Trod enc P w base spare held t v d ps) : Reads enc P w base spare held t v.cells.toList := by
  obtain ⟨f, h⟩ := h
  exact ⟨f, _, h⟩

theorem Reads.int {t : TypeId} {k : IntKind} {cs : List Value} (hu : P.underlying t = some (.int k)) (h : Reads enc P w base spare held t cs) : ∃ n, cs = [.int k n] ∧ (Lit.int k n).wf = true := by
  obtain ⟨f, x, h⟩ := h
  cases f with
  | zero => simp [DataW.trod] at h
  | succ f =>
    unfold DataW.trod at h
    rw [hu] at h
    split at h <;> simp_all

theorem Reads.bool {t : TypeId} {cs : List Value} (hu : P.underlying t = some .bool) (h : Reads enc P w base spare held t cs) : ∃ b, cs = [.bool b] := by
  obtain ⟨f, x, h⟩ := h
  cases f with
  | zero => simp [DataW.trod] at h
  | succ f =>
    unfold DataW.trod at h
    rw [hu] at h
    split at h <;> simp_all

theorem Reads.str {t : TypeId} {cs : List Value} (hu : P.underlying t = some .string) (h : Reads enc P w base spare held t cs) : ∃ s, cs = [.string s] ∧ s.size ≤ 9223372036854775807 := by
  obtain ⟨f, x, h⟩ := h
  cases f with
  | zero => simp [DataW.trod] at h
  | succ f =>
    unfold DataW.trod at h
    rw [hu] at h
    split at h
    all_goals first | (simp_all; done) | skip
    rename_i s h1
    by_cases hs : s.size ≤ maxLen
    · exact ⟨s, rfl, hs⟩
    · simp [hs] at h

/-- A struct's fields: their types, where they lie, their sizes. -/
def fldI (P : Program) (t : TypeId) : Option (List (TypeId × Nat × Nat)) :=
  match P.underlying t with
  | some (.struct fs) => some (fs.toList.map fun f => (f.type, f.offset, P.cellsOf f.type))
  | _ => none

theorem Reads.struct {t : TypeId} {cs : List Value} {n : Nat} {l : List (TypeId × Nat × Nat)} (hu : fldI P t = some l) (hn : P.cellsOf t = n) (h : Reads enc P w base spare held t cs) :
    cs.length = n ∧ ∀ p ∈ l, Reads enc P w base spare held p.1 ((cs.drop p.2.1).take p.2.2) := by
  obtain ⟨f, x, h⟩ := h
  unfold fldI at hu
  split at hu
  · rename_i fs hfs
    simp only [Option.some.injEq] at hu
    subst hu
    cases f with
    | zero => simp [DataW.trod] at h
    | succ f =>
      unfold DataW.trod at h
      rw [hfs] at h
      simp only at h
      split at h
      · rename_i hlen
        refine ⟨by rw [hlen, hn], fun p hp => ?_⟩
        obtain ⟨fd, hfd, rfl⟩ := List.mem_map.1 hp
        rw [Option.map_eq_some_iff] at h
        obtain ⟨xs, hxs, _⟩ := h
        obtain ⟨i, hi, hi2⟩ := List.mem_iff_getElem.1 hfd
        have h1 := mapM_some_get hxs i fd (by rw [List.getElem?_eq_getElem hi, hi2])
        have h2 := mapM_some_length hxs
        rw [List.getElem?_eq_getElem (by omega)] at h1
        exact ⟨f, _, h1⟩
      · cases h
  · cases hu

theorem Reads.array {t e : TypeId} {n m : Nat} {cs : List Value} (hu : P.underlying t = some (.array n e)) (hm : P.cellsOf e = m) (hn : P.cellsOf t = n * m) (h : Reads enc P w base spare held t cs) :
    cs.length = n * m ∧ ∀ i, i < n → Reads enc P w base spare held e ((cs.drop (i * m)).take m) := by
  obtain ⟨f, x, h⟩ := h
  cases f with
  | zero => simp [DataW.trod] at h
  | succ f =>
    unfold DataW.trod at h
    rw [hu] at h
    simp only at h
    split at h
    · rename_i hlen
      refine ⟨by rw [hlen, hn], fun i hi => ?_⟩
      rw [Option.map_eq_some_iff] at h
      obtain ⟨xs, hxs, _⟩ := h
      have h1 := mapM_some_get hxs i i (by simp [hi])
      have h2 := mapM_some_length hxs
      rw [List.getElem?_eq_getElem (by simp at h2; omega), hm] at h1
      exact ⟨f, _, h1⟩
    · cases h

theorem cell_spot {w : World} {a : Addr} {v : Value} (h : w.cell? a = some v) : a.spot = none := by
  unfold World.cell? at h
  split at h
  · split at h
    · cases h
    · rename_i hs
      simpa using hs
  · cases h

theorem pickL {α : Type} {p : Nat → α → Prop} : ∀ (n : Nat), (∀ i, i < n → ∃ a, p i a) → ∃ l : List α, l.length = n ∧ ∀ i a, l[i]? = some a → p i a
  | 0, _ => ⟨[], rfl, fun i a h => by simp at h⟩
  | n + 1, h => by
    obtain ⟨l, h1, h2⟩ := pickL n fun i hi => h i (by omega)
    obtain ⟨a, ha⟩ := h n (by omega)
    refine ⟨l ++ [a], by simp [h1], fun i b hb => ?_⟩
    by_cases hi : i < n
    · rw [List.getElem?_append_left (by omega)] at hb; exact h2 i b hb
    · have : i = n := by
        have := (List.getElem?_eq_some_iff.1 hb).1
        simp at this; omega
      subst this
      rw [List.getElem?_append_right (by omega), h1, Nat.sub_self] at hb
      simp at hb
      rw [← hb]; exact ha

theorem flatten_len (m : Nat) : ∀ (l : List (List Value)), (∀ ce ∈ l, ce.length = m) → l.flatten.length = l.length * m
  | [], _ => by simp
  | y :: l, h => by rw [List.flatten_cons, List.length_append, h y (.head _), flatten_len m l (fun z hz => h z (.tail _ hz)), List.length_cons, Nat.add_mul]; omega

theorem flatten_get (m : Nat) : ∀ (l : List (List Value)), (∀ ce ∈ l, ce.length = m) → ∀ (i j : Nat) (ce : List Value), l[i]? = some ce → j < m → l.flatten[i * m + j]? = ce[j]?
  | [], _, i, j, ce, h, _ => by simp at h
  | y :: l, h, 0, j, ce, h1, hj => by
    simp only [List.getElem?_cons_zero, Option.some.injEq] at h1
    subst h1
    rw [List.flatten_cons, Nat.zero_mul, Nat.zero_add, List.getElem?_append_left (by rw [h _ (.head _)]; exact hj)]
  | y :: l, h, i + 1, j, ce, h1, hj => by
    have hy := h y (.head _)
    rw [List.flatten_cons, List.getElem?_append_right (by rw [hy, Nat.add_mul]; omega), hy, show (i + 1) * m + j - m = i * m + j by rw [Nat.add_mul]; omega]
    exact flatten_get m l (fun z hz => h z (.tail _ hz)) i j ce (by simpa using h1) hj

/-- A slice: its elements' cells, one behind the other. -/
theorem Reads.slice {t e : TypeId} {m : Nat} {cs : List Value} (hu : P.underlying t = some (.slice e)) (hm : P.cellsOf e = m) (hm0 : 0 < m) (h : Reads enc P w base spare held t cs) :
    ∃ (a : Option Addr) (n c : Nat) (ces : List (List Value)), cs = [.slice a n c] ∧ n ≤ c ∧ c ≤ 9223372036854775807 ∧ ces.length = n ∧ RdS w m (.slice a n c) ces.flatten n ∧ ∀ ce ∈ ces, ce.length = m ∧ Reads enc P w base spare held e ce := by
  obtain ⟨f, x, h⟩ := h
  cases f with
  | zero => simp [DataW.trod] at h
  | succ f =>
    unfold DataW.trod at h
    rw [hu] at h
    split at h
    all_goals first | (simp_all; done) | skip
    · exact ⟨none, 0, 0, [], rfl, Nat.le_refl _, by decide, rfl, .nil none 0, by simp⟩
    · rename_i e' a len cap h1
      simp only [Option.some.injEq, TypeDesc.slice.injEq] at h1
      subst h1
      by_cases hc : base ≤ a.block ∧ len ≤ cap ∧ cap ≤ maxLen
      · rw [if_pos hc] at h
        obtain ⟨hb, hle, hcap⟩ := hc
        rw [Option.bind_eq_some_iff] at h
        obtain ⟨elems, hel, _⟩ := h
        have hl := mapM_some_length hel
        simp only [List.length_range] at hl
        obtain ⟨ces, hces, hce⟩ := pickL (p := fun i ce => w.cells? base (a.add (i * m)) m = some ce ∧ ∃ y, DataW.trod enc P w base spare held f e ce = some y) len fun i hi => by
          have h2 := mapM_some_get hel i i (by simp [hi])
          rw [List.getElem?_eq_getElem (by omega), Option.bind_eq_some_iff, hm] at h2
          obtain ⟨ce, h3, h4⟩ := h2
          exact ⟨ce, h3, _, h4⟩
        have hmem : ∀ ce ∈ ces, ce.length = m ∧ Reads enc P w base spare held e ce := fun ce hc => by
          obtain ⟨i, hi, hi2⟩ := List.mem_iff_getElem.1 hc
          obtain ⟨h2, y, h3⟩ := hce i ce (by rw [List.getElem?_eq_getElem hi, hi2])
          exact ⟨(World.cells?_some h2).2.1, f, y, h3⟩
        refine ⟨some a, len, cap, ces, rfl, hle, hcap, hces, ?_, hmem⟩
        have hfl := flatten_len m ces (fun ce hc => (hmem ce hc).1)
        by_cases hl0 : len = 0
        · subst hl0
          rw [List.length_eq_zero_iff.1 hces]
          exact .nil _ _
        · obtain ⟨b, o, sp⟩ := a
          have hsp : sp = none := by
            have hg : ces[0]? = some ces[0] := List.getElem?_eq_getElem (by omega)
            obtain ⟨h2, _⟩ := hce 0 _ hg
            obtain ⟨_, h3, h4⟩ := World.cells?_some h2
            have h5 := h4 0 (by omega)
            rw [List.getElem?_eq_getElem (by omega)] at h5
            simpa [Addr.add] using cell_spot h5
          subst hsp
          refine .mem b o _ _ _ (fun i v hv => ?_) (by rw [hfl, hces])
          have hi : i < len * m := by rw [← hces, ← hfl]; exact (List.getElem?_eq_some_iff.1 hv).1
          have hq : i / m < len := Nat.div_lt_of_lt_mul (by rw [Nat.mul_comm]; exact hi)
          have hg : ces[i / m]? = some ces[i / m] := List.getElem?_eq_getElem (by omega)
          obtain ⟨h2, _⟩ := hce _ _ hg
          obtain ⟨_, h3, h4⟩ := World.cells?_some h2
          have hr : i % m < m := Nat.mod_lt _ hm0
          have h5 := h4 (i % m) hr
          have hpart := flatten_get m ces (fun ce hc => (hmem ce hc).1) (i / m) (i % m) _ hg hr
          have e0 : i / m * m + i % m = i := by rw [Nat.mul_comm]; exact Nat.div_add_mod _ _
          have e1 : (((⟨b, o, none⟩ : Addr).add (i / m * m)).add (i % m)) = ⟨b, o + i, none⟩ := by
            rw [Addr.add_lit, Addr.add_lit, Nat.add_assoc, e0]
          rw [e1, ← hpart, e0] at h5
          rw [h5, hv]
      · rw [if_neg hc] at h; cases h

/-- Elements, each told by something. -/
theorem picked {α : Type} {f : α → List Value} {p : α → Prop} : ∀ (ces : List (List Value)), (∀ ce ∈ ces, ∃ a, p a ∧ ce = f a) → ∃ l : List α, l.length = ces.length ∧ ces.flatten = l.flatMap f ∧ ∀ a ∈ l, p a
  | [], _ => ⟨[], rfl, rfl, by simp⟩
  | ce :: ces, h => by
    obtain ⟨a, ha, rfl⟩ := h ce (.head _)
    obtain ⟨l, h1, h2, h3⟩ := picked ces fun y hy => h y (.tail _ hy)
    refine ⟨a :: l, by simp [h1], by simp [h2], fun b hb => ?_⟩
    rcases List.mem_cons.1 hb with rfl | hb
    · exact ha
    · exact h3 b hb

theorem bd_i32 {n : Int} (h : (Lit.int .i32 n).wf = true) : -2147483648 ≤ n ∧ n ≤ 2147483647 := by
  simp [Lit.wf, IntKind.min, IntKind.max, IntKind.signed, IntKind.bits] at h
  omega

theorem bd_i64 {n : Int} (h : (Lit.int .i64 n).wf = true) : -9223372036854775808 ≤ n ∧ n ≤ 9223372036854775807 := by
  simp [Lit.wf, IntKind.min, IntKind.max, IntKind.signed, IntKind.bits] at h
  omega

theorem bd_u8 {n : Int} (h : (Lit.int .u8 n).wf = true) : 0 ≤ n ∧ n ≤ 255 := by
  simp [Lit.wf, IntKind.min, IntKind.max, IntKind.signed, IntKind.bits] at h
  omega

theorem bd_u16 {n : Int} (h : (Lit.int .u16 n).wf = true) : 0 ≤ n ∧ n ≤ 65535 := by
  simp [Lit.wf, IntKind.min, IntKind.max, IntKind.signed, IntKind.bits] at h
  omega

theorem bd_u32 {n : Int} (h : (Lit.int .u32 n).wf = true) : 0 ≤ n ∧ n ≤ 4294967295 := by
  simp [Lit.wf, IntKind.min, IntKind.max, IntKind.signed, IntKind.bits] at h
  omega

theorem bd_u64 {n : Int} (h : (Lit.int .u64 n).wf = true) : 0 ≤ n ∧ n ≤ 18446744073709551615 := by
  simp [Lit.wf, IntKind.min, IntKind.max, IntKind.signed, IntKind.bits] at h
  omega

/-- An argument as one cell; as a struct's cells. -/
theorem arg_int {r : Reach} {t : TypeId} {k : IntKind} {v : Value} {d : DataW H} {ps : List MemPlace} (hu : P.underlying t = some (.int k)) (hv : Value.okWide P w r base t v) (h : DataW.Trod enc P w 0 spare held t v d ps) : ∃ n, v = .int k n ∧ (Lit.int k n).wf = true := by
  obtain ⟨n, h1, h2⟩ := (Reads.of h).int hu
  cases v <;> simp_all [Value.cells, Value.okWide, Cell.okWide, Cell.ok]

theorem arg_bool {r : Reach} {t : TypeId} {v : Value} {d : DataW H} {ps : List MemPlace} (hu : P.underlying t = some .bool) (hv : Value.okWide P w r base t v) (h : DataW.Trod enc P w 0 spare held t v d ps) : ∃ b, v = .bool b := by
  obtain ⟨n, h1⟩ := (Reads.of h).bool hu
  cases v <;> simp_all [Value.cells, Value.okWide, Cell.okWide, Cell.ok]

theorem arg_str {r : Reach} {t : TypeId} {v : Value} {d : DataW H} {ps : List MemPlace} (hu : P.underlying t = some .string) (hv : Value.okWide P w r base t v) (h : DataW.Trod enc P w 0 spare held t v d ps) : ∃ s, v = .string s ∧ s.size ≤ 9223372036854775807 := by
  obtain ⟨n, h1, h2⟩ := (Reads.of h).str hu
  cases v <;> simp_all [Value.cells, Value.okWide, Cell.okWide, Cell.ok]

theorem arg_slice {r : Reach} {t e : TypeId} {v : Value} {d : DataW H} {ps : List MemPlace} (hu : P.underlying t = some (.slice e)) (hv : Value.okWide P w r base t v) (h : DataW.Trod enc P w 0 spare held t v d ps) : Reads enc P w 0 spare held t [v] := by
  have := Reads.of h
  cases v <;> simp_all [Value.cells, Value.okWide, Cell.okWide, Cell.ok]

theorem arg_struct {r : Reach} {t : TypeId} {v : Value} {d : DataW H} {ps : List MemPlace} {l : List (TypeId × Nat × Nat)} (hu : fldI P t = some l) (hv : Value.okWide P w r base t v) (h : DataW.Trod enc P w 0 spare held t v d ps) : ∃ cs : List Value, v = .agg cs.toArray ∧ Reads enc P w 0 spare held t cs := by
  have h1 := Reads.of h
  unfold fldI at hu
  split at hu
  · rename_i fs hfs
    simp only [Value.okWide, hfs] at hv
    obtain ⟨cs, rfl, _⟩ := hv
    exact ⟨cs.toList, by simp, h1⟩
  · cases hu

theorem Ext.below {w w' : World} (h : Ext NoB w w') : Below w.heap.size w w' := ⟨h.os, h.tape, h.output, h.size, fun k hk => h.blk k hk (fun h => h)⟩

theorem trodAll_stay (hl : laidOutB P = true) {W W' : World} (hb : Below W.heap.size W W') : ∀ (ts : List TypeId) (vs : List Value) (ds : List (DataW H)) (ps : List MemPlace), (∀ t ∈ ts, P.readableRec t = true ∧ t < P.types.size) →
    DataW.TrodAll enc P W 0 (fun _ => true) true ts vs ds ps → (∀ x ∈ ps, x.block < W.heap.size) → DataW.TrodAll enc P W' 0 (fun b => decide (b < W.heap.size)) true ts vs ds ps
  | [], [], [], ps, _, h, _ => h
  | t :: ts, v :: vs, d :: ds, ps, ht, ⟨p, q, h1, h2, e⟩, hlt => by
    subst e
    exact ⟨p, q, Below.trod hl (ht t (.head _)).1 (ht t (.head _)).2 h1 hb (fun x hx => hlt x (List.mem_append.2 (.inl hx))), trodAll_stay hl hb ts vs ds q (fun u hu => ht u (.tail _ hu)) h2 (fun x hx => hlt x (List.mem_append.2 (.inr hx))), rfl⟩
  | [], _ :: _, _, _, _, h, _ => h.elim
  | [], [], _ :: _, _, _, h, _ => h.elim
  | _ :: _, [], _, _, _, h, _ => h.elim
  | _ :: _, _ :: _, [], _, _, h, _ => h.elim

theorem trodAll_len : ∀ (ts : List TypeId) (vs : List Value) (ds : List (DataW H)) (ps : List MemPlace), DataW.TrodAll enc P w base spare held ts vs ds ps → ds.length = ts.length
  | [], [], [], ps, h => rfl
  | t :: ts, v :: vs, d :: ds, ps, ⟨p, q, h1, h2, e⟩ => by simp [trodAll_len ts vs ds q h2]
  | [], _ :: _, _, _, h => h.elim
  | [], [], _ :: _, _, h => h.elim
  | _ :: _, [], _, _, h => h.elim
  | _ :: _, _ :: _, [], _, h => h.elim

/-- A law's row: whatever comes in, true comes out, and all reads as it did. -/
theorem law_lifted {C : Checked} {os : Os} {f : FuncId} {fn : Func} {s : ChangeSpec} {conds : List PathCond} {apart fresh handsOn : Bool} {X : World → Array Value → Prop} {tb : TypeId} (modest : Bool)
    (hX : ∀ (w w' : World) (args : Array Value), w.heap = w'.heap → X w args → X w' args)
    (own : ownKnob C.prog.godebug = none) (started : os.Started) (noInit : C.prog.inits.idxOf? f = none) (hfn : C.prog.funcs[f]? = some fn)
    (witness : ∃ (w : World) (tape : Tape) (i : Input), w.os = os ∧ (w.forCall tape i).Shaped C.prog ∧ i.vars = [] ∧ Input.okWide C.prog (w.forCall tape i) .any w.heap.size f i ∧
      ((s.pre enc C.prog fn conds apart (w.forCall tape i).memory i.args ∧ X (w.forCall tape i).memory i.args) ∧ sizedMet enc C.prog fn (OpenSpec.ofChange s) apart (w.forCall tape i).memory i.args) ∧ ({ modest := modest } : Assume).holds C.prog (lone (Frame.enter C.prog f i.args .normal) [] (w.forCall tape i)))
    (hvars : s.vars = []) (hs : ∀ ds, ds.length = fn.params.toList.length → s.fn H ds = { results := [.lit (.bool true)], args := ds })
    (hres : fn.resultTypes = #[tb]) (htb : C.prog.underlying tb = some .bool) (hl : laidOutB C.prog = true) (hpar : ∀ t ∈ fn.params.toList, C.prog.readableRec t = true ∧ t < C.prog.types.size)
    (contract : ∀ (W : World) (base : Nat) (args : Array Value) (ds : List (DataW H)) (p : List MemPlace),
      (∀ (j : Nat) t v, fn.params[j]? = some t → args[j]? = some v → Value.okWide C.prog W .any base t v) → DataW.TrodAll enc C.prog W 0 (fun _ => true) true fn.params.toList args.toList ds p →
      (DataW.weightsEach C.prog fn.params.toList ds).all (· ≤ reachBytes) = true → X W args → Rets C.prog f args.toList W fun v W' => Ext NoB W W' ∧ v = .bool true) :
    ReturnsInHanded { modest := modest } C os f .any (fun w args => (s.pre enc C.prog fn conds apart w args ∧ X w args) ∧ sizedMet enc C.prog fn (OpenSpec.ofChange s) apart w args) (s.post enc C.prog fn apart fresh handsOn false) := by
  refine returnsInHanded_of_change_and hX own started noInit hfn witness ?_
  intro W base args ds gs before hval hW _ hz hx _
  have hlt := hW.lt
  obtain ⟨p, q, hA, hV, rfl, hfz, hnd⟩ := hW
  rw [hvars] at hV
  obtain ⟨rfl, rfl⟩ : gs = [] ∧ q = [] := by
    cases gs with
    | nil => exact ⟨rfl, hV⟩
    | cons g r => exact absurd hV (by intro h; cases h)
  have hlen := trodAll_len _ _ _ _ hA
  have e1 : s.fn H (ds ++ []) = { results := [.lit (.bool true)], args := ds } := by rw [List.append_nil]; exact hs ds hlen
  have hw : (DataW.weightsEach C.prog fn.params.toList ds).all (· ≤ reachBytes) = true := by
    have e2 : s.plain.varTypes C.prog = [] := by
      unfold DataSpec.varTypes ChangeSpec.plain
      simp [hvars]
    simpa [e2] using hz
  have hc := contract W base args ds p hval hA hw hx
  refine Calls.mono (show Calls C.prog f args.toList.toArray W _ from hc) fun e W' he => ?_
  cases e with
  | returned v =>
    obtain ⟨hext, rfl⟩ := he
    have hb := hext.below
    refine ⟨_, rfl, ds, [], p ++ [], [], p, [], ⟨p, [], hA, by rw [hvars]; rfl, rfl, hfz, hnd⟩, ?_, ?_, ?_, hb.frame _, fun h => by cases h⟩
    · rw [e1, hres]; exact trodAll_mk1 (shut_bool htb true)
    · rw [e1]; exact trodAll_stay hl hb _ _ _ _ hpar hA (fun x hx => hlt x (List.mem_append.2 (.inl hx)))
    · rw [e1, hvars]; rfl
  | panicked c => exact he.elim
  | outgrown => exact he.elim
end
end Go.HM
