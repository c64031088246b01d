/- The rules of the judgement: tests, checks, loads, stores, new blocks, calls, loops, regions in an open order, results. -/
import Derived.Test.YtobdcokhmpaooaaDoorM5
namespace Go.HM
open Go
set_option linter.unusedSimpArgs false
set_option linter.unusedVariables false

/-! ### What is to be checked: an index, a shift, a divisor -/
/-- A byte of a string. -/
def bytA (s : ByteArray) (j : Nat) : Int := ((s.data.toList.getD j 0).toNat : Nat)

/-- A slice expression's address: past the last place none is made. -/
def slA (a : Option Addr) (m l size : Nat) : Option Addr := if m = l then a else a.map (·.add (l * size))

def boundV (x : Option Value) (dflt most : Nat) : Option (Prop × Nat) :=
  match x with
  | none => some (True, dflt)
  | some (.int _ i) => some (0 ≤ i ∧ i ≤ (most : Int), i.toNat)
  | _ => none

def slV (a : Option Addr) (size n c : Nat) (lo hi mx : Option Value) : Option (Prop × Value) :=
  match boundV mx c c with
  | some (c1, m) => match boundV hi n m with
    | some (c2, h) => match boundV lo 0 h with
      | some (c3, l) => match mx, hi with
        | some _, none => none
        | _, _ => some (c1 ∧ c2 ∧ c3, .slice (slA a m l size) (h - l) (m - l))
      | none => none
    | none => none
  | none => none

def MI.chk (i : MI) (e : EEnv) : Option (Prop × Value) :=
  match i with
  | .idiv op x y => match asI (opV e x), asI (opV e y) with
    | some (k, a), some (k', b) => cond (sameK k k') (match idivV op k a b with
      | some (.v v) => some (b ≠ 0, v)
      | _ => none) none
    | _, _ => none
  | .ish op x y => match asI (opV e x), asI (opV e y) with
    | some (k, a), some (_, b) => match ishV op k a b.toNat with
      | some (.v v) => some (0 ≤ b, v)
      | _ => none
    | _, _ => none
  | .sadd x y => match asS (opV e x), asS (opV e y) with
    | some a, some b => some (((a.size + b.size : Nat) : Int) ≤ 9223372036854775807, .string (a ++ b))
    | _, _ => none
  | .idxS size x i => match asSl (opV e x), asI (opV e i) with
    | some (some ⟨b, o, none⟩, n, _), some (_, j) => some (0 ≤ j ∧ j < (n : Int), .pointer (some ⟨b, o + j.toNat * size, none⟩))
    | _, _ => none
  | .idxA n size x i => match asP (opV e x), asI (opV e i) with
    | some (b, o), some (_, j) => some (0 ≤ j ∧ j < (n : Int), .pointer (some ⟨b, o + j.toNat * size, none⟩))
    | _, _ => none
  | .ixStr x i => match asS (opV e x), asI (opV e i) with
    | some s, some (_, j) => some (0 ≤ j ∧ j < (s.size : Int), .int .u8 (bytA s j.toNat))
    | _, _ => none
  | .slS size x lo hi mx => match asSl (opV e x), optV e lo, optV e hi, optV e mx with
    | some (a, n, c), some lo, some hi, some mx => slV a size n c lo hi mx
    | _, _, _, _ => none
  | .slStr x lo hi => match asS (opV e x), optV e lo, optV e hi with
    | some s, some lo, some hi => match boundV hi s.size s.size with
      | some (c2, h) => match boundV lo 0 h with
        | some (c3, l) => some (c2 ∧ c3, .string (s.extract l h))
        | none => none
      | none => none
    | _, _, _ => none
  | .slA n size x lo hi mx => match asP (opV e x), optV e lo, optV e hi, optV e mx with
    | some (b, o), some lo, some hi, some mx => slV (some ⟨b, o, none⟩) size n n lo hi mx
    | _, _, _, _ => none
  | .arA n x => match asSl (opV e x) with
    | some (a, len, _) => some (n ≤ len, .pointer a)
    | none => none
  | _ => none

theorem optV_sound {e : EEnv} {x : Option Operand} {v : Option Value} (h : optV e x = some v) (β : Nat → Nat) : (∀ y ∈ x.toArray, (denE β e).knows y) ∧ x.map (denE β e).rho = v := by
  unfold optV at h
  split at h
  · simp only [Option.some.injEq] at h; subst h; simp
  · split at h
    · rename_i u hu
      simp only [Option.some.injEq] at h; subst h
      obtain ⟨h1, h2⟩ := opV_sound hu β
      exact ⟨by intro y hy; simp at hy; subst hy; exact h1, by simp [h2]⟩
    · cases h

section
variable {P : Program}
theorem run_bound {x : Option Value} {d m : Nat} {C : Prop} {l : Nat} (h : boundV x d m = some (C, l)) (hC : C) (code : BoundsCode) (w : World) :
    (match x with | some v => Instr.sliceBound v m code | none => (pure d : Sem Nat)).run P w = .ok l w := by
  unfold boundV at h
  split at h
  · simp only [Option.some.injEq, Prod.mk.injEq] at h; obtain ⟨_, rfl⟩ := h; rfl
  · simp only [Option.some.injEq, Prod.mk.injEq] at h
    obtain ⟨rfl, rfl⟩ := h
    simp [Instr.sliceBound, asIntOf, hC, pure]
  · cases h

theorem run_bounds {sl : Bool} {n c : Nat} {lo hi mx : Option Value} {a : Option Addr} {size : Nat} {C : Prop} {v : Value} (h : slV a size n c lo hi mx = some (C, v)) (hC : C) (w : World) :
    ∃ l hh m, v = .slice (slA a m l size) (hh - l) (m - l) ∧ (Instr.sliceBounds sl n c lo hi mx).run P w = .ok (l, hh, m) w := by
  unfold slV at h
  split at h
  · rename_i c1 m h1
    split at h
    · rename_i c2 hh h2
      split at h
      · rename_i c3 l h3
        have fin : ∀ (hx : some (c1 ∧ c2 ∧ c3, Value.slice (slA a m l size) (hh - l) (m - l)) = some (C, v)) (hn : ∀ u, mx = some u → hi ≠ none), ∃ l hh m, v = .slice (slA a m l size) (hh - l) (m - l) ∧ (Instr.sliceBounds sl n c lo hi mx).run P w = .ok (l, hh, m) w := fun hx hn => by
          simp only [Option.some.injEq, Prod.mk.injEq] at hx
          obtain ⟨rfl, rfl⟩ := hx
          obtain ⟨g1, g2, g3⟩ := hC
          refine ⟨l, hh, m, rfl, ?_⟩
          have r1 := fun code => run_bound (P := P) h1 g1 code w
          have r2 := fun code => run_bound (P := P) h2 g2 code w
          have r3 := fun code => run_bound (P := P) h3 g3 code w
          cases mx with
          | none =>
            cases hi with
            | none =>
              cases lo with
              | none =>
                have e1 := r1 .index; have e2 := r2 .index; have e3 := r3 .index
                simp only [pure, Sem.run, Result.ok.injEq, and_true] at e1 e2 e3
                subst e1 e2 e3
                simp [Instr.sliceBounds, pure]
              | some lv =>
                have e1 := r1 .index; have e2 := r2 .index
                simp only [pure, Sem.run, Result.ok.injEq, and_true] at e1 e2
                subst e1 e2
                have e3 := r3 .sliceB
                simp only at e3
                simp [Instr.sliceBounds, e3, pure]
            | some hv =>
              have e1 := r1 .index
              simp only [pure, Sem.run, Result.ok.injEq, and_true] at e1
              subst e1
              have e2 := r2 (if sl then .sliceAcap else .sliceAlen)
              simp only at e2
              cases lo with
              | none =>
                have e3 := r3 .index
                simp only [pure, Sem.run, Result.ok.injEq, and_true] at e3
                subst e3
                simp [Instr.sliceBounds, e2, pure]
              | some lv =>
                have e3 := r3 .sliceB
                simp only at e3
                simp [Instr.sliceBounds, e2, e3, pure]
          | some mv =>
            cases hi with
            | none => exact absurd rfl (hn mv rfl)
            | some hv =>
              have e1 := r1 (if sl then .slice3Acap else .slice3Alen)
              have e2 := r2 .slice3B
              simp only at e1 e2
              cases lo with
              | none =>
                have e3 := r3 .index
                simp only [pure, Sem.run, Result.ok.injEq, and_true] at e3
                subst e3
                simp [Instr.sliceBounds, e1, e2, pure]
              | some lv =>
                have e3 := r3 .slice3C
                simp only at e3
                simp [Instr.sliceBounds, e1, e2, e3, pure]
        split at h
        · cases h
        · rename_i hne
          exact fin h fun u hu hi0 => hne u hu hi0
      · cases h
    · cases h
  · cases h
end

theorem chk_light {i : MI} {e : EEnv} {C : Prop} {v : Value} (h : i.chk e = some (C, v)) : i.light = true := by
  cases i <;> first | rfl | (simp only [MI.chk] at h; cases h)

theorem addr_lit (b o n : Nat) : Addr.add ⟨b, o, none⟩ n = ⟨b, o + n, none⟩ := Addr.add_lit b o n

theorem binI_chk {P : Program} {op : BinOp} {t yT ty : TypeId} {x y : Operand} {e : EEnv} {C : Prop} {v : Value} (β : Nat → Nat) (hs : (toBinI op x y).chk e = some (C, v)) (hC : C) :
    ((denE β e).knows x ∧ (denE β e).knows y) ∧ ∀ w, (execOp (denE β e).rho (mkOper (.binOp op t x y yT) ty)).run P w = .ok (.value v) w := by
  have div : ∀ (hs : (MI.idiv op x y).chk e = some (C, v)) (hop : ∀ (k : IntKind) (a n : Int) (r : EV), n ≠ 0 → idivV op k a n = some r → eqGuard op t x y (.int k a) (.int k n) = pure () ∧ ∀ w, (binOp op t (.int k a) (.int k n)).run P w = .ok (r.den β) w),
      ((denE β e).knows x ∧ (denE β e).knows y) ∧ ∀ w, (execOp (denE β e).rho (mkOper (.binOp op t x y yT) ty)).run P w = .ok (.value v) w := fun hs hop => by
    simp only [MI.chk] at hs
    split at hs
    · rename_i k a k' b hx hy
      cases hk : sameK k k'
      · rw [hk] at hs; cases hs
      · rw [hk] at hs
        have := sameK_eq hk; subst this
        simp only [cond_true] at hs
        split at hs
        · rename_i v' hv
          simp only [Option.some.injEq, Prod.mk.injEq] at hs
          obtain ⟨rfl, rfl⟩ := hs
          obtain ⟨k1, r1⟩ := opV_sound (asI_some hx) β
          obtain ⟨k2, r2⟩ := opV_sound (asI_some hy) β
          obtain ⟨g1, g2⟩ := hop k a b _ hC hv
          refine ⟨⟨k1, k2⟩, fun w => ?_⟩
          simp only [execOp, mkOper, r1, r2, g1]
          simp [g2, EV.den]
        · cases hs
    · cases hs
  have shf : ∀ (hs : (MI.ish op x y).chk e = some (C, v)) (hop : ∀ (k k' : IntKind) (a b : Int) (r : EV), 0 ≤ b → ishV op k a b.toNat = some r → eqGuard op t x y (.int k a) (.int k' b) = pure () ∧ ∀ w, (binOp op t (.int k a) (.int k' b)).run P w = .ok (r.den β) w),
      ((denE β e).knows x ∧ (denE β e).knows y) ∧ ∀ w, (execOp (denE β e).rho (mkOper (.binOp op t x y yT) ty)).run P w = .ok (.value v) w := fun hs hop => by
    simp only [MI.chk] at hs
    split at hs
    · rename_i k a k' b hx hy
      split at hs
      · rename_i v' hv
        simp only [Option.some.injEq, Prod.mk.injEq] at hs
        obtain ⟨rfl, rfl⟩ := hs
        obtain ⟨k1, r1⟩ := opV_sound (asI_some hx) β
        obtain ⟨k2, r2⟩ := opV_sound (asI_some hy) β
        obtain ⟨g1, g2⟩ := hop k k' a b _ hC hv
        refine ⟨⟨k1, k2⟩, fun w => ?_⟩
        simp only [execOp, mkOper, r1, r2, g1]
        simp [g2, EV.den]
      · cases hs
    · cases hs
  cases op <;> simp only [toBinI] at hs <;> try (simp only [MI.chk] at hs; cases hs; done)
  case quo =>
    split at hs
    · split at hs
      · exact div hs fun k a n r hn hr => by simp only [idivV, Option.some.injEq] at hr; subst hr; exact ⟨rfl, fun w => by simp [binOp, Op.intDiv, EV.den, hn]⟩
      · simp only [MI.chk] at hs; cases hs
    · exact div hs fun k a n r hn hr => by simp only [idivV, Option.some.injEq] at hr; subst hr; exact ⟨rfl, fun w => by simp [binOp, Op.intDiv, EV.den, hn]⟩
  case rem =>
    split at hs
    · split at hs
      · exact div hs fun k a n r hn hr => by simp only [idivV, Option.some.injEq] at hr; subst hr; exact ⟨rfl, fun w => by simp [binOp, Op.intDiv, EV.den, hn]⟩
      · simp only [MI.chk] at hs; cases hs
    · exact div hs fun k a n r hn hr => by simp only [idivV, Option.some.injEq] at hr; subst hr; exact ⟨rfl, fun w => by simp [binOp, Op.intDiv, EV.den, hn]⟩
  case shl =>
    split at hs
    · simp only [MI.chk] at hs; cases hs
    · exact shf hs fun k k' a b r hb hr => by simp only [ishV, Option.some.injEq] at hr; subst hr; exact ⟨rfl, fun w => (by have hn : ¬ (b < 0) := (by omega); simp only [binOp, Op.shift, hn, if_false, EV.den, shlV]; rfl)⟩
  case shr =>
    split at hs
    · simp only [MI.chk] at hs; cases hs
    · exact shf hs fun k k' a b r hb hr => by simp only [ishV, Option.some.injEq] at hr; subst hr; exact ⟨rfl, fun w => (by have hn : ¬ (b < 0) := (by omega); simp only [binOp, Op.shift, hn, if_false, EV.den, shrV]; rfl)⟩

theorem optOps {e : EEnv} {β : Nat → Nat} {x : Operand} {lo hi mx : Option Operand} (h1 : (denE β e).knows x) (h2 : ∀ y ∈ lo.toArray, (denE β e).knows y) (h3 : ∀ y ∈ hi.toArray, (denE β e).knows y) (h4 : ∀ y ∈ mx.toArray, (denE β e).knows y) :
    ∀ z ∈ (Op.slice 0 x lo hi mx).operands, (denE β e).knows z := fun z hz => by
  simp only [Op.operands, Array.mem_append] at hz
  rcases hz with ((hz | hz) | hz) | hz
  · rw [Array.mem_singleton.1 hz]; exact h1
  · exact h2 z hz
  · exact h3 z hz
  · exact h4 z hz

theorem chk_sound {P : Program} {o : Op} {ty : TypeId} {i : MI} {e : EEnv} {C : Prop} {v : Value} (β : Nat → Nat) (h : toInstr P o ty = some i) (hs : i.chk e = some (C, v)) (hC : C) :
    (∀ x ∈ o.operands, (denE β e).knows x) ∧ ∀ w, (execOp (denE β e).rho (mkOper o ty)).run P w = .ok (.value v) w := by
  have hmi : toMI P o ty = some i := by
    cases hm : toMI P o ty with
    | none =>
      unfold toInstr at h
      rw [hm] at h
      simp only at h
      split at h
      · cases h
      · simp only [Option.some.injEq] at h
        subst h
        cases hs
    | some j => unfold toInstr at h; rw [hm] at h; exact h
  have two' : ∀ {x y : Operand}, (denE β e).knows x → (denE β e).knows y → ∀ z ∈ #[x, y], (denE β e).knows z := fun h1 h2 z hz => by
    simp only [List.mem_toArray, List.mem_cons, List.not_mem_nil, or_false] at hz
    rcases hz with rfl | rfl
    · exact h1
    · exact h2
  have ht := tag_eq hmi
  cases o <;> first | (exfalso; cases i <;> first | (simp only [MI.chk] at hs; cases hs; done) | (revert ht; simp [MI.tag, opTag]; done)) | skip
  case binOp op t x y yT =>
    simp only [toMI] at hmi
    unfold toBin at hmi
    split at hmi
    · simp only [Option.some.injEq] at hmi; subst hmi
      obtain ⟨h1, h2⟩ := binI_chk (P := P) (t := t) (yT := yT) (ty := ty) β hs hC
      exact ⟨two' h1.1 h1.2, h2⟩
    · split at hmi
      · simp only [Option.some.injEq] at hmi; subst hmi
        simp only [MI.chk] at hs
        split at hs
        · rename_i a b ha hb
          simp only [Option.some.injEq, Prod.mk.injEq] at hs
          obtain ⟨rfl, rfl⟩ := hs
          obtain ⟨k1, r1⟩ := opV_sound (asS_some ha) β
          obtain ⟨k2, r2⟩ := opV_sound (asS_some hb) β
          refine ⟨two' k1 k2, fun w => ?_⟩
          have hn : ¬ (((a.size + b.size : Nat) : Int) > IntKind.i64.max) := by rw [IntKind.max_i64]; omega
          simp only [execOp, mkOper, r1, r2, eqGuard_add]
          simp only [binOp, Op.stringOp, if_neg hn]
          rfl
        · cases hs
      all_goals first
        | (simp only [Option.some.injEq] at hmi; subst hmi; simp only [MI.chk] at hs; cases hs; done)
        | cases hmi
    all_goals ((repeat' split at hmi) <;> first | (cases hmi; done) | (simp only [Option.some.injEq] at hmi; subst hmi; simp only [MI.chk] at hs; cases hs; done) | (simp only [Option.map_eq_some_iff] at hmi; obtain ⟨_, _, rfl⟩ := hmi; simp only [MI.chk] at hs; cases hs; done))
  case slice t x lo hi mx =>
    simp only [toMI] at hmi
    unfold toSl at hmi
    split at hmi
    · rename_i n el hu
      simp only [Option.map_eq_some_iff] at hmi
      obtain ⟨sz, hsz, rfl⟩ := hmi
      simp only [MI.chk] at hs
      split at hs
      · rename_i b off lo' hi' mx' hx hlo hhi hmx
        obtain ⟨k1, r1⟩ := opV_sound (asP_some hx) β
        obtain ⟨k2, r2⟩ := optV_sound hlo β
        obtain ⟨k3, r3⟩ := optV_sound hhi β
        obtain ⟨k4, r4⟩ := optV_sound hmx β
        refine ⟨optOps k1 k2 k3 k4, fun w => ?_⟩
        obtain ⟨l, hh, m, rfl, hrun⟩ := run_bounds (P := P) (sl := false) hs hC w
        simp only [execOp, mkOper, r1, r2, r3, r4]
        simp [Instr.sliceAt, run_underlying hu, Instr.sureAddr, hrun, size_of hsz, slA, pure]
        split <;> rfl
      · cases hs
    · rename_i el hu
      simp only [Option.map_eq_some_iff] at hmi
      obtain ⟨sz, hsz, rfl⟩ := hmi
      simp only [MI.chk] at hs
      split at hs
      · rename_i a n c lo' hi' mx' hx hlo hhi hmx
        obtain ⟨k1, r1⟩ := opV_sound (asSl_some hx) β
        obtain ⟨k2, r2⟩ := optV_sound hlo β
        obtain ⟨k3, r3⟩ := optV_sound hhi β
        obtain ⟨k4, r4⟩ := optV_sound hmx β
        refine ⟨optOps k1 k2 k3 k4, fun w => ?_⟩
        obtain ⟨l, hh, m, rfl, hrun⟩ := run_bounds (P := P) (sl := true) hs hC w
        simp only [execOp, mkOper, r1, r2, r3, r4]
        simp [Instr.sliceAt, Instr.slice, run_underlying hu, hrun, size_of hsz, slA, pure]
      · cases hs
    · rename_i hu
      split at hmi
      · simp only [Option.some.injEq] at hmi; subst hmi
        simp only [MI.chk] at hs
        split at hs
        · rename_i s lo' hi' hx hlo hhi
          obtain ⟨k1, r1⟩ := opV_sound (asS_some hx) β
          obtain ⟨k2, r2⟩ := optV_sound hlo β
          obtain ⟨k3, r3⟩ := optV_sound hhi β
          refine ⟨optOps k1 k2 k3 (by intro y hy; simp at hy), fun w => ?_⟩
          split at hs
          · rename_i c2 hh h2
            split at hs
            · rename_i c3 l h3
              simp only [Option.some.injEq, Prod.mk.injEq] at hs
              obtain ⟨rfl, rfl⟩ := hs
              have hll : ∀ code, (match lo' with | some v => Instr.sliceBound v hh code | none => (pure 0 : Sem Nat)).run P w = .ok l w := fun code => run_bound h3 hC.2 code w
              have hhh : ∀ code, (match hi' with | some v => Instr.sliceBound v s.size code | none => (pure s.size : Sem Nat)).run P w = .ok hh w := fun code => run_bound h2 hC.1 code w
              have hb : (Instr.sliceBounds false s.size s.size lo' hi' none).run P w = .ok (l, hh, s.size) w := by
                cases hi' with
                | none =>
                  have e2 := hhh .index
                  simp only [pure, Sem.run, Result.ok.injEq, and_true] at e2
                  subst e2
                  cases lo' with
                  | none =>
                    have e3 := hll .index
                    simp only [pure, Sem.run, Result.ok.injEq, and_true] at e3
                    subst e3
                    simp [Instr.sliceBounds, pure]
                  | some lv =>
                    have e3 := hll .sliceB
                    simp only at e3
                    simp [Instr.sliceBounds, e3, pure]
                | some hv' =>
                  have e2 := hhh .sliceAlen
                  simp only at e2
                  cases lo' with
                  | none =>
                    have e3 := hll .index
                    simp only [pure, Sem.run, Result.ok.injEq, and_true] at e3
                    subst e3
                    simp [Instr.sliceBounds, e2, pure]
                  | some lv =>
                    have e3 := hll .sliceB
                    simp only at e3
                    simp [Instr.sliceBounds, e2, e3, pure]
              simp only [execOp, mkOper, r1, r2, r3]
              simp [Instr.sliceAt, Instr.slice, run_underlying hu, hb, pure]
            · cases hs
          · cases hs
        · cases hs
      · cases hmi
    · cases hmi
  case sliceToArrayPointer t x =>
    simp only [toMI] at hmi
    split at hmi
    · rename_i n el hu
      simp only [Option.some.injEq] at hmi; subst hmi
      simp only [MI.chk] at hs
      split at hs
      · rename_i a len cp hx
        simp only [Option.some.injEq, Prod.mk.injEq] at hs
        obtain ⟨rfl, rfl⟩ := hs
        obtain ⟨k1, r1⟩ := opV_sound (asSl_some hx) β
        refine ⟨fun z hz => by rw [Array.mem_singleton.1 hz]; exact k1, fun w => ?_⟩
        have hn : ¬ (len < n) := by omega
        simp only [execOp, mkOper, r1]
        simp [Instr.arrayAt, run_underlying hu, hn, pure]
      · cases hs
    · cases hmi
  case indexAddr t x j =>
    simp only [toMI] at hmi
    unfold toIdx at hmi
    split at hmi
    · rename_i n el hu
      split at hmi
      · rename_i sz hsz
        have key : ∀ (hi : (MI.idxA n sz x j) = i), (∀ x_1 ∈ (Op.indexAddr t x j).operands, (denE β e).knows x_1) ∧ ∀ w, (execOp (denE β e).rho (mkOper (.indexAddr t x j) ty)).run P w = .ok (.value v) w := fun hi => by
          subst hi
          simp only [MI.chk] at hs
          split at hs
          · rename_i b off kd jj hx hj
            simp only [Option.some.injEq, Prod.mk.injEq] at hs
            obtain ⟨rfl, rfl⟩ := hs
            obtain ⟨k1, r1⟩ := opV_sound (asP_some hx) β
            obtain ⟨k2, r2⟩ := opV_sound (asI_some hj) β
            refine ⟨two' k1 k2, fun w => ?_⟩
            simp only [execOp, mkOper, r1, r2]
            simp [Instr.indexAt, run_underlying hu, asIntOf, Instr.sureAddr, size_of hsz, hC, Addr.add_lit, pure]
          · cases hs
        split at hmi
        · split at hmi
          · simp only [Option.some.injEq] at hmi; subst hmi; simp only [MI.chk] at hs; cases hs
          · simp only [Option.some.injEq] at hmi; exact key hmi
        · simp only [Option.some.injEq] at hmi; exact key hmi
      · cases hmi
    · rename_i el hu
      simp only [Option.map_eq_some_iff] at hmi
      obtain ⟨sz, hsz, rfl⟩ := hmi
      simp only [MI.chk] at hs
      split at hs
      · rename_i b off n cp kd jj hx hj
        simp only [Option.some.injEq, Prod.mk.injEq] at hs
        obtain ⟨rfl, rfl⟩ := hs
        obtain ⟨k1, r1⟩ := opV_sound (asSl_some hx) β
        obtain ⟨k2, r2⟩ := opV_sound (asI_some hj) β
        refine ⟨two' k1 k2, fun w => ?_⟩
        simp only [execOp, mkOper, r1, r2]
        simp [Instr.indexAt, run_underlying hu, asIntOf, size_of hsz, hC, Addr.add_lit, pure]
      · cases hs
    · cases hmi
  case index t x j =>
    simp only [toMI] at hmi
    split at hmi
    · rename_i hu
      simp only [Option.some.injEq] at hmi; subst hmi
      simp only [MI.chk] at hs
      split at hs
      · rename_i s kd jj hx hj
        simp only [Option.some.injEq, Prod.mk.injEq] at hs
        obtain ⟨rfl, rfl⟩ := hs
        obtain ⟨k1, r1⟩ := opV_sound (asS_some hx) β
        obtain ⟨k2, r2⟩ := opV_sound (asI_some hj) β
        refine ⟨two' k1 k2, fun w => ?_⟩
        have hlt : jj.toNat < s.size := by omega
        have hb : s[jj.toNat]? = some (s[jj.toNat]'hlt) := by simp [getElem?_def, hlt]
        have hv : bytA s jj.toNat = ((s[jj.toNat]'hlt).toNat : Nat) := by
          unfold bytA
          have hlt' : jj.toNat < s.data.toList.length := by simpa using hlt
          rw [List.getD_eq_getElem?_getD, List.getElem?_eq_getElem hlt']
          rfl
        simp only [execOp, mkOper, r1, r2]
        simp [Instr.index, asIntOf, run_underlying hu, hC.1, hb, hv, pure]
      · cases hs
    · cases hmi

end Go.HM
