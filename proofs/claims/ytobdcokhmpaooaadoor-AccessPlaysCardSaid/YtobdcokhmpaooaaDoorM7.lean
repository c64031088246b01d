/- The rules of the judgement. -/
import Derived.Test.YtobdcokhmpaooaaDoorM6
namespace Go.HM
open Go
set_option linter.unusedSimpArgs false
set_option linter.unusedVariables false

/-! ### What the model does at the rest of what changes the world -/
section
variable {P : Program} {o : Op} {ty : TypeId}

theorem mkSl_run {t : TypeId} {l c : Operand} (h : toInstr P o ty = some (.mkSl t l c)) : o.operands = #[l, c] ∧ ∀ (ρ : Operand → Value) (w w' : World) (v : Value), (Instr.makeSlice t (ρ l) (ρ c)).run P w = .ok v w' →
    (execOp ρ (mkOper o ty)).run P w = .ok (.value v) w' := by
  replace h := mi_of h (by simp [MI.tag])
  have ht := tag_eq h
  cases o <;> first | (exfalso; revert ht; simp [MI.tag, opTag]; done) | skip
  simp only [toMI, Option.some.injEq, MI.mkSl.injEq] at h
  obtain ⟨rfl, rfl, rfl⟩ := h
  exact ⟨rfl, fun ρ w w' v hr => by simp [execOp, mkOper, hr, pure]⟩

theorem cvBS_run {x : Operand} (h : toInstr P o ty = some (.cvBS x)) : o.operands = #[x] ∧ ∀ (ρ : Operand → Value) (w w' : World) (a : Option Addr) (n c : Nat) (v : Value), ρ x = .slice a n c → (Conv.bytesToString (.slice a n c)).run P w = .ok v w' →
    (execOp ρ (mkOper o ty)).run P w = .ok (.value v) w' := by
  replace h := mi_of h (by simp [MI.tag])
  have ht := tag_eq h
  cases o <;> first | (exfalso; revert ht; simp [MI.tag, opTag]; done) | skip
  simp only [toMI] at h
  unfold toConv at h
  split at h
  · cases h
  · cases h
  · rename_i e hu1 hu2
    split at h
    · rename_i hue
      simp only [Option.some.injEq, MI.cvBS.injEq] at h; subst h
      refine ⟨rfl, fun ρ w w' a n c v hr hv => ?_⟩
      simp only [execOp, mkOper, hr]
      cases a <;> simp [convert, run_underlying hu1, run_underlying hu2, run_underlying hue, hv, pure]
    · cases h
  · split at h <;> cases h
  · cases h

theorem cvSB_run {x : Operand} {t : TypeId} (h : toInstr P o ty = some (.cvSB t x)) : o.operands = #[x] ∧ ∀ (ρ : Operand → Value) (w w' : World) (s : ByteArray) (v : Value), ρ x = .string s → (Conv.stringToBytes t s).run P w = .ok v w' →
    (execOp ρ (mkOper o ty)).run P w = .ok (.value v) w' := by
  replace h := mi_of h (by simp [MI.tag])
  have ht := tag_eq h
  cases o <;> first | (exfalso; revert ht; simp [MI.tag, opTag]; done) | skip
  simp only [toMI] at h
  unfold toConv at h
  split at h
  · cases h
  · cases h
  · split at h <;> cases h
  · rename_i e hu1 hu2
    split at h
    · rename_i hue
      simp only [Option.some.injEq, MI.cvSB.injEq] at h
      obtain ⟨rfl, rfl⟩ := h
      refine ⟨rfl, fun ρ w w' s v hr hv => ?_⟩
      simp only [execOp, mkOper, hr]
      simp [convert, run_underlying hu1, run_underlying hu2, run_underlying hue, hv, pure]
    · cases h
  · cases h

theorem call_ops {c : Call} {e : Env} {xs : List Operand} (hx : c.args.toList = xs) (hc : ∀ y ∈ (match c.callee with | .value f => #[f] | .invoke r _ => #[r] | .builtin _ => #[]), e.knows y) (hk : ∀ x ∈ xs, e.knows x) :
    ∀ z ∈ (Op.call c).operands, e.knows z := fun z hz => by
  simp only [Op.operands, Call.operands, Array.mem_append] at hz
  rcases hz with hz | hz
  · exact hc z hz
  · exact hk z (by rw [← hx]; simpa using hz)

theorem bi_run {b : Builtin} {ats : List TypeId} {t : TypeId} {args : List Operand} (h : toInstr P o ty = some (.bi b ats t args)) : (∀ e : Env, (∀ x ∈ args, e.knows x) → ∀ x ∈ o.operands, e.knows x) ∧
    ∀ (ρ : Operand → Value) (w w' : World) (v : Value), (builtin b ats.toArray t #[] (args.map ρ).toArray).run P w = .ok (.value v) w' → (execOp ρ (mkOper o ty)).run P w = .ok (.value v) w' := by
  replace h := mi_of h (by simp [MI.tag])
  have ht := tag_eq h
  cases o <;> first | (exfalso; revert ht; simp [MI.tag, opTag]; done) | skip
  rename_i c
  simp only [toMI] at h
  unfold toCall at h
  split at h
  · rename_i b' hb
    have key : ∀ (hh : MI.bi b' c.argTypes.toList ty c.args.toList = .bi b ats t args) (hnc : b' = .append ∨ b' = .copy ∨ b' = .clear), (∀ e : Env, (∀ x ∈ args, e.knows x) → ∀ x ∈ (Op.call c).operands, e.knows x) ∧
        ∀ (ρ : Operand → Value) (w w' : World) (v : Value), (builtin b ats.toArray t #[] (args.map ρ).toArray).run P w = .ok (.value v) w' → (execOp ρ (mkOper (.call c) ty)).run P w = .ok (.value v) w' := fun hh hnc => by
      simp only [MI.bi.injEq] at hh
      obtain ⟨rfl, rfl, rfl, rfl⟩ := hh
      refine ⟨fun e he => call_ops rfl (by rw [hb]; intro y hy; simp at hy) he, fun ρ w w' v hr => ?_⟩
      have e1 : (List.map ρ c.args.toList).toArray = c.args.map ρ := Array.toList_inj.1 (by simp)
      rw [e1] at hr
      have e2 : ∀ cs, builtin b' c.argTypes ty cs (c.args.map ρ) = builtin b' c.argTypes ty #[] (c.args.map ρ) := fun cs => by rcases hnc with rfl | rfl | rfl <;> rfl
      simp only [execOp, mkOper, resolve, hb, invoke]
      have e3 : c.argTypes.toList.toArray = c.argTypes := by simp
      rw [e3] at hr
      simp [pure, invoke, e2, hr]
    unfold toBuiltin at h
    split at h
    all_goals first
      | (simp only [Option.some.injEq] at h; exact key h (by simp))
      | ((repeat' split at h) <;> first | (cases h; done) | (simp only [Option.some.injEq] at h; cases h; done))
  · split at h <;> cases h
  · cases h
  · cases h

theorem callFunc_run {f : FuncId} (hb : hasBody P f = true) (args : Array Value) (w : World) : (callFunc f args).run P w = .ok (.enter f args) w := by
  unfold hasBody at hb
  split at hb
  · rename_i fn hfn
    simp only [Bool.and_eq_true, bne_iff_ne, ne_eq] at hb
    have h2 : ¬ fn.body = none := fun e => by rw [e] at hb; simp at hb
    simp [callFunc, hfn, hb.2, h2, pure, program, Sem.run]
  · cases hb

theorem call_run {f : FuncId} {args : List Operand} (h : toInstr P o ty = some (.call f args)) : (∀ e : Env, (∀ x ∈ args, e.knows x) → ∀ x ∈ o.operands, e.knows x) ∧
    ∀ (ρ : Operand → Value) (w : World), (∀ g, ρ (.func g) = .func (.func g) #[] #[]) → (execOp ρ (mkOper o ty)).run P w = .ok (.enter f (args.map ρ).toArray) w := by
  replace h := mi_of h (by simp [MI.tag])
  have ht := tag_eq h
  cases o <;> first | (exfalso; revert ht; simp [MI.tag, opTag]; done) | skip
  rename_i c
  simp only [toMI] at h
  unfold toCall at h
  split at h
  · unfold toBuiltin at h; (repeat' split at h) <;> first | (cases h; done) | (simp only [Option.some.injEq] at h; cases h; done)
  · rename_i g hg
    split at h
    · rename_i hb
      simp only [Option.some.injEq, MI.call.injEq] at h
      obtain ⟨rfl, rfl⟩ := h
      refine ⟨fun e he => call_ops rfl (by rw [hg]; intro y hy; rw [Array.mem_singleton.1 hy]; trivial) he, fun ρ w hρ => ?_⟩
      have e1 : (List.map ρ c.args.toList).toArray = c.args.map ρ := Array.toList_inj.1 (by simp)
      simp only [execOp, mkOper, resolve, hg, hρ, Deferred.ofValue, Sem.run_bind]
      simp [pure, invoke, callFunc_run hb, Sem.run, e1]
    · cases h
  · cases h
  · cases h

theorem dcall_run {fv : Operand} {args : List Operand} (h : toInstr P o ty = some (.dcall fv args)) : (∀ e : Env, e.knows fv → (∀ x ∈ args, e.knows x) → ∀ x ∈ o.operands, e.knows x) ∧
    ∀ (ρ : Operand → Value) (w : World) (f : FuncId) (first captured : Array Value), ρ fv = .func (.func f) first captured → hasBody P f = true →
      (execOp ρ (mkOper o ty)).run P w = .ok (.enter f (first ++ (args.map ρ).toArray ++ captured)) w := by
  replace h := mi_of h (by simp [MI.tag])
  have ht := tag_eq h
  cases o <;> first | (exfalso; revert ht; simp [MI.tag, opTag]; done) | skip
  rename_i c
  simp only [toMI] at h
  unfold toCall at h
  split at h
  · unfold toBuiltin at h; (repeat' split at h) <;> first | (cases h; done) | (simp only [Option.some.injEq] at h; cases h; done)
  · split at h <;> cases h
  · rename_i t hg
    simp only [Option.some.injEq, MI.dcall.injEq] at h
    obtain ⟨rfl, rfl⟩ := h
    refine ⟨fun e he1 he => call_ops rfl (by rw [hg]; intro y hy; rw [Array.mem_singleton.1 hy]; exact he1) he, fun ρ w f first captured hf hb => ?_⟩
    have e1 : (List.map ρ c.args.toList).toArray = c.args.map ρ := Array.toList_inj.1 (by simp)
    simp only [execOp, mkOper, resolve, hg, hf, Deferred.ofValue, Sem.run_bind]
    simp [pure, invoke, callFunc_run hb, Sem.run, e1]
  · cases h

theorem bldS_run {e : TypeId} {len : Nat} {zero : List Value} {parts : List (Nat × Nat × Operand)} (h : toInstr P o ty = some (.bldS e len zero parts)) : ∀ (en : EEnv) (β : Nat → Nat) (w : World) (vs : List (Nat × Nat × Value)) (cs : List Value),
    partVs en parts = some vs → fillL zero vs = some cs → (∀ x ∈ o.operands, (denE β en).knows x) ∧
      (execOp (denE β en).rho (mkOper o ty)).run P w = .ok (.value (.slice (some ⟨w.heap.size, 0, none⟩) len len)) { w with heap := w.heap.push (.cells cs.toArray e) } := by
  replace h := mi_of h (by simp [MI.tag])
  have ht := tag_eq h
  cases o <;> first | (exfalso; revert ht; simp [MI.tag, opTag]; done) | skip
  rename_i t len' parts'
  simp only [toMI] at h
  unfold toBldS at h
  split at h
  · rename_i e' hu
    split at h
    · rename_i ie hie
      split at h
      · rename_i z hz
        split at h
        · cases h
        · rename_i hsz
          split at h
          · rename_i ps hps
            simp only [Option.some.injEq, MI.bldS.injEq] at h
            obtain ⟨rfl, rfl, rfl, rfl⟩ := h
            intro en β w vs cs hvs hcs
            obtain ⟨h1, h2⟩ := parts_rel β parts'.toList ps vs hps hvs
            refine ⟨fun x hx => ?_, ?_⟩
            · simp only [Op.operands, List.mem_toArray, List.mem_map] at hx
              obtain ⟨p, hp, rfl⟩ := hx
              exact h1 p hp
            · have hfill := fill_sound _ _ vs ((Array.range (len' * ie.size)).map (z.cells[· % z.cells.size]!)) cs h2 hcs
              have e1 : (parts'.map fun p => (p.1, (denE β en).rho p.2)).toList = parts'.toList.map fun p => (p.1, (denE β en).rho p.2) := by simp
              rw [← e1] at hfill
              have hs : (sizeOf e').run P w = .ok ie.size w := by simp [sizeOf, typeInfo, hie]
              have hzv : (zeroValue e').run P w = .ok z w := by simp [zeroValue, typeInfo, hie, hz]
              simp only [execOp, mkOper, Instr.buildSlice, Sem.run_bind, run_underlying hu, hs, Result.andThen_ok, if_neg hsz]
              by_cases h0 : len' * ie.size = 0
              · have e0 : ∀ g : Nat → Value, (Array.range (len' * ie.size)).map g = #[] := fun g => by rw [h0]; simp
                rw [e0] at hfill
                simp only [if_pos h0, Sem.run_bind, pure, Sem.run, Result.andThen_ok, e0]
                rw [hfill]
                simp [newRow, newObj, Sem.run, pure, Sem.bind]
              · simp only [if_neg h0, Sem.run_bind, hzv, Result.andThen_ok, pure, Sem.run]
                rw [hfill]
                simp [newRow, newObj, Sem.run, pure, Sem.bind]
          · cases h
      · cases h
    · cases h
  · cases h
end
end Go.HM
