/- What a run of the small language asks, asked and met, the model's code runs. -/
import Derived.Test.YtobdcokhmpaooaaDoorM1
import Derived.Laws.Sem
namespace Go.HM
open Go
set_option linter.unusedSimpArgs false
set_option linter.unusedVariables false

structure Agr (n : Nat) (e : Env) (a : Act) : Prop where
  size : a.tmps.size = n
  nodef : a.defers = []
  get : ∀ t v, Env.get e t = some v → a.tmps.getD t undef = v

/-- What the small language asks of an exit, of the model's frame. -/
def lift (n : Nat) (Q : Exit → Env → World → Prop) (ex : Exit) (a : Act) (w : World) : Prop :=
  match ex with
  | .normal => ∃ e, Agr n e a ∧ Q .normal e w
  | .exit id => ∃ e, Agr n e a ∧ Q (.exit id) e w
  | .ret => ∃ e, Agr n e a ∧ Q .ret e w
  | _ => False

theorem Agr.eval {n : Nat} {e : Env} {a : Act} (h : Agr n e a) {x : Operand} (hx : e.knows x) : e.rho x = a.eval x := by
  cases x with
  | tmp t =>
    simp only [Env.knows] at hx
    obtain ⟨v, hv⟩ := Option.isSome_iff_exists.1 hx
    simp only [Env.rho, Act.eval, hv, Option.getD_some]
    exact (h.get t v hv).symm
  | const v => rfl
  | global g => rfl
  | func f => rfl

theorem Agr.push {n : Nat} {e : Env} {a : Act} (h : Agr n e a) {d : Option Nat} (hd : dstOk n d = true) (v : Value) : Agr n (push d v e) (a.put d v) := by
  cases d with
  | none => exact h
  | some d =>
    have hlt : d < a.tmps.size := by
      rw [h.size]
      simp only [dstOk, Nat.blt_eq] at hd
      exact hd
    refine ⟨by simp [Act.put, h.size], by simp [Act.put, h.nodef], fun t u hu => ?_⟩
    simp only [HM.push, Env.get] at hu
    by_cases e1 : d = t
    · subst e1
      simp only [Nat.beq_refl, cond_true, Option.some.injEq] at hu
      subst hu
      simp [Act.put, hlt]
    · have hb : Nat.beq d t = false := by
        rw [Bool.eq_false_iff]; intro hc; exact e1 (Nat.eq_of_beq_eq_true hc)
      simp only [hb, cond_false] at hu
      have := h.get t u hu
      simp only [Act.put]
      rw [← this]
      simp [Array.getElem?_setIfInBounds_ne e1]

theorem Agr.sub {n : Nat} {e e' : Env} {a : Act} (h : Agr n e a) (hs : Sub e' e) : Agr n e' a := ⟨h.size, h.nodef, fun t v ht => h.get t v (hs t v ht)⟩

theorem execOp_mk (ρ : Operand → Value) (o : Oper) : execOp ρ (mkOper o.op o.type) = execOp ρ o := by cases o; rfl

theorem toInstr_nosel {P : Program} {o : Op} {ty : TypeId} {i : MI} (h : toInstr P o ty = some i) : ∀ cs b, o ≠ .select cs b := by
  intro cs b e
  subst e
  simp [toInstr, toMI] at h

theorem exec_same {P : Program} {n : Nat} {e : Env} {a : Act} {o : Oper} {i : MI} (h : toInstr P o.op o.type = some i) (ha : Agr n e a)
    (hk : ∀ x ∈ o.op.operands, e.knows x) : execOp e.rho (mkOper o.op o.type) = execOp a.eval o := by
  rw [execOp_mk]
  exact execOp_congr o (toInstr_nosel h) fun x hx => ha.eval (hk x hx)

theorem chainOp_inv {P : Program} {n : Nat} {ops : Array Oper} {i : Nat} {k : Option MC} {m : MC} (h : chainOp P n ops i k = some m) :
    ∃ o k' g mi, ops[i]? = some o ∧ k = some k' ∧ gSlot ops o.guard = some g ∧ toInstr P o.op o.type = some mi ∧ dstOk n o.dst = true ∧ m = .op g o.dst mi k' := by
  unfold chainOp at h
  split at h
  · rename_i o k' ho
    split at h
    · rename_i g mi hg hm
      split at h
      · rename_i hd
        exact ⟨o, k', g, mi, ho, rfl, hg, hm, hd, (Option.some.inj h).symm⟩
      · cases h
    · cases h
  · cases h

/-- Whether an operation is wanted, by what its guard's slot holds. -/
theorem wanted_of {n : Nat} {e : Env} {a : Act} {ops : Array Oper} {o : Oper} {j : Nat} {want : Bool} {v : Value} (ha : Agr n e a)
    (hg : gSlot ops o.guard = some (some (j, want))) (hv : Env.get e j = some v) :
    (v = .bool want → Region.wanted o (yielded ops a.tmps) = true) ∧ (v ≠ .bool want → Region.wanted o (yielded ops a.tmps) = false) := by
  unfold gSlot at hg
  split at hg
  · cases hg
  · rename_i j' want' hgd
    split at hg
    · rename_i s hs
      simp only [Option.some.injEq, Prod.mk.injEq] at hg
      obtain ⟨rfl, rfl⟩ := hg
      have hget := ha.get s v hv
      have hy : yielded ops a.tmps j' = (match a.tmps[s]? with | some (.bool b) => some b | _ => none) := by
        simp only [yielded, hs, Option.bind_some]
        rfl
      have hcase : a.tmps[s]? = some v ∨ (a.tmps[s]? = none ∧ v = undef) := by
        rcases Nat.lt_or_ge s a.tmps.size with h | h
        · left
          simp [Array.getD, h] at hget
          simp [h, hget]
        · right
          have : a.tmps[s]? = none := by simp [h]
          refine ⟨this, ?_⟩
          simp [this] at hget
          exact hget.symm
      simp only [Region.wanted, hgd, hy]
      constructor
      · rintro rfl
        rcases hcase with h | ⟨_, h⟩
        · simp [h]
        · cases h
      · intro hne
        rcases hcase with h | ⟨h, _⟩
        · rw [h]
          cases v with
          | bool b =>
            have : b ≠ want' := fun e => hne (by rw [e])
            simp [this]
          | _ => rfl
        · rw [h]; rfl
    · cases hg

theorem wanted_none {ops : Array Oper} {o : Oper} (hg : gSlot ops o.guard = some none) (y : Nat → Option Bool) : Region.wanted o y = true := by
  unfold gSlot at hg
  split at hg
  · rename_i h; simp [Region.wanted, h]
  · split at hg <;> simp at hg

theorem evt_upon {P : Program} {S : Option (World → Prop)} {a : Act} {w : World} {o : Oper} {next : Act → World → Prop} {Q : Exit → Act → World → Prop}
    {k : Value → World → Prop} (h : Evt P S (execOp a.eval o) w k) (hk : ∀ v w', inS S w' → k v w' → next (a.put o.dst v) w') : o.wp P a w next Q := by
  unfold Oper.wp
  cases h with
  | val v w' h hS hk' => rw [h]; exact hk v w' hS hk'
  | skip w' h hS hk' => rw [h]; exact hk undef w' hS hk'
  | call f args w₁ h hc =>
    rw [h]
    refine Calls.mono hc fun e w' he => ?_
    cases e with
    | returned v => exact hk v w' he.1 he.2
    | panicked c => exact he.elim
    | outgrown => exact he.elim

/-- One operation, of a run, in the model: what its exit asks is asked. -/
theorem op_wp {P : Program} {S : Option (World → Prop)} {n : Nat} {ops : Array Oper} {i : Nat} {o : Oper} {g : Option (Nat × Bool)} {mi : MI} {e : Env} {a : Act} {w : World}
    {Q : Exit → Act → World → Prop} {K : Act → World → Prop} {k : Value → World → Prop} {no : Prop}
    (ho : ops[i]? = some o) (hg : gSlot ops o.guard = some g) (hm : toInstr P o.op o.type = some mi) (ha : Agr n e a) (hal : alike S w w)
    (h : guarded g e (mi.ev P S e w k) no) (hyes : ∀ v w', inS S w' → k v w' → K (a.put o.dst v) w') (hw : inS S w) (hno : no → K (a.put o.dst undef) w) : wpOp P ops Q i K a w := by
  have yes : mi.ev P S e w k → o.wp P a w K Q := fun hev => by
    obtain ⟨hkn, hc⟩ := hev o.op o.type hm
    rw [exec_same hm ha hkn] at hc
    split at hc
    · obtain ⟨v, hv, hkv⟩ := hc
      unfold Oper.wp
      rw [hv w hal]
      exact hyes v w hw hkv
    · exact evt_upon hc hyes
  unfold wpOp
  simp only [ho]
  cases g with
  | none =>
    rw [wanted_none hg]
    simp only [if_true]
    exact .inl (yes h)
  | some p =>
    obtain ⟨j, want⟩ := p
    obtain ⟨v, hv, h1, h2⟩ := h
    obtain ⟨w1, w2⟩ := wanted_of ha hg hv
    by_cases hc : v = .bool want
    · rw [w1 hc]; simp only [if_true]; exact .inl (yes (h1 hc))
    · rw [w2 hc]; simp only [Bool.false_eq_true, if_false]; exact hno (h2 hc)

theorem chain_sound {P : Program} {n : Nat} {ops : Array Oper} {Q : Exit → Env → World → Prop} : ∀ (l : List Nat) (m : MC), chain P n ops l = some m →
    ∀ (e : Env) (a : Act) (w : World), Agr n e a → run P none m Q e w → wpOps P ops (lift n Q) l a w
  | [], m, h, e, a, w, ha, hr => by
    simp only [chain, Option.some.injEq] at h
    subst h
    exact ⟨e, ha, hr⟩
  | i :: rest, m, h, e, a, w, ha, hr => by
    obtain ⟨o, k', g, mi, ho, hk, hg, hm, hd, rfl⟩ := chainOp_inv h
    rw [wpOps_cons]
    simp only [run] at hr
    exact op_wp (S := none) ho hg hm ha rfl hr (fun v w' _ hkv => chain_sound rest k' hk _ _ w' (ha.push hd v) hkv) trivial (fun hno => chain_sound rest k' hk _ _ w (ha.push hd undef) hno)

theorem allOf_inv {P : Program} {S : Option (World → Prop)} {Q : Exit → Env → World → Prop} {e : Env} {w : World} : ∀ (l : List (Option MC)) (m : MC), allOf l = some m → run P S m Q e w →
    ∀ x ∈ l, ∃ mx, x = some mx ∧ run P S mx Q e w
  | [], _, h, _ => by cases h
  | [x], m, h, hr => by
    simp only [allOf] at h
    intro y hy
    rw [List.mem_singleton] at hy
    exact ⟨m, hy.trans h, hr⟩
  | x :: y :: r, m, h, hr => by
    simp only [allOf] at h
    split at h
    · rename_i a b hb
      simp only [Option.some.injEq] at h
      subst h
      simp only [run] at hr
      intro z hz
      rcases List.mem_cons.1 hz with rfl | hz
      · exact ⟨a, rfl, hr.1⟩
      · exact allOf_inv (y :: r) b hb hr.2 z hz
    · cases h

theorem wpAnyH_weak {P : Program} {md : Region.Mode} {ops : Array Oper} {Q : Exit → Act → World → Prop} {S S' : World → Prop} (hs : ∀ x, S' x → S x) : ∀ (fuel : Nat) (listed : Array Bool) (a : Act) (w : World),
    wpAnyH P md ops Q S' fuel listed a w → wpAnyH P md ops Q S fuel listed a w
  | 0, _, _, _, h => h
  | fuel + 1, _, _, _, h => ⟨h.1, fun i hi => wpOp_mono (fun a' w' h' => ⟨hs _ h'.1, wpAnyH_weak hs fuel _ a' w' h'.2⟩) (h.2 i hi)⟩

theorem any_sound {P : Program} {n : Nat} {ops : Array Oper} {Q : Exit → Env → World → Prop} (hsel : Region.noSelect ops = true) : ∀ (fuel : Nat) (listed : Array Bool) (m : MC) (S : World → Prop),
    anyOrder P n ops fuel listed = some m → ∀ (e : Env) (a : Act) (w : World), Agr n e a → S w → run P (some S) m (onlyNormal fun e w => Q .normal e w) e w →
    wpAnyH P .any ops (lift n Q) S fuel listed a w
  | 0, listed, m, S, h, e, a, w, ha, hS, hr => by
    simp only [anyOrder] at h
    split at h
    · rename_i hempty
      simp only [Option.some.injEq] at h
      subst h
      exact ⟨by simpa using hempty, e, ha, hr⟩
    · cases h
  | fuel + 1, listed, m, S, h, e, a, w, ha, hS, hr => by
    simp only [anyOrder] at h
    split at h
    · rename_i i hi
      have hp := List.find?_some hi
      have hmem := List.mem_of_find?_eq_some hi
      simp only [Bool.and_eq_true] at hp
      obtain ⟨o, k', g, mi, ho, hk, hg, hm, hd, rfl⟩ := chainOp_inv h
      have hlight : mi.light = true := by
        have := hp.2
        simp only [lightAt, ho, hm] at this
        exact this
      simp only [run] at hr
      obtain ⟨S', hS', hsub, hr⟩ := hr
      refine wpAnyH_weak hsub _ _ _ _ ?_
      have lit : ∀ k, mi.ev P (some S') e w k → ∃ v, (∀ w', S' w' → (execOp a.eval o).run P w' = .ok (.value v) w') ∧ k v w := fun k hev => by
        obtain ⟨hkn, hc⟩ := hev o.op o.type hm
        rw [exec_same hm ha hkn, if_pos hlight] at hc
        obtain ⟨v, hv, hkv⟩ := hc
        exact ⟨v, hv, hkv⟩
      have go : ∀ v, YieldsIf P ops S' o v a → run P (some S') k' (onlyNormal fun e w => Q .normal e w) (push o.dst v e) w → wpAnyH P .any ops (lift n Q) S' (fuel + 1) listed a w := fun v hy hrun =>
        wpAnyH_take ho hsel hp.1 (by simpa using hmem) (fun c a w hq => hq.elim) hy hS' (any_sound hsel fuel _ k' S' hk _ _ w (ha.push hd v) hS' hrun)
      cases g with
      | none =>
        obtain ⟨v, hv, hrun⟩ := lit _ hr
        exact go v (.inl ⟨wanted_none hg _, hv⟩) hrun
      | some p =>
        obtain ⟨j, want⟩ := p
        obtain ⟨u, hu, h1, h2⟩ := hr
        obtain ⟨w1, w2⟩ := wanted_of ha hg hu
        by_cases hc : u = .bool want
        · obtain ⟨v, hv, hrun⟩ := lit _ (h1 hc)
          exact go v (.inl ⟨w1 hc, hv⟩) hrun
        · exact go undef (.inr ⟨w2 hc, rfl⟩) (h2 hc)
    · split at h
      · rename_i hnil
        simp only [Option.some.injEq] at h
        subst h
        exact wpAnyH_done hnil ⟨e, ha, hr⟩ _
      · rename_i r rs hrs
        have hall := allOf_inv _ m h hr
        refine wpAnyH_all hrs (by simp) fun i hi => ?_
        obtain ⟨mx, hx, hrun⟩ := hall _ (List.mem_map.2 ⟨i, hi, rfl⟩)
        obtain ⟨o, k', g, mi, ho, hk, hg, hm, hd, rfl⟩ := chainOp_inv hx
        simp only [run] at hrun
        obtain ⟨S', hS', hsub, hrun⟩ := hrun
        exact op_wp (S := some S') ho hg hm ha hS' hrun (fun v w' hw' hkv => ⟨hsub _ hw', wpAnyH_weak hsub _ _ _ _ (any_sound hsel fuel _ k' S' hk _ _ w' (ha.push hd v) hw' hkv)⟩) hS'
          (fun hno => ⟨hS, wpAnyH_weak hsub _ _ _ _ (any_sound hsel fuel _ k' S' hk _ _ w (ha.push hd undef) hS' hno)⟩)

theorem least (p : Nat → Prop) : ∀ n, p n → ∃ m, p m ∧ ∀ k, p k → m ≤ k := by
  intro n
  induction n using Nat.strongRecOn with
  | _ n ih =>
    intro hn
    by_cases h : ∃ k, k < n ∧ p k
    · obtain ⟨k, hk, hp⟩ := h
      exact ih k hk hp
    · exact ⟨n, hn, fun k hk => Nat.le_of_not_lt fun hlt => h ⟨k, hlt, hk⟩⟩

/-- The least number of a property; 0 where there is none. -/
noncomputable def leastOf (p : Nat → Prop) : Nat := open Classical in if h : ∃ n, p n then Classical.choose (least p h.choose h.choose_spec) else 0

theorem leastOf_spec {p : Nat → Prop} {n : Nat} (h : p n) : p (leastOf p) ∧ ∀ k, p k → leastOf p ≤ k := by
  unfold leastOf
  have hx : ∃ n, p n := ⟨n, h⟩
  rw [dif_pos hx]
  exact Classical.choose_spec (least p hx.choose hx.choose_spec)

theorem code_sound {P : Program} {n : Nat} (hmix : P.follows .mixedOrders = true) : ∀ (c : Code) (m : MC), toMC P n c = some m →
    ∀ (Q : Exit → Env → World → Prop) (e : Env) (a : Act) (w : World), Agr n e a → run P none m Q e w → c.wp P (lift n Q) a w
  | .skip, m, h, Q, e, a, w, ha, hr => by
    simp only [toMC, Option.some.injEq] at h; subst h
    exact wp_skip ⟨e, ha, hr⟩
  | .region id ops false, m, h, Q, e, a, w, ha, hr => wp_region (chain_sound _ m h e a w ha hr)
  | .region id ops true, m, h, Q, e, a, w, ha, hr => by
    simp only [toMC] at h
    split at h
    · rename_i hsel
      cases hm : anyOrder P n ops ops.size (Array.replicate ops.size false) with
      | none => rw [hm] at h; cases h
      | some m' =>
        rw [hm] at h
        simp only [Option.map_some, Option.some.injEq] at h
        subst h
        simp only [run] at hr
        obtain ⟨S, hS, hb⟩ := hr
        exact wp_region_held hmix (any_sound (Q := Q) hsel _ _ m' S hm e a _ ha hS hb)
    · cases h
  | .seq x y, m, h, Q, e, a, w, ha, hr => by
    simp only [toMC] at h
    split at h
    · rename_i mx my hx hy
      simp only [Option.some.injEq] at h; subst h
      simp only [run] at hr
      refine wp_seq (wp_mono (code_sound hmix x mx hx _ e a w ha hr) fun ex a' w' hq => ?_)
      cases ex with
      | normal => obtain ⟨e', ha', hr'⟩ := hq; exact code_sound hmix y my hy Q e' a' w' ha' hr'
      | exit id => exact hq
      | ret => exact hq
      | goto l => exact hq.elim
      | panic c => exact hq.elim
      | outgrown => exact hq.elim
    · cases h
  | .cond c x y, m, h, Q, e, a, w, ha, hr => by
    simp only [toMC] at h
    split at h
    · rename_i mx my hx hy
      simp only [Option.some.injEq] at h; subst h
      simp only [run] at hr
      obtain ⟨hk, t, ht, h1, h2⟩ := hr
      refine wp_cond_split (t := t) (by rw [← ha.eval hk]; exact ht) (fun e1 => ?_) (fun e1 => ?_)
      · exact code_sound hmix x mx hx Q e a w ha (h1 e1)
      · exact code_sound hmix y my hy Q e a w ha (h2 e1)
    · cases h
  | .block id x, m, h, Q, e, a, w, ha, hr => by
    simp only [toMC] at h
    cases hx : toMC P n x with
    | none => rw [hx] at h; cases h
    | some mx =>
      rw [hx] at h
      simp only [Option.map_some, Option.some.injEq] at h; subst h
      simp only [run] at hr
      refine wp_block (wp_mono (code_sound hmix x mx hx _ e a w ha hr) fun ex a' w' hq => ?_)
      cases ex with
      | normal => exact hq
      | exit id' =>
        obtain ⟨e', ha', hq'⟩ := hq
        simp only [blockK] at hq'
        simp only [Exit.inBlock]
        split at hq'
        · rename_i he; rw [if_pos he]; exact ⟨e', ha', hq'⟩
        · rename_i he; rw [if_neg he]; exact ⟨e', ha', hq'⟩
      | ret => exact hq
      | goto l => exact hq.elim
      | panic c => exact hq.elim
      | outgrown => exact hq.elim
  | .loop x, m, h, Q, e, a, w, ha, hr => by
    simp only [toMC] at h
    cases hx : toMC P n x with
    | none => rw [hx] at h; cases h
    | some mx =>
      rw [hx] at h
      simp only [Option.map_some, Option.some.injEq] at h; subst h
      simp only [run] at hr
      obtain ⟨I, n₀, e₀, hs, h₀, round⟩ := hr
      let p : Act → World → Nat → Prop := fun a w k => ∃ e, Agr n e a ∧ I e w k
      refine wp_loop (fun a w => ∃ k, p a w k) (fun a w => leastOf (p a w)) ⟨n₀, e₀, ha.sub hs, h₀⟩ fun a w hI => ?_
      obtain ⟨k, hk⟩ := hI
      obtain ⟨⟨e1, ha1, hI1⟩, _⟩ := leastOf_spec hk
      refine wp_mono (code_sound hmix x mx hx _ e1 a w ha1 (round e1 w _ hI1)) fun ex a' w' hq => ?_
      cases ex with
      | normal =>
        obtain ⟨e', ha', e'', n', hs', hI', hlt⟩ := hq
        have hp' : p a' w' n' := ⟨e'', ha'.sub hs', hI'⟩
        exact ⟨⟨n', hp'⟩, Nat.lt_of_le_of_lt ((leastOf_spec hp').2 n' hp') hlt⟩
      | exit id => exact hq
      | ret => exact hq
      | goto l => exact hq.elim
      | panic c => exact hq.elim
      | outgrown => exact hq.elim
  | .exit id, m, h, Q, e, a, w, ha, hr => by
    simp only [toMC, Option.some.injEq] at h; subst h
    exact wp_exit ⟨e, ha, hr⟩
  | .ret, m, h, Q, e, a, w, ha, hr => by
    simp only [toMC, Option.some.injEq] at h; subst h
    exact wp_ret ⟨e, ha, hr⟩

/-- A call that returns. -/
def Rets (P : Program) (f : FuncId) (args : List Value) (w : World) (R : Value → World → Prop) : Prop :=
  Calls P f args.toArray w fun e w' => match e with | .returned v => R v w' | _ => False

theorem Rets.mono {P : Program} {f : FuncId} {args : List Value} {w : World} {R R' : Value → World → Prop} (h : Rets P f args w R) (hr : ∀ v w', R v w' → R' v w') : Rets P f args w R' :=
  Calls.mono h fun e w' he => by
    cases e with
    | returned v => exact hr v w' he
    | panicked c => exact he
    | outgrown => exact he

/-- The arguments in their slots. -/
def argEnv : Nat → List Value → Env
  | _, [] => []
  | i, v :: vs => (i, v) :: argEnv (i + 1) vs

theorem argEnv_get : ∀ (vs : List Value) (i t : Nat) (v : Value), Env.get (argEnv i vs) t = some v → i ≤ t ∧ vs[t - i]? = some v
  | [], _, _, _, h => by cases h
  | u :: vs, i, t, v, h => by
    simp only [argEnv, Env.get] at h
    by_cases e1 : i = t
    · subst e1
      simp only [Nat.beq_refl, cond_true, Option.some.injEq] at h
      subst h
      simp
    · have hb : Nat.beq i t = false := by rw [Bool.eq_false_iff]; intro hc; exact e1 (Nat.eq_of_beq_eq_true hc)
      simp only [hb, cond_false] at h
      obtain ⟨h1, h2⟩ := argEnv_get vs (i + 1) t v h
      refine ⟨by omega, ?_⟩
      have : t - i = (t - (i + 1)) + 1 := by omega
      rw [this]
      simpa using h2

/-- Results, one behind the other, and what is asked of them. -/
def resK (P : Program) (e : Env) (w : World) : List RV → (List Value → Prop) → Prop
  | [], k => k []
  | .tmp t :: r, k => ∃ v, Env.get e t = some v ∧ resK P e w r fun vs => k (v :: vs)
  | .c1 t :: r, k => ∃ (b o : Nat) (v : Value), Env.get e t = some (.pointer (some ⟨b, o, none⟩)) ∧ w.cell? ⟨b, o, none⟩ = some v ∧ resK P e w r fun vs => k (v :: vs)
  | .cn t n :: r, k => ∃ (b o : Nat) (cs : List Value), Env.get e t = some (.pointer (some ⟨b, o, none⟩)) ∧ cs.length = n ∧ (∀ i v, cs[i]? = some v → w.cell? ⟨b, o + i, none⟩ = some v) ∧
      resK P e w r fun vs => k (.agg cs.toArray :: vs)

def tup : List Value → Value
  | [v] => v
  | vs => .tuple vs.toArray

def fnQ (P : Program) (rs : List RV) (R : Value → World → Prop) (ex : Exit) (e : Env) (w : World) : Prop :=
  match ex with
  | .normal | .ret => resK P e w rs fun vs => R (tup vs) w
  | _ => False

theorem run_loadCells {P : Program} {w : World} {b o : Nat} : ∀ (cs : List Value) (i : Nat) (acc : Array Value), (∀ j v, cs[j]? = some v → w.cell? ⟨b, o + (i + j), none⟩ = some v) →
    (loadCellsFrom ⟨b, o, none⟩ i cs.length acc).run P w = .ok (acc ++ cs.toArray) w
  | [], i, acc, _ => by simp [loadCellsFrom, pure, Sem.run]
  | v :: cs, i, acc, h => by
    have h0 := h 0 v rfl
    have hadd : (Addr.add ⟨b, o, none⟩ i) = ⟨b, o + i, none⟩ := by
      unfold Addr.add; split
      · rename_i e; subst e; rfl
      · rfl
    simp only [List.length_cons, loadCellsFrom, Sem.run_bind, load, Sem.run, hadd]
    rw [show w.cell? ⟨b, o + i, none⟩ = some v from h0]
    simp only [Sem.run, Result.andThen]
    rw [run_loadCells cs (i + 1) (acc.push v) (fun j u hj => by
      have := h (j + 1) u (by simpa using hj)
      rw [show i + 1 + j = i + (j + 1) from by omega]; exact this)]
    simp

theorem run_loadN {P : Program} {w : World} {b o n : Nat} {t : TypeId} {cs : List Value} (ht : tyAgg P t = some true) (hn : tySize P t = some n) (hl : cs.length = n)
    (h : ∀ i v, cs[i]? = some v → w.cell? ⟨b, o + i, none⟩ = some v) : (loadVar t ⟨b, o, none⟩).run P w = .ok (.agg cs.toArray) w := by
  have ha : (isAgg t).run P w = .ok true w := by
    unfold tyAgg at ht
    simp only [isAgg, underlying, Sem.run_bind, program, Sem.run, Result.andThen]
    split at ht <;> simp_all [Sem.run, Result.andThen, pure]
  have hz : (sizeOf t).run P w = .ok n w := by
    simp only [tySize, Option.map_eq_some_iff] at hn
    obtain ⟨i, hi, rfl⟩ := hn
    simp [sizeOf, typeInfo, Sem.run_bind, program, Sem.run, Result.andThen, hi, pure]
  simp only [loadVar, Sem.run_bind, ha, Result.andThen, if_true, hz, loadCells]
  subst hl
  rw [run_loadCells cs 0 #[] (by simpa using h)]
  simp [Result.andThen, pure, Sem.run]

theorem run_load1 {P : Program} {w : World} {a : Addr} {t : TypeId} {v : Value} (ht : tyAgg P t = some false) (h : w.cell? a = some v) : (loadVar t a).run P w = .ok v w := by
  have ha : (isAgg t).run P w = .ok false w := by
    unfold tyAgg at ht
    simp only [isAgg, underlying, Sem.run_bind, program, Sem.run, Result.andThen]
    split at ht <;> simp_all [Sem.run, Result.andThen, pure]
    all_goals (split <;> simp_all [Sem.run])
  simp [loadVar, Sem.run_bind, ha, Result.andThen, load, Sem.run, h]

/-- One result, read. -/
def resOne (tmps : Array Value) : ResultVar → Sem Value
  | .tmp t => pure (tmps.getD t undef)
  | .cell a t => do loadVar t (← asAddr (tmps.getD a undef))

theorem res_sound {P : Program} {n : Nat} {e : Env} {a : Act} {w : World} (ha : Agr n e a) : ∀ (rs : List ResultVar) (rv : List RV), toRVs P rs = some rv → ∀ (k : List Value → Prop), resK P e w rv k →
    ∃ vs, (List.mapM (resOne a.tmps) rs).run P w = .ok vs w ∧ k vs
  | [], rv, h, k, hk => by
    simp only [toRVs, Option.some.injEq] at h; subst h
    exact ⟨[], by simp [pure, Sem.run], hk⟩
  | r :: rs, rv, h, k, hk => by
    simp only [toRVs] at h
    split at h
    · rename_i x y hx hy
      simp only [Option.some.injEq] at h; subst h
      have fin : ∀ v, (resOne a.tmps r).run P w = .ok v w → (∃ vs, (List.mapM (resOne a.tmps) rs).run P w = .ok vs w ∧ k (v :: vs)) → ∃ vs, (List.mapM (resOne a.tmps) (r :: rs)).run P w = .ok vs w ∧ k vs := by
        rintro v hv ⟨vs, hvs, hkv⟩
        exact ⟨v :: vs, by simp [List.mapM_cons, Sem.run_bind, hv, Result.andThen, hvs, pure, Sem.run], hkv⟩
      cases r with
      | tmp t =>
        simp only [toRV, Option.some.injEq] at hx; subst hx
        obtain ⟨v, hv, hk'⟩ := hk
        exact fin v (by simp only [resOne, ha.get t v hv]; rfl) (res_sound ha rs y hy _ hk')
      | cell c t =>
        simp only [toRV] at hx
        split at hx
        · rename_i hagg
          simp only [Option.some.injEq] at hx; subst hx
          obtain ⟨b, o, v, hv, hc, hk'⟩ := hk
          exact fin v (by simp [resOne, ha.get c _ hv, asAddr, Sem.run_bind, pure, Sem.run, Result.andThen, run_load1 hagg hc]) (res_sound ha rs y hy _ hk')
        · rename_i m hagg hsz
          simp only [Option.some.injEq] at hx; subst hx
          obtain ⟨b, o, cs, hv, hl, hc, hk'⟩ := hk
          exact fin (.agg cs.toArray) (by simp [resOne, ha.get c _ hv, asAddr, Sem.run_bind, pure, Sem.run, Result.andThen, run_loadN hagg hsz hl hc]) (res_sound ha rs y hy _ hk')
        · cases hx
    · cases h

theorem results_sound {P : Program} {n : Nat} {fn : Func} {e : Env} {a : Act} {w : World} {rv : List RV} (ha : Agr n e a) (h : toRVs P fn.results.toList = some rv) {R : Value → World → Prop}
    (hk : resK P e w rv fun vs => R (tup vs) w) : ∃ v, (results fn a.tmps).run P w = .ok v w ∧ R v w := by
  obtain ⟨vs, hvs, hR⟩ := res_sound ha _ rv h _ hk
  refine ⟨tup vs, ?_, hR⟩
  have hm : (fn.results.mapM (resOne a.tmps)).run P w = .ok vs.toArray w := by
    rw [Array.mapM_eq_mapM_toList]
    show Sem.run P ((List.mapM (resOne a.tmps) fn.results.toList).bind (Sem.pure ∘ List.toArray)) w = _
    rw [Sem.run_bind', hvs]
    rfl
  have hd : results fn a.tmps = (do let vs ← fn.results.mapM (resOne a.tmps); pure (if h : vs.size = 1 then vs[0] else .tuple vs)) := by
    unfold results resOne
    rfl
  rw [hd]
  simp only [Sem.run_bind, hm, Result.andThen, pure, Sem.run]
  congr 1
  match vs with
  | [] => rfl
  | [v] => rfl
  | _ :: _ :: _ => rfl

theorem fn_of_run {P : Program} {f : FuncId} {F : MFn} {args : List Value} {w : World} {R : Value → World → Prop} (hF : toFn P f = some F) (hl : args.length = F.np)
    (h : run P none F.code (fnQ P F.rs R) (argEnv 0 args) w) : Rets P f args w R := by
  unfold toFn at hF
  split at hF
  · rename_i fn hfn
    split at hF
    · rename_i c hc
      split at hF
      · rename_i m rs hm hrs
        split at hF
        · rename_i hok
          simp only [Option.some.injEq] at hF
          subst hF
          simp only [Bool.and_eq_true, Nat.ble_eq] at hok
          simp only at hl h
          have ha : Agr fn.ntmps (argEnv 0 args) { tmps := args.toArray ++ Array.replicate (fn.ntmps - args.toArray.size) undef, defers := [] } := by
            refine ⟨by simp; omega, rfl, fun t v ht => ?_⟩
            obtain ⟨_, h2⟩ := argEnv_get args 0 t v ht
            have hlt : t < args.length := by
              have := List.getElem?_eq_some_iff.1 h2
              obtain ⟨h3, _⟩ := this
              simpa using h3
            simp [Array.getElem?_append, hlt]
            simpa [hlt] using h2
          refine calls_of_wp hfn hc (wp_mono (code_sound hok.2 c m hm _ _ _ w ha h) fun ex a' w' hq => ?_)
          cases ex with
          | normal =>
            obtain ⟨e', ha', hq'⟩ := hq
            exact ⟨ha'.nodef, results_sound ha' hrs hq'⟩
          | ret =>
            obtain ⟨e', ha', hq'⟩ := hq
            exact ⟨ha'.nodef, results_sound ha' hrs hq'⟩
          | exit id => obtain ⟨e', ha', hq'⟩ := hq; exact hq'.elim
          | goto l => exact hq.elim
          | panic c => exact hq.elim
          | outgrown => exact hq.elim
        · cases hF
      · cases hF
    · cases hF
  · cases hF

end Go.HM
