/- The rules of the judgement. -/
import Derived.Test.YtobdcokhmpaooaaDoorM7
namespace Go.HM
open Go
set_option linter.unusedSimpArgs false
set_option linter.unusedVariables false

/-! ### What a run asks hangs on slots alone -/
def EnvEq (e e' : Env) : Prop := ∀ t, Env.get e t = Env.get e' t

theorem EnvEq.rho {e e' : Env} (h : EnvEq e e') : e.rho = e'.rho := by
  funext x
  cases x <;> first | rfl | exact congrArg (fun v => Option.getD v undef) (h _)

theorem EnvEq.knows {e e' : Env} (h : EnvEq e e') (x : Operand) (hx : e.knows x) : e'.knows x := by
  cases x <;> first | trivial | (simp only [Env.knows] at hx ⊢; rw [← h]; exact hx)

theorem EnvEq.push {e e' : Env} (h : EnvEq e e') (d : Option Nat) (v : Value) : EnvEq (push d v e) (push d v e') := by
  cases d with
  | none => exact h
  | some d =>
    intro t
    simp only [HM.push, Env.get]
    cases Nat.beq d t
    · exact h t
    · rfl

theorem EnvEq.symm {e e' : Env} (h : EnvEq e e') : EnvEq e' e := fun t => (h t).symm

theorem ev_congr {P : Program} {S : Option (World → Prop)} {i : MI} {e e' : Env} {w : World} {k k' : Value → World → Prop} (h : EnvEq e e') (hk : ∀ v w, k v w → k' v w) (hev : i.ev P S e w k) : i.ev P S e' w k' := fun o ty ho => by
  obtain ⟨h1, h2⟩ := hev o ty ho
  refine ⟨fun x hx => h.knows x (h1 x hx), ?_⟩
  rw [← h.rho]
  split at h2
  · rename_i hl
    rw [if_pos hl]
    obtain ⟨v, hv, hkv⟩ := h2
    exact ⟨v, hv, hk _ _ hkv⟩
  · rename_i hl
    rw [if_neg hl]
    cases h2 with
    | val v w' h hS hkv => exact .val v w' h hS (hk _ _ hkv)
    | skip w' h hS hkv => exact .skip w' h hS (hk _ _ hkv)
    | call f args w₁ h hc => exact .call f args w₁ h (Calls.mono hc fun ev w' he => by
        cases ev with
        | returned v => exact ⟨he.1, hk _ _ he.2⟩
        | panicked c => exact he
        | outgrown => exact he)

theorem run_congr {P : Program} : ∀ (c : MC) {S : Option (World → Prop)} {Q Q' : Exit → Env → World → Prop} {e e' : Env} {w : World}, EnvEq e e' → (∀ ex e e' w, EnvEq e e' → Q ex e w → Q' ex e' w) → run P S c Q e w → run P S c Q' e' w
  | .nil, S, Q, Q', e, e', w, h, hQ, hr => hQ _ _ _ _ h hr
  | .op g d i k, S, Q, Q', e, e', w, h, hQ, hr => by
    simp only [run] at hr ⊢
    refine Turn.mono (fun S hr => ?_) hr
    cases g with
    | none =>
      exact ev_congr (k := fun v w' => run P S k Q (push d v e) w') h (fun v w' hv => run_congr k (h.push d v) hQ hv) hr
    | some p =>
      obtain ⟨j, want⟩ := p
      obtain ⟨v, hv, h1, h2⟩ := hr
      exact ⟨v, (h j) ▸ hv, fun e1 => ev_congr (k := fun v w' => run P S k Q (push d v e) w') h (fun v w' hv => run_congr k (h.push d v) hQ hv) (h1 e1), fun e1 => run_congr k (h.push d undef) hQ (h2 e1)⟩
  | .both a b, S, Q, Q', e, e', w, h, hQ, hr => ⟨run_congr a h hQ hr.1, run_congr b h hQ hr.2⟩
  | .draw m, S, Q, Q', e, e', w, h, hQ, hr => by
    simp only [run] at hr ⊢
    obtain ⟨S', hS, hb⟩ := hr
    refine ⟨S', hS, run_congr m h (fun ex e e' w he hq => ?_) hb⟩
    cases ex <;> first | exact hQ _ _ _ _ he hq | exact hq
  | .seq a b, S, Q, Q', e, e', w, h, hQ, hr => by
    simp only [run] at hr ⊢
    refine run_congr a h (fun ex e e' w he hq => ?_) hr
    cases ex with
    | normal => exact run_congr b he hQ hq
    | exit id => exact hQ _ _ _ _ he hq
    | ret => exact hQ _ _ _ _ he hq
    | goto l => exact hq
    | panic c => exact hq
    | outgrown => exact hq
  | .cond c a b, S, Q, Q', e, e', w, h, hQ, hr => by
    simp only [run] at hr ⊢
    obtain ⟨k, t, ht, h1, h2⟩ := hr
    exact ⟨h.knows c k, t, by rw [← h.rho]; exact ht, fun e1 => run_congr a h hQ (h1 e1), fun e1 => run_congr b h hQ (h2 e1)⟩
  | .block id a, S, Q, Q', e, e', w, h, hQ, hr => by
    simp only [run] at hr ⊢
    refine run_congr a h (fun ex e e' w he hq => ?_) hr
    cases ex with
    | normal => exact hQ _ _ _ _ he hq
    | exit id' =>
      simp only [blockK] at hq ⊢
      split at hq
      · rename_i e1; rw [if_pos e1]; exact hQ _ _ _ _ he hq
      · rename_i e1; rw [if_neg e1]; exact hQ _ _ _ _ he hq
    | ret => exact hQ _ _ _ _ he hq
    | goto l => exact hq
    | panic c => exact hq
    | outgrown => exact hq
  | .loop a, S, Q, Q', e, e', w, h, hQ, hr => by
    simp only [run] at hr ⊢
    obtain ⟨I, n₀, e₀, hs, h₀, round⟩ := hr
    refine ⟨I, n₀, e₀, fun t v ht => by rw [← h t]; exact hs t v ht, h₀, fun e w n hI => run_congr a (fun _ => rfl) (fun ex e e' w he hq => ?_) (round e w n hI)⟩
    cases ex with
    | normal =>
      obtain ⟨e'', n', hs', hI', hlt⟩ := hq
      exact ⟨e'', n', fun t v ht => by rw [← he t]; exact hs' t v ht, hI', hlt⟩
    | exit id => exact hQ _ _ _ _ he hq
    | ret => exact hQ _ _ _ _ he hq
    | goto l => exact hQ _ _ _ _ he hq
    | panic c => exact hQ _ _ _ _ he hq
    | outgrown => exact hQ _ _ _ _ he hq
  | .exit id, S, Q, Q', e, e', w, h, hQ, hr => hQ _ _ _ _ h hr
  | .ret, S, Q, Q', e, e', w, h, hQ, hr => hQ _ _ _ _ h hr

def Resp (Q : Exit → Env → World → Prop) : Prop := ∀ ex e e' w, EnvEq e e' → Q ex e w → Q ex e' w

theorem resK_congr {P : Program} {e e' : Env} {w : World} (h : EnvEq e e') : ∀ (rs : List RV) (k : List Value → Prop), resK P e w rs k → resK P e' w rs k
  | [], _, hr => hr
  | .tmp t :: r, k, ⟨v, hv, hr⟩ => ⟨v, (h t) ▸ hv, resK_congr h r _ hr⟩
  | .c1 t :: r, k, ⟨b, o, v, hv, hc, hr⟩ => ⟨b, o, v, (h t) ▸ hv, hc, resK_congr h r _ hr⟩
  | .cn t n :: r, k, ⟨b, o, cs, hv, hl, hc, hr⟩ => ⟨b, o, cs, (h t) ▸ hv, hl, hc, resK_congr h r _ hr⟩

theorem resp_fnQ (P : Program) (rs : List RV) (R : Value → World → Prop) : Resp (fnQ P rs R) := fun ex e e' w h hq => by
  cases ex <;> first | exact resK_congr h rs _ hq | exact hq

theorem resp_Kont {P : Program} {Q : Exit → Env → World → Prop} (hQ : Resp Q) : ∀ (ks : List KF), Resp (Kont P ks Q)
  | [] => hQ
  | .seq c :: ks => fun ex e e' w h hq => by
    cases ex with
    | normal => exact run_congr c h (resp_Kont hQ ks) hq
    | exit id => exact resp_Kont hQ ks _ _ _ _ h hq
    | ret => exact resp_Kont hQ ks _ _ _ _ h hq
    | goto l => exact hq
    | panic c => exact hq
    | outgrown => exact hq
  | .blk id :: ks => fun ex e e' w h hq => by
    cases ex with
    | normal => exact resp_Kont hQ ks _ _ _ _ h hq
    | exit id' =>
      simp only [Kont, blockK] at hq ⊢
      split at hq
      · rename_i e1; rw [if_pos e1]; exact resp_Kont hQ ks _ _ _ _ h hq
      · rename_i e1; rw [if_neg e1]; exact resp_Kont hQ ks _ _ _ _ h hq
    | ret => exact resp_Kont hQ ks _ _ _ _ h hq
    | goto l => exact hq
    | panic c => exact hq
    | outgrown => exact hq
  | .lp I n :: ks => fun ex e e' w h hq => by
    cases ex with
    | normal =>
      obtain ⟨e'', n', hs', hI', hlt⟩ := hq
      exact ⟨e'', n', fun t v ht => by rw [← h t]; exact hs' t v ht, hI', hlt⟩
    | exit id => exact resp_Kont hQ ks _ _ _ _ h hq
    | ret => exact resp_Kont hQ ks _ _ _ _ h hq
    | goto l => exact hq
    | panic c => exact hq
    | outgrown => exact hq

theorem resp_KQ {P : Program} {Q : Exit → Env → World → Prop} (hQ : Resp Q) (md : Option LM) (ks : List KF) : Resp (KQ P md ks Q) := by
  cases md with
  | none => exact resp_Kont hQ ks
  | some hk => exact fun ex e e' w h hq => by cases ex <;> first | exact resp_Kont hQ ks _ _ _ _ h hq | exact hq

/-! ### The rules -/
section
variable {P : Program} {w₀ : World} {S : Nat → Prop} {rs : List RV} {R : Value → World → Prop} {Lh L : List Ent} {md : Option LM} {ks : List KF} {e : EEnv} {lm : LM}

/-- The judgement over a function. -/
abbrev JF (P : Program) (w₀ : World) (S : Nat → Prop) (rs : List RV) (R : Value → World → Prop) (Lh : List Ent) (X : Cfg) (L : List Ent) : Prop := J P w₀ S (fnQ P rs R) Lh X L

def argE : Nat → List Value → EEnv
  | _, [] => []
  | i, v :: vs => (i, .v v) :: argE (i + 1) vs

theorem denE_argE (β : Nat → Nat) : ∀ (vs : List Value) (i : Nat), denE β (argE i vs) = argEnv i vs
  | [], _ => rfl
  | v :: vs, i => by simp only [argE, denE, argEnv, EV.den, denE_argE β vs (i + 1)]

theorem St.start {w : World} (S : Nat → Prop) {L : List Ent} (h : ∀ x ∈ L, w.heap[x.b]? = some x.obj) (hd : L.Pairwise (fun x y => x.b ≠ y.b)) (ho : ∀ x ∈ L, x.rw = true → S x.b) : St w S w L :=
  ⟨Ext.refl S w, h, hd, fun x hx hr => .inr (ho x hx hr)⟩

/-- A function returns so: its body, from its arguments on. -/
theorem rets_of {f : FuncId} {F : MFn} {args : List Value} {w : World} {e : EEnv} (hF : toFn P f = some F) (hl : args.length = F.np) (he : argE 0 args = e) (hs : St w S w L)
    (h : JF P w S F.rs R [] ⟨none, F.code, [], e, []⟩ L) : Rets P f args w R := by
  refine fn_of_run hF hl ?_
  have := h (fun x => x) w hs (fun d cs hd => by cases hd) trivial
  subst he
  rw [denE_argE] at this
  exact this

theorem JF.cond {c : Operand} {a b : MC} {t : Bool} (hc : opE e c = some (.v (.bool t))) (h1 : t = true → JF P w₀ S rs R Lh ⟨none, a, ks, e, lm⟩ L) (h2 : t = false → JF P w₀ S rs R Lh ⟨none, b, ks, e, lm⟩ L) :
    JF P w₀ S rs R Lh ⟨none, .cond c a b, ks, e, lm⟩ L := fun β w hst hl hm => by
  obtain ⟨k1, r1⟩ := opE_sound hc β
  exact ⟨k1, t, r1, fun e1 => h1 e1 β w hst hl trivial, fun e1 => h2 e1 β w hst hl trivial⟩

theorem JF.guard {j : Nat} {want : Bool} {d : Option Nat} {i : MI} {k : MC} {t : Bool} (hj : EEnv.get e j = some (.v (.bool t))) (h1 : t = true → JF P w₀ S rs R Lh ⟨md, .op (some (j, want)) d i k, ks, (j, .t) :: e, lm⟩ L)
    (h2 : t = false → JF P w₀ S rs R Lh ⟨md, .op (some (j, want)) d i k, ks, (j, .f) :: e, lm⟩ L) : JF P w₀ S rs R Lh ⟨md, .op (some (j, want)) d i k, ks, e, lm⟩ L := fun β w hst hl hm => by
  have hg := denE_get (β := β) hj
  have heq : ∀ (v : EV), v.den β = .bool t → EnvEq (denE β ((j, v) :: e)) (denE β e) := fun v hv s => by
    simp only [denE, Env.get, hv]
    cases hb : Nat.beq j s
    · rfl
    · rw [← Nat.eq_of_beq_eq_true hb, hg]; rfl
  cases t with
  | true => exact run_congr _ (heq .t rfl) (resp_KQ (resp_fnQ P rs R) md ks) (h1 rfl β w hst hl hm)
  | false => exact run_congr _ (heq .f rfl) (resp_KQ (resp_fnQ P rs R) md ks) (h2 rfl β w hst hl hm)

theorem JF.both {a b : MC} (h1 : JF P w₀ S rs R Lh ⟨md, a, ks, e, lm⟩ L) (h2 : JF P w₀ S rs R Lh ⟨md, b, ks, e, lm⟩ L) : JF P w₀ S rs R Lh ⟨md, .both a b, ks, e, lm⟩ L :=
  fun β w hst hl hm => ⟨h1 β w hst hl hm, h2 β w hst hl hm⟩

/-- Fewer blocks known. -/
theorem St.sub {w : World} {L' : List Ent} (h : St w₀ S w L) (hs : L'.Sublist L) : St w₀ S w L' :=
  ⟨h.ext, fun x hx => h.blk x (hs.subset hx), h.dis.sublist hs, fun x hx => h.own x (hs.subset hx)⟩

theorem Loc.sub {β : Nat → Nat} {lm lm' : LM} {w : World} {L' : List Ent} (h : Loc w₀ β lm L w) (hs : ∀ x ∈ L', x ∈ L) (hm : ∀ d cs, LM.get lm' d = some cs → LM.get lm d = some cs) : Loc w₀ β lm' L' w := fun d cs hd => by
  obtain ⟨h1, h2, h3, h4⟩ := h d cs (hm d cs hd)
  exact ⟨h1, h2, fun x hx => h3 x (hs x hx), fun d' cs' hd' => h4 d' cs' (hm d' cs' hd')⟩

theorem JF.drop {c : MC} {L' : List Ent} (hs : L'.Sublist L) (h : JF P w₀ S rs R Lh ⟨none, c, ks, e, lm⟩ L') : JF P w₀ S rs R Lh ⟨none, c, ks, e, lm⟩ L :=
  fun β w hst hl hm => h β w (hst.sub hs) (hl.sub (fun x hx => hs.subset hx) fun _ _ hd => hd) trivial

theorem JF.perm {c : MC} {L' : List Ent} (hs : L'.Perm L) (h : JF P w₀ S rs R Lh ⟨none, c, ks, e, lm⟩ L') : JF P w₀ S rs R Lh ⟨none, c, ks, e, lm⟩ L :=
  fun β w hst hl hm => h β w ⟨hst.ext, fun x hx => hst.blk x (hs.mem_iff.1 hx), hst.dis.perm hs.symm (fun h => Ne.symm h), fun x hx => hst.own x (hs.mem_iff.1 hx)⟩ (hl.sub (fun x hx => hs.mem_iff.1 hx) fun _ _ hd => hd) trivial

/-- Boxes by their keys. -/
def holdK : List Nat → LM → Option LM
  | [], _ => some []
  | k :: ks, lm => match LM.get lm k, holdK ks lm with
    | some cs, some r => some ((k, cs) :: r)
    | _, _ => none

theorem holdK_sub : ∀ (ks : List Nat) (lm hk : LM), holdK ks lm = some hk → ∀ d cs, LM.get hk d = some cs → LM.get lm d = some cs
  | [], lm, hk, h, d, cs, hd => by simp only [holdK, Option.some.injEq] at h; subst h; cases hd
  | k :: ks, lm, hk, h, d, cs, hd => by
    simp only [holdK] at h
    split at h
    · rename_i xs r hx hr
      simp only [Option.some.injEq] at h; subst h
      rw [LMget_cons] at hd
      by_cases e1 : k = d
      · subst e1; simp only [if_true, Option.some.injEq] at hd; subst hd; exact hx
      · rw [if_neg e1] at hd; exact holdK_sub ks lm r hr d cs hd
    · cases h

theorem JF.draw (keys : List Nat) (Lh' : List Ent) {m : MC} {hk : LM} (hh : holdK keys lm = some hk) (hL : ∀ x ∈ Lh', x ∈ L) (h : JF P w₀ S rs R Lh' ⟨some hk, m, ks, e, lm⟩ L) : JF P w₀ S rs R Lh ⟨none, .draw m, ks, e, lm⟩ L := fun β w hst hl hm => by
  have hst' : St w₀ S { w with drawn := w.drawn + 1 } L := ⟨⟨hst.ext.os, hst.ext.tape, hst.ext.output, hst.ext.size, hst.ext.blk⟩, hst.blk, hst.dis, hst.own⟩
  have hm' : MdOk (some hk) Lh' lm L := ⟨holdK_sub keys lm hk hh, hL⟩
  exact ⟨Sd w₀ S β hk Lh', inS_self (md := some hk) (Lh := Lh') hst' hl hm', h β _ hst' hl hm'⟩

/-- From here on more is held through a region. -/
theorem JF.hold (keys : List Nat) (Lh' : List Ent) {g : Option (Nat × Bool)} {d : Option Nat} {i : MI} {k : MC} {hk hk' : LM} (hh : holdK keys lm = some hk') (hs : ∀ d cs, LM.get hk d = some cs → LM.get hk' d = some cs) (h1 : ∀ x ∈ Lh, x ∈ Lh') (h2 : ∀ x ∈ Lh', x ∈ L)
    (h : JF P w₀ S rs R Lh' ⟨some hk', .op g d i k, ks, e, lm⟩ L) : JF P w₀ S rs R Lh ⟨some hk, .op g d i k, ks, e, lm⟩ L := fun β w hst hl hm => by
  obtain ⟨S', a, b, c⟩ := h β w hst hl ⟨holdK_sub keys lm hk' hh, h2⟩
  exact ⟨S', a, fun x hx => ⟨fun d cs hd => (b x hx).1 d cs (hs d cs hd), fun y hy => (b x hx).2.1 y (h1 y hy), (b x hx).2.2⟩, c⟩

/-- A loop's state: slots, boxes, blocks, told by a state of one's own. -/
def LInv (w₀ : World) (S : Nat → Prop) {σ : Type} (E : σ → EEnv) (M : σ → LM) (LL : σ → List Ent) (I : σ → Prop) (μ : σ → Nat) (en : Env) (w : World) (n : Nat) : Prop :=
  ∃ s β, I s ∧ en = denE β (E s) ∧ St w₀ S w (LL s) ∧ Loc w₀ β (M s) (LL s) w ∧ n = μ s

/-- What some slots are known to hold is known. -/
def subE : EEnv → EEnv → Prop
  | [], _ => True
  | (t, v) :: r, e => EEnv.get e t = some v ∧ subE r e

def subM : LM → LM → Prop
  | [], _ => True
  | (t, v) :: r, e => LM.get e t = some v ∧ subM r e

theorem subE_Sub (β : Nat → Nat) : ∀ {r e : EEnv}, subE r e → Sub (denE β r) (denE β e)
  | [], e, _, t, v, ht => by cases ht
  | (s, u) :: r, e, h, t, v, ht => by
    simp only [denE, Env.get] at ht
    cases hb : Nat.beq s t
    · rw [hb] at ht; exact subE_Sub β h.2 t v ht
    · rw [hb] at ht
      simp only [cond_true, Option.some.injEq] at ht
      rw [← Nat.eq_of_beq_eq_true hb, ← ht]
      exact denE_get h.1

theorem subM_get : ∀ {r e : LM}, subM r e → ∀ d cs, LM.get r d = some cs → LM.get e d = some cs
  | [], e, _, d, cs, hd => by cases hd
  | (s, u) :: r, e, h, d, cs, hd => by
    rw [LMget_cons] at hd
    by_cases e1 : s = d
    · subst e1; simp only [if_true, Option.some.injEq] at hd; subst hd; exact h.1
    · rw [if_neg e1] at hd; exact subM_get h.2 d cs hd

theorem JF.loop {σ : Type} (E : σ → EEnv) (M : σ → LM) (LL : σ → List Ent) (I : σ → Prop) (μ : σ → Nat) (s₀ : σ) {a : MC} (hI : I s₀) (hE : subE (E s₀) e) (hM : subM (M s₀) lm) (hL : (LL s₀).Sublist L)
    (round : ∀ s, I s → JF P w₀ S rs R Lh ⟨none, a, .lp (LInv w₀ S E M LL I μ) (μ s) :: ks, E s, M s⟩ (LL s)) : JF P w₀ S rs R Lh ⟨none, .loop a, ks, e, lm⟩ L := fun β w hst hl hm => by
  refine ⟨LInv w₀ S E M LL I μ, μ s₀, denE β (E s₀), subE_Sub β hE, ⟨s₀, β, hI, rfl, hst.sub hL, hl.sub (fun x hx => hL.subset hx) (subM_get hM), rfl⟩, ?_⟩
  rintro en w' n ⟨s, β', hs, rfl, hst', hl', rfl⟩
  refine run_congr a (fun _ => rfl) (fun ex e1 e2 w1 he hq => ?_) (round s hs β' w' hst' hl' trivial)
  have hq' := resp_Kont (resp_fnQ P rs R) (.lp (LInv w₀ S E M LL I μ) (μ s) :: ks) ex e1 e2 w1 he hq
  cases ex with
  | normal => exact hq'
  | exit id => exact hq'
  | ret => exact hq'
  | goto l => exact hq'.elim
  | panic c => exact hq'.elim
  | outgrown => exact hq'.elim

/-- A round's end: the next state. -/
theorem JF.round {σ : Type} {E : σ → EEnv} {M : σ → LM} {LL : σ → List Ent} {I : σ → Prop} {μ : σ → Nat} {n : Nat} (s' : σ) (hI : I s') (hlt : μ s' < n) (hE : subE (E s') e) (hM : subM (M s') lm) (hL : (LL s').Sublist L) :
    JF P w₀ S rs R Lh ⟨none, .nil, .lp (LInv w₀ S E M LL I μ) n :: ks, e, lm⟩ L := fun β w hst hl hm =>
  ⟨denE β (E s'), μ s', subE_Sub β hE, ⟨s', β, hI, rfl, hst.sub hL, hl.sub (fun x hx => hL.subset hx) (subM_get hM), rfl⟩, hlt⟩

/-- Something is checked: an index, a shift, a divisor. -/
theorem JF.chk {d : Nat} {i : MI} {k : MC} {C : Prop} {v : Value} (hi : i.chk e = some (C, v)) (hC : C) (h : JF P w₀ S rs R Lh ⟨md, k, ks, (d, .v v) :: e, lm⟩ L) : JF P w₀ S rs R Lh ⟨md, .op none (some d) i k, ks, e, lm⟩ L := fun β w hst hl hm => by
  refine Turn.self (inS_self hst hl hm) ?_
  intro o ty ho
  obtain ⟨h1, h2⟩ := chk_sound (P := P) β ho hi hC
  refine ⟨h1, ?_⟩
  rw [if_pos (chk_light hi)]
  exact ⟨v, fun w' _ => h2 w', h β w hst hl hm⟩

/-- The blocks that may be read. -/
def rdL (md : Option LM) (Lh L : List Ent) : List Ent :=
  match md with
  | none => L
  | some _ => Lh

theorem rd_blk {β : Nat → Nat} {w w' : World} {x : Ent} (hst : St w₀ S w L) (hx : x ∈ rdL md Lh L) (ha : alike (mdS w₀ S β md Lh) w w') : w'.heap[x.b]? = some x.obj := by
  cases md with
  | none => cases ha; exact hst.blk x hx
  | some hk => exact ha.2.1 x hx

theorem JF.ld1 {d : Nat} {x : Operand} {k : MC} {b o : Nat} {v : Value} {ent : Ent} (hx : asP (opV e x) = some (b, o)) (he : ent ∈ rdL md Lh L) (hb : ent.b = b) (hv : nthL ent.cs o = some v)
    (h : JF P w₀ S rs R Lh ⟨md, k, ks, (d, .v v) :: e, lm⟩ L) : JF P w₀ S rs R Lh ⟨md, .op none (some d) (.ld1 x) k, ks, e, lm⟩ L := fun β w hst hl hm => by
  refine Turn.self (inS_self hst hl hm) ?_
  intro op ty ho
  obtain ⟨h1, h2⟩ := ld1_run ho
  obtain ⟨k1, r1⟩ := opV_sound (asP_some hx) β
  refine ⟨by rw [h1]; intro y hy; rw [Array.mem_singleton.1 hy]; exact k1, ?_⟩
  rw [if_pos (by simp [MI.light])]
  rw [nthL_eq] at hv
  exact ⟨v, fun w' ha => h2 _ w' _ v r1 (by rw [← hb, cell_of_block (rd_blk hst he ha)]; simpa using hv), h β w hst hl hm⟩

theorem JF.ldn {d n : Nat} {x : Operand} {k : MC} {b o : Nat} {vs : List Value} {ent : Ent} (hx : asP (opV e x) = some (b, o)) (he : ent ∈ rdL md Lh L) (hb : ent.b = b) (hv : subL ent.cs o n = some vs)
    (h : JF P w₀ S rs R Lh ⟨md, k, ks, (d, .v (.agg vs.toArray)) :: e, lm⟩ L) : JF P w₀ S rs R Lh ⟨md, .op none (some d) (.ldn n x) k, ks, e, lm⟩ L := fun β w hst hl hm => by
  refine Turn.self (inS_self hst hl hm) ?_
  intro op ty ho
  obtain ⟨h1, h2⟩ := ldn_run ho
  obtain ⟨k1, r1⟩ := opV_sound (asP_some hx) β
  obtain ⟨e1, e2⟩ := subL_some _ _ _ _ hv
  refine ⟨by rw [h1]; intro y hy; rw [Array.mem_singleton.1 hy]; exact k1, ?_⟩
  rw [if_pos (by simp [MI.light])]
  refine ⟨.agg vs.toArray, fun w' ha => h2 _ w' b o vs r1 (by rw [e1]; simp; omega) fun j u hj => ?_, h β w hst hl hm⟩
  rw [← hb, cell_of_block (rd_blk hst he ha)]
  rw [e1, List.getElem?_take] at hj
  split at hj
  · simpa [List.getElem?_drop] using hj
  · cases hj

/-- What was there when the call began, and may not be written, reads as it did. -/
theorem old_blk {β : Nat → Nat} {w w' : World} {b : Nat} (hst : St w₀ S w L) (hb : b < w₀.heap.size) (hS : ¬ S b) (ha : alike (mdS w₀ S β md Lh) w w') : w'.heap[b]? = w₀.heap[b]? := by
  cases md with
  | none => cases ha; exact hst.ext.blk b hb hS
  | some hk => exact ha.2.2 b hb hS

theorem JF.old1 {d : Nat} {x : Operand} {k : MC} {b o : Nat} {v : Value} (hx : asP (opV e x) = some (b, o)) (hv : w₀.cell? ⟨b, o, none⟩ = some v) (hS : ¬ S b)
    (h : JF P w₀ S rs R Lh ⟨md, k, ks, (d, .v v) :: e, lm⟩ L) : JF P w₀ S rs R Lh ⟨md, .op none (some d) (.ld1 x) k, ks, e, lm⟩ L := fun β w hst hl hm => by
  refine Turn.self (inS_self hst hl hm) ?_
  intro op ty ho
  obtain ⟨h1, h2⟩ := ld1_run ho
  obtain ⟨k1, r1⟩ := opV_sound (asP_some hx) β
  refine ⟨by rw [h1]; intro y hy; rw [Array.mem_singleton.1 hy]; exact k1, ?_⟩
  rw [if_pos (by simp [MI.light])]
  have hb : b < w₀.heap.size := by
    rcases Nat.lt_or_ge b w₀.heap.size with hlt | hge
    · exact hlt
    · simp [World.cell?, Array.getElem?_eq_none hge] at hv
  exact ⟨v, fun w' ha => h2 _ w' _ v r1 (by
    have := old_blk hst hb hS ha
    simp only [World.cell?] at hv ⊢
    rw [this]; exact hv), h β w hst hl hm⟩

theorem JF.oldn {d n : Nat} {x : Operand} {k : MC} {b o : Nat} {vs : List Value} (hx : asP (opV e x) = some (b, o)) (hn : vs.length = n) (hv : ∀ i v, vs[i]? = some v → w₀.cell? ⟨b, o + i, none⟩ = some v) (hS : ¬ S b)
    (h : JF P w₀ S rs R Lh ⟨md, k, ks, (d, .v (.agg vs.toArray)) :: e, lm⟩ L) : JF P w₀ S rs R Lh ⟨md, .op none (some d) (.ldn n x) k, ks, e, lm⟩ L := fun β w hst hl hm => by
  refine Turn.self (inS_self hst hl hm) ?_
  intro op ty ho
  obtain ⟨h1, h2⟩ := ldn_run ho
  obtain ⟨k1, r1⟩ := opV_sound (asP_some hx) β
  refine ⟨by rw [h1]; intro y hy; rw [Array.mem_singleton.1 hy]; exact k1, ?_⟩
  rw [if_pos (by simp [MI.light])]
  refine ⟨.agg vs.toArray, fun w' ha => h2 _ w' b o vs r1 hn fun j u hj => ?_, h β w hst hl hm⟩
  have hj' := hv j u hj
  have hb : b < w₀.heap.size := by
    rcases Nat.lt_or_ge b w₀.heap.size with hlt | hge
    · exact hlt
    · simp [World.cell?, Array.getElem?_eq_none hge] at hj'
  have := old_blk hst hb hS ha
  simp only [World.cell?] at hj' ⊢
  rw [this]; exact hj'

/-- The blocks that a region in an open order holds. -/
def mdL (md : Option LM) (Lh : List Ent) : List Ent :=
  match md with
  | none => []
  | some _ => Lh

/-- What becomes of memory in a step: only known blocks may turn; what is known behind. -/
structure Tr (w₀ : World) (S : Nat → Prop) (md : Option LM) (Lh : List Ent) (L : List Ent) (w w' : World) (L' : List Ent) : Prop where
  st : St w₀ S w' L'
  low : ∀ b, b < w.heap.size → (∀ x ∈ L, x.b ≠ b) → w'.heap[b]? = w.heap[b]?
  new : ∀ x ∈ L', (∃ y ∈ L, y.b = x.b) ∨ w.heap.size ≤ x.b
  held : ∀ x ∈ mdL md Lh, x ∈ L'

theorem Tr.loc {β : Nat → Nat} {w w' : World} {L' : List Ent} (h : Tr w₀ S md Lh L w w' L') (hl : Loc w₀ β lm L w) : Loc w₀ β lm L' w' := fun d cs hd => by
  obtain ⟨⟨t, h1⟩, h2, h3, h4⟩ := hl d cs hd
  have hlt := lt_of_blk h1
  refine ⟨⟨t, (h.low _ hlt h3).trans h1⟩, h2, fun x hx e1 => ?_, h4⟩
  rcases h.new x hx with ⟨y, hy, e2⟩ | hge
  · exact h3 y hy (e2.trans e1)
  · omega

theorem Tr.ok {w w' : World} {L' : List Ent} (h : Tr w₀ S md Lh L w w' L') (hm : MdOk md Lh lm L) : MdOk md Lh lm L' := by
  cases md with
  | none => trivial
  | some hk => exact ⟨hm.1, h.held⟩

theorem Tr.inS {β : Nat → Nat} {w w' : World} {L' : List Ent} (h : Tr w₀ S md Lh L w w' L') (hl : Loc w₀ β lm L w) (hm : MdOk md Lh lm L) : HM.inS (mdS w₀ S β md Lh) w' :=
  inS_self h.st (h.loc hl) (h.ok hm)

/-- Any operation that comes to a value. -/
theorem JF.step {d : Option Nat} {i : MI} {k : MC} (hi : i.light = false)
    (h : ∀ β w, St w₀ S w L → ∀ op ty, toInstr P op ty = some i → (∀ x ∈ op.operands, (denE β e).knows x) ∧ ∃ v w' L' e', (execOp (denE β e).rho (mkOper op ty)).run P w = .ok (.value v) w' ∧ Tr w₀ S md Lh L w w' L' ∧
      denE β e' = push d v (denE β e) ∧ JF P w₀ S rs R Lh ⟨md, k, ks, e', lm⟩ L') : JF P w₀ S rs R Lh ⟨md, .op none d i k, ks, e, lm⟩ L := fun β w hst hl hm => by
  refine Turn.self (inS_self hst hl hm) ?_
  intro op ty ho
  obtain ⟨h1, v, w', L', e', h2, h3, h4, h5⟩ := h β w hst op ty ho
  refine ⟨h1, ?_⟩
  rw [hi]
  simp only [Bool.false_eq_true, if_false]
  have := h5 β w' h3.st (h3.loc hl) (h3.ok hm)
  simp only [h4] at this
  exact .val v w' h2 (h3.inS hl hm) this

theorem JF.stepS {i : MI} {k : MC} (hi : i.light = false)
    (h : ∀ β w, St w₀ S w L → ∀ op ty, toInstr P op ty = some i → (∀ x ∈ op.operands, (denE β e).knows x) ∧ ∃ w' L', (execOp (denE β e).rho (mkOper op ty)).run P w = .ok .skip w' ∧ Tr w₀ S md Lh L w w' L' ∧
      JF P w₀ S rs R Lh ⟨md, k, ks, e, lm⟩ L') : JF P w₀ S rs R Lh ⟨md, .op none none i k, ks, e, lm⟩ L := fun β w hst hl hm => by
  refine Turn.self (inS_self hst hl hm) ?_
  intro op ty ho
  obtain ⟨h1, w', L', h2, h3, h5⟩ := h β w hst op ty ho
  refine ⟨h1, ?_⟩
  rw [hi]
  simp only [Bool.false_eq_true, if_false]
  exact .skip w' h2 (h3.inS hl hm) (h5 β w' h3.st (h3.loc hl) (h3.ok hm))

/-- A step that turns nothing that was there. -/
theorem Tr.same {w w' : World} (hst : St w₀ S w L) (hx : Ext (fun _ => False) w w') (hh : ∀ x ∈ mdL md Lh, x ∈ L) : Tr w₀ S md Lh L w w' L :=
  ⟨hst.keep hx (fun _ _ h => h.elim) (fun _ _ h => h), fun b hb _ => hx.blk b hb (fun h => h), fun x hx => .inl ⟨x, hx, rfl⟩, hh⟩

/-- .. but makes a block that is known. -/
theorem Tr.new1 {w w' : World} {x : Ent} (hst : St w₀ S w L) (hx : Ext (fun _ => False) w w') (hb : w.heap.size ≤ x.b) (ho : w'.heap[x.b]? = some x.obj) (hh : ∀ y ∈ mdL md Lh, y ∈ L) : Tr w₀ S md Lh L w w' (x :: L) := by
  have hk := hst.keep hx (fun _ _ h => h.elim) (fun _ _ h => h)
  refine ⟨⟨hk.ext, fun y hy => ?_, ?_, fun y hy hr => ?_⟩, fun b hb' _ => hx.blk b hb' (fun h => h), fun y hy => ?_, fun y hy => .tail _ (hh y hy)⟩
  · rcases List.mem_cons.1 hy with rfl | hy
    · exact ho
    · exact hk.blk y hy
  · refine List.pairwise_cons.2 ⟨fun y hy => ?_, hk.dis⟩
    have := lt_of_blk (hst.blk y hy); omega
  · rcases List.mem_cons.1 hy with rfl | hy
    · exact .inl (Nat.le_trans hst.ext.size hb)
    · exact hk.own y hy hr
  · rcases List.mem_cons.1 hy with rfl | hy
    · exact .inr hb
    · exact .inl ⟨y, hy, rfl⟩

theorem JF.al {d : Nat} {t : TypeId} {zero : List Value} {k : MC} (hh : ∀ x ∈ mdL md Lh, x ∈ L) (h : ∀ b, w₀.heap.size ≤ b → JF P w₀ S rs R Lh ⟨md, k, ks, (d, .v (.pointer (some ⟨b, 0, none⟩))) :: e, lm⟩ (⟨b, t, 0, 0, zero, true⟩ :: L)) :
    JF P w₀ S rs R Lh ⟨md, .op none (some d) (.al t zero) k, ks, e, lm⟩ L := JF.step rfl fun β w hst op ty ho => by
  obtain ⟨h1, h2⟩ := al_run ho
  exact ⟨by rw [h1]; intro x hx; simp at hx, _, _, _, _, h2 _ w, Tr.new1 (x := ⟨w.heap.size, t, 0, 0, zero, true⟩) hst (ext_alloc w _) (Nat.le_refl _) (by simp [Ent.obj]) hh, rfl, h _ hst.ext.size⟩

theorem JF.bx {d : Nat} {t : TypeId} {g : Bool} {x : Operand} {u : Value} {k : MC} (hx : opV e x = some u) (hh : ∀ x ∈ mdL md Lh, x ∈ L)
    (h : ∀ b, w₀.heap.size ≤ b → JF P w₀ S rs R Lh ⟨md, k, ks, (d, .v (.pointer (some ⟨b, 0, none⟩))) :: e, lm⟩ (⟨b, t, 0, 0, cellsL u, true⟩ :: L)) :
    JF P w₀ S rs R Lh ⟨md, .op none (some d) (.bx t g x) k, ks, e, lm⟩ L := JF.step rfl fun β w hst op ty ho => by
  obtain ⟨h1, h2⟩ := bx_run ho
  obtain ⟨k1, r1⟩ := opV_sound hx β
  have hr := h2 (denE β e).rho w
  rw [r1] at hr
  exact ⟨by rw [h1]; intro y hy; rw [Array.mem_singleton.1 hy]; exact k1, _, _, _, _, hr, Tr.new1 (x := ⟨w.heap.size, t, 0, 0, cellsL u, true⟩) hst (ext_alloc w _) (Nat.le_refl _) (by simp [Ent.obj]) hh, rfl, h _ hst.ext.size⟩

theorem JF.bldS {d n : Nat} {t : TypeId} {zero : List Value} {parts : List (Nat × Nat × Operand)} {ps : List (Nat × Nat × Value)} {cs : List Value} {k : MC} (hp : partVs e parts = some ps) (hc : fillL zero ps = some cs) (hh : ∀ x ∈ mdL md Lh, x ∈ L)
    (h : ∀ b, w₀.heap.size ≤ b → JF P w₀ S rs R Lh ⟨md, k, ks, (d, .v (.slice (some ⟨b, 0, none⟩) n n)) :: e, lm⟩ (⟨b, t, 0, 0, cs, true⟩ :: L)) :
    JF P w₀ S rs R Lh ⟨md, .op none (some d) (.bldS t n zero parts) k, ks, e, lm⟩ L := JF.step rfl fun β w hst op ty ho => by
  obtain ⟨h1, h2⟩ := bldS_run ho e β w ps cs hp hc
  exact ⟨h1, _, _, _, _, h2, Tr.new1 (x := ⟨w.heap.size, t, 0, 0, cs, true⟩) hst (ext_alloc w _) (Nat.le_refl _) (by simp [Ent.obj]) hh, rfl, h _ hst.ext.size⟩

/-- The n-th block's cells, and all with others in their place. -/
def setE : Nat → List Value → List Ent → Option (List Ent)
  | 0, cs, x :: L => some ({ x with cs := cs } :: L)
  | n + 1, cs, x :: L => match setE n cs L with
    | some r => some (x :: r)
    | none => none
  | _, _, [] => none

def nthE : Nat → List Ent → Option Ent
  | 0, x :: _ => some x
  | n + 1, _ :: L => nthE n L
  | _, [] => none

theorem nthE_mem : ∀ {n : Nat} {L : List Ent} {x : Ent}, nthE n L = some x → x ∈ L
  | 0, _ :: _, x, h => by simp only [nthE, Option.some.injEq] at h; subst h; simp
  | n + 1, y :: L, x, h => by simp only [nthE] at h; exact .tail _ (nthE_mem h)
  | 0, [], _, h => by cases h
  | _ + 1, [], _, h => by cases h

theorem setE_spec : ∀ {n : Nat} {cs : List Value} {L L' : List Ent} {x : Ent}, nthE n L = some x → setE n cs L = some L' → L.Pairwise (fun x y => x.b ≠ y.b) →
    L'.map (·.b) = L.map (·.b) ∧ (∀ y ∈ L', y = { x with cs := cs } ∨ (y ∈ L ∧ y.b ≠ x.b)) ∧ (∀ y ∈ L, y.b ≠ x.b → y ∈ L')
  | 0, cs, y :: L, L', x, h1, h2, hd => by
    simp only [nthE, Option.some.injEq] at h1; subst h1
    simp only [setE, Option.some.injEq] at h2; subst h2
    have hd' := List.pairwise_cons.1 hd
    refine ⟨rfl, fun z hz => ?_, fun z hz hne => ?_⟩
    · rcases List.mem_cons.1 hz with rfl | hz
      · exact .inl rfl
      · exact .inr ⟨.tail _ hz, Ne.symm (hd'.1 z hz)⟩
    · rcases List.mem_cons.1 hz with rfl | hz
      · exact absurd rfl hne
      · exact .tail _ hz
  | n + 1, cs, y :: L, L', x, h1, h2, hd => by
    simp only [nthE] at h1
    simp only [setE] at h2
    split at h2
    · rename_i r hr
      simp only [Option.some.injEq] at h2; subst h2
      have hd' := List.pairwise_cons.1 hd
      obtain ⟨g1, g2, g3⟩ := setE_spec h1 hr hd'.2
      have hy : y.b ≠ x.b := hd'.1 x (nthE_mem h1)
      refine ⟨by simp [g1], fun z hz => ?_, fun z hz hne => ?_⟩
      · rcases List.mem_cons.1 hz with rfl | hz
        · exact .inr ⟨by simp, hy⟩
        · rcases g2 z hz with h | ⟨h, h'⟩
          · exact .inl h
          · exact .inr ⟨.tail _ h, h'⟩
      · rcases List.mem_cons.1 hz with rfl | hz
        · simp
        · exact .tail _ (g3 z hz hne)
    · cases h2
  | 0, _, [], _, _, h1, _, _ => by cases h1
  | _ + 1, _, [], _, _, h1, _, _ => by cases h1

theorem pair_map {L L' : List Ent} (h : L'.map (·.b) = L.map (·.b)) (hd : L.Pairwise (fun x y => x.b ≠ y.b)) : L'.Pairwise (fun x y => x.b ≠ y.b) := by
  have h1 : (L.map (·.b)).Pairwise (· ≠ ·) := List.pairwise_map.2 hd
  rw [← h] at h1
  exact List.pairwise_map.1 h1

/-- A known block is written. -/
theorem Tr.set {n : Nat} {w : World} {x : Ent} {cs : List Value} {L' : List Ent} (hst : St w₀ S w L) (hn : nthE n L = some x) (hL : setE n cs L = some L') (hrw : x.rw = true) (hh : ∀ y ∈ mdL md Lh, y ∈ L') : Tr w₀ S md Lh L w (w.setRow x.b cs.toArray) L' := by
  obtain ⟨g1, g2, g3⟩ := setE_spec hn hL hst.dis
  have hx := nthE_mem hn
  have hxb := hst.blk x hx
  refine ⟨⟨hst.ext.trans (ext_setRow w x.b _) fun y hy e1 => ?_, fun y hy => ?_, pair_map g1 hst.dis, fun y hy hr => ?_⟩, fun b hb hne => setRow_other w x.b b _ (fun e1 => hne x hx e1.symm), fun y hy => ?_, hh⟩
  · subst e1
    rcases hst.own x hx hrw with h | h
    · omega
    · exact h
  · rcases g2 y hy with rfl | ⟨hy', hne⟩
    · exact setRow_heap w x.b _ _ _ _ hxb
    · rw [setRow_other w x.b y.b _ hne]; exact hst.blk y hy'
  · rcases g2 y hy with rfl | ⟨hy', hne⟩
    · exact hst.own x hx hrw
    · exact hst.own y hy' hr
  · rcases g2 y hy with rfl | ⟨hy', hne⟩
    · exact .inl ⟨x, hx, rfl⟩
    · exact .inl ⟨y, hy', rfl⟩

theorem JF.st1 (n : Nat) {x v : Operand} {k : MC} {b o : Nat} {u : Value} {ent : Ent} {cs : List Value} {L' : List Ent} (hx : asP (opV e x) = some (b, o)) (hv : opV e v = some u) (h1 : isOne u = true) (hn : nthE n L = some ent) (hb : ent.b = b) (hrw : ent.rw = true)
    (hf : ent.hi ≤ o ∨ o + 1 ≤ ent.lo ∨ ent.hi ≤ ent.lo) (hput : putL o [u] ent.cs = some cs) (hL : setE n cs L = some L') (hh : ∀ y ∈ mdL md Lh, y ∈ L') (h : JF P w₀ S rs R Lh ⟨md, k, ks, e, lm⟩ L') :
    JF P w₀ S rs R Lh ⟨md, .op none none (.st1 x v) k, ks, e, lm⟩ L := JF.stepS rfl fun β w hst op ty ho => by
  obtain ⟨g1, g2⟩ := st1_run ho
  obtain ⟨k1, r1⟩ := opV_sound (asP_some hx) β
  obtain ⟨k2, r2⟩ := opV_sound hv β
  obtain ⟨e1, e2⟩ := putL_some _ _ _ _ hput
  have hxb := hst.blk ent (nthE_mem hn)
  refine ⟨by
    rw [g1]; intro y hy
    simp only [List.mem_toArray, List.mem_cons, List.not_mem_nil, or_false] at hy
    rcases hy with rfl | rfl
    · exact k1
    · exact k2, _, L', ?_, Tr.set hst hn hL hrw hh, h⟩
  have hr := g2 (denE β e).rho w b o ent.cs ent.t ent.lo ent.hi r1 (by rw [← hb]; exact hxb) (by simpa using e2) hf (by rw [r2]; exact h1)
  rw [r2, ← hb] at hr
  rw [e1]
  exact hr

theorem JF.stn (n : Nat) {m : Nat} {x v : Operand} {k : MC} {b o : Nat} {vs : List Value} {ent : Ent} {cs : List Value} {L' : List Ent} (hx : asP (opV e x) = some (b, o)) (hv : asA (opV e v) = some vs) (hm' : vs.length = m) (h1 : allOne vs = true) (hn : nthE n L = some ent) (hb : ent.b = b) (hrw : ent.rw = true)
    (hf : ent.hi ≤ o ∨ o + vs.length ≤ ent.lo ∨ ent.hi ≤ ent.lo) (hput : putL o vs ent.cs = some cs) (hL : setE n cs L = some L') (hh : ∀ y ∈ mdL md Lh, y ∈ L') (h : JF P w₀ S rs R Lh ⟨md, k, ks, e, lm⟩ L') :
    JF P w₀ S rs R Lh ⟨md, .op none none (.stn m x v) k, ks, e, lm⟩ L := JF.stepS rfl fun β w hst op ty ho => by
  obtain ⟨g1, g2⟩ := stn_run ho
  obtain ⟨k1, r1⟩ := opV_sound (asP_some hx) β
  obtain ⟨k2, r2⟩ := opV_sound (asA_some hv) β
  obtain ⟨e1, e2⟩ := putL_some _ _ _ _ hput
  have hxb := hst.blk ent (nthE_mem hn)
  refine ⟨by
    rw [g1]; intro y hy
    simp only [List.mem_toArray, List.mem_cons, List.not_mem_nil, or_false] at hy
    rcases hy with rfl | rfl
    · exact k1
    · exact k2, _, L', ?_, Tr.set hst hn hL hrw hh, h⟩
  have hr := g2 (denE β e).rho w b o ent.cs vs ent.t ent.lo ent.hi r1 (by rw [← hb]; exact hxb) e2 hf r2 hm' (allOne_mem h1)
  rw [← hb] at hr
  rw [e1]
  exact hr

/-- Whatever else comes to a value: by the model's own run. -/
theorem JF.mkSl {d : Nat} {t : TypeId} {l c : Operand} {k : MC} {u v : Value} (hl' : opV e l = some u) (hc : opV e c = some v)
    (h : ∀ w, St w₀ S w L → ∃ r w' L', (Instr.makeSlice t u v).run P w = .ok r w' ∧ Tr w₀ S md Lh L w w' L' ∧ JF P w₀ S rs R Lh ⟨md, k, ks, (d, .v r) :: e, lm⟩ L') : JF P w₀ S rs R Lh ⟨md, .op none (some d) (.mkSl t l c) k, ks, e, lm⟩ L :=
  JF.step rfl fun β w hst op ty ho => by
    obtain ⟨g1, g2⟩ := mkSl_run ho
    obtain ⟨k1, r1⟩ := opV_sound hl' β
    obtain ⟨k2, r2⟩ := opV_sound hc β
    obtain ⟨r, w', L', hr, ht, hj⟩ := h w hst
    refine ⟨by
      rw [g1]; intro y hy
      simp only [List.mem_toArray, List.mem_cons, List.not_mem_nil, or_false] at hy
      rcases hy with rfl | rfl
      · exact k1
      · exact k2, r, w', L', _, g2 _ w w' r (by rw [r1, r2]; exact hr), ht, rfl, hj⟩

theorem JF.cvBS {d : Nat} {x : Operand} {k : MC} {a : Option Addr} {n c : Nat} (hx : asSl (opV e x) = some (a, n, c))
    (h : ∀ w, St w₀ S w L → ∃ r w' L', (Conv.bytesToString (.slice a n c)).run P w = .ok r w' ∧ Tr w₀ S md Lh L w w' L' ∧ JF P w₀ S rs R Lh ⟨md, k, ks, (d, .v r) :: e, lm⟩ L') : JF P w₀ S rs R Lh ⟨md, .op none (some d) (.cvBS x) k, ks, e, lm⟩ L :=
  JF.step rfl fun β w hst op ty ho => by
    obtain ⟨g1, g2⟩ := cvBS_run ho
    obtain ⟨k1, r1⟩ := opV_sound (asSl_some hx) β
    obtain ⟨r, w', L', hr, ht, hj⟩ := h w hst
    exact ⟨by rw [g1]; intro y hy; rw [Array.mem_singleton.1 hy]; exact k1, r, w', L', _, g2 _ w w' a n c r r1 hr, ht, rfl, hj⟩

theorem JF.cvSB {d : Nat} {t : TypeId} {x : Operand} {k : MC} {s : ByteArray} (hx : asS (opV e x) = some s)
    (h : ∀ w, St w₀ S w L → ∃ r w' L', (Conv.stringToBytes t s).run P w = .ok r w' ∧ Tr w₀ S md Lh L w w' L' ∧ JF P w₀ S rs R Lh ⟨md, k, ks, (d, .v r) :: e, lm⟩ L') : JF P w₀ S rs R Lh ⟨md, .op none (some d) (.cvSB t x) k, ks, e, lm⟩ L :=
  JF.step rfl fun β w hst op ty ho => by
    obtain ⟨g1, g2⟩ := cvSB_run ho
    obtain ⟨k1, r1⟩ := opV_sound (asS_some hx) β
    obtain ⟨r, w', L', hr, ht, hj⟩ := h w hst
    exact ⟨by rw [g1]; intro y hy; rw [Array.mem_singleton.1 hy]; exact k1, r, w', L', _, g2 _ w w' s r r1 hr, ht, rfl, hj⟩

theorem JF.bi {d : Option Nat} {b : Builtin} {ats : List TypeId} {t : TypeId} {args : List Operand} {k : MC} {vs : List Value} (ha : opVs e args = some vs)
    (h : ∀ w, St w₀ S w L → ∃ r w' L' e', (builtin b ats.toArray t #[] vs.toArray).run P w = .ok (.value r) w' ∧ Tr w₀ S md Lh L w w' L' ∧ e' = (match d with | some d => (d, .v r) :: e | none => e) ∧ JF P w₀ S rs R Lh ⟨md, k, ks, e', lm⟩ L') :
    JF P w₀ S rs R Lh ⟨md, .op none d (.bi b ats t args) k, ks, e, lm⟩ L :=
  JF.step rfl fun β w hst op ty ho => by
    obtain ⟨g1, g2⟩ := bi_run ho
    obtain ⟨k1, r1⟩ := opVs_sound ha β
    obtain ⟨r, w', L', e', hr, ht, he, hj⟩ := h w hst
    refine ⟨g1 _ k1, r, w', L', e', g2 _ w w' r (by rw [r1]; exact hr), ht, ?_, hj⟩
    subst he
    cases d <;> rfl

/-- A call. -/
theorem JF.call {d : Option Nat} {f : FuncId} {args : List Operand} {k : MC} {vs : List Value} (ha : opVs e args = some vs)
    (h : ∀ w, St w₀ S w L → Rets P f vs w fun r w' => ∃ L' e', Tr w₀ S md Lh L w w' L' ∧ e' = (match d with | some d => (d, .v r) :: e | none => e) ∧ JF P w₀ S rs R Lh ⟨md, k, ks, e', lm⟩ L') :
    JF P w₀ S rs R Lh ⟨md, .op none d (.call f args) k, ks, e, lm⟩ L := fun β w hst hl hm => by
  refine Turn.self (inS_self hst hl hm) ?_
  intro op ty ho
  obtain ⟨g1, g2⟩ := call_run ho
  obtain ⟨k1, r1⟩ := opVs_sound ha β
  refine ⟨g1 _ k1, ?_⟩
  rw [show MI.light (.call f args) = false from rfl]
  simp only [Bool.false_eq_true, if_false]
  have hr := g2 (denE β e).rho w (fun g => rfl)
  rw [r1] at hr
  refine .call f vs.toArray w hr (Calls.mono (h w hst) fun ev w' he => ?_)
  cases ev with
  | returned r =>
    obtain ⟨L', e', ht, he', hj⟩ := he
    refine ⟨ht.inS hl hm, ?_⟩
    have := hj β w' ht.st (ht.loc hl) (ht.ok hm)
    subst he'
    cases d <;> exact this
  | panicked c => exact he
  | outgrown => exact he

/-- A call of a function value. -/
theorem JF.dcall {d : Option Nat} {f : FuncId} {fv : Operand} {args : List Operand} {first captured : Array Value} {k : MC} {vs : List Value} (hfv : opV e fv = some (.func (.func f) first captured)) (hb : hasBody P f = true) (ha : opVs e args = some vs)
    (h : ∀ w, St w₀ S w L → Rets P f (first.toList ++ vs ++ captured.toList) w fun r w' => ∃ L' e', Tr w₀ S md Lh L w w' L' ∧ e' = (match d with | some d => (d, .v r) :: e | none => e) ∧ JF P w₀ S rs R Lh ⟨md, k, ks, e', lm⟩ L') :
    JF P w₀ S rs R Lh ⟨md, .op none d (.dcall fv args) k, ks, e, lm⟩ L := fun β w hst hl hm => by
  refine Turn.self (inS_self hst hl hm) ?_
  intro op ty ho
  obtain ⟨g1, g2⟩ := dcall_run ho
  obtain ⟨k0, r0⟩ := opV_sound hfv β
  obtain ⟨k1, r1⟩ := opVs_sound ha β
  refine ⟨g1 _ k0 k1, ?_⟩
  rw [show MI.light (.dcall fv args) = false from rfl]
  simp only [Bool.false_eq_true, if_false]
  have hr := g2 (denE β e).rho w f first captured r0 hb
  rw [r1] at hr
  have e1 : first ++ vs.toArray ++ captured = (first.toList ++ vs ++ captured.toList).toArray := Array.toList_inj.1 (by simp)
  rw [e1] at hr
  refine .call f _ w hr (Calls.mono (h w hst) fun ev w' he => ?_)
  cases ev with
  | returned r =>
    obtain ⟨L', e', ht, he', hj⟩ := he
    refine ⟨ht.inS hl hm, ?_⟩
    have := hj β w' ht.st (ht.loc hl) (ht.ok hm)
    subst he'
    cases d <;> exact this
  | panicked c => exact he
  | outgrown => exact he

/-- Results, out of slots and boxes. -/
def resL (e : EEnv) (lm : LM) : List RV → Option (List Value)
  | [] => some []
  | .tmp t :: r => match opV e (.tmp t), resL e lm r with
    | some v, some vs => some (v :: vs)
    | _, _ => none
  | .c1 t :: r => match EEnv.get e t with
    | some (.box i o) => match LM.get lm i with
      | some cs => match nthL cs o, resL e lm r with
        | some v, some vs => some (v :: vs)
        | _, _ => none
      | none => none
    | _ => none
  | .cn t n :: r => match EEnv.get e t with
    | some (.box i o) => match LM.get lm i with
      | some cs => match subL cs o n, resL e lm r with
        | some v, some vs => some (.agg v.toArray :: vs)
        | _, _ => none
      | none => none
    | _ => none

theorem resL_sound {β : Nat → Nat} {w : World} (hl : Loc w₀ β lm L w) : ∀ (rs : List RV) (vs : List Value) (k : List Value → Prop), resL e lm rs = some vs → k vs → resK P (denE β e) w rs k
  | [], vs, k, h, hk => by simp only [resL, Option.some.injEq] at h; subst h; exact hk
  | .tmp t :: r, vs, k, h, hk => by
    simp only [resL] at h
    split at h
    · rename_i v vs' hv hvs
      simp only [Option.some.injEq] at h; subst h
      obtain ⟨k1, r1⟩ := opV_sound hv β
      refine ⟨v, ?_, resL_sound hl r vs' _ hvs hk⟩
      simp only [Env.knows] at k1
      obtain ⟨u, hu⟩ := Option.isSome_iff_exists.1 k1
      simp only [Env.rho, hu, Option.getD_some] at r1
      rw [hu, r1]
    · cases h
  | .c1 t :: r, vs, k, h, hk => by
    simp only [resL] at h
    split at h
    · rename_i i o hg
      split at h
      · rename_i cs hcs
        split at h
        · rename_i v vs' hv hvs
          simp only [Option.some.injEq] at h; subst h
          obtain ⟨⟨t', hb⟩, _⟩ := hl i cs hcs
          rw [nthL_eq] at hv
          exact ⟨β i, o, v, denE_get hg, by rw [cell_of_block hb]; simpa using hv, resL_sound hl r vs' _ hvs hk⟩
        · cases h
      · cases h
    · cases h
  | .cn t n :: r, vs, k, h, hk => by
    simp only [resL] at h
    split at h
    · rename_i i o hg
      split at h
      · rename_i cs hcs
        split at h
        · rename_i v vs' hv hvs
          simp only [Option.some.injEq] at h; subst h
          obtain ⟨⟨t', hb⟩, _⟩ := hl i cs hcs
          obtain ⟨e1, e2⟩ := subL_some _ _ _ _ hv
          refine ⟨β i, o, v, denE_get hg, by rw [e1]; simp; omega, fun j u hj => ?_, resL_sound hl r vs' _ hvs hk⟩
          rw [cell_of_block hb]
          rw [e1, List.getElem?_take] at hj
          split at hj
          · simpa [List.getElem?_drop] using hj
          · cases hj
        · cases h
      · cases h
    · cases h

theorem JF.ret {vs : List Value} (hr : resL e lm rs = some vs) (h : ∀ w, St w₀ S w L → R (tup vs) w) : JF P w₀ S rs R Lh ⟨none, .ret, [], e, lm⟩ L := fun β w hst hl hm => resL_sound hl rs vs _ hr (h w hst)

theorem JF.fin {vs : List Value} (hr : resL e lm rs = some vs) (h : ∀ w, St w₀ S w L → R (tup vs) w) : JF P w₀ S rs R Lh ⟨none, .nil, [], e, lm⟩ L := fun β w hst hl hm => resL_sound hl rs vs _ hr (h w hst)

/-- Loads of the n-th of the blocks that may be read. -/
theorem JF.l1 (n : Nat) {d : Nat} {x : Operand} {k : MC} {b o : Nat} {v : Value} {ent : Ent} (hx : asP (opV e x) = some (b, o)) (he : nthE n (rdL md Lh L) = some ent) (hb : ent.b = b) (hv : nthL ent.cs o = some v)
    (h : JF P w₀ S rs R Lh ⟨md, k, ks, (d, .v v) :: e, lm⟩ L) : JF P w₀ S rs R Lh ⟨md, .op none (some d) (.ld1 x) k, ks, e, lm⟩ L := JF.ld1 hx (nthE_mem he) hb hv h

theorem JF.ln (n : Nat) {d m : Nat} {x : Operand} {k : MC} {b o : Nat} {vs : List Value} {ent : Ent} (hx : asP (opV e x) = some (b, o)) (he : nthE n (rdL md Lh L) = some ent) (hb : ent.b = b) (hv : subL ent.cs o m = some vs)
    (h : JF P w₀ S rs R Lh ⟨md, k, ks, (d, .v (.agg vs.toArray)) :: e, lm⟩ L) : JF P w₀ S rs R Lh ⟨md, .op none (some d) (.ldn m x) k, ks, e, lm⟩ L := JF.ldn hx (nthE_mem he) hb hv h

/-! ### Tests, told as propositions -/
theorem JF.condD {c : Operand} {a b : MC} {p : Prop} [Decidable p] (hc : opE e c = some (.v (.bool (decide p)))) (h1 : p → JF P w₀ S rs R Lh ⟨none, a, ks, e, lm⟩ L) (h2 : ¬ p → JF P w₀ S rs R Lh ⟨none, b, ks, e, lm⟩ L) :
    JF P w₀ S rs R Lh ⟨none, .cond c a b, ks, e, lm⟩ L := JF.cond hc (fun h => h1 (of_decide_eq_true h)) fun h => h2 (of_decide_eq_false h)

theorem JF.condE {c : Operand} {a b : MC} {x y : Int} (hc : opE e c = some (.v (.bool (x == y)))) (h1 : x = y → JF P w₀ S rs R Lh ⟨none, a, ks, e, lm⟩ L) (h2 : ¬ x = y → JF P w₀ S rs R Lh ⟨none, b, ks, e, lm⟩ L) :
    JF P w₀ S rs R Lh ⟨none, .cond c a b, ks, e, lm⟩ L := JF.cond hc (fun h => h1 (by simpa using h)) fun h => h2 (by simpa using h)

theorem JF.condN {c : Operand} {a b : MC} {x y : Int} (hc : opE e c = some (.v (.bool (x != y)))) (h1 : ¬ x = y → JF P w₀ S rs R Lh ⟨none, a, ks, e, lm⟩ L) (h2 : x = y → JF P w₀ S rs R Lh ⟨none, b, ks, e, lm⟩ L) :
    JF P w₀ S rs R Lh ⟨none, .cond c a b, ks, e, lm⟩ L := JF.cond hc (fun h => h1 (by simpa using h)) fun h => h2 (by simpa using h)

theorem JF.guardD {j : Nat} {want : Bool} {d : Option Nat} {i : MI} {k : MC} {p : Prop} [Decidable p] (hj : EEnv.get e j = some (.v (.bool (decide p)))) (h1 : p → JF P w₀ S rs R Lh ⟨md, .op (some (j, want)) d i k, ks, (j, .t) :: e, lm⟩ L)
    (h2 : ¬ p → JF P w₀ S rs R Lh ⟨md, .op (some (j, want)) d i k, ks, (j, .f) :: e, lm⟩ L) : JF P w₀ S rs R Lh ⟨md, .op (some (j, want)) d i k, ks, e, lm⟩ L := JF.guard hj (fun h => h1 (of_decide_eq_true h)) fun h => h2 (of_decide_eq_false h)

theorem JF.guardE {j : Nat} {want : Bool} {d : Option Nat} {i : MI} {k : MC} {x y : Int} (hj : EEnv.get e j = some (.v (.bool (x == y)))) (h1 : x = y → JF P w₀ S rs R Lh ⟨md, .op (some (j, want)) d i k, ks, (j, .t) :: e, lm⟩ L)
    (h2 : ¬ x = y → JF P w₀ S rs R Lh ⟨md, .op (some (j, want)) d i k, ks, (j, .f) :: e, lm⟩ L) : JF P w₀ S rs R Lh ⟨md, .op (some (j, want)) d i k, ks, e, lm⟩ L := JF.guard hj (fun h => h1 (by simpa using h)) fun h => h2 (by simpa using h)

theorem JF.guardN {j : Nat} {want : Bool} {d : Option Nat} {i : MI} {k : MC} {x y : Int} (hj : EEnv.get e j = some (.v (.bool (x != y)))) (h1 : ¬ x = y → JF P w₀ S rs R Lh ⟨md, .op (some (j, want)) d i k, ks, (j, .t) :: e, lm⟩ L)
    (h2 : x = y → JF P w₀ S rs R Lh ⟨md, .op (some (j, want)) d i k, ks, (j, .f) :: e, lm⟩ L) : JF P w₀ S rs R Lh ⟨md, .op (some (j, want)) d i k, ks, e, lm⟩ L := JF.guard hj (fun h => h1 (by simpa using h)) fun h => h2 (by simpa using h)
end

/-- No block. -/
abbrev NoB : Nat → Prop := fun _ => False

theorem St.nil (w : World) : St w NoB w [] := ⟨Ext.refl _ w, by simp, by simp, by simp⟩

end Go.HM
