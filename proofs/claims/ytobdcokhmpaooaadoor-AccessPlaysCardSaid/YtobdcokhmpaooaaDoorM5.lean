/- The judgement: from where a run stands, over known blocks of memory, all that is asked is met; its silent steps; its rules. -/
import Derived.Test.YtobdcokhmpaooaaDoorM4
namespace Go.HM
open Go
set_option linter.unusedSimpArgs false
set_option linter.unusedVariables false

/-- Of what was there in w₀, only blocks of S may have turned. -/
structure Ext (S : Nat → Prop) (w₀ w : World) : Prop where
  os : w.os = w₀.os
  tape : w.tape = w₀.tape
  output : w.output = w₀.output
  size : w₀.heap.size ≤ w.heap.size
  blk : ∀ b, b < w₀.heap.size → ¬ S b → w.heap[b]? = w₀.heap[b]?

/-- A known block: its number, its element type, its marked range, its cells; may it be written? -/
structure Ent where
  b : Nat
  t : TypeId
  lo : Nat
  hi : Nat
  cs : List Value
  rw : Bool

def Ent.obj (e : Ent) : Obj := .cells e.cs.toArray e.t (e.lo, e.hi)

/-- What is known of a world: since w₀ only S's blocks have turned; these blocks are so. -/
structure St (w₀ : World) (S : Nat → Prop) (w : World) (L : List Ent) : Prop where
  ext : Ext S w₀ w
  blk : ∀ e ∈ L, w.heap[e.b]? = some e.obj
  dis : L.Pairwise (fun x y => x.b ≠ y.b)
  own : ∀ e ∈ L, e.rw = true → w₀.heap.size ≤ e.b ∨ S e.b

/-- The boxes of the frame's own. -/
def Loc (w₀ : World) (β : Nat → Nat) (lm : LM) (L : List Ent) (w : World) : Prop :=
  ∀ d cs, LM.get lm d = some cs → (∃ t, w.heap[β d]? = some (.cells cs.toArray t (0, 0))) ∧ w₀.heap.size ≤ β d ∧ (∀ e ∈ L, e.b ≠ β d) ∧
    ∀ d' cs', LM.get lm d' = some cs' → d' ≠ d → β d' ≠ β d

/-- What holds all through a region in an open order. -/
def Sd (w₀ : World) (S : Nat → Prop) (β : Nat → Nat) (hk : LM) (Lh : List Ent) (w : World) : Prop :=
  (∀ d cs, LM.get hk d = some cs → ∃ t, w.heap[β d]? = some (.cells cs.toArray t (0, 0))) ∧ (∀ e ∈ Lh, w.heap[e.b]? = some e.obj) ∧ ∀ b, b < w₀.heap.size → ¬ S b → w.heap[b]? = w₀.heap[b]?

def mdS (w₀ : World) (S : Nat → Prop) (β : Nat → Nat) (md : Option LM) (Lh : List Ent) : Option (World → Prop) :=
  match md with
  | none => none
  | some hk => some (Sd w₀ S β hk Lh)

def MdOk (md : Option LM) (Lh : List Ent) (lm : LM) (L : List Ent) : Prop :=
  match md with
  | none => True
  | some hk => (∀ d cs, LM.get hk d = some cs → LM.get lm d = some cs) ∧ ∀ e ∈ Lh, e ∈ L

/-- What goes on behind. -/
def Kont (P : Program) : List KF → (Exit → Env → World → Prop) → Exit → Env → World → Prop
  | [], Q => Q
  | .seq c :: ks, Q => thenK (fun e w => run P none c (Kont P ks Q) e w) (Kont P ks Q)
  | .blk id :: ks, Q => blockK id (Kont P ks Q)
  | .lp I n :: ks, Q => fun ex e w => match ex with
    | .normal => ∃ e'' n', Sub e'' e ∧ I e'' w n' ∧ n' < n
    | .exit id => Kont P ks Q (.exit id) e w
    | .ret => Kont P ks Q .ret e w
    | _ => False

def KQ (P : Program) (md : Option LM) (ks : List KF) (Q : Exit → Env → World → Prop) : Exit → Env → World → Prop :=
  match md with
  | none => Kont P ks Q
  | some _ => onlyNormal fun e w => Kont P ks Q .normal e w

/-- The judgement. -/
def J (P : Program) (w₀ : World) (S : Nat → Prop) (Q : Exit → Env → World → Prop) (Lh : List Ent) (X : Cfg) (L : List Ent) : Prop :=
  ∀ β w, St w₀ S w L → Loc w₀ β X.lm L w → MdOk X.md Lh X.lm L → run P (mdS w₀ S β X.md Lh) X.c (KQ P X.md X.ks Q) (denE β X.e) w

section
variable {P : Program} {w₀ : World} {S : Nat → Prop} {Q : Exit → Env → World → Prop} {Lh : List Ent} {L : List Ent}

theorem Ext.refl (S : Nat → Prop) (w : World) : Ext S w w := ⟨rfl, rfl, rfl, Nat.le_refl _, fun _ _ _ => rfl⟩

theorem lt_of_blk {w : World} {b : Nat} {o : Obj} (h : w.heap[b]? = some o) : b < w.heap.size := (Array.getElem?_eq_some_iff.1 h).1

theorem Ext.trans {S S' : Nat → Prop} {a b c : World} (h : Ext S a b) (k : Ext S' b c) (hs : ∀ x, x < a.heap.size → S' x → S x) : Ext S a c :=
  ⟨k.os.trans h.os, k.tape.trans h.tape, k.output.trans h.output, Nat.le_trans h.size k.size, fun x hx hn =>
    (k.blk x (Nat.lt_of_lt_of_le hx h.size) (fun h' => hn (hs x hx h'))).trans (h.blk x hx hn)⟩

theorem ext_alloc (w : World) (o : Obj) : Ext (fun _ => False) w { w with heap := w.heap.push o } :=
  ⟨rfl, rfl, rfl, by simp, fun b hb _ => by simp [Array.getElem?_push, Nat.ne_of_lt hb]⟩

theorem ext_setRow (w : World) (b : Nat) (c : Array Value) : Ext (fun x => x = b) w (w.setRow b c) :=
  ⟨rfl, rfl, rfl, by simp, fun x _ hn => setRow_other w b x c hn⟩

/-- Blocks that are known and have not turned are known behind. -/
theorem St.keep {S' : Nat → Prop} {w w' : World} (h : St w₀ S w L) (k : Ext S' w w') (hs : ∀ x, x < w₀.heap.size → S' x → S x) (hL : ∀ e ∈ L, ¬ S' e.b) : St w₀ S w' L :=
  ⟨h.ext.trans k hs, fun e he => (k.blk e.b (lt_of_blk (h.blk e he)) (hL e he)).trans (h.blk e he), h.dis, h.own⟩

theorem LMget_cons {d t : Nat} {cs : List Value} {lm : LM} : LM.get ((d, cs) :: lm) t = if d = t then some cs else LM.get lm t := by
  simp only [LM.get]
  by_cases h : d = t
  · subst h; simp
  · have : Nat.beq d t = false := by rw [Bool.eq_false_iff]; intro hc; exact h (Nat.eq_of_beq_eq_true hc)
    simp [this, h]

theorem denE_congr {β β' : Nat → Nat} {d : Nat} (hβ : ∀ x, x ≠ d → β' x = β x) : ∀ {e : EEnv}, noBox d e = true → denE β' e = denE β e
  | [], _ => rfl
  | (s, ev) :: e, h => by
    cases ev with
    | box i o =>
      simp only [noBox] at h
      cases hb : Nat.beq i d
      · rw [hb] at h
        simp only [cond_false] at h
        have hne : i ≠ d := fun e1 => by subst e1; rw [Nat.beq_refl] at hb; cases hb
        simp only [denE, EV.den, hβ i hne, denE_congr hβ h]
      · rw [hb] at h; cases h
    | v x => simp only [noBox] at h; simp only [denE, EV.den, denE_congr hβ h]
    | t => simp only [noBox] at h; simp only [denE, EV.den, denE_congr hβ h]
    | f => simp only [noBox] at h; simp only [denE, EV.den, denE_congr hβ h]

theorem alike_self {β : Nat → Nat} {md : Option LM} {lm : LM} {w : World} (h : St w₀ S w L) (hl : Loc w₀ β lm L w) (hm : MdOk md Lh lm L) : alike (mdS w₀ S β md Lh) w w := by
  cases md with
  | none => rfl
  | some hk => exact ⟨fun d cs hd => (hl d cs (hm.1 d cs hd)).1, fun e he => h.blk e (hm.2 e he), h.ext.blk⟩

theorem inS_self {β : Nat → Nat} {md : Option LM} {lm : LM} {w : World} (h : St w₀ S w L) (hl : Loc w₀ β lm L w) (hm : MdOk md Lh lm L) : inS (mdS w₀ S β md Lh) w := by
  cases md with
  | none => trivial
  | some hk => exact ⟨fun d cs hd => (hl d cs (hm.1 d cs hd)).1, fun e he => h.blk e (hm.2 e he), h.ext.blk⟩

/-- A box may be read: in whatever world counts. -/
theorem box_cell {β : Nat → Nat} {md : Option LM} {lm : LM} {w w' : World} {i : Nat} {cs : List Value} (hl : Loc w₀ β lm L w) (h : LM.get (rdLM md lm) i = some cs) (ha : alike (mdS w₀ S β md Lh) w w') :
    ∃ t, w'.heap[β i]? = some (.cells cs.toArray t (0, 0)) := by
  cases md with
  | none => cases ha; exact (hl i cs h).1
  | some hk => exact ha.1 i cs h

/-- One silent instruction, in a run. -/
theorem sil_ev {S' : Option (World → Prop)} {i : MI} {e : EEnv} {ev : EV} {β : Nat → Nat} {w : World} {k : Value → World → Prop} (h : i.sil e = some ev) (hk : k (ev.den β) w) :
    i.ev P S' (denE β e) w k := fun o ty ho => by
  obtain ⟨h1, h2⟩ := sil_sound (P := P) β ho h
  refine ⟨h1, ?_⟩
  rw [if_pos (sil_light h)]
  exact ⟨ev.den β, fun w' _ => h2 w', hk⟩

theorem knows1 {e : EEnv} {x : Operand} {ev : EV} (h : opE e x = some ev) (β : Nat → Nat) : ∀ y ∈ #[x], (denE β e).knows y := fun y hy => by
  rw [Array.mem_singleton.1 hy]; exact (opE_sound h β).1

theorem push_den {d : Option Nat} {ev : EV} {e : EEnv} {lm : LM} {e' : EEnv} {lm' : LM} (h : pushE d ev e lm = some (e', lm')) (β : Nat → Nat) : denE β e' = push d (ev.den β) (denE β e) ∧ lm' = lm := by
  cases d <;> simp only [pushE, Option.some.injEq, Prod.mk.injEq] at h <;> (obtain ⟨rfl, rfl⟩ := h; exact ⟨rfl, rfl⟩)

theorem opV_opE {e : EEnv} {x : Operand} {v : Value} (h : opV e x = some v) : ∃ ev, opE e x = some ev := by
  unfold opV at h
  split at h
  · rename_i ev hev; exact ⟨ev, hev⟩
  · cases h

/-- A box of the frame's own is written. -/
theorem box_store {β : Nat → Nat} {md : Option LM} {lm lm' : LM} {e : EEnv} {x : Operand} {w : World} {vs : List Value} (hst : St w₀ S w L) (hl : Loc w₀ β lm L w) (hm : MdOk md Lh lm L)
    (h : boxSt md lm (opE e x) vs = some lm') : ∃ (i o : Nat) (cs : List Value) (t : TypeId), (denE β e).knows x ∧ (denE β e).rho x = .pointer (some ⟨β i, o, none⟩) ∧ w.heap[β i]? = some (.cells cs.toArray t (0, 0)) ∧ o + vs.length ≤ cs.length ∧
      St w₀ S (w.setRow (β i) (cs.take o ++ vs ++ cs.drop (o + vs.length)).toArray) L ∧ Loc w₀ β lm' L (w.setRow (β i) (cs.take o ++ vs ++ cs.drop (o + vs.length)).toArray) ∧ MdOk md Lh lm' L := by
  unfold boxSt at h
  split at h
  · rename_i i o hx
    cases hh : heldBy md i
    · rw [hh] at h
      simp only [cond_false] at h
      split at h
      · rename_i cs hcs
        split at h
        · rename_i cs' hput
          simp only [Option.some.injEq] at h; subst h
          obtain ⟨e1, e2⟩ := putL_some _ _ _ _ hput
          obtain ⟨k1, r1⟩ := opE_sound hx β
          obtain ⟨⟨t, hb⟩, hw0, hdis, hinj⟩ := hl i cs hcs
          refine ⟨i, o, cs, t, k1, r1, hb, e2, ?_⟩
          rw [← e1]
          refine ⟨hst.keep (ext_setRow w (β i) _) (fun y hy he => by omega) (fun y hy => hdis y hy), fun d ds hd => ?_, ?_⟩
          · rw [LMget_cons] at hd
            by_cases hdi : i = d
            · subst hdi
              simp only [if_true, Option.some.injEq] at hd; subst hd
              refine ⟨⟨t, setRow_heap w _ _ _ t (0, 0) hb⟩, hw0, hdis, fun d' cs'' hd' hne => ?_⟩
              rw [LMget_cons, if_neg (Ne.symm hne)] at hd'
              exact hinj d' cs'' hd' hne
            · rw [if_neg hdi] at hd
              obtain ⟨⟨t', hb'⟩, hw0', hdis', hinj'⟩ := hl d ds hd
              have hne : β i ≠ β d := hinj' i cs hcs hdi
              refine ⟨⟨t', by rw [setRow_other w _ _ _ (Ne.symm hne)]; exact hb'⟩, hw0', hdis', fun d' cs'' hd' hne' => ?_⟩
              rw [LMget_cons] at hd'
              by_cases hdi' : i = d'
              · subst hdi'; exact hne
              · rw [if_neg hdi'] at hd'; exact hinj' d' cs'' hd' hne'
          · cases md with
            | none => trivial
            | some hk =>
              refine ⟨fun d ds hd => ?_, hm.2⟩
              rw [LMget_cons]
              by_cases hdi : i = d
              · subst hdi
                simp only [heldBy, hd] at hh; cases hh
              · rw [if_neg hdi]; exact hm.1 d ds hd
        · cases h
      · cases h
    · rw [hh] at h; cases h
  · cases h

/-- A box of the frame's own is made. -/
theorem box_new {β : Nat → Nat} {loc : List Nat} {md : Option LM} {lm lm' : LM} {e e' : EEnv} {d : Option Nat} {w : World} {cs : List Value} (t : TypeId) (hst : St w₀ S w L) (hl : Loc w₀ β lm L w) (hm : MdOk md Lh lm L)
    (h : newBox loc md d cs e lm = some (e', lm')) : ∃ β', denE β' e' = push d (.pointer (some ⟨w.heap.size, 0, none⟩)) (denE β e) ∧ mdS w₀ S β' md Lh = mdS w₀ S β md Lh ∧
      St w₀ S { w with heap := w.heap.push (.cells cs.toArray t) } L ∧ Loc w₀ β' lm' L { w with heap := w.heap.push (.cells cs.toArray t) } ∧ MdOk md Lh lm' L := by
  unfold newBox at h
  split at h
  · rename_i d
    cases h1 : mem d loc
    · rw [h1] at h; cases h
    · rw [h1] at h
      cases h2 : noBox d e
      · rw [h2] at h; cases h
      · rw [h2] at h
        cases h3 : heldBy md d
        · rw [h3] at h
          simp only [cond_true, cond_false] at h
          split at h
          · rename_i hnone
            simp only [Option.some.injEq, Prod.mk.injEq] at h
            obtain ⟨rfl, rfl⟩ := h
            let β' : Nat → Nat := fun x => if x = d then w.heap.size else β x
            have hβ : ∀ x, x ≠ d → β' x = β x := fun x hx => if_neg hx
            have hd : β' d = w.heap.size := if_pos rfl
            refine ⟨β', ?_, ?_, hst.keep (ext_alloc w _) (fun _ _ h => h.elim) (fun _ _ h => h), fun x xs hx => ?_, ?_⟩
            · simp only [denE, EV.den, hd, push, denE_congr hβ h2]
            · cases md with
              | none => rfl
              | some hk =>
                simp only [mdS]
                congr 1
                funext w'
                simp only [Sd]
                have : ∀ x xs, LM.get hk x = some xs → β' x = β x := fun x xs hx => hβ x (fun e1 => by subst e1; simp only [heldBy, hx] at h3; cases h3)
                apply propext
                constructor
                · rintro ⟨p, q⟩; exact ⟨fun x xs hx => by rw [← this x xs hx]; exact p x xs hx, q⟩
                · rintro ⟨p, q⟩; exact ⟨fun x xs hx => by rw [this x xs hx]; exact p x xs hx, q⟩
            · rw [LMget_cons] at hx
              by_cases hdx : d = x
              · subst hdx
                simp only [if_true, Option.some.injEq] at hx; subst hx
                rw [hd]
                refine ⟨⟨t, by simp⟩, hst.ext.size, fun y hy e1 => ?_, fun d' cs'' hd' hne => ?_⟩
                · have := lt_of_blk (hst.blk y hy); omega
                · rw [LMget_cons, if_neg (Ne.symm hne)] at hd'
                  rw [hβ d' hne]
                  obtain ⟨⟨t', hb'⟩, _⟩ := hl d' cs'' hd'
                  have := lt_of_blk hb'; omega
              · rw [if_neg hdx] at hx
                obtain ⟨⟨t', hb'⟩, hw0', hdis', hinj'⟩ := hl x xs hx
                have hxlt := lt_of_blk hb'
                rw [hβ x (Ne.symm hdx)]
                refine ⟨⟨t', by simp [Array.getElem?_push, Nat.ne_of_lt hxlt, hb']⟩, hw0', hdis', fun d' cs'' hd' hne' => ?_⟩
                rw [LMget_cons] at hd'
                by_cases hdd : d = d'
                · subst hdd; rw [hd]; omega
                · rw [if_neg hdd] at hd'
                  rw [hβ d' (Ne.symm hdd)]
                  exact hinj' d' cs'' hd' hne'
            · cases md with
              | none => trivial
              | some hk =>
                refine ⟨fun x xs hx => ?_, hm.2⟩
                rw [LMget_cons]
                by_cases hdx : d = x
                · subst hdx; simp only [heldBy, hx] at h3; cases h3
                · rw [if_neg hdx]; exact hm.1 x xs hx
          · cases h
        · rw [h3] at h; cases h
  · cases h

/-- One instruction on boxes, in a run. -/
theorem box_ev {loc : List Nat} {md : Option LM} {i : MI} {d : Option Nat} {k : MC} {ks : List KF} {e e' : EEnv} {lm lm' : LM} {β : Nat → Nat} {w : World} (hst : St w₀ S w L) (hl : Loc w₀ β lm L w) (hm : MdOk md Lh lm L)
    (h : i.box loc md d e lm = some (e', lm')) (hJ : J P w₀ S Q Lh ⟨md, k, ks, e', lm'⟩ L) :
    i.ev P (mdS w₀ S β md Lh) (denE β e) w fun v w' => run P (mdS w₀ S β md Lh) k (KQ P md ks Q) (push d v (denE β e)) w' := fun o ty ho => by
  cases i <;> simp only [MI.box] at h <;> try (cases h; done)
  case al t zero =>
    obtain ⟨h1, h2⟩ := al_run ho
    obtain ⟨β', g1, g2, g3, g4, g5⟩ := box_new t hst hl hm h
    refine ⟨by rw [h1]; intro x hx; simp at hx, ?_⟩
    rw [if_neg (by simp [MI.light])]
    have := hJ β' _ g3 g4 g5
    simp only [g1, g2] at this
    exact .val _ _ (h2 _ w) (by rw [← g2]; exact inS_self g3 g4 g5) this
  case bx t g x =>
    split at h
    · rename_i v hv
      obtain ⟨h1, h2⟩ := bx_run ho
      obtain ⟨k1, r1⟩ := opV_sound hv β
      obtain ⟨β', g1, g2, g3, g4, g5⟩ := box_new t hst hl hm h
      refine ⟨by rw [h1]; intro y hy; rw [Array.mem_singleton.1 hy]; exact k1, ?_⟩
      rw [if_neg (by simp [MI.light])]
      have := hJ β' _ g3 g4 g5
      simp only [g1, g2] at this
      have hx := h2 (denE β e).rho w
      rw [r1] at hx
      exact .val _ _ hx (by rw [← g2]; exact inS_self g3 g4 g5) this
    · cases h
  case ld1 x =>
    split at h
    · rename_i bi off hx
      split at h
      · rename_i cs hcs
        split at h
        · rename_i v hv
          obtain ⟨g1, g2⟩ := push_den h β
          subst g2
          obtain ⟨h1, h2⟩ := ld1_run ho
          obtain ⟨k1, r1⟩ := opE_sound hx β
          refine ⟨by rw [h1]; intro y hy; rw [Array.mem_singleton.1 hy]; exact k1, ?_⟩
          rw [if_pos (by simp [MI.light])]
          refine ⟨v, fun w' ha => ?_, ?_⟩
          · obtain ⟨t, hb⟩ := box_cell (w₀ := w₀) (Lh := Lh) hl hcs ha
            rw [nthL_eq] at hv
            exact h2 _ w' _ v r1 (by rw [cell_of_block hb]; simpa using hv)
          · have := hJ β w hst hl hm
            simp only [g1] at this
            exact this
        · cases h
      · cases h
    · cases h
  case ldn n x =>
    split at h
    · rename_i bi off hx
      split at h
      · rename_i cs hcs
        split at h
        · rename_i vs hv
          obtain ⟨g1, g2⟩ := push_den h β
          subst g2
          obtain ⟨h1, h2⟩ := ldn_run ho
          obtain ⟨k1, r1⟩ := opE_sound hx β
          obtain ⟨e1, e2⟩ := subL_some _ _ _ _ hv
          refine ⟨by rw [h1]; intro y hy; rw [Array.mem_singleton.1 hy]; exact k1, ?_⟩
          rw [if_pos (by simp [MI.light])]
          refine ⟨.agg vs.toArray, fun w' ha => ?_, ?_⟩
          · obtain ⟨t, hb⟩ := box_cell (w₀ := w₀) (Lh := Lh) hl hcs ha
            refine h2 _ w' _ off vs r1 (by rw [e1]; simp; omega) fun j u hj => ?_
            rw [cell_of_block hb]
            rw [e1, List.getElem?_take] at hj
            split at hj
            · simpa [List.getElem?_drop] using hj
            · cases hj
          · have := hJ β w hst hl hm
            simp only [g1] at this
            exact this
        · cases h
      · cases h
    · cases h
  case st1 x v =>
    split at h
    · rename_i u hu
      cases hone : isOne u
      · rw [hone] at h; cases h
      · rw [hone] at h
        simp only [cond_true] at h
        split at h
        · rename_i lm'' hbs
          obtain ⟨g1, g2⟩ := push_den h β
          subst g2
          obtain ⟨h1, h2⟩ := st1_run ho
          obtain ⟨k2, r2⟩ := opV_sound hu β
          obtain ⟨bi, off, cs, t, k1, r1, hb, hle, s1, s2, s3⟩ := box_store hst hl hm hbs
          refine ⟨by
            rw [h1]; intro y hy
            simp only [List.mem_toArray, List.mem_cons, List.not_mem_nil, or_false] at hy
            rcases hy with rfl | rfl
            · exact k1
            · exact k2, ?_⟩
          rw [if_neg (by simp [MI.light])]
          have := hJ β _ s1 s2 s3
          simp only [g1] at this
          have hrun := h2 (denE β e).rho w (β bi) off cs t 0 0 r1 hb (by simpa using hle) (by omega) (by rw [r2]; exact hone)
          rw [r2] at hrun
          exact .skip _ hrun (inS_self s1 s2 s3) this
        · cases h
    · cases h
  case stn n x v =>
    split at h
    · rename_i vs hvs
      cases hc : (cond (Nat.beq vs.length n) (allOne vs) false)
      · rw [hc] at h; cases h
      · rw [hc] at h
        have hlen : vs.length = n := by
          cases hb : Nat.beq vs.length n
          · rw [hb] at hc; cases hc
          · exact Nat.eq_of_beq_eq_true hb
        have hall : allOne vs = true := by
          cases hb : Nat.beq vs.length n
          · rw [hb] at hc; cases hc
          · rw [hb] at hc; exact hc
        simp only [cond_true] at h
        split at h
        · rename_i lm'' hbs
          obtain ⟨g1, g2⟩ := push_den h β
          subst g2
          obtain ⟨h1, h2⟩ := stn_run ho
          obtain ⟨k2, r2⟩ := opV_sound (asA_some hvs) β
          obtain ⟨bi, off, cs, t, k1, r1, hb, hle, s1, s2, s3⟩ := box_store hst hl hm hbs
          refine ⟨by
            rw [h1]; intro y hy
            simp only [List.mem_toArray, List.mem_cons, List.not_mem_nil, or_false] at hy
            rcases hy with rfl | rfl
            · exact k1
            · exact k2, ?_⟩
          rw [if_neg (by simp [MI.light])]
          have := hJ β _ s1 s2 s3
          simp only [g1] at this
          exact .skip _ (h2 (denE β e).rho w (β bi) off cs vs t 0 0 r1 hb hle (by omega) r2 hlen (allOne_mem hall)) (inS_self s1 s2 s3) this
        · cases h
    · cases h

theorem goOn_J {md : Option LM} {d : Option Nat} {ev : EV} {k : MC} {ks : List KF} {e : EEnv} {lm : LM} {Y : Cfg} (h : goOn md d ev k ks e lm = some Y) (hJ : J P w₀ S Q Lh Y L) {β : Nat → Nat} {w : World}
    (hst : St w₀ S w L) (hl : Loc w₀ β lm L w) (hm : MdOk md Lh lm L) : run P (mdS w₀ S β md Lh) k (KQ P md ks Q) (push d (ev.den β) (denE β e)) w := by
  cases d <;> simp only [goOn, Option.some.injEq] at h <;> (subst h; exact hJ β w hst hl hm)

theorem step_sound {loc : List Nat} {X Y : Cfg} (h : step loc X = some Y) (hJ : J P w₀ S Q Lh Y L) : J P w₀ S Q Lh X L := by
  intro β w hst hl hm
  unfold step at h
  split at h
  · -- nil
    rename_i md ks e lm
    unfold stepNil at h
    split at h
    · rename_i hk
      simp only [Option.some.injEq] at h; subst h
      exact hJ β w hst hl trivial
    · split at h
      · simp only [Option.some.injEq] at h; subst h
        exact hJ β w hst hl trivial
      · simp only [Option.some.injEq] at h; subst h
        exact hJ β w hst hl trivial
      · cases h
  · -- an operation
    rename_i md g d i k ks e lm
    simp only at hl hm ⊢
    unfold stepOp at h
    have yes : ∀ (hyes : stepYes loc md g d i k ks e lm = some Y), run P (mdS w₀ S β md Lh) (.op none d i k) (KQ P md ks Q) (denE β e) w := fun hyes => by
      unfold stepYes at hyes
      split at hyes
      · rename_i ev hev
        refine Turn.self (inS_self hst hl hm) ?_
        exact sil_ev hev (goOn_J hyes hJ hst hl hm)
      · split at hyes
        · rename_i e' lm' hbox
          simp only [Option.some.injEq] at hyes; subst hyes
          refine Turn.self (inS_self hst hl hm) ?_
          exact box_ev hst hl hm hbox hJ
        · split at hyes
          · simp only [Option.some.injEq] at hyes; subst hyes
            exact hJ β w hst hl hm
          · cases hyes
    cases hgd : gd g e with
    | no =>
      rw [hgd] at h
      have hno := goOn_J h hJ hst hl hm
      simp only [run]
      refine Turn.self (inS_self hst hl hm) ?_
      rcases g with _ | ⟨j, want⟩
      · cases hgd
      · simp only [gd] at hgd
        split at hgd
        · rename_i hj
          cases want <;> simp only [cond_true, cond_false] at hgd <;> first | cases hgd | skip
          exact ⟨.bool true, denE_get hj, (fun e1 => by cases e1), fun _ => hno⟩
        · rename_i hj
          cases want <;> simp only [cond_true, cond_false] at hgd <;> first | cases hgd | skip
          exact ⟨.bool false, denE_get hj, (fun e1 => by cases e1), fun _ => hno⟩
        · rename_i vs hj
          exact ⟨.tuple vs, denE_get hj, (fun e1 => by cases e1), fun _ => hno⟩
        · cases hgd
    | yes =>
      rw [hgd] at h
      have hyes := yes h
      simp only [run] at hyes ⊢
      refine Turn.mono (fun S' hyes => ?_) hyes
      simp only [guarded] at hyes
      rcases g with _ | ⟨j, want⟩
      · exact hyes
      · simp only [gd] at hgd
        split at hgd
        · rename_i hj
          cases want <;> simp only [cond_true, cond_false] at hgd <;> first | cases hgd | skip
          exact ⟨.bool true, denE_get hj, fun _ => hyes, fun e1 => absurd rfl e1⟩
        · rename_i hj
          cases want <;> simp only [cond_true, cond_false] at hgd <;> first | cases hgd | skip
          exact ⟨.bool false, denE_get hj, fun _ => hyes, fun e1 => absurd rfl e1⟩
        · cases hgd
        · cases hgd
    | open_ => rw [hgd] at h; cases h
  · simp only [Option.some.injEq] at h; subst h
    exact hJ β w hst hl trivial
  · rename_i c a b ks e lm
    split at h
    · rename_i hc
      simp only [Option.some.injEq] at h; subst h
      obtain ⟨k1, r1⟩ := opE_sound hc β
      exact ⟨k1, true, r1, fun _ => hJ β w hst hl trivial, (fun e1 => by cases e1)⟩
    · rename_i hc
      simp only [Option.some.injEq] at h; subst h
      obtain ⟨k1, r1⟩ := opE_sound hc β
      exact ⟨k1, false, r1, (fun e1 => by cases e1), fun _ => hJ β w hst hl trivial⟩
    · cases h
  · simp only [Option.some.injEq] at h; subst h
    exact hJ β w hst hl trivial
  · -- exit
    rename_i id ks e lm
    unfold stepExit at h
    split at h
    · simp only [Option.some.injEq] at h; subst h
      exact hJ β w hst hl trivial
    · rename_i id' ks
      have hg : ∀ (b : Bool), Nat.beq id id' = b → run P none (.exit id) (Kont P (.blk id' :: ks) Q) (denE β e) w := fun b hb => by
        rw [hb] at h
        show blockK id' (Kont P ks Q) (.exit id) (denE β e) w
        cases b
        · simp only [cond_false, Option.some.injEq] at h; subst h
          have hne : id ≠ id' := fun e1 => by subst e1; rw [Nat.beq_refl] at hb; cases hb
          simp only [blockK, if_neg hne]
          exact hJ β w hst hl trivial
        · simp only [cond_true, Option.some.injEq] at h; subst h
          simp only [blockK, if_pos (Nat.eq_of_beq_eq_true hb)]
          exact hJ β w hst hl trivial
      exact hg _ rfl
    · simp only [Option.some.injEq] at h; subst h
      exact hJ β w hst hl trivial
    · cases h
  · -- ret
    rename_i ks e lm
    unfold stepRet at h
    split at h
    · rename_i kf ks
      simp only [Option.some.injEq] at h; subst h
      have := hJ β w hst hl trivial
      cases kf <;> exact this
    · cases h
  · cases h

theorem exec_sound {loc : List Nat} : ∀ (n : Nat) (X : Cfg), J P w₀ S Q Lh (exec loc n X) L → J P w₀ S Q Lh X L
  | 0, X, h => h
  | n + 1, X, h => by
    simp only [exec] at h
    split at h
    · rename_i Y hY
      exact step_sound hY (exec_sound n Y h)
    · exact h

/-- Silently on, to the next event. -/
theorem J.go (loc : List Nat) (n : Nat) {X : Cfg} {md : Option LM} {c : MC} {ks : List KF} {e : EEnv} {lm : LM} (h : exec loc n X = ⟨md, c, ks, e, lm⟩) (hJ : J P w₀ S Q Lh ⟨md, c, ks, e, lm⟩ L) : J P w₀ S Q Lh X L :=
  exec_sound n X (h ▸ hJ)
end
end Go.HM
