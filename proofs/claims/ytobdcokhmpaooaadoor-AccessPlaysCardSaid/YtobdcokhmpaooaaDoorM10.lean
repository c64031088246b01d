/- The rules for append, copy, clear, make and a string of bytes, over known blocks. -/
import Derived.Test.YtobdcokhmpaooaaDoorM9
import Derived.Laws.MakeOwn
import Derived.Laws.BytesArg
namespace Go.HM
open Go
set_option linter.unusedSimpArgs false
set_option linter.unusedVariables false

/-- An operation without a guard. -/
abbrev MC.o (d : Nat) (i : MI) (k : MC) : MC := .op none (some d) i k

section
variable {P : Program} {w₀ : World} {S : Nat → Prop} {rs : List RV} {R : Value → World → Prop} {Lh L : List Ent} {md : Option LM} {ks : List KF} {e : EEnv} {lm : LM}

/-- A type's size in cells, in bytes, its zero. -/
def tyI (P : Program) (t : TypeId) : Option (Nat × Nat × Value) :=
  match P.info? t with
  | some i => match i.zero with
    | some z => some (i.size, i.bytes, z)
    | none => none
  | none => none

theorem tyI_some {t : TypeId} {size bytes : Nat} {z : Value} (h : tyI P t = some (size, bytes, z)) : ∃ ie, P.info? t = some ie ∧ ie.zero = some z ∧ ie.size = size ∧ ie.bytes = bytes := by
  unfold tyI at h
  split at h
  · split at h
    · simp only [Option.some.injEq, Prod.mk.injEq] at h
      exact ⟨_, by assumption, by simp_all, h.1, h.2.1⟩
    · cases h
  · cases h

/-- Known blocks, apart from one another. -/
def Here (w : World) (L : List Ent) : Prop := (∀ x ∈ L, w.heap[x.b]? = some x.obj) ∧ L.Pairwise (fun x y => x.b ≠ y.b)

theorem St.here {w : World} {L' : List Ent} (h : St w₀ S w L) (hs : L'.Sublist L) : Here w L' := ⟨fun x hx => h.blk x (hs.subset hx), h.dis.sublist hs⟩

theorem St.here_perm {w : World} {L' L'' : List Ent} (h : St w₀ S w L) (hp : L'.Perm L'') (hs : L''.Sublist L) : Here w L' := ⟨fun x hx => h.blk x (hs.subset (hp.mem_iff.1 hx)), (h.dis.sublist hs).perm hp.symm fun h => Ne.symm h⟩

theorem Here.start {w : World} (h : Here w L) (ho : ∀ x ∈ L, x.rw = true → S x.b) : St w S w L := St.start S h.1 h.2 ho

theorem Here.keep {S' : Nat → Prop} {w w' : World} (h : Here w L) (k : Ext S' w w') (hs : ∀ x ∈ L, ¬ S' x.b) : Here w' L := ⟨fun x hx => by
  have h1 := h.1 x hx
  have hb : x.b < w.heap.size := by
    rcases Nat.lt_or_ge x.b w.heap.size with hlt | hge
    · exact hlt
    · rw [Array.getElem?_eq_none hge] at h1; cases h1
  rw [k.blk x.b hb (hs x hx)]; exact h1, h.2⟩

theorem Here.sub {w : World} {L' : List Ent} (h : Here w L) (hs : L'.Sublist L) : Here w L' := ⟨fun x hx => h.1 x (hs.subset hx), h.2.sublist hs⟩

theorem Here.ro {w : World} (h : Here w L) : Here w (L.map fun x => { x with rw := false }) := by
  refine ⟨fun x hx => ?_, List.pairwise_map.2 h.2⟩
  obtain ⟨y, hy, rfl⟩ := List.mem_map.1 hx
  exact h.1 y hy

theorem lt_here {w : World} {x : Ent} (h1 : w.heap[x.b]? = some x.obj) : x.b < w.heap.size := by
  rcases Nat.lt_or_ge x.b w.heap.size with hlt | hge
  · exact hlt
  · rw [Array.getElem?_eq_none hge] at h1; cases h1

/-- A call turned only blocks that may be written; what is known behind: what it left, what it tells, what is new. -/
theorem Tr.of {S' : Nat → Prop} {w w' : World} {L' : List Ent} (hst : St w₀ S w L) (hx : Ext S' w w') (hS : ∀ b, b < w.heap.size → S' b → ∃ y ∈ L, y.b = b ∧ y.rw = true)
    (hL : ∀ x ∈ L', (x ∈ L ∧ ¬ S' x.b) ∨ (w'.heap[x.b]? = some x.obj ∧ ((∃ y ∈ L, y.b = x.b ∧ (x.rw = true → y.rw = true)) ∨ w.heap.size ≤ x.b))) (hd : L'.Pairwise (fun x y => x.b ≠ y.b)) (hh : ∀ x ∈ mdL md Lh, x ∈ L') : Tr w₀ S md Lh L w w' L' := by
  refine ⟨⟨hst.ext.trans hx fun y hy e1 => ?_, fun x hx' => ?_, hd, fun x hx' hr => ?_⟩, fun b hb hne => hx.blk b hb fun hb' => ?_, fun x hx' => ?_, hh⟩
  · obtain ⟨z, hz, h1, h2⟩ := hS y (by have := hst.ext.size; omega) e1
    rcases hst.own z hz h2 with h | h
    · omega
    · rw [← h1]; exact h
  · rcases hL x hx' with ⟨h1, h2⟩ | ⟨h1, _⟩
    · have h3 := hst.blk x h1
      rw [hx.blk x.b (lt_here h3) h2]; exact h3
    · exact h1
  · rcases hL x hx' with ⟨h1, _⟩ | ⟨_, h2⟩
    · exact hst.own x h1 hr
    · rcases h2 with ⟨y, hy, e1, e2⟩ | h2
      · rw [← e1]; exact hst.own y hy (e2 hr)
      · left; have := hst.ext.size; omega
  · obtain ⟨y, hy, e1, _⟩ := hS b hb hb'
    exact hne y hy e1
  · rcases hL x hx' with ⟨h1, _⟩ | ⟨_, h2⟩
    · exact .inl ⟨x, h1, rfl⟩
    · rcases h2 with ⟨y, hy, e1, _⟩ | h2
      · exact .inl ⟨y, hy, e1⟩
      · exact .inr h2

/-- New blocks, known. -/
def News (w w' : World) (E : List Ent) : Prop := Here w' E ∧ ∀ x ∈ E, w.heap.size ≤ x.b

theorem Tr.news {w w' : World} {E : List Ent} (hst : St w₀ S w L) (hx : Ext NoB w w') (hE : News w w' E) (hh : ∀ x ∈ mdL md Lh, x ∈ L) : Tr w₀ S md Lh L w w' (E ++ L) := by
  refine Tr.of hst hx (fun _ _ h => h.elim) (fun x hx' => ?_) ?_ (fun x hx' => List.mem_append.2 (.inr (hh x hx')))
  · rcases List.mem_append.1 hx' with h | h
    · exact .inr ⟨hE.1.1 x h, .inr (hE.2 x h)⟩
    · exact .inl ⟨h, fun h => h⟩
  · refine List.pairwise_append.2 ⟨hE.1.2, hst.dis, fun x hx1 y hy1 => ?_⟩
    have h1 := hE.2 x hx1
    have h2 := lt_here (hst.blk y hy1)
    omega

/-- Known blocks that a call may have written. -/
theorem Tr.wroteN {S' : Nat → Prop} {w w' : World} {A M M' B E : List Ent} (hst : St w₀ S w (A ++ (M ++ B))) (hx : Ext S' w w') (hS : ∀ b, S' b → ∃ y ∈ M, y.b = b ∧ y.rw = true) (hM : Here w' M') (hb : M'.map (fun x => (x.b, x.rw)) = M.map (fun x => (x.b, x.rw))) (hE : News w w' E) (hh : ∀ x ∈ mdL md Lh, x ∈ A ++ (M' ++ B)) : Tr w₀ S md Lh (A ++ (M ++ B)) w w' (E ++ (A ++ (M' ++ B))) := by
  have hb' : M'.map (·.b) = M.map (·.b) := by
    have := congrArg (List.map Prod.fst) hb
    rw [List.map_map, List.map_map] at this
    exact this
  have hdis : (A ++ (M ++ B)).map (·.b) = (A ++ (M' ++ B)).map (·.b) := by simp [hb']
  have hnot : ∀ x, x ∈ A ∨ x ∈ B → ¬ S' x.b := fun x hx' hs => by
    obtain ⟨y, hy, e1, _⟩ := hS _ hs
    have hd := hst.dis
    rw [List.pairwise_append] at hd
    obtain ⟨_, hd2, hd3⟩ := hd
    rw [List.pairwise_append] at hd2
    rcases hx' with h | h
    · exact hd3 x h y (List.mem_append.2 (.inl hy)) e1.symm
    · exact hd2.2.2 y hy x h e1
  refine Tr.of hst hx (fun b _ hb => ?_) (fun x hx' => ?_) (List.pairwise_append.2 ⟨hE.1.2, pair_map hdis.symm hst.dis, fun x hx1 y hy1 => ?_⟩) (fun x hx' => List.mem_append.2 (.inr (hh x hx')))
  · obtain ⟨y, hy, h⟩ := hS b hb
    exact ⟨y, by simp [hy], h⟩
  · rcases List.mem_append.1 hx' with h | hx'
    · exact .inr ⟨hE.1.1 x h, .inr (hE.2 x h)⟩
    rcases List.mem_append.1 hx' with h | h
    · exact .inl ⟨List.mem_append.2 (.inl h), hnot x (.inl h)⟩
    · rcases List.mem_append.1 h with h | h
      · have : (x.b, x.rw) ∈ M.map (fun x => (x.b, x.rw)) := by rw [← hb]; exact List.mem_map.2 ⟨x, h, rfl⟩
        obtain ⟨y, hy, e1⟩ := List.mem_map.1 this
        simp only [Prod.mk.injEq] at e1
        exact .inr ⟨hM.1 x h, .inl ⟨y, by simp [hy], e1.1, fun hr => by rw [e1.2]; exact hr⟩⟩
      · exact .inl ⟨by simp [h], hnot x (.inr h)⟩
  · have h1 := hE.2 x hx1
    have hmem : y.b ∈ (A ++ (M ++ B)).map (·.b) := by rw [hdis]; exact List.mem_map.2 ⟨y, hy1, rfl⟩
    obtain ⟨z, hz, e1⟩ := List.mem_map.1 hmem
    have h2 := lt_here (hst.blk z hz)
    omega

theorem Tr.wrote {S' : Nat → Prop} {w w' : World} {A M M' B : List Ent} (hst : St w₀ S w (A ++ (M ++ B))) (hx : Ext S' w w') (hS : ∀ b, S' b → ∃ y ∈ M, y.b = b ∧ y.rw = true) (hM : Here w' M') (hb : M'.map (fun x => (x.b, x.rw)) = M.map (fun x => (x.b, x.rw))) (hh : ∀ x ∈ mdL md Lh, x ∈ A ++ (M' ++ B)) : Tr w₀ S md Lh (A ++ (M ++ B)) w w' (A ++ (M' ++ B)) :=
  Tr.wroteN (E := []) hst hx hS hM hb ⟨⟨by simp, by simp⟩, by simp⟩ hh

/-- A call that is told by a contract. -/
theorem JF.callV {d : Nat} {f : FuncId} {args : List Operand} {k : MC} {vs : List Value} (Q : World → Value → World → Prop) (ha : opVs e args = some vs) (hc : ∀ w, St w₀ S w L → Rets P f vs w (Q w))
    (h : ∀ w r w', St w₀ S w L → Q w r w' → ∃ L', Tr w₀ S md Lh L w w' L' ∧ JF P w₀ S rs R Lh ⟨md, k, ks, (d, .v r) :: e, lm⟩ L') : JF P w₀ S rs R Lh ⟨md, .op none (some d) (.call f args) k, ks, e, lm⟩ L :=
  JF.call ha fun w hst => (hc w hst).mono fun r w' hq => by
    obtain ⟨L', h1, h2⟩ := h w r w' hst hq
    exact ⟨L', _, h1, rfl, h2⟩

theorem JF.call0 {f : FuncId} {args : List Operand} {k : MC} {vs : List Value} (Q : World → Value → World → Prop) (ha : opVs e args = some vs) (hc : ∀ w, St w₀ S w L → Rets P f vs w (Q w))
    (h : ∀ w r w', St w₀ S w L → Q w r w' → ∃ L', Tr w₀ S md Lh L w w' L' ∧ JF P w₀ S rs R Lh ⟨md, k, ks, e, lm⟩ L') : JF P w₀ S rs R Lh ⟨md, .op none none (.call f args) k, ks, e, lm⟩ L :=
  JF.call ha fun w hst => (hc w hst).mono fun r w' hq => by
    obtain ⟨L', h1, h2⟩ := h w r w' hst hq
    exact ⟨L', _, h1, rfl, h2⟩

/-- A call that turns nothing and makes nothing that is asked of later: its value is told. -/
theorem JF.callF {d : Nat} {f : FuncId} {args : List Operand} {k : MC} {vs : List Value} (r : Value) (ha : opVs e args = some vs) (hc : ∀ w, St w₀ S w L → Rets P f vs w fun v w' => Ext NoB w w' ∧ v = r) (hh : ∀ x ∈ mdL md Lh, x ∈ L)
    (h : JF P w₀ S rs R Lh ⟨md, k, ks, (d, .v r) :: e, lm⟩ L) : JF P w₀ S rs R Lh ⟨md, .op none (some d) (.call f args) k, ks, e, lm⟩ L :=
  JF.callV (fun w v w' => Ext NoB w w' ∧ v = r) ha hc fun w v w' hst hq => ⟨L, Tr.same hst hq.1 hh, by rw [hq.2]; exact h⟩

theorem Tr.to {w w' : World} {L' L'' L3 : List Ent} (h : Tr w₀ S md Lh L w w' L') (hp : L''.Perm L3) (hs : L3.Sublist L') (hh : ∀ x ∈ mdL md Lh, x ∈ L'') : Tr w₀ S md Lh L w w' L'' := by
  have hsub : ∀ x ∈ L'', x ∈ L' := fun x hx => hs.subset (hp.mem_iff.1 hx)
  exact ⟨⟨h.st.ext, fun x hx => h.st.blk x (hsub x hx), (h.st.dis.sublist hs).perm hp.symm (fun h => Ne.symm h), fun x hx => h.st.own x (hsub x hx)⟩, h.low, fun x hx => h.new x (hsub x hx), hh⟩

theorem nthE_mid : ∀ (A B : List Ent) (x : Ent), nthE A.length (A ++ x :: B) = some x
  | [], B, x => rfl
  | a :: A, B, x => nthE_mid A B x

theorem setE_mid : ∀ (A B : List Ent) (x : Ent) (cs : List Value), setE A.length cs (A ++ x :: B) = some (A ++ { x with cs := cs } :: B)
  | [], B, x, cs => rfl
  | a :: A, B, x, cs => by simp only [List.cons_append, List.length_cons, setE, setE_mid A B x cs]

theorem OS.rd {w : World} {el : TypeId} {size : Nat} {xs : List Value} {v : Value} {E : List Ent} (h : OS el size xs v E) (hst : St w₀ S w L) (hE : ∀ x ∈ E, x ∈ L) : ∃ b n c, v = .slice b n c ∧ xs.length = n * size ∧ n ≤ c ∧ RdS w size v xs n := by
  cases h with
  | emp a ha => exact ⟨_, _, _, rfl, by simp, Nat.le_refl _, RdS.empty a ha⟩
  | own b n c xs sp hn hc hnc =>
    refine ⟨_, _, _, rfl, hn, hnc, RdS.of hst (hE _ (List.Mem.head _)) rfl ?_⟩
    rw [← hn]
    exact subL_of _ _ _ (fun i u hu => by
      have : i < xs.length := (List.getElem?_eq_some_iff.1 hu).1
      rw [Nat.zero_add, List.getElem?_append_left this]; exact hu) (Nat.zero_le _)

/-- append, to a slice of one's own. -/
theorem JF.append {d : Nat} {el sT xT e2 ty : TypeId} {z : Value} {size m bytes : Nat} {x1 x2 : Operand} {k : MC} {v x : Value} {A B E : List Ent} {xs ys : List Value} (ha : opVs e [x1, x2] = some [v, x]) (hu : P.underlying sT = some (.slice el)) (hx : P.underlying xT = some (.slice e2))
    (hty : tyI P el = some (size, bytes, z)) (hzc : z.cells.size = size) (hos : OS el size xs v E) (hr : ∀ w, St w₀ S w (A ++ (E ++ B)) → RdS w size x ys m) (h1 : ∀ y ∈ ys, isOne y = true)
    (hb : ∀ n, xs.length = n * size → (n + m) * bytes ≤ 140737488355328 ∧ n + m ≤ 9223372036854775807) (hh : ∀ x ∈ mdL md Lh, x ∈ A ++ B)
    (h : ∀ v' E', OS el size (xs ++ ys) v' E' → JF P w₀ S rs R Lh ⟨md, k, ks, (d, .v v') :: e, lm⟩ (A ++ (E' ++ B))) :
    JF P w₀ S rs R Lh ⟨md, .op none (some d) (.bi .append [sT, xT] ty [x1, x2]) k, ks, e, lm⟩ (A ++ (E ++ B)) := JF.bi ha fun w hst => by
  obtain ⟨ie, hi, hz, hsz, hby⟩ := tyI_some hty
  subst hsz
  subst hby
  have hrd := hr w hst
  have hm := hrd.length
  obtain ⟨b0, n0, c0, hv, hn, hnc, hold⟩ := hos.rd hst (fun y hy => by simp [hy])
  obtain ⟨hb1, hb2⟩ := hb n0 hn
  have hAE : ∀ y ∈ mdL md Lh, y ∈ A ++ (E ++ B) := fun y hy => by
    have := hh y hy
    simp only [List.mem_append] at this ⊢
    rcases this with h | h
    · exact .inl h
    · exact .inr (.inr h)
  by_cases hroom : n0 + m ≤ c0
  · cases hos with
    | emp a haa =>
      cases hv
      have hm0 : m = 0 := by omega
      subst hm0
      have : ys = [] := List.length_eq_zero_iff.1 (by simpa using hm)
      subst this
      refine ⟨_, w, A ++ ([] ++ B), _, ?_, Tr.same hst (Ext.refl _ w) hAE, rfl, h _ [] (by simpa using OS.emp b0 haa)⟩
      cases b0 <;> simp [builtin, Builtin.append_, run_underlying hu, run_underlying hx, sizeOf, typeInfo, hi, run_lenOf hrd, run_firstCells hrd, storeCells]
    | own b n c xs sp hn' hc hnc' =>
      cases hv
      have hblk := hst.blk ⟨b, el, 0, 0, xs ++ sp, true⟩ (by simp)
      have hle : (n0 + m) * ie.size ≤ (xs ++ sp).length := Nat.le_trans (Nat.mul_le_mul_right _ hroom) hc
      refine ⟨_, _, A ++ (⟨b, el, 0, 0, xs ++ ys ++ sp.drop ys.length, true⟩ :: B), _, run_appendRoom hu hx (.inr ⟨_, rfl⟩) hi hrd h1 hblk hle hroom, ?_, rfl, h _ [⟨b, el, 0, 0, xs ++ ys ++ sp.drop ys.length, true⟩] (.own b _ _ _ _ ?_ ?_ hroom)⟩
      · have e1 : (xs ++ sp).take (n0 * ie.size) ++ ys ++ (xs ++ sp).drop (n0 * ie.size + ys.length) = xs ++ ys ++ sp.drop ys.length := by
          rw [← hn, List.take_left, ← List.drop_drop, List.drop_left]
        rw [e1]
        exact Tr.set (n := A.length) (x := ⟨b, el, 0, 0, xs ++ sp, true⟩) hst (nthE_mid A B _) (setE_mid A B _ _) rfl fun y hy => by
          have := hh y hy
          simp only [List.mem_append, List.mem_cons] at this ⊢
          rcases this with h | h
          · exact .inl h
          · exact .inr (.inr h)
      · simp [hn, hm, Nat.add_mul]
      · simp only [List.length_append, List.length_drop] at hle hc ⊢
        omega
  · subst hv
    obtain ⟨cap, sp, hcap, hsp, hrun⟩ := run_appendGrow (P := P) (ty := ty) hu hx (.inr ⟨_, rfl⟩) hi hz hrd hold (by omega) hb1 (by omega)
    refine ⟨_, _, A ++ (⟨w.heap.size, el, 0, 0, xs ++ ys ++ sp, true⟩ :: B), _, hrun, ?_, rfl, h _ [_] (.own w.heap.size _ _ _ _ ?_ ?_ hcap)⟩
    · have hnew : Tr w₀ S md Lh (A ++ (E ++ B)) w (w.drew.alloc (.cells (xs ++ ys ++ sp).toArray el)) (⟨w.heap.size, el, 0, 0, xs ++ ys ++ sp, true⟩ :: (A ++ (E ++ B))) :=
        Tr.new1 (x := ⟨w.heap.size, el, 0, 0, xs ++ ys ++ sp, true⟩) hst ⟨rfl, rfl, rfl, Nat.le_of_lt (by show w.heap.size < (w.heap.push _).size; simp), fun b hb _ => by show (w.heap.push _)[b]? = w.heap[b]?; rw [Array.getElem?_push, if_neg (Nat.ne_of_lt hb)]⟩ (Nat.le_refl _) (by show (w.heap.push _)[w.heap.size]? = _; simp [Ent.obj]) hAE
      refine hnew.to List.perm_middle ((List.Sublist.append_left (List.sublist_append_right E B) A).cons_cons _) fun y hy => ?_
      have := hh y hy
      simp only [List.mem_append, List.mem_cons] at this ⊢
      rcases this with h | h
      · exact .inl h
      · exact .inr (.inr h)
    · simp [hn, hm, Nat.add_mul]
    · simp only [List.length_append, hsp, hn, hm, hzc, Nat.sub_mul, Nat.add_mul]
      have := Nat.mul_le_mul_right ie.size hcap
      rw [Nat.add_mul] at this
      omega

/-- append, to a slice of one's own, behind all. -/
theorem JF.appendE {d : Nat} {el sT xT e2 ty : TypeId} {z : Value} {size m bytes : Nat} {x1 x2 : Operand} {k : MC} {v x : Value} {A E : List Ent} {xs ys : List Value} (ha : opVs e [x1, x2] = some [v, x]) (hu : P.underlying sT = some (.slice el)) (hx : P.underlying xT = some (.slice e2))
    (hty : tyI P el = some (size, bytes, z)) (hzc : z.cells.size = size) (hos : OS el size xs v E) (hr : ∀ w, St w₀ S w (A ++ E) → RdS w size x ys m) (h1 : ∀ y ∈ ys, isOne y = true)
    (hb : ∀ n, xs.length = n * size → (n + m) * bytes ≤ 140737488355328 ∧ n + m ≤ 9223372036854775807) (hh : ∀ x ∈ mdL md Lh, x ∈ A)
    (h : ∀ v' E', OS el size (xs ++ ys) v' E' → JF P w₀ S rs R Lh ⟨md, k, ks, (d, .v v') :: e, lm⟩ (A ++ E')) :
    JF P w₀ S rs R Lh ⟨md, .op none (some d) (.bi .append [sT, xT] ty [x1, x2]) k, ks, e, lm⟩ (A ++ E) := by
  have := JF.append (P := P) (w₀ := w₀) (S := S) (rs := rs) (R := R) (Lh := Lh) (md := md) (ks := ks) (e := e) (lm := lm) (d := d) (ty := ty) (k := k) (A := A) (E := E) (B := []) ha hu hx hty hzc hos (by simpa using hr) h1 hb (by simpa using hh) (by simpa using h)
  simpa using this

theorem setRow_id {w : World} {b : Nat} {c : Array Value} {t : TypeId} {fr : Nat × Nat} (h : w.heap[b]? = some (.cells c t fr)) : w.setRow b c = w := by
  unfold World.setRow
  have hlt : b < w.heap.size := (Array.getElem?_eq_some_iff.1 h).1
  have hv : w.heap[b] = .cells c t fr := (Array.getElem?_eq_some_iff.1 h).2
  congr 1
  apply Array.ext
  · simp
  · intro k h1 h2
    simp only [Array.getElem_modify]
    split
    · rename_i e1; subst e1; rw [hv]
    · rfl

/-- The first of what is read. -/
theorem run_firstOf {w : World} {size m : Nat} {x : Value} {ys : List Value} (h : RdS w size x ys m) (k : Nat) (hk : k ≤ m) : (Builtin.firstCells size k x).run P w = .ok (ys.take (k * size)).toArray w := by
  cases h with
  | mem b o n c _ h hl =>
    have := run_loadCells (P := P) (w := w) (b := b) (o := o) (ys.take (k * size)) 0 #[] (fun j v hv => by
      rw [List.getElem?_take] at hv
      split at hv
      · rw [Nat.zero_add]; exact h j v hv
      · cases hv)
    have hle := Nat.mul_le_mul_right size hk
    have hlen : (ys.take (k * size)).length = k * size := by rw [List.length_take]; omega
    simp only [Builtin.firstCells, loadCells]
    rw [hlen] at this
    rw [this]; simp
  | nil a c => obtain rfl : k = 0 := by omega
               cases a <;> simp [Builtin.firstCells, loadCells, loadCellsFrom, pure, Sem.run]
  | str s h =>
    subst h
    simp only [Builtin.firstCells, pure, Sem.run]
    congr 1
    apply Array.toList_inj.1
    have e1 : (s.extract 0 k).data = s.data.extract 0 k := by rw [ByteArray.data_extract]
    rw [Array.toList_map, e1]
    simp [List.map_take]

/-- copy, into a known block. -/
theorem JF.copy (i : Nat) {d : Option Nat} {el sT xT ty : TypeId} {z : Value} {size bytes m k' : Nat} {x1 x2 : Operand} {k : MC} {a : Option Addr} {b o dn dc : Nat} {x : Value} {ys : List Value} {ent : Ent} {cs : List Value} {L' : List Ent} {e' : EEnv} (ha : opVs e [x1, x2] = some [.slice a dn dc, x]) (hu : P.underlying sT = some (.slice el))
    (hty : tyI P el = some (size, bytes, z)) (hr : ∀ w, St w₀ S w L → RdS w size x ys m) (hk : k' = Nat.min m dn) (haa : k' = 0 ∨ a = some ⟨b, o, none⟩) (h1 : ∀ y ∈ ys, isOne y = true) (hn : nthE i L = some ent) (hb : ent.b = b) (hrw : ent.rw = true) (hf : ent.hi ≤ ent.lo)
    (hput : putL o (ys.take (k' * size)) ent.cs = some cs) (hL : setE i cs L = some L') (hh : ∀ y ∈ mdL md Lh, y ∈ L') (he' : e' = (match d with | some d => (d, .v (.int .i64 (k' : Int))) :: e | none => e))
    (h : JF P w₀ S rs R Lh ⟨md, k, ks, e', lm⟩ L') : JF P w₀ S rs R Lh ⟨md, .op none d (.bi .copy [sT, xT] ty [x1, x2]) k, ks, e, lm⟩ L := JF.bi ha fun w hst => by
  obtain ⟨ie, hi, hz, hsz, hby⟩ := tyI_some hty
  subst hsz
  have hrd := hr w hst
  have hm := hrd.length
  have hkm : k' ≤ m := by rw [hk]; exact Nat.min_le_left _ _
  have hxb := hst.blk ent (nthE_mem hn)
  obtain ⟨p1, p2⟩ := putL_some _ _ _ _ hput
  have htr := Tr.set hst hn hL hrw hh
  refine ⟨goInt (k' : Int), w.setRow ent.b cs.toArray, L', e', ?_, htr, he', h⟩
  have hst1 : (match a with | some a => storeCells a (ys.take (k' * ie.size)) | none => pure ()).run P w = .ok () (w.setRow ent.b cs.toArray) := by
    rcases haa with h0 | h0
    · subst h0
      simp only [Nat.zero_mul, List.take_zero, List.nil_append, List.append_nil, List.length_nil, Nat.add_zero, List.take_append_drop] at p1
      subst p1
      have : w.setRow ent.b ent.cs.toArray = w := setRow_id hxb
      rw [this]
      cases a <;> simp [storeCells, pure, Sem.run]
    · subst h0
      have := run_storeCells (P := P) ent.b ent.t ent.lo ent.hi o (ys.take (k' * ie.size)) 0 w ent.cs.toArray hxb (by simpa using p2) (.inr (.inr hf)) (fun v hv => h1 v (List.mem_of_mem_take hv))
      simp only [Nat.add_zero, List.toList_toArray] at this
      rw [p1, ← hb]
      exact this
  have hk2 : Nat.min m dn = k' := hk.symm
  cases a with
  | none =>
    simp only [] at hst1
    simp [builtin, Builtin.copy_, run_underlying hu, sizeOf, typeInfo, hi, run_lenOf hrd, hk2, run_firstOf hrd k' hkm]
    have hw : w = w.setRow ent.b cs.toArray := by simpa [pure, Sem.run] using hst1
    exact hw
  | some a =>
    simp only [] at hst1
    simp [builtin, Builtin.copy_, run_underlying hu, sizeOf, typeInfo, hi, run_lenOf hrd, hk2, run_firstOf hrd k' hkm, hst1]

theorem zeroCells_one {z : Array Value} {v : Value} (hz : z = #[v]) (n : Nat) : (Builtin.zeroCells z n).toList = List.replicate n v := by
  subst hz
  simp only [Builtin.zeroCells]
  apply List.ext_getElem
  · simp
  · intro i h1 h2
    simp [Nat.mod_one]

theorem madeCells_one {z : Array Value} {v : Value} (hz : z = #[v]) (n : Nat) : (madeCells z n).toList = List.replicate n v := by
  subst hz
  unfold madeCells
  apply List.ext_getElem
  · simp
  · intro i h1 h2
    simp [Nat.mod_one]

/-- clear, over elements of one cell. -/
theorem JF.clear (i : Nat) {d : Option Nat} {el sT ty : TypeId} {size bytes : Nat} {z zv : Value} {x1 : Operand} {k : MC} {a : Option Addr} {b o n c : Nat} {ent : Ent} {cs : List Value} {L' : List Ent} {e' : EEnv} (ha : opVs e [x1] = some [.slice a n c]) (hu : P.underlying sT = some (.slice el))
    (hty : tyI P el = some (size, bytes, z)) (hzc : z.cells = #[zv]) (h1 : isOne zv = true) (haa : n = 0 ∨ a = some ⟨b, o, none⟩) (hn : nthE i L = some ent) (hb : ent.b = b) (hrw : ent.rw = true) (hf : ent.hi ≤ ent.lo)
    (hput : putL o (List.replicate n zv) ent.cs = some cs) (hL : setE i cs L = some L') (hh : ∀ y ∈ mdL md Lh, y ∈ L') (he' : e' = (match d with | some d => (d, .v (.tuple #[])) :: e | none => e))
    (h : JF P w₀ S rs R Lh ⟨md, k, ks, e', lm⟩ L') : JF P w₀ S rs R Lh ⟨md, .op none d (.bi .clear [sT] ty [x1]) k, ks, e, lm⟩ L := JF.bi ha fun w hst => by
  obtain ⟨ie, hi, hz, hsz, hby⟩ := tyI_some hty
  have hxb := hst.blk ent (nthE_mem hn)
  obtain ⟨p1, p2⟩ := putL_some _ _ _ _ hput
  have htr := Tr.set hst hn hL hrw hh
  refine ⟨.tuple #[], w.setRow ent.b cs.toArray, L', e', ?_, htr, he', h⟩
  by_cases h0 : n = 0
  · subst h0
    simp only [List.replicate_zero, List.append_nil, List.length_nil, Nat.add_zero, List.take_append_drop] at p1
    subst p1
    have : w.setRow ent.b ent.cs.toArray = w := setRow_id hxb
    rw [this]
    cases a <;> simp [builtin, Builtin.clear_, run_underlying hu]
  · rcases haa with h0' | rfl
    · exact absurd h0' h0
    have hsc := run_storeCells (P := P) ent.b ent.t ent.lo ent.hi o (List.replicate n zv) 0 w ent.cs.toArray hxb (by simpa using p2) (.inr (.inr hf)) (fun v hv => by rw [List.eq_of_mem_replicate hv]; exact h1)
    simp only [Nat.add_zero, List.toList_toArray] at hsc
    rw [← p1, hb] at hsc
    rw [hb]
    obtain ⟨n', rfl⟩ : ∃ n', n = n' + 1 := ⟨n - 1, by omega⟩
    simp [builtin, Builtin.clear_, run_underlying hu, zeroValue, typeInfo, hi, hz, zeroCells_one hzc, hsc]

/-- make, of elements of one cell. -/
theorem JF.mk1 {d : Nat} {t el : TypeId} {bytes : Nat} {z zv : Value} {kl kc : IntKind} {l c : Operand} {k : MC} {x y : Int} (hl' : opV e l = some (.int kl x)) (hc : opV e c = some (.int kc y)) (hu : P.underlying t = some (.slice el)) (hty : tyI P el = some (1, bytes, z)) (hzc : z.cells = #[zv])
    (h0 : 0 ≤ x) (hxy : x ≤ y) (hb : (bytes : Int) * y ≤ 281474976710656) (h63 : y ≤ 9223372036854775807) (hh : ∀ x ∈ mdL md Lh, x ∈ L)
    (h : ∀ b, w₀.heap.size ≤ b → JF P w₀ S rs R Lh ⟨md, k, ks, (d, .v (.slice (some ⟨b, 0, none⟩) x.toNat y.toNat)) :: e, lm⟩ (⟨b, el, 0, 0, List.replicate y.toNat zv, true⟩ :: L)) :
    JF P w₀ S rs R Lh ⟨md, .op none (some d) (.mkSl t l c) k, ks, e, lm⟩ L := JF.mkSl hl' hc fun w hst => by
  obtain ⟨ie, hi, hz, hsz, hby⟩ := tyI_some hty
  subst hby
  have hr := run_make (P := P) w t el ie z hu hi hz kl kc x y h0 hxy hb h63
  rw [hsz, Nat.mul_one] at hr
  have e1 : madeCells z.cells y.toNat = (List.replicate y.toNat zv).toArray := Array.toList_inj.1 (by rw [madeCells_one hzc])
  rw [e1] at hr
  exact ⟨_, _, _, hr, Tr.new1 (x := ⟨w.heap.size, el, 0, 0, List.replicate y.toNat zv, true⟩) hst (ext_alloc w _) (Nat.le_refl _) (by show (w.heap.push _)[w.heap.size]? = _; simp [Ent.obj]) hh, h _ hst.ext.size⟩

/-- Bytes as cells, and as a string. -/
def byC (l : List Int) : List Value := l.map (.int .u8 ·)
def byS (l : List Int) : ByteArray := ⟨(l.map fun n => UInt8.ofNat n.toNat).toArray⟩
def isB (l : List Int) : Prop := ∀ x ∈ l, 0 ≤ x ∧ x < 256

theorem byS_inj : ∀ {l r : List Int}, isB l → isB r → byS l = byS r → l = r := by
  intro l r hl hr h
  have h1 : l.map (fun n => UInt8.ofNat n.toNat) = r.map (fun n => UInt8.ofNat n.toNat) := by
    have := congrArg (fun s : ByteArray => s.data.toList) h
    simpa [byS] using this
  clear h
  induction l generalizing r with
  | nil => cases r with
    | nil => rfl
    | cons y r => simp at h1
  | cons x l ih => cases r with
    | nil => simp at h1
    | cons y r =>
      simp only [List.map_cons, List.cons.injEq] at h1
      obtain ⟨h2, h3⟩ := h1
      have hx := hl x (by simp)
      have hy := hr y (by simp)
      have := congrArg UInt8.toNat h2
      simp only [UInt8.toNat_ofNat'] at this
      rw [ih (fun z hz => hl z (by simp [hz])) (fun z hz => hr z (by simp [hz])) h3]
      congr 1
      omega

theorem byS_eq {l r : List Int} (hl : isB l) (hr : isB r) : ((byS l).toList == (byS r).toList) = decide (l = r) := by
  by_cases h : l = r
  · subst h; simp
  · rw [decide_eq_false h]
    refine beq_eq_false_iff_ne.2 fun h' => h (byS_inj hl hr ?_)
    rw [ByteArray.toList_eq, ByteArray.toList_eq] at h'
    exact ByteArray.ext (Array.toList_inj.1 h')

/-- A string of bytes. -/
theorem JF.str {d : Nat} {x : Operand} {k : MC} {a : Option Addr} {n c : Nat} {l : List Int} (hx : asSl (opV e x) = some (a, n, c)) (hr : ∀ w, St w₀ S w L → RdS w 1 (.slice a n c) (byC l) n) (hh : ∀ x ∈ mdL md Lh, x ∈ L)
    (h : JF P w₀ S rs R Lh ⟨md, k, ks, (d, .v (.string (byS l))) :: e, lm⟩ L) : JF P w₀ S rs R Lh ⟨md, .op none (some d) (.cvBS x) k, ks, e, lm⟩ L := JF.cvBS hx fun w hst => by
  refine ⟨_, w, L, ?_, Tr.same hst (Ext.refl _ w) hh, h⟩
  have hrd := hr w hst
  cases a with
  | none =>
    have : n = 0 ∧ l = [] := by
      generalize hc : byC l = cs at hrd
      cases hrd with
      | nil => exact ⟨rfl, by simpa [byC] using hc⟩
    obtain ⟨rfl, rfl⟩ := this
    rfl
  | some a =>
    generalize hc' : byC l = cs at hrd
    cases hrd with
    | mem b o n c _ h hl =>
      have hlen : l.length = n := by rw [← hc', Nat.mul_one] at hl; simpa [byC] using hl
      have := run_loadCells (P := P) (w := w) (b := b) (o := o) cs 0 #[] (by simpa using h)
      have h2 : (loadCells ⟨b, o, none⟩ n).run P w = .ok (l.map (Value.int .u8)).toArray w := by
        unfold loadCells
        rw [hl, Nat.mul_one] at this
        rw [this, ← hc']
        simp [byC]
      rw [run_bytesToString w _ n c l h2, foldl_push_bytes]
      simp [byS]
    | nil c =>
      have : l = [] := by simpa [byC] using hc'
      subst this
      rw [run_bytesToString w a 0 _ [] (by simp [loadCells, loadCellsFrom, pure, Sem.run])]
      rfl

theorem subL_take (l : List Value) (i n : Nat) (h : i + n ≤ l.length) : subL l i n = some ((l.drop i).take n) := by
  have hl : ((l.drop i).take n).length = n := by simp; omega
  have := subL_of l i ((l.drop i).take n) (fun j u hj => by
    rw [List.getElem?_take] at hj
    split at hj
    · simpa [List.getElem?_drop] using hj
    · cases hj) (by omega)
  rw [hl] at this
  exact this

theorem byC_len (l : List Int) : (byC l).length = l.length := by simp [byC]

theorem subL_byC (l : List Int) (i n : Nat) (h : i + n ≤ l.length) : subL (byC l) i n = some (byC ((l.drop i).take n)) := by
  rw [subL_take _ _ _ (by rw [byC_len]; exact h)]
  simp [byC, List.map_take, List.map_drop]

theorem subL_map {α : Type} (f : α → Value) (l : List α) (i n : Nat) (h : i + n ≤ l.length) : subL (l.map f) i n = some (((l.drop i).take n).map f) := by
  rw [subL_take _ _ _ (by simpa using h)]
  simp [List.map_take, List.map_drop]

theorem putL_of : ∀ (o : Nat) (vs cs : List Value), o + vs.length ≤ cs.length → putL o vs cs = some (cs.take o ++ vs ++ cs.drop (o + vs.length))
  | 0, [], cs, _ => by cases cs <;> simp [putL]
  | 0, v :: vs, [], h => by simp at h
  | 0, v :: vs, c :: cs, h => by
    have := putL_of 0 vs cs (by simpa using h)
    simp only [putL, this]
    simp
  | o + 1, vs, [], h => by simp at h
  | o + 1, vs, c :: cs, h => by
    have := putL_of o vs cs (by simp at h; omega)
    simp only [putL, this]
    simp [Nat.add_right_comm]

theorem slA_ex (b o m l size : Nat) : ∃ o', slA (some ⟨b, o, none⟩) m l size = some ⟨b, o', none⟩ ∧ (l < m → o' = o + l * size) := by
  by_cases h : l < m
  · exact ⟨o + l * size, by rw [slA_pos h]; simp [Addr.add_lit], fun _ => rfl⟩
  · by_cases e1 : m = l
    · exact ⟨o, by unfold slA; rw [if_pos e1], fun h' => absurd h' h⟩
    · exact ⟨o + l * size, by unfold slA; rw [if_neg e1]; simp [Addr.add_lit], fun h' => absurd h' h⟩

theorem slA_zero (a : Option Addr) (m size : Nat) (h : ∀ x, a = some x → x.spot = none) : slA a m 0 size = a := by
  unfold slA
  split
  · rfl
  · cases a with
    | none => rfl
    | some x =>
      obtain ⟨b, o, sp⟩ := x
      have := h _ rfl
      simp only at this
      subst this
      simp [Addr.add_lit]

theorem OS.spot {el : TypeId} {size n c : Nat} {xs : List Value} {a : Option Addr} {E : List Ent} (h : OS el size xs (.slice a n c) E) : ∀ x, a = some x → x.spot = none := by
  cases h with
  | emp _ ha => exact ha
  | own => intro x hx; cases hx; rfl

theorem OS.slice {el : TypeId} {size : Nat} {xs : List Value} {v : Value} {E : List Ent} (h : OS el size xs v E) : ∃ a n c, v = .slice a n c ∧ xs.length = n * size ∧ n ≤ c := by
  cases h with
  | emp a ha => exact ⟨_, _, _, rfl, by simp, Nat.le_refl _⟩
  | own b n c xs sp hn hc hnc => exact ⟨_, _, _, rfl, hn, hnc⟩

theorem OS.inv {el : TypeId} {size n c : Nat} {xs : List Value} {a : Option Addr} {E : List Ent} (h : OS el size xs (.slice a n c) E) :
    (xs = [] ∧ n = 0 ∧ E = [] ∧ ∀ x, a = some x → x.spot = none) ∨ ∃ b sp, a = some ⟨b, 0, none⟩ ∧ E = [⟨b, el, 0, 0, xs ++ sp, true⟩] ∧ xs.length = n * size ∧ c * size ≤ (xs ++ sp).length ∧ n ≤ c := by
  cases h with
  | emp _ ha => exact .inl ⟨rfl, rfl, rfl, ha⟩
  | own b n c xs sp hn hc hnc => exact .inr ⟨b, sp, rfl, rfl, hn, hc, hnc⟩

theorem OS.clip {el : TypeId} {size n c : Nat} {xs : List Value} {a : Option Addr} {E : List Ent} (h : OS el size xs (.slice a n c) E) : OS el size xs (.slice a n n) E := by
  cases h with
  | emp _ ha => exact .emp _ ha
  | own b n c xs sp hn hc hnc => exact .own b n n xs sp hn (by simp [hn]) (Nat.le_refl _)

theorem OS.rw {el : TypeId} {size : Nat} {xs : List Value} {v : Value} {E : List Ent} (h : OS el size xs v E) : ∀ x ∈ E, x.rw = true := by
  cases h with
  | emp _ ha => intro x hx; cases hx
  | own b n c xs sp hn hc hnc => intro x hx; rw [List.mem_singleton.1 hx]

theorem St.news {w : World} {E : List Ent} (h : St w₀ NoB w L) (hs : E.Sublist L) (hr : ∀ x ∈ E, x.rw = true) : News w₀ w E :=
  ⟨h.here hs, fun x hx => by
    rcases h.own x (hs.subset hx) (hr x hx) with h | h
    · exact h
    · exact h.elim⟩

theorem isOne_byC (l : List Int) : ∀ y ∈ byC l, isOne y = true := fun y hy => by
  simp only [byC, List.mem_map] at hy
  obtain ⟨x, _, rfl⟩ := hy
  rfl

theorem isOne_bool (l : List Bool) : ∀ y ∈ l.map Value.bool, isOne y = true := fun y hy => by
  simp only [List.mem_map] at hy
  obtain ⟨x, _, rfl⟩ := hy
  rfl

end
end Go.HM
