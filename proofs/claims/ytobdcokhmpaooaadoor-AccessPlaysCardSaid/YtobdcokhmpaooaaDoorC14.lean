/- hasplaw4.MemPlays: whatever is played, the two memories go alike. -/
import Derived.Test.YtobdcokhmpaooaaDoorKhasplaw4
import Derived.Test.YtobdcokhmpaooaaDoorC13
namespace Go.HM
open Go Go.Proofs
set_option linter.unusedSimpArgs false
set_option linter.unusedVariables false

/-- A part of a list of cells' part. -/
theorem subL_sub {all cs : List Value} {o m j k : Nat} (h : subL all o m = some cs) (hj : j + k ≤ m) : subL all (o + j) k = some ((cs.drop j).take k) := by
  obtain ⟨e1, e2⟩ := subL_some _ _ _ _ h
  rw [subL_take _ _ _ (by omega), e1, List.drop_take, List.take_take, List.drop_drop]
  congr 2
  omega

theorem flatMap_drop {α : Type} (f : α → List Value) (m : Nat) : ∀ (l : List α), (∀ x ∈ l, (f x).length = m) → ∀ i, (l.flatMap f).drop (i * m) = (l.drop i).flatMap f
  | [], _, i => by simp
  | x :: l, h, 0 => by simp
  | x :: l, h, i + 1 => by
    have hx := h x (.head _)
    rw [List.flatMap_cons, List.drop_succ_cons, ← flatMap_drop f m l (fun y hy => h y (.tail _ hy)) i, show (i + 1) * m = (f x).length + i * m by rw [hx]; rw [Nat.add_mul, Nat.one_mul, Nat.add_comm], ← List.drop_drop, List.drop_left]

theorem flatMap_part {α : Type} (f : α → List Value) (m : Nat) (l : List α) (h : ∀ x ∈ l, (f x).length = m) {i : Nat} (hi : i < l.length) : ((l.flatMap f).drop (i * m)).take m = f l[i] := by
  rw [flatMap_drop f m l h, List.drop_eq_getElem_cons hi, List.flatMap_cons, List.take_left' (h _ (List.getElem_mem hi))]

/-- One of a play. -/
structure ActV where
  op : Int
  at_ : Int
  n : Int
  ba : Option Addr
  bn : Nat
  bc : Nat
  bl : List Int
  c : CapV

def ActV.cells (a : ActV) : List Value := [.int .i64 a.op, .int .i64 a.at_, .int .i64 a.n, .slice a.ba a.bn a.bc, .bool a.c.tag, .int .u32 a.c.base, .int .u32 a.c.top, .int .u32 a.c.addr, .int .u16 a.c.perm, .int .u16 a.c.type]

def ActV.ok (w : World) (a : ActV) : Prop := isI64 a.op ∧ isI64 a.at_ ∧ isI64 a.n ∧ RdS w 1 (.slice a.ba a.bn a.bc) (byC a.bl) a.bn ∧ isB a.bl ∧ a.c.ok ∧ a.bn < 9223372036854775808

/-- A slice that came in, as blocks known. -/
theorem RdS.ents {w : World} {size n c : Nat} {a : Option Addr} {cs : List Value} (h : RdS w size (.slice a n c) cs n) : ∃ A : List Ent, Here w A ∧ (∀ x ∈ A, x.rw = false) ∧ (∀ x ∈ A, x.b < w.heap.size) ∧
    (cs ≠ [] → ∃ b o x, a = some ⟨b, o, none⟩ ∧ x ∈ A ∧ x.b = b ∧ subL x.cs o (n * size) = some cs) := by
  cases cs with
  | nil => exact ⟨[], ⟨by simp, by simp⟩, by simp, by simp, fun h => absurd rfl h⟩
  | cons v cs =>
    generalize hc : v :: cs = xs at h
    cases h with
    | nil => cases hc
    | mem b o n c _ h1 hl =>
      obtain ⟨t, fr, all, h2, h3⟩ := (RdS.mem (w := w) (size := size) b o n c xs h1 hl).ent (by rw [← hc]; simp)
      refine ⟨[⟨b, t, fr.1, fr.2, all, false⟩], ⟨by simpa [Ent.obj] using h2, by simp⟩, by simp, by simpa using lt_of_blk h2, fun _ => ⟨b, o, _, rfl, .head _, rfl, h3⟩⟩

/-- A slice that came in lies apart from what is new. -/
theorem RdS.apart {w : World} {size n c : Nat} {a : Option Addr} {cs : List Value} (h : RdS w size (.slice a n c) cs n) (h0 : 0 < size) {b o : Nat} (ha : a = some ⟨b, o, none⟩) (hn : n ≠ 0) : b < w.heap.size := by
  subst ha
  have hl := h.length
  obtain ⟨t, fr, all, h2, _⟩ := h.ent (by
    intro e
    rw [e] at hl
    have := Nat.mul_pos (Nat.pos_of_ne_zero hn) h0
    simp at hl
    omega)
  exact lt_of_blk h2

theorem St.memlo {w₀ w : World} {L : List Ent} {t : TypeId} {M : MB} {B : List Int} {T : List Bool} (hst : St w₀ NoB w L) (hsub : ∀ x ∈ memL t M true B T, x ∈ L) : w₀.heap.size ≤ M.bb ∧ w₀.heap.size ≤ M.bt :=
  ⟨(hst.own _ (hsub _ (.tail _ (.head _))) rfl).resolve_right (fun h => h), (hst.own _ (hsub _ (.tail _ (.tail _ (.head _)))) rfl).resolve_right (fun h => h)⟩

theorem OS.rds {w w0 : World} {S : Nat → Prop} {L : List Ent} {el : TypeId} {xs : List Value} {a : Option Addr} {n c : Nat} {E : List Ent} (h : OS el 1 xs (.slice a n c) E) (hst : St w0 S w L) (hE : ∀ x ∈ E, x ∈ L) : RdS w 1 (.slice a n c) xs n := by
  obtain ⟨b, n', c', hv, hl, hc, hr⟩ := h.rd hst hE
  cases hv
  exact hr

theorem bS_ne (l : List Int) : (!((byS l).toList == (byS l).toList)) = false := by simp



theorem tells_same {E : Option (ByteArray × Int × Int)} {part : ByteArray} {at_ no : Int} (hn : no ≠ 0) (h : E = some (part, at_, no)) : tellsB E part at_ no = true := by
  subst h; simp [tellsB, hn]

set_option maxHeartbeats 4000000 in
theorem memPlays_ok (size : Int) (acts : List ActV) {a : Option Addr} {c : Nat} (w : World) (hG : GoodG w) (hs : isI64 size) (hl : acts.length < 9223372036854775808) (hr : RdS w 10 (.slice a acts.length c) (acts.flatMap ActV.cells) acts.length) (ho : ∀ x ∈ acts, x.ok w) :
    Rets Pg n_hasplaw4_MemPlays [.int .i64 size, .slice a acts.length c] w fun v w' => Ext NoB w w' ∧ v = .bool true := by
  
  obtain ⟨A, hA, hAr, hAl, hAe⟩ := hr.ents
  refine rets_of m_hasplaw4_MemPlays rfl rfl (hA.start (S := NoB) (fun x hx hr => by rw [hAr x hx] at hr; cases hr)) ?_
  refine J.go [8,10,14,15,17,18,20] 900 rfl ?_
  refine JF.callF _ rfl (fun w1 hst => known_ok w1 (hG.keep hst.ext (fun h => h))) (fun x hx => nomatch hx) ?_
  refine J.go [8,10,14,15,17,18,20] 900 rfl ?_
  (repeat' (first | ((first | refine JF.l1 0 rfl rfl rfl rfl ?_ | refine JF.ln 0 rfl rfl rfl rfl ?_ | refine JF.l1 1 rfl rfl rfl rfl ?_ | refine JF.ln 1 rfl rfl rfl rfl ?_ | refine JF.l1 2 rfl rfl rfl rfl ?_ | refine JF.ln 2 rfl rfl rfl rfl ?_ | refine JF.l1 3 rfl rfl rfl rfl ?_ | refine JF.ln 3 rfl rfl rfl rfl ?_ | refine JF.l1 4 rfl rfl rfl rfl ?_ | refine JF.ln 4 rfl rfl rfl rfl ?_ | refine JF.l1 5 rfl rfl rfl rfl ?_ | refine JF.ln 5 rfl rfl rfl rfl ?_ | refine JF.l1 6 rfl rfl rfl rfl ?_ | refine JF.ln 6 rfl rfl rfl rfl ?_ | refine JF.l1 7 rfl rfl rfl rfl ?_ | refine JF.ln 7 rfl rfl rfl rfl ?_); refine J.go [8,10,14,15,17,18,20] 900 rfl ?_) | (refine JF.chk rfl ?_ ?_; (focus ((repeat' (apply And.intro)) <;> (first | exact True.intro | omega))); refine J.go [8,10,14,15,17,18,20] 900 rfl ?_) | (((first | refine JF.condD rfl ?_ ?_ | refine JF.condE rfl ?_ ?_ | refine JF.condN rfl ?_ ?_ | refine JF.guardD rfl ?_ ?_ | refine JF.guardE rfl ?_ ?_ | refine JF.guardN rfl ?_ ?_ | refine JF.cond rfl ?_ ?_ | refine JF.guard rfl ?_ ?_) <;> intro h) <;> (first | (exact absurd h Bool.false_ne_true) | (exact absurd h.symm Bool.false_ne_true) | (exact absurd rfl h) | (exfalso; omega) | refine J.go [8,10,14,15,17,18,20] 900 rfl ?_))))
  · refine JF.ret rfl fun w' hst => ⟨hst.ext, rfl⟩
  refine JF.callV _ rfl (fun w1 hst => new_ok size w1 hs) fun w1 r w2 hst hq => ?_
  obtain ⟨hx, ⟨hok, M, rfl, hM, hnew⟩ | ⟨hok, f, rfl, hf⟩⟩ := hq
  case inr =>
    obtain ⟨b, h1, rfl, h2⟩ := hf.tr hst hx
    refine ⟨_, h2, ?_⟩
    refine J.go [8,10,14,15,17,18,20] 900 rfl ?_
    refine JF.callV _ rfl (fun w1 hst => rnew_ok size w1 hs) fun w1 r w2 hst hq => ?_
    obtain ⟨hx, ⟨h, _⟩ | ⟨_, rfl⟩⟩ := hq
    · exact absurd h hok
    refine ⟨_, Tr.same hst hx (fun x hx => nomatch hx), ?_⟩
    refine J.go [8,10,14,15,17,18,20] 900 rfl ?_
    have hne : newAt size ≠ 0 := by unfold newAt; split <;> decide
    refine JF.callF _ rfl (fun w1 hst => tells_at (x := true) _ (some (_, _, _)) _ _ _ w1 (hG.keep hst.ext (fun h => h)) ⟨b, rfl, hst.blk _ (.head _)⟩ (tells_same hne rfl)) (fun x hx => nomatch hx) ?_
    refine J.go [8,10,14,15,17,18,20] 900 rfl ?_
    (repeat' (first | ((first | refine JF.l1 0 rfl rfl rfl rfl ?_ | refine JF.ln 0 rfl rfl rfl rfl ?_ | refine JF.l1 1 rfl rfl rfl rfl ?_ | refine JF.ln 1 rfl rfl rfl rfl ?_ | refine JF.l1 2 rfl rfl rfl rfl ?_ | refine JF.ln 2 rfl rfl rfl rfl ?_ | refine JF.l1 3 rfl rfl rfl rfl ?_ | refine JF.ln 3 rfl rfl rfl rfl ?_ | refine JF.l1 4 rfl rfl rfl rfl ?_ | refine JF.ln 4 rfl rfl rfl rfl ?_ | refine JF.l1 5 rfl rfl rfl rfl ?_ | refine JF.ln 5 rfl rfl rfl rfl ?_ | refine JF.l1 6 rfl rfl rfl rfl ?_ | refine JF.ln 6 rfl rfl rfl rfl ?_ | refine JF.l1 7 rfl rfl rfl rfl ?_ | refine JF.ln 7 rfl rfl rfl rfl ?_); refine J.go [8,10,14,15,17,18,20] 900 rfl ?_) | (refine JF.chk rfl ?_ ?_; (focus ((repeat' (apply And.intro)) <;> (first | exact True.intro | omega))); refine J.go [8,10,14,15,17,18,20] 900 rfl ?_) | (((first | refine JF.condD rfl ?_ ?_ | refine JF.condE rfl ?_ ?_ | refine JF.condN rfl ?_ ?_ | refine JF.guardD rfl ?_ ?_ | refine JF.guardE rfl ?_ ?_ | refine JF.guardN rfl ?_ ?_ | refine JF.cond rfl ?_ ?_ | refine JF.guard rfl ?_ ?_) <;> intro h) <;> (first | (exact absurd h Bool.false_ne_true) | (exact absurd h.symm Bool.false_ne_true) | (exact absurd rfl h) | (exfalso; omega) | refine J.go [8,10,14,15,17,18,20] 900 rfl ?_))))
    refine JF.ret rfl fun w' hst => ⟨hst.ext, rfl⟩
  refine ⟨_, Tr.news hst hx hnew (fun x hx => nomatch hx), ?_⟩
  refine J.go [8,10,14,15,17,18,20] 900 rfl ?_
  refine JF.callV _ rfl (fun w1 hst => rnew_ok size w1 hs) fun w1 r w2 hst hq => ?_
  obtain ⟨hx, ⟨_, X, rfl, hX, hnew⟩ | ⟨h, _⟩⟩ := hq
  case inr => exact absurd hok h
  refine ⟨_, Tr.news hst hx hnew (fun x hx => nomatch hx), ?_⟩
  refine J.go [8,10,14,15,17,18,20] 900 rfl ?_
  refine JF.callF _ rfl (fun w1 hst => tells_at (x := true) _ none _ _ _ w1 (hG.keep hst.ext (fun h => h)) rfl rfl) (fun x hx => nomatch hx) ?_
  refine J.go [8,10,14,15,17,18,20] 900 rfl ?_
  (repeat' (first | ((first | refine JF.l1 0 rfl rfl rfl rfl ?_ | refine JF.ln 0 rfl rfl rfl rfl ?_ | refine JF.l1 1 rfl rfl rfl rfl ?_ | refine JF.ln 1 rfl rfl rfl rfl ?_ | refine JF.l1 2 rfl rfl rfl rfl ?_ | refine JF.ln 2 rfl rfl rfl rfl ?_ | refine JF.l1 3 rfl rfl rfl rfl ?_ | refine JF.ln 3 rfl rfl rfl rfl ?_ | refine JF.l1 4 rfl rfl rfl rfl ?_ | refine JF.ln 4 rfl rfl rfl rfl ?_ | refine JF.l1 5 rfl rfl rfl rfl ?_ | refine JF.ln 5 rfl rfl rfl rfl ?_ | refine JF.l1 6 rfl rfl rfl rfl ?_ | refine JF.ln 6 rfl rfl rfl rfl ?_ | refine JF.l1 7 rfl rfl rfl rfl ?_ | refine JF.ln 7 rfl rfl rfl rfl ?_); refine J.go [8,10,14,15,17,18,20] 900 rfl ?_) | (refine JF.chk rfl ?_ ?_; (focus ((repeat' (apply And.intro)) <;> (first | exact True.intro | omega))); refine J.go [8,10,14,15,17,18,20] 900 rfl ?_) | (((first | refine JF.condD rfl ?_ ?_ | refine JF.condE rfl ?_ ?_ | refine JF.condN rfl ?_ ?_ | refine JF.guardD rfl ?_ ?_ | refine JF.guardE rfl ?_ ?_ | refine JF.guardN rfl ?_ ?_ | refine JF.cond rfl ?_ ?_ | refine JF.guard rfl ?_ ?_) <;> intro h) <;> (first | (exact absurd h Bool.false_ne_true) | (exact absurd h.symm Bool.false_ne_true) | (exact absurd rfl h) | (exfalso; omega) | refine J.go [8,10,14,15,17,18,20] 900 rfl ?_))))
  refine JF.loop (σ := Nat × MB × List Int × List Bool) (fun s => [(9, .v (.int .i64 (s.1 : Int))), (5, .v (.pointer (some ⟨s.2.1.bm, 0, none⟩))), (7, .v (.pointer (some ⟨X.bm, 0, none⟩))), (0, .v (.int .i64 size)), (1, .v (.slice a acts.length c))]) (fun _ => [])
    (fun s => memL 61 X true s.2.2.1 s.2.2.2 ++ (memL 85 s.2.1 true s.2.2.1 s.2.2.2 ++ A)) (fun s => s.1 ≤ acts.length ∧ okM s.2.1 s.2.2.1 s.2.2.2 ∧ okM X s.2.2.1 s.2.2.2 ∧ isB s.2.2.1 ∧ (s.2.2.1.length : Int) = size) (fun s => acts.length - s.1) (0, M, zB size, zT size) ⟨Nat.zero_le _, hM, hX, isB_zB _, by have := hok.1; simp [zB]; omega⟩ ⟨rfl, rfl, rfl, rfl, rfl, trivial⟩ trivial (List.Sublist.refl _) ?_
  have hXlo : w.heap.size ≤ X.bm := Nat.le_trans hst.ext.size hnew.lo.1
  clear hM hX hnew h
  rintro ⟨i, M, B, T⟩ ⟨hi, hM, hX, hB, hlen⟩
  dsimp only at hi hM hX hB hlen ⊢
  have subX : (memL 61 X true B T).Sublist (memL 61 X true B T ++ (memL 85 M true B T ++ A)) := List.sublist_append_left _ _
  have subM : (memL 85 M true B T).Sublist (memL 61 X true B T ++ (memL 85 M true B T ++ A)) := (List.sublist_append_left _ _).trans (List.sublist_append_right _ _)
  rcases Nat.lt_or_ge i acts.length with hlt | hge
  case inr =>
    have hin : i = acts.length := by omega
    subst hin
    refine J.go [8,10,14,15,17,18,20] 900 rfl ?_
    (repeat' (first | ((first | refine JF.l1 0 rfl rfl rfl rfl ?_ | refine JF.ln 0 rfl rfl rfl rfl ?_ | refine JF.l1 1 rfl rfl rfl rfl ?_ | refine JF.ln 1 rfl rfl rfl rfl ?_ | refine JF.l1 2 rfl rfl rfl rfl ?_ | refine JF.ln 2 rfl rfl rfl rfl ?_ | refine JF.l1 3 rfl rfl rfl rfl ?_ | refine JF.ln 3 rfl rfl rfl rfl ?_ | refine JF.l1 4 rfl rfl rfl rfl ?_ | refine JF.ln 4 rfl rfl rfl rfl ?_ | refine JF.l1 5 rfl rfl rfl rfl ?_ | refine JF.ln 5 rfl rfl rfl rfl ?_ | refine JF.l1 6 rfl rfl rfl rfl ?_ | refine JF.ln 6 rfl rfl rfl rfl ?_ | refine JF.l1 7 rfl rfl rfl rfl ?_ | refine JF.ln 7 rfl rfl rfl rfl ?_); refine J.go [8,10,14,15,17,18,20] 900 rfl ?_) | (refine JF.chk rfl ?_ ?_; (focus ((repeat' (apply And.intro)) <;> (first | exact True.intro | omega))); refine J.go [8,10,14,15,17,18,20] 900 rfl ?_) | (((first | refine JF.condD rfl ?_ ?_ | refine JF.condE rfl ?_ ?_ | refine JF.condN rfl ?_ ?_ | refine JF.guardD rfl ?_ ?_ | refine JF.guardE rfl ?_ ?_ | refine JF.guardN rfl ?_ ?_ | refine JF.cond rfl ?_ ?_ | refine JF.guard rfl ?_ ?_) <;> intro h) <;> (first | (exact absurd h Bool.false_ne_true) | (exact absurd h.symm Bool.false_ne_true) | (exact absurd rfl h) | (exfalso; omega) | refine J.go [8,10,14,15,17,18,20] 900 rfl ?_))))
    refine JF.callF _ rfl (fun w1 hst => same4_ok w1 (hst.here_perm List.perm_append_comm ((List.Sublist.refl _).append (List.sublist_append_left _ _))) hM hX hB) (fun x hx => nomatch hx) ?_
    refine J.go [8,10,14,15,17,18,20] 900 rfl ?_
    refine JF.ret rfl fun w' hst => ⟨hst.ext, rfl⟩
  have hsz := hok.2.1
  have e3 : IntKind.i64.wrap (size + 1) = size + 1 := by rw [IntKind.wrap_i64]; omega
  have e1 : IntKind.i64.wrap ((i : Int) + 1) = ((i + 1 : Nat) : Int) := by rw [IntKind.wrap_i64]; omega
  have hcs : acts.flatMap ActV.cells ≠ [] := by
    intro h
    have := congrArg List.length h
    cases acts with
    | nil => simp at hlt
    | cons y l => simp [ActV.cells] at this
  obtain ⟨b, o, x, rfl, hxA, hxb, hsub⟩ := hAe hcs
  have hload : subL x.cs (o + (i : Int).toNat * 10) 10 = some (acts[i]).cells := by
    rw [Int.toNat_natCast, subL_sub hsub (by omega), flatMap_part ActV.cells 10 acts (fun y _ => rfl) hlt]
  obtain ⟨ho1, ho2, ho3, hob, hol, hoc, hon⟩ := ho _ (List.getElem_mem hlt)
  generalize acts[i] = act at hload ho1 ho2 ho3 hob hol hoc hon
  refine J.go [8,10,14,15,17,18,20] 900 rfl ?_
  (repeat' (first | ((first | refine JF.l1 0 rfl rfl rfl rfl ?_ | refine JF.ln 0 rfl rfl rfl rfl ?_ | refine JF.l1 1 rfl rfl rfl rfl ?_ | refine JF.ln 1 rfl rfl rfl rfl ?_ | refine JF.l1 2 rfl rfl rfl rfl ?_ | refine JF.ln 2 rfl rfl rfl rfl ?_ | refine JF.l1 3 rfl rfl rfl rfl ?_ | refine JF.ln 3 rfl rfl rfl rfl ?_ | refine JF.l1 4 rfl rfl rfl rfl ?_ | refine JF.ln 4 rfl rfl rfl rfl ?_ | refine JF.l1 5 rfl rfl rfl rfl ?_ | refine JF.ln 5 rfl rfl rfl rfl ?_ | refine JF.l1 6 rfl rfl rfl rfl ?_ | refine JF.ln 6 rfl rfl rfl rfl ?_ | refine JF.l1 7 rfl rfl rfl rfl ?_ | refine JF.ln 7 rfl rfl rfl rfl ?_); refine J.go [8,10,14,15,17,18,20] 900 rfl ?_) | (refine JF.chk rfl ?_ ?_; (focus ((repeat' (apply And.intro)) <;> (first | exact True.intro | omega))); refine J.go [8,10,14,15,17,18,20] 900 rfl ?_) | (((first | refine JF.condD rfl ?_ ?_ | refine JF.condE rfl ?_ ?_ | refine JF.condN rfl ?_ ?_ | refine JF.guardD rfl ?_ ?_ | refine JF.guardE rfl ?_ ?_ | refine JF.guardN rfl ?_ ?_ | refine JF.cond rfl ?_ ?_ | refine JF.guard rfl ?_ ?_) <;> intro h) <;> (first | (exact absurd h Bool.false_ne_true) | (exact absurd h.symm Bool.false_ne_true) | (exact absurd rfl h) | (exfalso; omega) | refine J.go [8,10,14,15,17,18,20] 900 rfl ?_))))
  refine JF.ldn rfl (List.mem_append.2 (.inr (List.mem_append.2 (.inr hxA)))) hxb hload ?_
  refine J.go [8,10,14,15,17,18,20] 900 rfl ?_
  (repeat' (first | ((first | refine JF.l1 0 rfl rfl rfl rfl ?_ | refine JF.ln 0 rfl rfl rfl rfl ?_ | refine JF.l1 1 rfl rfl rfl rfl ?_ | refine JF.ln 1 rfl rfl rfl rfl ?_ | refine JF.l1 2 rfl rfl rfl rfl ?_ | refine JF.ln 2 rfl rfl rfl rfl ?_ | refine JF.l1 3 rfl rfl rfl rfl ?_ | refine JF.ln 3 rfl rfl rfl rfl ?_ | refine JF.l1 4 rfl rfl rfl rfl ?_ | refine JF.ln 4 rfl rfl rfl rfl ?_ | refine JF.l1 5 rfl rfl rfl rfl ?_ | refine JF.ln 5 rfl rfl rfl rfl ?_ | refine JF.l1 6 rfl rfl rfl rfl ?_ | refine JF.ln 6 rfl rfl rfl rfl ?_ | refine JF.l1 7 rfl rfl rfl rfl ?_ | refine JF.ln 7 rfl rfl rfl rfl ?_); refine J.go [8,10,14,15,17,18,20] 900 rfl ?_) | (refine JF.chk rfl ?_ ?_; (focus ((repeat' (apply And.intro)) <;> (first | exact True.intro | omega))); refine J.go [8,10,14,15,17,18,20] 900 rfl ?_) | (((first | refine JF.condD rfl ?_ ?_ | refine JF.condE rfl ?_ ?_ | refine JF.condN rfl ?_ ?_ | refine JF.guardD rfl ?_ ?_ | refine JF.guardE rfl ?_ ?_ | refine JF.guardN rfl ?_ ?_ | refine JF.cond rfl ?_ ?_ | refine JF.guard rfl ?_ ?_) <;> intro h) <;> (first | (exact absurd h Bool.false_ne_true) | (exact absurd h.symm Bool.false_ne_true) | (exact absurd rfl h) | (exfalso; omega) | refine J.go [8,10,14,15,17,18,20] 900 rfl ?_))))
  · refine JF.ret rfl fun w' hst => ⟨hst.ext, rfl⟩
  · -- bytes are stored
    refine JF.draw [10] [] rfl (fun x hx => nomatch hx) ?_
    refine J.go [8,10,14,15,17,18,20] 900 rfl ?_
    have hbl : act.bl.length = act.bn := by have := hob.length; rw [byC_len] at this; omega
    have hap : ∀ b' o', act.ba = some ⟨b', o', none⟩ → act.bn ≠ 0 → b' < w.heap.size := fun b' o' => hob.apart (by decide)
    refine JF.callV _ rfl (fun w1 hst => store_ok act.at_ w1 (hst.here subM) hM ho2 (hob.keep hst.ext (fun _ _ _ _ _ h => h)) (fun b' o' hb hn => by
      have h1 := hap b' o' hb hn
      have h2 := hst.memlo (fun x hx => subM.subset hx)
      constructor <;> omega) hon) fun w1 r w2 hst hq => ?_
    have hXm := hst.memlo (fun x hx => subX.subset hx)
    obtain ⟨hx, ⟨hok1, rfl, hh⟩ | ⟨hok1, hf, hh⟩⟩ := hq
    · have hBl : (wrB B act.at_.toNat act.bl).length = B.length := wrB_len (by obtain ⟨_, _, _⟩ := hok1; omega)
      have hTl := clT_len T act.at_.toNat act.bn
      refine ⟨_, Tr.memN (A := memL 61 X true B T) (C := A) (N := []) hst hx hh (News.nil _ _) (by exact fun x hx => nomatch hx), ?_⟩
      refine J.go [8,10,14,15,17,18,20] 900 rfl ?_
      refine JF.callV _ rfl (fun w1 hst => rstore_ok act.at_ w1 (hst.here (List.sublist_append_left _ _)) hX ho2 (hob.keep hst.ext (fun _ _ _ _ _ h => h)) (fun b' o' hb hn => by
        have h1 := hap b' o' hb hn
        refine ⟨?_, ?_, ?_⟩ <;> omega) hon) fun w1 r w2 hst hq => ?_
      obtain ⟨hx, ⟨_, rfl, hh⟩ | ⟨h, _⟩⟩ := hq
      case inr => exact absurd hok1 h
      refine ⟨_, Tr.memN (A := []) (C := memL 85 M true (wrB B act.at_.toNat act.bl) (clT T act.at_.toNat act.bn) ++ A) (N := []) hst hx hh (News.nil _ _) (by exact fun x hx => nomatch hx), ?_⟩
      refine J.go [8,10,14,15,17,18,20] 900 rfl ?_
      refine JF.callF _ rfl (fun w1 hst => tells_at (x := true) _ none _ _ _ w1 (hG.keep hst.ext (fun h => h)) rfl rfl) (fun x hx => nomatch hx) ?_
      refine J.go [8,10,14,15,17,18,20] 900 rfl ?_
      (repeat' (first | ((first | refine JF.l1 0 rfl rfl rfl rfl ?_ | refine JF.ln 0 rfl rfl rfl rfl ?_ | refine JF.l1 1 rfl rfl rfl rfl ?_ | refine JF.ln 1 rfl rfl rfl rfl ?_ | refine JF.l1 2 rfl rfl rfl rfl ?_ | refine JF.ln 2 rfl rfl rfl rfl ?_ | refine JF.l1 3 rfl rfl rfl rfl ?_ | refine JF.ln 3 rfl rfl rfl rfl ?_ | refine JF.l1 4 rfl rfl rfl rfl ?_ | refine JF.ln 4 rfl rfl rfl rfl ?_ | refine JF.l1 5 rfl rfl rfl rfl ?_ | refine JF.ln 5 rfl rfl rfl rfl ?_ | refine JF.l1 6 rfl rfl rfl rfl ?_ | refine JF.ln 6 rfl rfl rfl rfl ?_ | refine JF.l1 7 rfl rfl rfl rfl ?_ | refine JF.ln 7 rfl rfl rfl rfl ?_); refine J.go [8,10,14,15,17,18,20] 900 rfl ?_) | (refine JF.chk rfl ?_ ?_; (focus ((repeat' (apply And.intro)) <;> (first | exact True.intro | omega))); refine J.go [8,10,14,15,17,18,20] 900 rfl ?_) | (((first | refine JF.condD rfl ?_ ?_ | refine JF.condE rfl ?_ ?_ | refine JF.condN rfl ?_ ?_ | refine JF.guardD rfl ?_ ?_ | refine JF.guardE rfl ?_ ?_ | refine JF.guardN rfl ?_ ?_ | refine JF.cond rfl ?_ ?_ | refine JF.guard rfl ?_ ?_) <;> intro h) <;> (first | (exact absurd h Bool.false_ne_true) | (exact absurd h.symm Bool.false_ne_true) | (exact absurd rfl h) | (exfalso; omega) | refine J.go [8,10,14,15,17,18,20] 900 rfl ?_))))
      rw [e1]
      exact JF.round (i + 1, M, wrB B act.at_.toNat act.bl, clT T act.at_.toNat act.bn) ⟨hlt, okM_of hM hBl hTl, okM_of hX hBl hTl, isB_wrB hB hol, by dsimp only; omega⟩ (by dsimp only; omega) ⟨rfl, rfl, rfl, rfl, rfl, trivial⟩ trivial (List.Sublist.refl _)
    · obtain ⟨bf, rfl, hn⟩ := hf.news
      refine ⟨_, Tr.memN (A := memL 61 X true B T) (C := A) (N := [_]) hst hx hh hn (by exact fun x hx => nomatch hx), ?_⟩
      refine J.go [8,10,14,15,17,18,20] 900 rfl ?_
      refine JF.callV _ rfl (fun w1 hst => rstore_ok act.at_ w1 (hst.here (subX.cons _)) hX ho2 (hob.keep hst.ext (fun _ _ _ _ _ h => h)) (fun b' o' hb hn => by
        have h1 := hap b' o' hb hn
        refine ⟨?_, ?_, ?_⟩ <;> omega) hon) fun w1 r w2 hst hq => ?_
      obtain ⟨hx, ⟨h, _⟩ | ⟨_, rfl, hh⟩⟩ := hq
      · exact absurd h hok1
      refine ⟨_, Tr.memN (A := [_]) (C := memL 85 M true B T ++ A) (N := []) hst hx hh (News.nil _ _) (by exact fun x hx => nomatch hx), ?_⟩
      refine J.go [8,10,14,15,17,18,20] 900 rfl ?_
      refine JF.callF _ rfl (fun w1 hst => tells_at (x := true) _ (some (_, _, _)) _ _ _ w1 (hG.keep hst.ext (fun h => h)) ⟨bf, rfl, hst.blk _ (.head _)⟩ (tells_same (by decide) rfl)) (fun x hx => nomatch hx) ?_
      refine J.go [8,10,14,15,17,18,20] 900 rfl ?_
      (repeat' (first | ((first | refine JF.l1 0 rfl rfl rfl rfl ?_ | refine JF.ln 0 rfl rfl rfl rfl ?_ | refine JF.l1 1 rfl rfl rfl rfl ?_ | refine JF.ln 1 rfl rfl rfl rfl ?_ | refine JF.l1 2 rfl rfl rfl rfl ?_ | refine JF.ln 2 rfl rfl rfl rfl ?_ | refine JF.l1 3 rfl rfl rfl rfl ?_ | refine JF.ln 3 rfl rfl rfl rfl ?_ | refine JF.l1 4 rfl rfl rfl rfl ?_ | refine JF.ln 4 rfl rfl rfl rfl ?_ | refine JF.l1 5 rfl rfl rfl rfl ?_ | refine JF.ln 5 rfl rfl rfl rfl ?_ | refine JF.l1 6 rfl rfl rfl rfl ?_ | refine JF.ln 6 rfl rfl rfl rfl ?_ | refine JF.l1 7 rfl rfl rfl rfl ?_ | refine JF.ln 7 rfl rfl rfl rfl ?_); refine J.go [8,10,14,15,17,18,20] 900 rfl ?_) | (refine JF.chk rfl ?_ ?_; (focus ((repeat' (apply And.intro)) <;> (first | exact True.intro | omega))); refine J.go [8,10,14,15,17,18,20] 900 rfl ?_) | (((first | refine JF.condD rfl ?_ ?_ | refine JF.condE rfl ?_ ?_ | refine JF.condN rfl ?_ ?_ | refine JF.guardD rfl ?_ ?_ | refine JF.guardE rfl ?_ ?_ | refine JF.guardN rfl ?_ ?_ | refine JF.cond rfl ?_ ?_ | refine JF.guard rfl ?_ ?_) <;> intro h) <;> (first | (exact absurd h Bool.false_ne_true) | (exact absurd h.symm Bool.false_ne_true) | (exact absurd rfl h) | (exfalso; omega) | refine J.go [8,10,14,15,17,18,20] 900 rfl ?_))))
      rw [e1]
      exact JF.round (i + 1, M, B, T) ⟨hlt, hM, hX, hB, hlen⟩ (by dsimp only; omega) ⟨rfl, rfl, rfl, rfl, rfl, trivial⟩ trivial (List.sublist_cons_self _ _)
  · -- a capability is stored
    refine JF.draw [10] [] rfl (fun x hx => nomatch hx) ?_
    refine J.go [8,10,14,15,17,18,20] 900 rfl ?_
    refine JF.callV _ rfl (fun w1 hst => storeCap_ok act.at_ act.c hoc w1 (hG.keep hst.ext (fun h => h)) (by have h2 := hst.memlo (fun x hx => subM.subset hx); have := hG.pos; constructor <;> omega) (hst.here subM) hM ho2 hB) fun w1 r w2 hst hq => ?_
    obtain ⟨hx, ⟨hok1, rfl, hh⟩ | ⟨hok1, hf, hh⟩⟩ := hq
    · have hBl := wrC_len (c := act.c) hok1
      have hTl := tgC_len T act.at_ act.c.tag
      refine ⟨_, Tr.memN (A := memL 61 X true B T) (C := A) (N := []) hst hx hh (News.nil _ _) (by exact fun x hx => nomatch hx), ?_⟩
      refine J.go [8,10,14,15,17,18,20] 900 rfl ?_
      refine JF.callF _ rfl (fun w1 hst => of_ok act.c w1) (by exact fun x hx => nomatch hx) ?_
      refine J.go [8,10,14,15,17,18,20] 900 rfl ?_
      refine JF.callV _ rfl (fun w1 hst => rstoreCap_ok act.at_ act.c hoc w1 (hst.here (List.sublist_append_left _ _)) hX ho2 hB) fun w1 r w2 hst hq => ?_
      obtain ⟨hx, ⟨_, rfl, hh⟩ | ⟨h, _⟩⟩ := hq
      case inr => exact absurd hok1 h
      refine ⟨_, Tr.memN (A := []) (C := memL 85 M true (wrC B act.at_ act.c) (tgC T act.at_ act.c.tag) ++ A) (N := []) hst hx hh (News.nil _ _) (by exact fun x hx => nomatch hx), ?_⟩
      refine J.go [8,10,14,15,17,18,20] 900 rfl ?_
      refine JF.callF _ rfl (fun w1 hst => tells_at (x := true) _ none _ _ _ w1 (hG.keep hst.ext (fun h => h)) rfl rfl) (fun x hx => nomatch hx) ?_
      refine J.go [8,10,14,15,17,18,20] 900 rfl ?_
      (repeat' (first | ((first | refine JF.l1 0 rfl rfl rfl rfl ?_ | refine JF.ln 0 rfl rfl rfl rfl ?_ | refine JF.l1 1 rfl rfl rfl rfl ?_ | refine JF.ln 1 rfl rfl rfl rfl ?_ | refine JF.l1 2 rfl rfl rfl rfl ?_ | refine JF.ln 2 rfl rfl rfl rfl ?_ | refine JF.l1 3 rfl rfl rfl rfl ?_ | refine JF.ln 3 rfl rfl rfl rfl ?_ | refine JF.l1 4 rfl rfl rfl rfl ?_ | refine JF.ln 4 rfl rfl rfl rfl ?_ | refine JF.l1 5 rfl rfl rfl rfl ?_ | refine JF.ln 5 rfl rfl rfl rfl ?_ | refine JF.l1 6 rfl rfl rfl rfl ?_ | refine JF.ln 6 rfl rfl rfl rfl ?_ | refine JF.l1 7 rfl rfl rfl rfl ?_ | refine JF.ln 7 rfl rfl rfl rfl ?_); refine J.go [8,10,14,15,17,18,20] 900 rfl ?_) | (refine JF.chk rfl ?_ ?_; (focus ((repeat' (apply And.intro)) <;> (first | exact True.intro | omega))); refine J.go [8,10,14,15,17,18,20] 900 rfl ?_) | (((first | refine JF.condD rfl ?_ ?_ | refine JF.condE rfl ?_ ?_ | refine JF.condN rfl ?_ ?_ | refine JF.guardD rfl ?_ ?_ | refine JF.guardE rfl ?_ ?_ | refine JF.guardN rfl ?_ ?_ | refine JF.cond rfl ?_ ?_ | refine JF.guard rfl ?_ ?_) <;> intro h) <;> (first | (exact absurd h Bool.false_ne_true) | (exact absurd h.symm Bool.false_ne_true) | (exact absurd rfl h) | (exfalso; omega) | refine J.go [8,10,14,15,17,18,20] 900 rfl ?_))))
      rw [e1]
      exact JF.round (i + 1, M, wrC B act.at_ act.c, tgC T act.at_ act.c.tag) ⟨hlt, okM_of hM hBl hTl, okM_of hX hBl hTl, isB_wrB hB (isB_capB _), by dsimp only; omega⟩ (by dsimp only; omega) ⟨rfl, rfl, rfl, rfl, rfl, trivial⟩ trivial (List.Sublist.refl _)
    · obtain ⟨bf, rfl, hn⟩ := hf.news
      refine ⟨_, Tr.memN (A := memL 61 X true B T) (C := A) (N := [_]) hst hx hh hn (by exact fun x hx => nomatch hx), ?_⟩
      refine J.go [8,10,14,15,17,18,20] 900 rfl ?_
      refine JF.callF _ rfl (fun w1 hst => of_ok act.c w1) (by exact fun x hx => nomatch hx) ?_
      refine J.go [8,10,14,15,17,18,20] 900 rfl ?_
      refine JF.callV _ rfl (fun w1 hst => rstoreCap_ok act.at_ act.c hoc w1 (hst.here (subX.cons _)) hX ho2 hB) fun w1 r w2 hst hq => ?_
      obtain ⟨hx, ⟨h, _⟩ | ⟨_, rfl, hh⟩⟩ := hq
      · exact absurd h hok1
      refine ⟨_, Tr.memN (A := [_]) (C := memL 85 M true B T ++ A) (N := []) hst hx hh (News.nil _ _) (by exact fun x hx => nomatch hx), ?_⟩
      refine J.go [8,10,14,15,17,18,20] 900 rfl ?_
      refine JF.callF _ rfl (fun w1 hst => tells_at (x := true) _ (some (_, _, _)) _ _ _ w1 (hG.keep hst.ext (fun h => h)) ⟨bf, rfl, hst.blk _ (.head _)⟩ (tells_same (capNo_ne _ _) rfl)) (fun x hx => nomatch hx) ?_
      refine J.go [8,10,14,15,17,18,20] 900 rfl ?_
      (repeat' (first | ((first | refine JF.l1 0 rfl rfl rfl rfl ?_ | refine JF.ln 0 rfl rfl rfl rfl ?_ | refine JF.l1 1 rfl rfl rfl rfl ?_ | refine JF.ln 1 rfl rfl rfl rfl ?_ | refine JF.l1 2 rfl rfl rfl rfl ?_ | refine JF.ln 2 rfl rfl rfl rfl ?_ | refine JF.l1 3 rfl rfl rfl rfl ?_ | refine JF.ln 3 rfl rfl rfl rfl ?_ | refine JF.l1 4 rfl rfl rfl rfl ?_ | refine JF.ln 4 rfl rfl rfl rfl ?_ | refine JF.l1 5 rfl rfl rfl rfl ?_ | refine JF.ln 5 rfl rfl rfl rfl ?_ | refine JF.l1 6 rfl rfl rfl rfl ?_ | refine JF.ln 6 rfl rfl rfl rfl ?_ | refine JF.l1 7 rfl rfl rfl rfl ?_ | refine JF.ln 7 rfl rfl rfl rfl ?_); refine J.go [8,10,14,15,17,18,20] 900 rfl ?_) | (refine JF.chk rfl ?_ ?_; (focus ((repeat' (apply And.intro)) <;> (first | exact True.intro | omega))); refine J.go [8,10,14,15,17,18,20] 900 rfl ?_) | (((first | refine JF.condD rfl ?_ ?_ | refine JF.condE rfl ?_ ?_ | refine JF.condN rfl ?_ ?_ | refine JF.guardD rfl ?_ ?_ | refine JF.guardE rfl ?_ ?_ | refine JF.guardN rfl ?_ ?_ | refine JF.cond rfl ?_ ?_ | refine JF.guard rfl ?_ ?_) <;> intro h) <;> (first | (exact absurd h Bool.false_ne_true) | (exact absurd h.symm Bool.false_ne_true) | (exact absurd rfl h) | (exfalso; omega) | refine J.go [8,10,14,15,17,18,20] 900 rfl ?_))))
      rw [e1]
      exact JF.round (i + 1, M, B, T) ⟨hlt, hM, hX, hB, hlen⟩ (by dsimp only; omega) ⟨rfl, rfl, rfl, rfl, rfl, trivial⟩ trivial (List.sublist_cons_self _ _)
  · -- bytes are loaded
    refine JF.callV _ rfl (fun w1 hst => load_ok act.at_ act.n w1 (hst.here subM) hM ho2 ho3) fun w1 r w2 hst hq => ?_
    obtain ⟨hx, ⟨hok1, x1, E1, rfl, hos1, hnew1⟩ | ⟨hok1, f, rfl, hf⟩⟩ := hq
    · refine ⟨_, Tr.news hst hx hnew1 (fun x hx => nomatch hx), ?_⟩
      refine J.go [8,10,14,15,17,18,20] 900 rfl ?_
      refine JF.callV _ rfl (fun w1 hst => rload_ok act.at_ act.n w1 (hst.here (subX.trans (List.sublist_append_right _ _))) hX ho2 ho3) fun w1 r w2 hst hq => ?_
      obtain ⟨hx, ⟨_, x2, E2, rfl, hos2, hnew2⟩ | ⟨h, _⟩⟩ := hq
      case inr => exact absurd hok1 h
      refine ⟨_, Tr.news hst hx hnew2 (fun x hx => nomatch hx), ?_⟩
      obtain ⟨a1, n1, c1, rfl, hn1, hc1⟩ := hos1.slice
      obtain ⟨a2, n2, c2, rfl, hn2, hc2⟩ := hos2.slice
      refine J.go [8,10,14,15,17,18,20] 900 rfl ?_
      refine JF.callF _ rfl (fun w1 hst => tells_at (x := true) _ none _ _ _ w1 (hG.keep hst.ext (fun h => h)) rfl rfl) (fun x hx => nomatch hx) ?_
      refine J.go [8,10,14,15,17,18,20] 900 rfl ?_
      (repeat' (first | ((first | refine JF.l1 0 rfl rfl rfl rfl ?_ | refine JF.ln 0 rfl rfl rfl rfl ?_ | refine JF.l1 1 rfl rfl rfl rfl ?_ | refine JF.ln 1 rfl rfl rfl rfl ?_ | refine JF.l1 2 rfl rfl rfl rfl ?_ | refine JF.ln 2 rfl rfl rfl rfl ?_ | refine JF.l1 3 rfl rfl rfl rfl ?_ | refine JF.ln 3 rfl rfl rfl rfl ?_ | refine JF.l1 4 rfl rfl rfl rfl ?_ | refine JF.ln 4 rfl rfl rfl rfl ?_ | refine JF.l1 5 rfl rfl rfl rfl ?_ | refine JF.ln 5 rfl rfl rfl rfl ?_ | refine JF.l1 6 rfl rfl rfl rfl ?_ | refine JF.ln 6 rfl rfl rfl rfl ?_ | refine JF.l1 7 rfl rfl rfl rfl ?_ | refine JF.ln 7 rfl rfl rfl rfl ?_); refine J.go [8,10,14,15,17,18,20] 900 rfl ?_) | (refine JF.chk rfl ?_ ?_; (focus ((repeat' (apply And.intro)) <;> (first | exact True.intro | omega))); refine J.go [8,10,14,15,17,18,20] 900 rfl ?_) | (((first | refine JF.condD rfl ?_ ?_ | refine JF.condE rfl ?_ ?_ | refine JF.condN rfl ?_ ?_ | refine JF.guardD rfl ?_ ?_ | refine JF.guardE rfl ?_ ?_ | refine JF.guardN rfl ?_ ?_ | refine JF.cond rfl ?_ ?_ | refine JF.guard rfl ?_ ?_) <;> intro h) <;> (first | (exact absurd h Bool.false_ne_true) | (exact absurd h.symm Bool.false_ne_true) | (exact absurd rfl h) | (exfalso; omega) | refine J.go [8,10,14,15,17,18,20] 900 rfl ?_))))
      refine JF.str rfl (fun w' hst => hos1.rds hst (fun x hx => List.mem_append.2 (.inr (List.mem_append.2 (.inl hx))))) (by exact fun x hx => nomatch hx) ?_
      refine J.go [8,10,14,15,17,18,20] 900 rfl ?_
      refine JF.str rfl (fun w' hst => hos2.rds hst (fun x hx => List.mem_append.2 (.inl hx))) (by exact fun x hx => nomatch hx) ?_
      refine J.go [8,10,14,15,17,18,20] 900 rfl ?_
      rw [bS_ne]
      refine J.go [8,10,14,15,17,18,20] 900 rfl ?_
      (repeat' (first | ((first | refine JF.l1 0 rfl rfl rfl rfl ?_ | refine JF.ln 0 rfl rfl rfl rfl ?_ | refine JF.l1 1 rfl rfl rfl rfl ?_ | refine JF.ln 1 rfl rfl rfl rfl ?_ | refine JF.l1 2 rfl rfl rfl rfl ?_ | refine JF.ln 2 rfl rfl rfl rfl ?_ | refine JF.l1 3 rfl rfl rfl rfl ?_ | refine JF.ln 3 rfl rfl rfl rfl ?_ | refine JF.l1 4 rfl rfl rfl rfl ?_ | refine JF.ln 4 rfl rfl rfl rfl ?_ | refine JF.l1 5 rfl rfl rfl rfl ?_ | refine JF.ln 5 rfl rfl rfl rfl ?_ | refine JF.l1 6 rfl rfl rfl rfl ?_ | refine JF.ln 6 rfl rfl rfl rfl ?_ | refine JF.l1 7 rfl rfl rfl rfl ?_ | refine JF.ln 7 rfl rfl rfl rfl ?_); refine J.go [8,10,14,15,17,18,20] 900 rfl ?_) | (refine JF.chk rfl ?_ ?_; (focus ((repeat' (apply And.intro)) <;> (first | exact True.intro | omega))); refine J.go [8,10,14,15,17,18,20] 900 rfl ?_) | (((first | refine JF.condD rfl ?_ ?_ | refine JF.condE rfl ?_ ?_ | refine JF.condN rfl ?_ ?_ | refine JF.guardD rfl ?_ ?_ | refine JF.guardE rfl ?_ ?_ | refine JF.guardN rfl ?_ ?_ | refine JF.cond rfl ?_ ?_ | refine JF.guard rfl ?_ ?_) <;> intro h) <;> (first | (exact absurd h Bool.false_ne_true) | (exact absurd h.symm Bool.false_ne_true) | (exact absurd rfl h) | (exfalso; omega) | refine J.go [8,10,14,15,17,18,20] 900 rfl ?_))))
      rw [e1]
      exact JF.round (i + 1, M, B, T) ⟨hlt, hM, hX, hB, hlen⟩ (by dsimp only; omega) ⟨rfl, rfl, rfl, rfl, rfl, trivial⟩ trivial ((List.sublist_append_right _ _).trans (List.sublist_append_right _ _))
    · obtain ⟨bf, h1, rfl, h2⟩ := hf.tr hst hx
      refine ⟨_, h2, ?_⟩
      refine J.go [8,10,14,15,17,18,20] 900 rfl ?_
      refine JF.callV _ rfl (fun w1 hst => rload_ok act.at_ act.n w1 (hst.here (subX.cons _)) hX ho2 ho3) fun w1 r w2 hst hq => ?_
      obtain ⟨hx, ⟨h, _⟩ | ⟨_, rfl⟩⟩ := hq
      · exact absurd h hok1
      refine ⟨_, Tr.same hst hx (fun x hx => nomatch hx), ?_⟩
      refine J.go [8,10,14,15,17,18,20] 900 rfl ?_
      refine JF.callF _ rfl (fun w1 hst => tells_at (x := true) _ (some (_, _, _)) _ _ _ w1 (hG.keep hst.ext (fun h => h)) ⟨bf, rfl, hst.blk _ (.head _)⟩ (tells_same (by decide) rfl)) (fun x hx => nomatch hx) ?_
      refine J.go [8,10,14,15,17,18,20] 900 rfl ?_
      (repeat' (first | ((first | refine JF.l1 0 rfl rfl rfl rfl ?_ | refine JF.ln 0 rfl rfl rfl rfl ?_ | refine JF.l1 1 rfl rfl rfl rfl ?_ | refine JF.ln 1 rfl rfl rfl rfl ?_ | refine JF.l1 2 rfl rfl rfl rfl ?_ | refine JF.ln 2 rfl rfl rfl rfl ?_ | refine JF.l1 3 rfl rfl rfl rfl ?_ | refine JF.ln 3 rfl rfl rfl rfl ?_ | refine JF.l1 4 rfl rfl rfl rfl ?_ | refine JF.ln 4 rfl rfl rfl rfl ?_ | refine JF.l1 5 rfl rfl rfl rfl ?_ | refine JF.ln 5 rfl rfl rfl rfl ?_ | refine JF.l1 6 rfl rfl rfl rfl ?_ | refine JF.ln 6 rfl rfl rfl rfl ?_ | refine JF.l1 7 rfl rfl rfl rfl ?_ | refine JF.ln 7 rfl rfl rfl rfl ?_); refine J.go [8,10,14,15,17,18,20] 900 rfl ?_) | (refine JF.chk rfl ?_ ?_; (focus ((repeat' (apply And.intro)) <;> (first | exact True.intro | omega))); refine J.go [8,10,14,15,17,18,20] 900 rfl ?_) | (((first | refine JF.condD rfl ?_ ?_ | refine JF.condE rfl ?_ ?_ | refine JF.condN rfl ?_ ?_ | refine JF.guardD rfl ?_ ?_ | refine JF.guardE rfl ?_ ?_ | refine JF.guardN rfl ?_ ?_ | refine JF.cond rfl ?_ ?_ | refine JF.guard rfl ?_ ?_) <;> intro h) <;> (first | (exact absurd h Bool.false_ne_true) | (exact absurd h.symm Bool.false_ne_true) | (exact absurd rfl h) | (exfalso; omega) | refine J.go [8,10,14,15,17,18,20] 900 rfl ?_))))
      refine JF.str (l := []) rfl (fun w' hst => RdS.nil none 0) (by exact fun x hx => nomatch hx) ?_
      refine J.go [8,10,14,15,17,18,20] 900 rfl ?_
      refine JF.str (l := []) rfl (fun w' hst => RdS.nil none 0) (by exact fun x hx => nomatch hx) ?_
      refine J.go [8,10,14,15,17,18,20] 900 rfl ?_
      rw [bS_ne]
      refine J.go [8,10,14,15,17,18,20] 900 rfl ?_
      (repeat' (first | ((first | refine JF.l1 0 rfl rfl rfl rfl ?_ | refine JF.ln 0 rfl rfl rfl rfl ?_ | refine JF.l1 1 rfl rfl rfl rfl ?_ | refine JF.ln 1 rfl rfl rfl rfl ?_ | refine JF.l1 2 rfl rfl rfl rfl ?_ | refine JF.ln 2 rfl rfl rfl rfl ?_ | refine JF.l1 3 rfl rfl rfl rfl ?_ | refine JF.ln 3 rfl rfl rfl rfl ?_ | refine JF.l1 4 rfl rfl rfl rfl ?_ | refine JF.ln 4 rfl rfl rfl rfl ?_ | refine JF.l1 5 rfl rfl rfl rfl ?_ | refine JF.ln 5 rfl rfl rfl rfl ?_ | refine JF.l1 6 rfl rfl rfl rfl ?_ | refine JF.ln 6 rfl rfl rfl rfl ?_ | refine JF.l1 7 rfl rfl rfl rfl ?_ | refine JF.ln 7 rfl rfl rfl rfl ?_); refine J.go [8,10,14,15,17,18,20] 900 rfl ?_) | (refine JF.chk rfl ?_ ?_; (focus ((repeat' (apply And.intro)) <;> (first | exact True.intro | omega))); refine J.go [8,10,14,15,17,18,20] 900 rfl ?_) | (((first | refine JF.condD rfl ?_ ?_ | refine JF.condE rfl ?_ ?_ | refine JF.condN rfl ?_ ?_ | refine JF.guardD rfl ?_ ?_ | refine JF.guardE rfl ?_ ?_ | refine JF.guardN rfl ?_ ?_ | refine JF.cond rfl ?_ ?_ | refine JF.guard rfl ?_ ?_) <;> intro h) <;> (first | (exact absurd h Bool.false_ne_true) | (exact absurd h.symm Bool.false_ne_true) | (exact absurd rfl h) | (exfalso; omega) | refine J.go [8,10,14,15,17,18,20] 900 rfl ?_))))
      rw [e1]
      exact JF.round (i + 1, M, B, T) ⟨hlt, hM, hX, hB, hlen⟩ (by dsimp only; omega) ⟨rfl, rfl, rfl, rfl, rfl, trivial⟩ trivial (List.sublist_cons_self _ _)
  · -- a capability is loaded
    refine JF.callV _ rfl (fun w1 hst => loadCap_ok act.at_ w1 (hG.keep hst.ext (fun h => h)) (hst.here subM) hM ho2 hB) fun w1 r w2 hst hq => ?_
    obtain ⟨hx, ⟨hok1, rfl⟩ | ⟨hok1, f, rfl, hf⟩⟩ := hq
    · refine ⟨_, Tr.same hst hx (fun x hx => nomatch hx), ?_⟩
      refine J.go [8,10,14,15,17,18,20] 900 rfl ?_
      refine JF.callV _ rfl (fun w1 hst => rloadCap_ok act.at_ w1 (hst.here subX) hX ho2 hB) fun w1 r w2 hst hq => ?_
      obtain ⟨hx, ⟨_, rfl⟩ | ⟨h, _⟩⟩ := hq
      case inr => exact absurd hok1 h
      refine ⟨_, Tr.same hst hx (fun x hx => nomatch hx), ?_⟩
      refine J.go [8,10,14,15,17,18,20] 900 rfl ?_
      refine JF.draw [15, 17, 18] [] rfl (fun x hx => nomatch hx) ?_
      refine J.go [8,10,14,15,17,18,20] 900 rfl ?_
      refine JF.callF _ rfl (fun w1 hst => tells_at (x := true) _ none _ _ _ w1 (hG.keep hst.ext (fun h => h)) rfl rfl) (fun x hx => nomatch hx) ?_
      refine J.go [8,10,14,15,17,18,20] 900 rfl ?_
      (repeat' (first | ((first | refine JF.l1 0 rfl rfl rfl rfl ?_ | refine JF.ln 0 rfl rfl rfl rfl ?_ | refine JF.l1 1 rfl rfl rfl rfl ?_ | refine JF.ln 1 rfl rfl rfl rfl ?_ | refine JF.l1 2 rfl rfl rfl rfl ?_ | refine JF.ln 2 rfl rfl rfl rfl ?_ | refine JF.l1 3 rfl rfl rfl rfl ?_ | refine JF.ln 3 rfl rfl rfl rfl ?_ | refine JF.l1 4 rfl rfl rfl rfl ?_ | refine JF.ln 4 rfl rfl rfl rfl ?_ | refine JF.l1 5 rfl rfl rfl rfl ?_ | refine JF.ln 5 rfl rfl rfl rfl ?_ | refine JF.l1 6 rfl rfl rfl rfl ?_ | refine JF.ln 6 rfl rfl rfl rfl ?_ | refine JF.l1 7 rfl rfl rfl rfl ?_ | refine JF.ln 7 rfl rfl rfl rfl ?_); refine J.go [8,10,14,15,17,18,20] 900 rfl ?_) | (refine JF.chk rfl ?_ ?_; (focus ((repeat' (apply And.intro)) <;> (first | exact True.intro | omega))); refine J.go [8,10,14,15,17,18,20] 900 rfl ?_) | (((first | refine JF.condD rfl ?_ ?_ | refine JF.condE rfl ?_ ?_ | refine JF.condN rfl ?_ ?_ | refine JF.guardD rfl ?_ ?_ | refine JF.guardE rfl ?_ ?_ | refine JF.guardN rfl ?_ ?_ | refine JF.cond rfl ?_ ?_ | refine JF.guard rfl ?_ ?_) <;> intro h) <;> (first | (exact absurd h Bool.false_ne_true) | (exact absurd h.symm Bool.false_ne_true) | (exact absurd rfl h) | (exfalso; omega) | refine J.go [8,10,14,15,17,18,20] 900 rfl ?_))))
      refine JF.callF _ rfl (fun w1 hst => of_ok (capAt B T act.at_) w1) (by exact fun x hx => nomatch hx) ?_
      refine J.go [8,10,14,15,17,18,20] 900 rfl ?_
      refine JF.cond rfl (fun h => ?_) (fun h => ?_)
      · exfalso; simp at h
      refine J.go [8,10,14,15,17,18,20] 900 rfl ?_
      rw [e1]
      exact JF.round (i + 1, M, B, T) ⟨hlt, hM, hX, hB, hlen⟩ (by dsimp only; omega) ⟨rfl, rfl, rfl, rfl, rfl, trivial⟩ trivial (List.Sublist.refl _)
    · obtain ⟨bf, h1, rfl, h2⟩ := hf.tr hst hx
      refine ⟨_, h2, ?_⟩
      refine J.go [8,10,14,15,17,18,20] 900 rfl ?_
      refine JF.callV _ rfl (fun w1 hst => rloadCap_ok act.at_ w1 (hst.here (subX.cons _)) hX ho2 hB) fun w1 r w2 hst hq => ?_
      obtain ⟨hx, ⟨h, _⟩ | ⟨_, rfl⟩⟩ := hq
      · exact absurd h hok1
      refine ⟨_, Tr.same hst hx (fun x hx => nomatch hx), ?_⟩
      refine J.go [8,10,14,15,17,18,20] 900 rfl ?_
      refine JF.draw [15, 17, 18] [] rfl (fun x hx => nomatch hx) ?_
      refine J.go [8,10,14,15,17,18,20] 900 rfl ?_
      refine JF.callF _ rfl (fun w1 hst => tells_at (x := true) _ (some (_, _, _)) _ _ _ w1 (hG.keep hst.ext (fun h => h)) ⟨bf, rfl, hst.blk _ (.head _)⟩ (tells_same (capNo_ne _ _) rfl)) (fun x hx => nomatch hx) ?_
      refine J.go [8,10,14,15,17,18,20] 900 rfl ?_
      (repeat' (first | ((first | refine JF.l1 0 rfl rfl rfl rfl ?_ | refine JF.ln 0 rfl rfl rfl rfl ?_ | refine JF.l1 1 rfl rfl rfl rfl ?_ | refine JF.ln 1 rfl rfl rfl rfl ?_ | refine JF.l1 2 rfl rfl rfl rfl ?_ | refine JF.ln 2 rfl rfl rfl rfl ?_ | refine JF.l1 3 rfl rfl rfl rfl ?_ | refine JF.ln 3 rfl rfl rfl rfl ?_ | refine JF.l1 4 rfl rfl rfl rfl ?_ | refine JF.ln 4 rfl rfl rfl rfl ?_ | refine JF.l1 5 rfl rfl rfl rfl ?_ | refine JF.ln 5 rfl rfl rfl rfl ?_ | refine JF.l1 6 rfl rfl rfl rfl ?_ | refine JF.ln 6 rfl rfl rfl rfl ?_ | refine JF.l1 7 rfl rfl rfl rfl ?_ | refine JF.ln 7 rfl rfl rfl rfl ?_); refine J.go [8,10,14,15,17,18,20] 900 rfl ?_) | (refine JF.chk rfl ?_ ?_; (focus ((repeat' (apply And.intro)) <;> (first | exact True.intro | omega))); refine J.go [8,10,14,15,17,18,20] 900 rfl ?_) | (((first | refine JF.condD rfl ?_ ?_ | refine JF.condE rfl ?_ ?_ | refine JF.condN rfl ?_ ?_ | refine JF.guardD rfl ?_ ?_ | refine JF.guardE rfl ?_ ?_ | refine JF.guardN rfl ?_ ?_ | refine JF.cond rfl ?_ ?_ | refine JF.guard rfl ?_ ?_) <;> intro h) <;> (first | (exact absurd h Bool.false_ne_true) | (exact absurd h.symm Bool.false_ne_true) | (exact absurd rfl h) | (exfalso; omega) | refine J.go [8,10,14,15,17,18,20] 900 rfl ?_))))
      refine JF.callF _ rfl (fun w1 hst => of_ok cap0 w1) (by exact fun x hx => nomatch hx) ?_
      refine J.go [8,10,14,15,17,18,20] 900 rfl ?_
      refine JF.cond rfl (fun h => ?_) (fun h => ?_)
      · exact absurd h (by decide)
      refine J.go [8,10,14,15,17,18,20] 900 rfl ?_
      rw [e1]
      exact JF.round (i + 1, M, B, T) ⟨hlt, hM, hX, hB, hlen⟩ (by dsimp only; omega) ⟨rfl, rfl, rfl, rfl, rfl, trivial⟩ trivial (List.sublist_cons_self _ _)
  · -- zeros, beyond its size
    rw [e3]
    refine JF.draw [10] [] rfl (fun x hx => nomatch hx) ?_
    refine J.go [8,10,14,15,17,18,20] 900 rfl ?_
    refine JF.mk1 rfl rfl u_bytes y_byte rfl (by omega) (by omega) (by omega) (by omega) (fun x hx => nomatch hx) fun q hq => ?_
    refine J.go [8,10,14,15,17,18,20] 900 rfl ?_
    refine JF.callV _ rfl (fun w1 hst => rstore_ok (l := zB (size + 1)) act.at_ w1 (hst.here (subX.cons _)) hX ho2 (rd_fst (sp := []) hst (.head _) rfl (by simp [byC, zB]) (by simp [byC, zB])) (fun b' o' hb _ => by
      cases hb
      have h3 := List.pairwise_cons.1 hst.dis
      exact ⟨h3.1 _ (.head _), h3.1 _ (.tail _ (.head _)), h3.1 _ (.tail _ (.tail _ (.head _)))⟩) (by omega)) fun w1 r w2 hst hq => ?_
    have hno : ¬ okR B.length act.at_ (size + 1) := fun h => by obtain ⟨_, _, _⟩ := h; omega
    obtain ⟨hx, ⟨h, _⟩ | ⟨_, rfl, hh⟩⟩ := hq
    · exact absurd (by rw [Int.toNat_of_nonneg (by omega)] at h; exact h) hno
    refine ⟨_, Tr.memN (A := [_]) (C := memL 85 M true B T ++ A) (N := []) hst hx hh (News.nil _ _) (by exact fun x hx => nomatch hx), ?_⟩
    refine J.go [8,10,14,15,17,18,20] 900 rfl ?_
    refine JF.draw [10, 20] [] rfl (fun x hx => nomatch hx) ?_
    refine J.go [8,10,14,15,17,18,20] 900 rfl ?_
    refine JF.callV _ rfl (fun w1 hst => zero_ok act.at_ (size + 1) w1 (hst.here (subM.cons _)) hM ho2 (by constructor <;> omega)) fun w1 r w2 hst hq => ?_
    obtain ⟨hx, ⟨h, _⟩ | ⟨_, hf, hh⟩⟩ := hq
    · exact absurd h hno
    obtain ⟨bf, rfl, hn⟩ := hf.news
    refine ⟨_, Tr.memN (A := _ :: memL 61 X true B T) (C := A) (N := [_]) hst hx hh hn (by exact fun x hx => nomatch hx), ?_⟩
    refine J.go [8,10,14,15,17,18,20] 900 rfl ?_
    refine JF.callF _ rfl (fun w1 hst => tells_at (x := true) _ (some (_, _, _)) _ _ _ w1 (hG.keep hst.ext (fun h => h)) ⟨bf, rfl, hst.blk _ (.head _)⟩ (tells_same (by decide) rfl)) (fun x hx => nomatch hx) ?_
    refine J.go [8,10,14,15,17,18,20] 900 rfl ?_
    (repeat' (first | ((first | refine JF.l1 0 rfl rfl rfl rfl ?_ | refine JF.ln 0 rfl rfl rfl rfl ?_ | refine JF.l1 1 rfl rfl rfl rfl ?_ | refine JF.ln 1 rfl rfl rfl rfl ?_ | refine JF.l1 2 rfl rfl rfl rfl ?_ | refine JF.ln 2 rfl rfl rfl rfl ?_ | refine JF.l1 3 rfl rfl rfl rfl ?_ | refine JF.ln 3 rfl rfl rfl rfl ?_ | refine JF.l1 4 rfl rfl rfl rfl ?_ | refine JF.ln 4 rfl rfl rfl rfl ?_ | refine JF.l1 5 rfl rfl rfl rfl ?_ | refine JF.ln 5 rfl rfl rfl rfl ?_ | refine JF.l1 6 rfl rfl rfl rfl ?_ | refine JF.ln 6 rfl rfl rfl rfl ?_ | refine JF.l1 7 rfl rfl rfl rfl ?_ | refine JF.ln 7 rfl rfl rfl rfl ?_); refine J.go [8,10,14,15,17,18,20] 900 rfl ?_) | (refine JF.chk rfl ?_ ?_; (focus ((repeat' (apply And.intro)) <;> (first | exact True.intro | omega))); refine J.go [8,10,14,15,17,18,20] 900 rfl ?_) | (((first | refine JF.condD rfl ?_ ?_ | refine JF.condE rfl ?_ ?_ | refine JF.condN rfl ?_ ?_ | refine JF.guardD rfl ?_ ?_ | refine JF.guardE rfl ?_ ?_ | refine JF.guardN rfl ?_ ?_ | refine JF.cond rfl ?_ ?_ | refine JF.guard rfl ?_ ?_) <;> intro h) <;> (first | (exact absurd h Bool.false_ne_true) | (exact absurd h.symm Bool.false_ne_true) | (exact absurd rfl h) | (exfalso; omega) | refine J.go [8,10,14,15,17,18,20] 900 rfl ?_))))
    rw [e1]
    exact JF.round (i + 1, M, B, T) ⟨hlt, hM, hX, hB, hlen⟩ (by dsimp only; omega) ⟨rfl, rfl, rfl, rfl, rfl, trivial⟩ trivial ((List.sublist_cons_self _ _).trans (List.sublist_cons_self _ _))
  · -- zeros
    refine JF.draw [10] [] rfl (fun x hx => nomatch hx) ?_
    refine J.go [8,10,14,15,17,18,20] 900 rfl ?_
    refine JF.mk1 rfl rfl u_bytes y_byte rfl (by omega) (by omega) (by omega) (by omega) (fun x hx => nomatch hx) fun q hq => ?_
    refine J.go [8,10,14,15,17,18,20] 900 rfl ?_
    refine JF.callV _ rfl (fun w1 hst => rstore_ok (l := zB act.n) act.at_ w1 (hst.here (subX.cons _)) hX ho2 (rd_fst (sp := []) hst (.head _) rfl (by simp [byC, zB]) (by simp [byC, zB])) (fun b' o' hb _ => by
      cases hb
      have h3 := List.pairwise_cons.1 hst.dis
      exact ⟨h3.1 _ (.head _), h3.1 _ (.tail _ (.head _)), h3.1 _ (.tail _ (.tail _ (.head _)))⟩) (by omega)) fun w1 r w2 hst hq => ?_
    rw [Int.toNat_of_nonneg h] at hq
    have hzl : (zB act.n).length = act.n.toNat := by simp [zB]
    obtain ⟨hx, ⟨hok1, rfl, hh⟩ | ⟨hno, rfl, hh⟩⟩ := hq
    · have hBl : (wrB B act.at_.toNat (zB act.n)).length = B.length := wrB_len (by obtain ⟨_, _, _⟩ := hok1; omega)
      have hTl := clT_len T act.at_.toNat act.n.toNat
      refine ⟨_, Tr.memN (A := [_]) (C := memL 85 M true B T ++ A) (N := []) hst hx hh (News.nil _ _) (by exact fun x hx => nomatch hx), ?_⟩
      refine J.go [8,10,14,15,17,18,20] 900 rfl ?_
      refine JF.draw [10, 20] [] rfl (fun x hx => nomatch hx) ?_
      refine J.go [8,10,14,15,17,18,20] 900 rfl ?_
      refine JF.callV _ rfl (fun w1 hst => zero_ok act.at_ act.n w1 (hst.here (((List.sublist_append_left _ _).trans (List.sublist_append_right _ _)).cons _)) hM ho2 ho3) fun w1 r w2 hst hq => ?_
      obtain ⟨hx, ⟨_, rfl, hh⟩ | ⟨h, _⟩⟩ := hq
      case inr => exact absurd hok1 h
      refine ⟨_, Tr.memN (A := _ :: memL 61 X true (wrB B act.at_.toNat (zB act.n)) (clT T act.at_.toNat act.n.toNat)) (C := A) (N := []) hst hx hh (News.nil _ _) (by exact fun x hx => nomatch hx), ?_⟩
      refine J.go [8,10,14,15,17,18,20] 900 rfl ?_
      refine JF.callF _ rfl (fun w1 hst => tells_at (x := true) _ none _ _ _ w1 (hG.keep hst.ext (fun h => h)) rfl rfl) (fun x hx => nomatch hx) ?_
      refine J.go [8,10,14,15,17,18,20] 900 rfl ?_
      (repeat' (first | ((first | refine JF.l1 0 rfl rfl rfl rfl ?_ | refine JF.ln 0 rfl rfl rfl rfl ?_ | refine JF.l1 1 rfl rfl rfl rfl ?_ | refine JF.ln 1 rfl rfl rfl rfl ?_ | refine JF.l1 2 rfl rfl rfl rfl ?_ | refine JF.ln 2 rfl rfl rfl rfl ?_ | refine JF.l1 3 rfl rfl rfl rfl ?_ | refine JF.ln 3 rfl rfl rfl rfl ?_ | refine JF.l1 4 rfl rfl rfl rfl ?_ | refine JF.ln 4 rfl rfl rfl rfl ?_ | refine JF.l1 5 rfl rfl rfl rfl ?_ | refine JF.ln 5 rfl rfl rfl rfl ?_ | refine JF.l1 6 rfl rfl rfl rfl ?_ | refine JF.ln 6 rfl rfl rfl rfl ?_ | refine JF.l1 7 rfl rfl rfl rfl ?_ | refine JF.ln 7 rfl rfl rfl rfl ?_); refine J.go [8,10,14,15,17,18,20] 900 rfl ?_) | (refine JF.chk rfl ?_ ?_; (focus ((repeat' (apply And.intro)) <;> (first | exact True.intro | omega))); refine J.go [8,10,14,15,17,18,20] 900 rfl ?_) | (((first | refine JF.condD rfl ?_ ?_ | refine JF.condE rfl ?_ ?_ | refine JF.condN rfl ?_ ?_ | refine JF.guardD rfl ?_ ?_ | refine JF.guardE rfl ?_ ?_ | refine JF.guardN rfl ?_ ?_ | refine JF.cond rfl ?_ ?_ | refine JF.guard rfl ?_ ?_) <;> intro h) <;> (first | (exact absurd h Bool.false_ne_true) | (exact absurd h.symm Bool.false_ne_true) | (exact absurd rfl h) | (exfalso; omega) | refine J.go [8,10,14,15,17,18,20] 900 rfl ?_))))
      rw [e1]
      exact JF.round (i + 1, M, wrB B act.at_.toNat (zB act.n), clT T act.at_.toNat act.n.toNat) ⟨hlt, okM_of hM hBl hTl, okM_of hX hBl hTl, isB_wrB hB (isB_zB _), by dsimp only; omega⟩ (by dsimp only; omega) ⟨rfl, rfl, rfl, rfl, rfl, trivial⟩ trivial (List.sublist_cons_self _ _)
    · refine ⟨_, Tr.memN (A := [_]) (C := memL 85 M true B T ++ A) (N := []) hst hx hh (News.nil _ _) (by exact fun x hx => nomatch hx), ?_⟩
      refine J.go [8,10,14,15,17,18,20] 900 rfl ?_
      refine JF.draw [10, 20] [] rfl (fun x hx => nomatch hx) ?_
      refine J.go [8,10,14,15,17,18,20] 900 rfl ?_
      refine JF.callV _ rfl (fun w1 hst => zero_ok act.at_ act.n w1 (hst.here (subM.cons _)) hM ho2 ho3) fun w1 r w2 hst hq => ?_
      obtain ⟨hx, ⟨h, _⟩ | ⟨_, hf, hh⟩⟩ := hq
      · exact absurd h hno
      obtain ⟨bf, rfl, hn⟩ := hf.news
      refine ⟨_, Tr.memN (A := _ :: memL 61 X true B T) (C := A) (N := [_]) hst hx hh hn (by exact fun x hx => nomatch hx), ?_⟩
      refine J.go [8,10,14,15,17,18,20] 900 rfl ?_
      refine JF.callF _ rfl (fun w1 hst => tells_at (x := true) _ (some (_, _, _)) _ _ _ w1 (hG.keep hst.ext (fun h => h)) ⟨bf, rfl, hst.blk _ (.head _)⟩ (tells_same (by decide) rfl)) (fun x hx => nomatch hx) ?_
      refine J.go [8,10,14,15,17,18,20] 900 rfl ?_
      (repeat' (first | ((first | refine JF.l1 0 rfl rfl rfl rfl ?_ | refine JF.ln 0 rfl rfl rfl rfl ?_ | refine JF.l1 1 rfl rfl rfl rfl ?_ | refine JF.ln 1 rfl rfl rfl rfl ?_ | refine JF.l1 2 rfl rfl rfl rfl ?_ | refine JF.ln 2 rfl rfl rfl rfl ?_ | refine JF.l1 3 rfl rfl rfl rfl ?_ | refine JF.ln 3 rfl rfl rfl rfl ?_ | refine JF.l1 4 rfl rfl rfl rfl ?_ | refine JF.ln 4 rfl rfl rfl rfl ?_ | refine JF.l1 5 rfl rfl rfl rfl ?_ | refine JF.ln 5 rfl rfl rfl rfl ?_ | refine JF.l1 6 rfl rfl rfl rfl ?_ | refine JF.ln 6 rfl rfl rfl rfl ?_ | refine JF.l1 7 rfl rfl rfl rfl ?_ | refine JF.ln 7 rfl rfl rfl rfl ?_); refine J.go [8,10,14,15,17,18,20] 900 rfl ?_) | (refine JF.chk rfl ?_ ?_; (focus ((repeat' (apply And.intro)) <;> (first | exact True.intro | omega))); refine J.go [8,10,14,15,17,18,20] 900 rfl ?_) | (((first | refine JF.condD rfl ?_ ?_ | refine JF.condE rfl ?_ ?_ | refine JF.condN rfl ?_ ?_ | refine JF.guardD rfl ?_ ?_ | refine JF.guardE rfl ?_ ?_ | refine JF.guardN rfl ?_ ?_ | refine JF.cond rfl ?_ ?_ | refine JF.guard rfl ?_ ?_) <;> intro h) <;> (first | (exact absurd h Bool.false_ne_true) | (exact absurd h.symm Bool.false_ne_true) | (exact absurd rfl h) | (exfalso; omega) | refine J.go [8,10,14,15,17,18,20] 900 rfl ?_))))
      rw [e1]
      exact JF.round (i + 1, M, B, T) ⟨hlt, hM, hX, hB, hlen⟩ (by dsimp only; omega) ⟨rfl, rfl, rfl, rfl, rfl, trivial⟩ trivial ((List.sublist_cons_self _ _).trans (List.sublist_cons_self _ _))
  · -- fewer than none
    refine JF.draw [10, 20] [] rfl (fun x hx => nomatch hx) ?_
    refine J.go [8,10,14,15,17,18,20] 900 rfl ?_
    refine JF.callV _ rfl (fun w1 hst => zero_ok act.at_ act.n w1 (hst.here subM) hM ho2 ho3) fun w1 r w2 hst hq => ?_
    obtain ⟨hx, ⟨hk, _⟩ | ⟨_, hf, hh⟩⟩ := hq
    · exact absurd hk.2.1 h
    obtain ⟨bf, rfl, hn⟩ := hf.news
    refine ⟨_, Tr.memN (A := memL 61 X true B T) (C := A) (N := [_]) hst hx hh hn (by exact fun x hx => nomatch hx), ?_⟩
    refine J.go [8,10,14,15,17,18,20] 900 rfl ?_
    refine JF.callF _ rfl (fun w1 hst => tells_at (x := true) _ (some (_, _, _)) _ _ _ w1 (hG.keep hst.ext (fun h => h)) ⟨bf, rfl, hst.blk _ (.head _)⟩ (tells_same (by decide) rfl)) (fun x hx => nomatch hx) ?_
    refine J.go [8,10,14,15,17,18,20] 900 rfl ?_
    (repeat' (first | ((first | refine JF.l1 0 rfl rfl rfl rfl ?_ | refine JF.ln 0 rfl rfl rfl rfl ?_ | refine JF.l1 1 rfl rfl rfl rfl ?_ | refine JF.ln 1 rfl rfl rfl rfl ?_ | refine JF.l1 2 rfl rfl rfl rfl ?_ | refine JF.ln 2 rfl rfl rfl rfl ?_ | refine JF.l1 3 rfl rfl rfl rfl ?_ | refine JF.ln 3 rfl rfl rfl rfl ?_ | refine JF.l1 4 rfl rfl rfl rfl ?_ | refine JF.ln 4 rfl rfl rfl rfl ?_ | refine JF.l1 5 rfl rfl rfl rfl ?_ | refine JF.ln 5 rfl rfl rfl rfl ?_ | refine JF.l1 6 rfl rfl rfl rfl ?_ | refine JF.ln 6 rfl rfl rfl rfl ?_ | refine JF.l1 7 rfl rfl rfl rfl ?_ | refine JF.ln 7 rfl rfl rfl rfl ?_); refine J.go [8,10,14,15,17,18,20] 900 rfl ?_) | (refine JF.chk rfl ?_ ?_; (focus ((repeat' (apply And.intro)) <;> (first | exact True.intro | omega))); refine J.go [8,10,14,15,17,18,20] 900 rfl ?_) | (((first | refine JF.condD rfl ?_ ?_ | refine JF.condE rfl ?_ ?_ | refine JF.condN rfl ?_ ?_ | refine JF.guardD rfl ?_ ?_ | refine JF.guardE rfl ?_ ?_ | refine JF.guardN rfl ?_ ?_ | refine JF.cond rfl ?_ ?_ | refine JF.guard rfl ?_ ?_) <;> intro h) <;> (first | (exact absurd h Bool.false_ne_true) | (exact absurd h.symm Bool.false_ne_true) | (exact absurd rfl h) | (exfalso; omega) | refine J.go [8,10,14,15,17,18,20] 900 rfl ?_))))
    rw [e1]
    exact JF.round (i + 1, M, B, T) ⟨hlt, hM, hX, hB, hlen⟩ (by dsimp only; omega) ⟨rfl, rfl, rfl, rfl, rfl, trivial⟩ trivial (List.sublist_cons_self _ _)
  · -- a twin; the elder one is zeroed
    refine JF.callV _ rfl (fun w1 hst => twin_ok w1 (hst.here subM) hM) fun w1 r w2 hst hq => ?_
    obtain ⟨hx, N, rfl, hN, hnew⟩ := hq
    refine ⟨_, Tr.news hst hx hnew (fun x hx => nomatch hx), ?_⟩
    refine J.go [8,10,14,15,17,18,20] 900 rfl ?_
    refine JF.callF _ rfl (fun w1 hst => same_ok w1 (hst.here (List.Sublist.refl _)) (fun x hx => List.mem_append.2 (.inl hx)) (fun x hx => List.mem_append.2 (.inr (subM.subset hx))) hN hM hB hB) (fun x hx => nomatch hx) ?_
    rw [decide_eq_true ⟨rfl, rfl⟩]
    refine J.go [8,10,14,15,17,18,20] 900 rfl ?_
    (repeat' (first | ((first | refine JF.l1 0 rfl rfl rfl rfl ?_ | refine JF.ln 0 rfl rfl rfl rfl ?_ | refine JF.l1 1 rfl rfl rfl rfl ?_ | refine JF.ln 1 rfl rfl rfl rfl ?_ | refine JF.l1 2 rfl rfl rfl rfl ?_ | refine JF.ln 2 rfl rfl rfl rfl ?_ | refine JF.l1 3 rfl rfl rfl rfl ?_ | refine JF.ln 3 rfl rfl rfl rfl ?_ | refine JF.l1 4 rfl rfl rfl rfl ?_ | refine JF.ln 4 rfl rfl rfl rfl ?_ | refine JF.l1 5 rfl rfl rfl rfl ?_ | refine JF.ln 5 rfl rfl rfl rfl ?_ | refine JF.l1 6 rfl rfl rfl rfl ?_ | refine JF.ln 6 rfl rfl rfl rfl ?_ | refine JF.l1 7 rfl rfl rfl rfl ?_ | refine JF.ln 7 rfl rfl rfl rfl ?_); refine J.go [8,10,14,15,17,18,20] 900 rfl ?_) | (refine JF.chk rfl ?_ ?_; (focus ((repeat' (apply And.intro)) <;> (first | exact True.intro | omega))); refine J.go [8,10,14,15,17,18,20] 900 rfl ?_) | (((first | refine JF.condD rfl ?_ ?_ | refine JF.condE rfl ?_ ?_ | refine JF.condN rfl ?_ ?_ | refine JF.guardD rfl ?_ ?_ | refine JF.guardE rfl ?_ ?_ | refine JF.guardN rfl ?_ ?_ | refine JF.cond rfl ?_ ?_ | refine JF.guard rfl ?_ ?_) <;> intro h) <;> (first | (exact absurd h Bool.false_ne_true) | (exact absurd h.symm Bool.false_ne_true) | (exact absurd rfl h) | (exfalso; omega) | refine J.go [8,10,14,15,17,18,20] 900 rfl ?_))))
    refine JF.callV _ rfl (fun w1 hst => zero_ok 0 size w1 (hst.here (subM.trans (List.sublist_append_right _ _))) hM (by decide) hs) fun w1 r w2 hst hq => ?_
    obtain ⟨hx, ⟨_, rfl, hh⟩ | ⟨h, _⟩⟩ := hq
    case inr => exact absurd ⟨by decide, by have := hok.1; omega, by omega⟩ h
    refine ⟨_, Tr.memN (A := memL 85 N true B T ++ memL 61 X true B T) (C := A) (N := []) hst hx hh (News.nil _ _) (by exact fun x hx => nomatch hx), ?_⟩
    refine J.go [8,10,14,15,17,18,20] 900 rfl ?_
    rw [e1]
    refine JF.drop (L' := memL 85 N true B T ++ (memL 61 X true B T ++ A)) ?_ ?_
    · exact (List.Sublist.refl _).append ((List.Sublist.refl _).append (List.sublist_append_right _ _))
    refine JF.perm (L' := memL 61 X true B T ++ (memL 85 N true B T ++ A)) ?_ ?_
    · rw [← List.append_assoc, ← List.append_assoc]
      exact List.perm_append_comm.append_right A
    exact JF.round (i + 1, N, B, T) ⟨hlt, hN, hX, hB, hlen⟩ (by dsimp only; omega) ⟨rfl, rfl, rfl, rfl, rfl, trivial⟩ trivial (List.Sublist.refl _)
  · -- whether there is a capability
    refine JF.draw [10] (memL 61 X true B T) rfl (fun x hx => subX.subset hx) ?_
    by_cases hin : 0 ≤ act.at_ ∧ act.at_ < size
    · obtain ⟨hin1, hin2⟩ := hin
      have e2 : IntKind.i64.wrap (act.at_.tdiv 16) = ((act.at_.toNat / 16 : Nat) : Int) := by rw [IntKind.wrap_i64, Int.tdiv_eq_ediv_of_nonneg (by omega)]; omega
      obtain ⟨k1, k2, k3, k4, k5⟩ := hX
      refine J.go [8,10,14,15,17,18,20] 900 rfl ?_
      (repeat' (first | ((first | refine JF.l1 0 rfl rfl rfl rfl ?_ | refine JF.ln 0 rfl rfl rfl rfl ?_ | refine JF.l1 1 rfl rfl rfl rfl ?_ | refine JF.ln 1 rfl rfl rfl rfl ?_ | refine JF.l1 2 rfl rfl rfl rfl ?_ | refine JF.ln 2 rfl rfl rfl rfl ?_ | refine JF.l1 3 rfl rfl rfl rfl ?_ | refine JF.ln 3 rfl rfl rfl rfl ?_ | refine JF.l1 4 rfl rfl rfl rfl ?_ | refine JF.ln 4 rfl rfl rfl rfl ?_ | refine JF.l1 5 rfl rfl rfl rfl ?_ | refine JF.ln 5 rfl rfl rfl rfl ?_ | refine JF.l1 6 rfl rfl rfl rfl ?_ | refine JF.ln 6 rfl rfl rfl rfl ?_ | refine JF.l1 7 rfl rfl rfl rfl ?_ | refine JF.ln 7 rfl rfl rfl rfl ?_); refine J.go [8,10,14,15,17,18,20] 900 rfl ?_) | (refine JF.chk rfl ?_ ?_; (focus ((repeat' (apply And.intro)) <;> (first | exact True.intro | omega))); refine J.go [8,10,14,15,17,18,20] 900 rfl ?_) | (((first | refine JF.condD rfl ?_ ?_ | refine JF.condE rfl ?_ ?_ | refine JF.condN rfl ?_ ?_ | refine JF.guardD rfl ?_ ?_ | refine JF.guardE rfl ?_ ?_ | refine JF.guardN rfl ?_ ?_ | refine JF.cond rfl ?_ ?_ | refine JF.guard rfl ?_ ?_) <;> intro h) <;> (first | (exact absurd h Bool.false_ne_true) | (exact absurd h.symm Bool.false_ne_true) | (exact absurd rfl h) | (exfalso; omega) | refine J.go [8,10,14,15,17,18,20] 900 rfl ?_))))
      rw [e2]
      refine JF.ld1 (v := .bool (T.getD (act.at_.toNat / 16) false)) rfl (.tail _ (.tail _ (.head _))) rfl (nthL_app (nth_bool (by omega) (by omega))) ?_
      refine J.go [8,10,14,15,17,18,20] 900 rfl ?_
      refine JF.callF _ rfl (fun w1 hst => tag_ok act.at_ w1 (hst.here subM) hM ho2) (fun x hx => nomatch hx) ?_
      rw [decide_eq_true (⟨hin1, by omega⟩ : 0 ≤ act.at_ ∧ act.at_ < (B.length : Int)), Bool.true_and]
      refine J.go [8,10,14,15,17,18,20] 900 rfl ?_
      refine JF.cond rfl (fun h => ?_) (fun h => ?_)
      · exfalso; simp at h
      refine J.go [8,10,14,15,17,18,20] 900 rfl ?_
      rw [e1]
      exact JF.round (i + 1, M, B, T) ⟨hlt, hM, ⟨k1, k2, k3, k4, k5⟩, hB, hlen⟩ (by dsimp only; omega) ⟨rfl, rfl, rfl, rfl, rfl, trivial⟩ trivial (List.Sublist.refl _)
    · refine J.go [8,10,14,15,17,18,20] 900 rfl ?_
      (repeat' (first | ((first | refine JF.l1 0 rfl rfl rfl rfl ?_ | refine JF.ln 0 rfl rfl rfl rfl ?_ | refine JF.l1 1 rfl rfl rfl rfl ?_ | refine JF.ln 1 rfl rfl rfl rfl ?_ | refine JF.l1 2 rfl rfl rfl rfl ?_ | refine JF.ln 2 rfl rfl rfl rfl ?_ | refine JF.l1 3 rfl rfl rfl rfl ?_ | refine JF.ln 3 rfl rfl rfl rfl ?_ | refine JF.l1 4 rfl rfl rfl rfl ?_ | refine JF.ln 4 rfl rfl rfl rfl ?_ | refine JF.l1 5 rfl rfl rfl rfl ?_ | refine JF.ln 5 rfl rfl rfl rfl ?_ | refine JF.l1 6 rfl rfl rfl rfl ?_ | refine JF.ln 6 rfl rfl rfl rfl ?_ | refine JF.l1 7 rfl rfl rfl rfl ?_ | refine JF.ln 7 rfl rfl rfl rfl ?_); refine J.go [8,10,14,15,17,18,20] 900 rfl ?_) | (refine JF.chk rfl ?_ ?_; (focus ((repeat' (apply And.intro)) <;> (first | exact True.intro | omega))); refine J.go [8,10,14,15,17,18,20] 900 rfl ?_) | (((first | refine JF.condD rfl ?_ ?_ | refine JF.condE rfl ?_ ?_ | refine JF.condN rfl ?_ ?_ | refine JF.guardD rfl ?_ ?_ | refine JF.guardE rfl ?_ ?_ | refine JF.guardN rfl ?_ ?_ | refine JF.cond rfl ?_ ?_ | refine JF.guard rfl ?_ ?_) <;> intro h) <;> (first | (exact absurd h Bool.false_ne_true) | (exact absurd h.symm Bool.false_ne_true) | (exact absurd rfl h) | (exfalso; omega) | refine J.go [8,10,14,15,17,18,20] 900 rfl ?_))))
      all_goals
        refine JF.callF _ rfl (fun w1 hst => tag_ok act.at_ w1 (hst.here subM) hM ho2) (fun x hx => nomatch hx) ?_
        rw [decide_eq_false (fun hk => hin ⟨hk.1, by omega⟩), Bool.false_and]
        refine J.go [8,10,14,15,17,18,20] 900 rfl ?_
        (repeat' (first | ((first | refine JF.l1 0 rfl rfl rfl rfl ?_ | refine JF.ln 0 rfl rfl rfl rfl ?_ | refine JF.l1 1 rfl rfl rfl rfl ?_ | refine JF.ln 1 rfl rfl rfl rfl ?_ | refine JF.l1 2 rfl rfl rfl rfl ?_ | refine JF.ln 2 rfl rfl rfl rfl ?_ | refine JF.l1 3 rfl rfl rfl rfl ?_ | refine JF.ln 3 rfl rfl rfl rfl ?_ | refine JF.l1 4 rfl rfl rfl rfl ?_ | refine JF.ln 4 rfl rfl rfl rfl ?_ | refine JF.l1 5 rfl rfl rfl rfl ?_ | refine JF.ln 5 rfl rfl rfl rfl ?_ | refine JF.l1 6 rfl rfl rfl rfl ?_ | refine JF.ln 6 rfl rfl rfl rfl ?_ | refine JF.l1 7 rfl rfl rfl rfl ?_ | refine JF.ln 7 rfl rfl rfl rfl ?_); refine J.go [8,10,14,15,17,18,20] 900 rfl ?_) | (refine JF.chk rfl ?_ ?_; (focus ((repeat' (apply And.intro)) <;> (first | exact True.intro | omega))); refine J.go [8,10,14,15,17,18,20] 900 rfl ?_) | (((first | refine JF.condD rfl ?_ ?_ | refine JF.condE rfl ?_ ?_ | refine JF.condN rfl ?_ ?_ | refine JF.guardD rfl ?_ ?_ | refine JF.guardE rfl ?_ ?_ | refine JF.guardN rfl ?_ ?_ | refine JF.cond rfl ?_ ?_ | refine JF.guard rfl ?_ ?_) <;> intro h) <;> (first | (exact absurd h Bool.false_ne_true) | (exact absurd h.symm Bool.false_ne_true) | (exact absurd rfl h) | (exfalso; omega) | refine J.go [8,10,14,15,17,18,20] 900 rfl ?_))))
        rw [e1]
        exact JF.round (i + 1, M, B, T) ⟨hlt, hM, hX, hB, hlen⟩ (by dsimp only; omega) ⟨rfl, rfl, rfl, rfl, rfl, trivial⟩ trivial (List.Sublist.refl _)
  · refine J.go [8,10,14,15,17,18,20] 900 rfl ?_
    rw [e1]
    exact JF.round (i + 1, M, B, T) ⟨hlt, hM, hX, hB, hlen⟩ (by dsimp only; omega) ⟨rfl, rfl, rfl, rfl, rfl, trivial⟩ trivial (List.Sublist.refl _)
end Go.HM
