/- errors.Is as contracts; what an error is; hasplaw4.Tells. -/
import Derived.Test.YtobdcokhmpaooaaDoorKhasplaw4
import Derived.Test.YtobdcokhmpaooaaDoorA3
import Derived.Test.YtobdcokhmpaooaaDoorC10
namespace Go.HM
open Go Go.Proofs
set_option linter.unusedSimpArgs false
set_option linter.unusedVariables false

/-- An error: none, or one of the program's own, by its part, its place, its number. -/
def errIs (w : World) (v : Value) : Option (ByteArray × Int × Int) → Prop
  | none => v = .nilIface
  | some (part, at_, no) => ∃ b, v = .iface 86 (.pointer (some ⟨b, 0, none⟩)) ∧ w.heap[b]? = some (.cells #[.string part, .int .i64 at_, .iface 83 (.int .i64 no)] 90 (0, 0))

theorem errIs.keep {S : Nat → Prop} {w w' : World} {v : Value} {E : Option (ByteArray × Int × Int)} (h : errIs w v E) (hx : Ext S w w') (hs : ∀ b, v = .iface 86 (.pointer (some ⟨b, 0, none⟩)) → ¬ S b) : errIs w' v E := by
  cases E with
  | none => exact h
  | some E =>
    obtain ⟨b, h1, h2⟩ := h
    exact ⟨b, h1, by rw [hx.blk b (lt_of_blk h2) (hs b h1)]; exact h2⟩

theorem FaultAt.err {w w' : World} {part : ByteArray} {at_ no : Int} {v : Value} (h : FaultAt w w' part at_ no v) : errIs w' v (some (part, at_, no)) := by
  obtain ⟨b, h1, h2, h3⟩ := h
  exact ⟨b, h2, h3⟩

/-- Where an error's block lies: not ahead of a world. -/
def errNew (w : World) (v : Value) : Prop := ∀ b, v = .iface 86 (.pointer (some ⟨b, 0, none⟩)) → w.heap.size ≤ b

theorem FaultAt.new {w w' : World} {part : ByteArray} {at_ no : Int} {v : Value} (h : FaultAt w w' part at_ no v) : errNew w v := by
  obtain ⟨b, h1, rfl, h3⟩ := h
  intro c hc
  simp only [Value.iface.injEq, Value.pointer.injEq, Option.some.injEq, Addr.mk.injEq, true_and, and_true] at hc
  omega

theorem is_ok (b : Nat) (part : ByteArray) (at_ x y : Int) (w : World) (hb : w.heap[b]? = some (.cells #[.string part, .int .i64 at_, .iface 83 (.int .i64 x)] 90 (0, 0))) :
    Rets Pg 38 [.iface 86 (.pointer (some ⟨b, 0, none⟩)), .iface 83 (.int .i64 y)] w fun v w' => Ext NoB w w' ∧ v = .bool (x == y) :=
  Calls.mono (is_fault b 0 x y w (by rw [cell_of_block hb]; rfl)) fun ev w' h => by
    obtain ⟨rfl, rfl⟩ := h
    exact ⟨Ext.refl _ _, rfl⟩

/-- What hasplaw4.Tells answers. -/
def tellsB (E : Option (ByteArray × Int × Int)) (part : ByteArray) (at_ no : Int) : Bool :=
  if no = 0 then E.isNone else match E with
    | none => false
    | some (p, a, n) => (p.toList == part.toList) && (a == at_) && (n == no)

theorem tells_ok (v : Value) (E : Option (ByteArray × Int × Int)) (part : ByteArray) (at_ no : Int) (w : World) (hG : GoodG w) (h : errIs w v E) :
    Rets Pg n_hasplaw4_Tells [v, wrV part at_ no] w fun r w' => Ext NoB w w' ∧ r = .bool (tellsB E part at_ no) := by
  
  cases E with
  | none =>
    have hv : v = .nilIface := h
    subst hv
    refine rets_of m_hasplaw4_Tells rfl rfl (St.nil w) ?_
    refine J.go [3] 900 rfl ?_
    (repeat' (first | ((first | ((first | refine JF.condD rfl ?_ ?_ | refine JF.condE rfl ?_ ?_ | refine JF.condN rfl ?_ ?_ | refine JF.guardD rfl ?_ ?_ | refine JF.guardE rfl ?_ ?_ | refine JF.guardN rfl ?_ ?_ | refine JF.cond rfl ?_ ?_ | refine JF.guard rfl ?_ ?_) <;> intro h) | refine JF.l1 0 rfl rfl rfl rfl ?_ | refine JF.ln 0 rfl rfl rfl rfl ?_ | refine JF.l1 1 rfl rfl rfl rfl ?_ | refine JF.ln 1 rfl rfl rfl rfl ?_ | refine JF.l1 2 rfl rfl rfl rfl ?_ | refine JF.ln 2 rfl rfl rfl rfl ?_ | refine JF.l1 3 rfl rfl rfl rfl ?_ | refine JF.ln 3 rfl rfl rfl rfl ?_ | refine JF.l1 4 rfl rfl rfl rfl ?_ | refine JF.ln 4 rfl rfl rfl rfl ?_ | refine JF.l1 5 rfl rfl rfl rfl ?_ | refine JF.ln 5 rfl rfl rfl rfl ?_ | refine JF.l1 6 rfl rfl rfl rfl ?_ | refine JF.ln 6 rfl rfl rfl rfl ?_ | refine JF.l1 7 rfl rfl rfl rfl ?_ | refine JF.ln 7 rfl rfl rfl rfl ?_) <;> (first | (exact absurd h Bool.false_ne_true) | (exact absurd h.symm Bool.false_ne_true) | (exfalso; omega) | (exfalso; simp only [IntKind.wrap_i64, IntKind.wrap_i32, IntKind.wrap_u32, IntKind.wrap_u16, IntKind.wrap_u8] at *; omega) | refine J.go [3] 900 rfl ?_))))
    · refine JF.ret rfl fun w' hst => ⟨hst.ext, ?_⟩
      simp [tellsB, h, tup]
    · refine JF.al (fun x hx => nomatch hx) fun b5 hb5 => ?_
      refine J.go [3] 900 rfl ?_
      refine JF.draw [3] [] rfl (fun x hx => nomatch hx) ?_
      refine J.go [3] 900 rfl ?_
      refine JF.ret rfl fun w' hst => ⟨hst.ext, ?_⟩
      simp [tellsB, h, tup]
  | some E =>
    obtain ⟨p, a, n⟩ := E
    obtain ⟨b, rfl, hb⟩ := h
    refine rets_of (L := [⟨b, 90, 0, 0, [.string p, .int .i64 a, .iface 83 (.int .i64 n)], false⟩]) (S := NoB) m_hasplaw4_Tells rfl rfl (St.start _ (by simpa [Ent.obj] using hb) (by simp) (by simp)) ?_
    refine J.go [3] 900 rfl ?_
    (repeat' (first | ((first | ((first | refine JF.condD rfl ?_ ?_ | refine JF.condE rfl ?_ ?_ | refine JF.condN rfl ?_ ?_ | refine JF.guardD rfl ?_ ?_ | refine JF.guardE rfl ?_ ?_ | refine JF.guardN rfl ?_ ?_ | refine JF.cond rfl ?_ ?_ | refine JF.guard rfl ?_ ?_) <;> intro h) | refine JF.l1 0 rfl rfl rfl rfl ?_ | refine JF.ln 0 rfl rfl rfl rfl ?_ | refine JF.l1 1 rfl rfl rfl rfl ?_ | refine JF.ln 1 rfl rfl rfl rfl ?_ | refine JF.l1 2 rfl rfl rfl rfl ?_ | refine JF.ln 2 rfl rfl rfl rfl ?_ | refine JF.l1 3 rfl rfl rfl rfl ?_ | refine JF.ln 3 rfl rfl rfl rfl ?_ | refine JF.l1 4 rfl rfl rfl rfl ?_ | refine JF.ln 4 rfl rfl rfl rfl ?_ | refine JF.l1 5 rfl rfl rfl rfl ?_ | refine JF.ln 5 rfl rfl rfl rfl ?_ | refine JF.l1 6 rfl rfl rfl rfl ?_ | refine JF.ln 6 rfl rfl rfl rfl ?_ | refine JF.l1 7 rfl rfl rfl rfl ?_ | refine JF.ln 7 rfl rfl rfl rfl ?_) <;> (first | (exact absurd h Bool.false_ne_true) | (exact absurd h.symm Bool.false_ne_true) | (exfalso; omega) | (exfalso; simp only [IntKind.wrap_i64, IntKind.wrap_i32, IntKind.wrap_u32, IntKind.wrap_u16, IntKind.wrap_u8] at *; omega) | refine J.go [3] 900 rfl ?_))))
    · refine JF.ret rfl fun w' hst => ⟨hst.ext, ?_⟩
      simp [tellsB, h, tup]
    · refine JF.al (fun x hx => nomatch hx) fun b5 hb5 => ?_
      refine J.go [3] 900 rfl ?_
      refine JF.draw [3] [⟨b, 90, 0, 0, [.string p, .int .i64 a, .iface 83 (.int .i64 n)], false⟩] rfl (fun x hx => by rw [List.mem_singleton.1 hx]; exact .tail _ (.head _)) ?_
      refine J.go [3] 900 rfl ?_
      refine JF.callV _ rfl (fun w1 hst => asHit_ok (b := b5) ⟨b, 0, none⟩ w1 (hG.keep hst.ext (fun h => h)) (hst.blk _ (.head _)) (Nat.le_refl _)) fun w1 r w2 hst hq => ?_
      obtain ⟨hx, rfl, hb5'⟩ := hq
      refine ⟨_, Tr.wrote (A := []) (M := [_]) (M' := [⟨b5, _, 0, 0, [.pointer (some ⟨b, 0, none⟩)], true⟩]) (B := [_]) hst hx (fun x hx => ⟨_, .head _, hx.symm, rfl⟩) ⟨by simpa [Ent.obj] using hb5', by simp⟩ (by simp) (fun x hx => by rw [List.mem_singleton.1 hx]; exact .tail _ (.head _)), ?_⟩
      refine J.go [3] 900 rfl ?_
      refine JF.hold [3] [⟨b5, _, 0, 0, [.pointer (some ⟨b, 0, none⟩)], true⟩, ⟨b, 90, 0, 0, [.string p, .int .i64 a, .iface 83 (.int .i64 n)], false⟩] rfl (fun d cs h => h) (fun x hx => .tail _ hx) (fun x hx => hx) ?_
      refine J.go [3] 900 rfl ?_
      (repeat' (first | ((first | ((first | refine JF.condD rfl ?_ ?_ | refine JF.condE rfl ?_ ?_ | refine JF.condN rfl ?_ ?_ | refine JF.guardD rfl ?_ ?_ | refine JF.guardE rfl ?_ ?_ | refine JF.guardN rfl ?_ ?_ | refine JF.cond rfl ?_ ?_ | refine JF.guard rfl ?_ ?_) <;> intro h) | refine JF.l1 0 rfl rfl rfl rfl ?_ | refine JF.ln 0 rfl rfl rfl rfl ?_ | refine JF.l1 1 rfl rfl rfl rfl ?_ | refine JF.ln 1 rfl rfl rfl rfl ?_ | refine JF.l1 2 rfl rfl rfl rfl ?_ | refine JF.ln 2 rfl rfl rfl rfl ?_ | refine JF.l1 3 rfl rfl rfl rfl ?_ | refine JF.ln 3 rfl rfl rfl rfl ?_ | refine JF.l1 4 rfl rfl rfl rfl ?_ | refine JF.ln 4 rfl rfl rfl rfl ?_ | refine JF.l1 5 rfl rfl rfl rfl ?_ | refine JF.ln 5 rfl rfl rfl rfl ?_ | refine JF.l1 6 rfl rfl rfl rfl ?_ | refine JF.ln 6 rfl rfl rfl rfl ?_ | refine JF.l1 7 rfl rfl rfl rfl ?_ | refine JF.ln 7 rfl rfl rfl rfl ?_) <;> (first | (exact absurd h Bool.false_ne_true) | (exact absurd h.symm Bool.false_ne_true) | (exfalso; omega) | (exfalso; simp only [IntKind.wrap_i64, IntKind.wrap_i32, IntKind.wrap_u32, IntKind.wrap_u16, IntKind.wrap_u8] at *; omega) | refine J.go [3] 900 rfl ?_))))
      · rename_i e1 e2
        refine JF.callF _ rfl (fun w1 hst => is_ok b p a n no w1 (hst.blk _ (.tail _ (.head _)))) (fun x hx => hx) ?_
        refine J.go [3] 900 rfl ?_
        refine JF.ret rfl fun w' hst => ⟨hst.ext, ?_⟩
        simp [tellsB, *, tup]
      all_goals
        refine JF.ret rfl fun w' hst => ⟨hst.ext, ?_⟩
        simp [tellsB, *, tup]

theorem tells_at {x : Bool} (v : Value) (E : Option (ByteArray × Int × Int)) (part : ByteArray) (at_ no : Int) (w : World) (hG : GoodG w) (h : errIs w v E) (hx : tellsB E part at_ no = x) :
    Rets Pg n_hasplaw4_Tells [v, wrV part at_ no] w fun r w' => Ext NoB w w' ∧ r = .bool x := by
  rw [← hx]; exact tells_ok v E part at_ no w hG h

theorem isNum_ok (x y : Int) (w : World) : Rets Pg 38 [.iface 83 (.int .i64 x), .iface 83 (.int .i64 y)] w fun v w' => Ext NoB w w' ∧ v = .bool (x == y) :=
  Calls.mono (is_num x y w) fun ev w' h => by
    obtain ⟨rfl, rfl⟩ := h
    exact ⟨Ext.refl _ _, rfl⟩

/-- What is told: by an error that is new; by the document. -/
def ErrR (w w' : World) (v : Value) : Option (ByteArray × Int × Int) → Prop
  | none => v = .nilIface
  | some (part, at_, no) => FaultAt w w' part at_ no v
def wrE : Option (ByteArray × Int × Int) → Value
  | none => wr0
  | some (part, at_, no) => wrV part at_ no
def errNe : Option (ByteArray × Int × Int) → Prop
  | none => True
  | some (_, _, no) => no ≠ 0

theorem ErrR.err {w w' : World} {v : Value} {E : Option (ByteArray × Int × Int)} (h : ErrR w w' v E) : errIs w' v E := by
  cases E with
  | none => exact h
  | some E => exact FaultAt.err h

theorem tells_E (v : Value) (E : Option (ByteArray × Int × Int)) (hn : errNe E) (w : World) (hG : GoodG w) (h : errIs w v E) :
    Rets Pg n_hasplaw4_Tells [v, wrE E] w fun r w' => Ext NoB w w' ∧ r = .bool true := by
  cases E with
  | none => exact tells_at v none _ _ _ w hG h rfl
  | some E =>
    obtain ⟨p, a, n⟩ := E
    exact tells_at v (some (p, a, n)) p a n w hG h (by
      have : n ≠ 0 := hn
      simp [tellsB, this])

/-- An error's own block, if it has one. -/
theorem ErrR.ents {w w' : World} {v : Value} {E : Option (ByteArray × Int × Int)} (h : ErrR w w' v E) : ∃ N : List Ent, News w w' N ∧ ∀ w'', (∀ x ∈ N, w''.heap[x.b]? = some x.obj) → errIs w'' v E := by
  cases E with
  | none => exact ⟨[], ⟨⟨by simp, by simp⟩, by simp⟩, fun _ _ => h⟩
  | some E =>
    obtain ⟨b, rfl, hn⟩ := FaultAt.news h
    exact ⟨_, hn, fun w'' hw => ⟨b, rfl, hw _ (.head _)⟩⟩

theorem tells_W {p : ByteArray} {a n : Int} (v : Value) (E : Option (ByteArray × Int × Int)) (he : wrE E = wrV p a n) (hn : errNe E) (w : World) (hG : GoodG w) (h : errIs w v E) :
    Rets Pg n_hasplaw4_Tells [v, wrV p a n] w fun r w' => Ext NoB w w' ∧ r = .bool true := by
  rw [← he]; exact tells_E v E hn w hG h

theorem wrE_V (E : Option (ByteArray × Int × Int)) : ∃ p a n, wrE E = wrV p a n := by
  cases E with
  | none => exact ⟨_, _, _, rfl⟩
  | some e => exact ⟨_, _, _, rfl⟩
end Go.HM
