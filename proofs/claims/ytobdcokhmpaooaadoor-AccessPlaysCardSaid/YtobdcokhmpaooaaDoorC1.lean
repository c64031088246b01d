/- What the memory's own functions compute: contracts. -/
import Derived.Test.YtobdcokhmpaooaaDoorKmem
import Derived.Test.YtobdcokhmpaooaaDoorKslices
import Derived.Test.YtobdcokhmpaooaaDoorProg
import Derived.Test.YtobdcokhmpaooaaDoorM10
import Derived.Laws.BitsLemmas
import Derived.Lib.EndianBits
namespace Go.HM
open Go Go.Proofs
set_option linter.unusedSimpArgs false
set_option linter.unusedVariables false

noncomputable abbrev Pg : Program := Tryd.prog
abbrev isI64 (x : Int) : Prop := -9223372036854775808 ≤ x ∧ x ≤ 9223372036854775807

theorem u_bytes : Pg.underlying 35 = some (.slice 5) := by kernel_rfl
theorem u_bools : Pg.underlying 59 = some (.slice 4) := by kernel_rfl
theorem u_ints : Pg.underlying 79 = some (.slice 3) := by kernel_rfl
theorem y_byte : tyI Pg 5 = some (1, 1, .int .u8 0) := by kernel_rfl
theorem y_bool : tyI Pg 4 = some (1, 1, .bool false) := by kernel_rfl
theorem y_int : tyI Pg 3 = some (1, 8, .int .i64 0) := by kernel_rfl

/-- An error that the program's own packages tell: its part, its place, its number; it is new. -/
def FaultAt (w w' : World) (part : ByteArray) (at_ no : Int) (v : Value) : Prop :=
  ∃ b, w.heap.size ≤ b ∧ v = .iface 86 (.pointer (some ⟨b, 0, none⟩)) ∧ w'.heap[b]? = some (.cells #[.string part, .int .i64 at_, .iface 83 (.int .i64 no)] 90 (0, 0))

theorem fault_ok (part : ByteArray) (at_ no : Int) (w : World) : Rets Pg n_mem_fault [.string part, .int .i64 at_, .int .i64 no] w fun v w' => Ext NoB w w' ∧ FaultAt w w' part at_ no v := by
  refine rets_of m_mem_fault rfl rfl (St.nil w) ?_
  refine J.go [] 900 rfl ?_
  refine JF.bx rfl (by simp [mdL]) fun b hb => ?_
  refine J.go [] 900 rfl ?_
  refine JF.ret rfl fun w' h => ⟨h.ext, b, hb, rfl, h.blk _ (List.Mem.head _)⟩

/-- Where a memory stands: its block, its bytes' block, its tags' block; the rooms of its slices, what stands behind them. -/
structure MB where
  bm : Nat
  bb : Nat
  bt : Nat
  cb : Nat
  ct : Nat
  sb : List Value
  st : List Value

/-- A memory: its own block, its bytes, its tags. -/
abbrev memL (t : TypeId) (M : MB) (r : Bool) (B : List Int) (T : List Bool) : List Ent :=
  [⟨M.bm, t, 0, 0, [.slice (some ⟨M.bb, 0, none⟩) B.length M.cb, .slice (some ⟨M.bt, 0, none⟩) T.length M.ct], false⟩, ⟨M.bb, 5, 0, 0, byC B ++ M.sb, r⟩, ⟨M.bt, 4, 0, 0, T.map .bool ++ M.st, r⟩]

def okM (M : MB) (B : List Int) (T : List Bool) : Prop := B.length ≤ M.cb ∧ T.length ≤ M.ct ∧ B.length ≤ 65536 ∧ B.length = 16 * T.length ∧ 0 < T.length

/-- May so many bytes be at a place? -/
def okR (m : Nat) (a n : Int) : Prop := 0 ≤ a ∧ 0 ≤ n ∧ a + n ≤ m

theorem FaultAt.tr {w₀ w w' : World} {S : Nat → Prop} {L : List Ent} {part : ByteArray} {at_ no : Int} {v : Value} (hst : St w₀ S w L) (hx : Ext NoB w w') (h : FaultAt w w' part at_ no v) :
    ∃ b, w₀.heap.size ≤ b ∧ v = .iface 86 (.pointer (some ⟨b, 0, none⟩)) ∧ Tr w₀ S none [] L w w' (⟨b, 90, 0, 0, [.string part, .int .i64 at_, .iface 83 (.int .i64 no)], true⟩ :: L) := by
  obtain ⟨b, h1, h2, h3⟩ := h
  exact ⟨b, Nat.le_trans hst.ext.size h1, h2, Tr.new1 (x := ⟨b, _, _, _, _, _⟩) hst hx h1 h3 (fun x hx => nomatch hx)⟩

theorem FaultAt.news {w w' : World} {part : ByteArray} {at_ no : Int} {v : Value} (h : FaultAt w w' part at_ no v) :
    ∃ b, v = .iface 86 (.pointer (some ⟨b, 0, none⟩)) ∧ News w w' [⟨b, 90, 0, 0, [.string part, .int .i64 at_, .iface 83 (.int .i64 no)], true⟩] := by
  obtain ⟨b, h1, h2, h3⟩ := h
  exact ⟨b, h2, ⟨by simpa [Ent.obj] using h3, by simp⟩, by simpa using h1⟩

theorem span_ok {t : TypeId} {M : MB} {r : Bool} {B : List Int} {T : List Bool} (a n : Int) (w : World) (hw : Here w (memL t M r B T)) (hM : okM M B T) (ha : isI64 a) (hn : isI64 n) :
    Rets Pg n_mem_Mem_span [.pointer (some ⟨M.bm, 0, none⟩), .int .i64 a, .int .i64 n] w fun v w' => Ext NoB w w' ∧
      ((okR B.length a n ∧ ∃ o, v = .tuple #[.slice (some ⟨M.bb, o, none⟩) n.toNat (M.cb - a.toNat), .nilIface] ∧ (0 < n → o = a.toNat)) ∨
       (¬ okR B.length a n ∧ ∃ f, v = .tuple #[.slice none 0 0, f] ∧ FaultAt w w' ⟨#[109, 101, 109]⟩ a 6 f)) := by
  have hM' := hM
  obtain ⟨k1, k2, k3, k4, k5⟩ := hM'
  by_cases hok : okR B.length a n
  · obtain ⟨h1, h2, h3⟩ := hok
    have e1 : IntKind.i64.wrap (a + n) = a + n := by rw [IntKind.wrap_i64]; omega
    refine rets_of m_mem_Mem_span rfl rfl ((show Here w (memL t M false B T) from hw.ro).start (S := NoB) (by simp)) ?_
    refine J.go [] 900 rfl ?_
    (repeat' (first | ((first | ((first | refine JF.condD rfl ?_ ?_ | refine JF.condE rfl ?_ ?_ | refine JF.condN rfl ?_ ?_ | refine JF.guardD rfl ?_ ?_ | refine JF.guardE rfl ?_ ?_ | refine JF.guardN rfl ?_ ?_ | refine JF.cond rfl ?_ ?_ | refine JF.guard rfl ?_ ?_) <;> intro h) | refine JF.l1 0 rfl rfl rfl rfl ?_ | refine JF.ln 0 rfl rfl rfl rfl ?_ | refine JF.l1 1 rfl rfl rfl rfl ?_ | refine JF.ln 1 rfl rfl rfl rfl ?_ | refine JF.l1 2 rfl rfl rfl rfl ?_ | refine JF.ln 2 rfl rfl rfl rfl ?_ | refine JF.l1 3 rfl rfl rfl rfl ?_ | refine JF.ln 3 rfl rfl rfl rfl ?_ | refine JF.l1 4 rfl rfl rfl rfl ?_ | refine JF.ln 4 rfl rfl rfl rfl ?_ | refine JF.l1 5 rfl rfl rfl rfl ?_ | refine JF.ln 5 rfl rfl rfl rfl ?_ | refine JF.l1 6 rfl rfl rfl rfl ?_ | refine JF.ln 6 rfl rfl rfl rfl ?_ | refine JF.l1 7 rfl rfl rfl rfl ?_ | refine JF.ln 7 rfl rfl rfl rfl ?_) <;> (first | (exact absurd h Bool.false_ne_true) | (exact absurd h.symm Bool.false_ne_true) | (exfalso; omega) | (exfalso; simp only [IntKind.wrap_i64, IntKind.wrap_i32, IntKind.wrap_u32, IntKind.wrap_u16, IntKind.wrap_u8] at *; omega) | refine J.go [] 900 rfl ?_))))
    (refine JF.chk rfl ?_ ?_; (focus ((repeat' (apply And.intro)) <;> (first | exact True.intro | (first | omega | (simp only [IntKind.wrap_i64, IntKind.wrap_i32, IntKind.wrap_u64, IntKind.wrap_u32, IntKind.wrap_u16, IntKind.wrap_u8] at *; omega))))))
    rw [e1, show (a + n).toNat - a.toNat = n.toNat by omega]
    obtain ⟨o, e2, h4⟩ := slA_ex M.bb 0 M.cb a.toNat 1
    rw [e2]
    refine J.go [] 900 rfl ?_
    refine JF.ret rfl fun w' hst => ⟨hst.ext, .inl ⟨⟨h1, h2, h3⟩, o, rfl, fun h => ?_⟩⟩
    rw [h4 (by omega)]; omega
  · have hok' := hok
    unfold okR at hok'
    refine rets_of m_mem_Mem_span rfl rfl ((show Here w (memL t M false B T) from hw.ro).start (S := NoB) (by simp)) ?_
    refine J.go [] 900 rfl ?_
    (repeat' (first | ((first | ((first | refine JF.condD rfl ?_ ?_ | refine JF.condE rfl ?_ ?_ | refine JF.condN rfl ?_ ?_ | refine JF.guardD rfl ?_ ?_ | refine JF.guardE rfl ?_ ?_ | refine JF.guardN rfl ?_ ?_ | refine JF.cond rfl ?_ ?_ | refine JF.guard rfl ?_ ?_) <;> intro h) | refine JF.l1 0 rfl rfl rfl rfl ?_ | refine JF.ln 0 rfl rfl rfl rfl ?_ | refine JF.l1 1 rfl rfl rfl rfl ?_ | refine JF.ln 1 rfl rfl rfl rfl ?_ | refine JF.l1 2 rfl rfl rfl rfl ?_ | refine JF.ln 2 rfl rfl rfl rfl ?_ | refine JF.l1 3 rfl rfl rfl rfl ?_ | refine JF.ln 3 rfl rfl rfl rfl ?_ | refine JF.l1 4 rfl rfl rfl rfl ?_ | refine JF.ln 4 rfl rfl rfl rfl ?_ | refine JF.l1 5 rfl rfl rfl rfl ?_ | refine JF.ln 5 rfl rfl rfl rfl ?_ | refine JF.l1 6 rfl rfl rfl rfl ?_ | refine JF.ln 6 rfl rfl rfl rfl ?_ | refine JF.l1 7 rfl rfl rfl rfl ?_ | refine JF.ln 7 rfl rfl rfl rfl ?_) <;> (first | (exact absurd h Bool.false_ne_true) | (exact absurd h.symm Bool.false_ne_true) | (exfalso; omega) | (exfalso; simp only [IntKind.wrap_i64, IntKind.wrap_i32, IntKind.wrap_u32, IntKind.wrap_u16, IntKind.wrap_u8] at *; omega) | refine J.go [] 900 rfl ?_))))
    all_goals
      refine JF.callV _ rfl (fun w _ => fault_ok _ _ _ w) fun w r w' hst hq => ?_
      obtain ⟨b, h1, rfl, h2⟩ := hq.2.tr hst hq.1
      refine ⟨_, h2, ?_⟩
      refine J.go [] 900 rfl ?_
      refine JF.ret rfl fun w' hst => ⟨hst.ext, .inr ⟨hok, _, rfl, b, h1, rfl, hst.blk _ (List.Mem.head _)⟩⟩

theorem size_ok {t : TypeId} {M : MB} {r : Bool} {B : List Int} {T : List Bool} (w : World) (hw : Here w (memL t M r B T)) : Rets Pg n_mem_Mem_Size [.pointer (some ⟨M.bm, 0, none⟩)] w fun v w' => Ext NoB w w' ∧ v = .int .i64 (B.length : Int) := by
  refine rets_of m_mem_Mem_Size rfl rfl ((show Here w (memL t M false B T) from hw.ro).start (S := NoB) (by simp)) ?_
  refine J.go [] 900 rfl ?_
  (repeat' (first | ((first | ((first | refine JF.condD rfl ?_ ?_ | refine JF.condE rfl ?_ ?_ | refine JF.condN rfl ?_ ?_ | refine JF.guardD rfl ?_ ?_ | refine JF.guardE rfl ?_ ?_ | refine JF.guardN rfl ?_ ?_ | refine JF.cond rfl ?_ ?_ | refine JF.guard rfl ?_ ?_) <;> intro h) | refine JF.l1 0 rfl rfl rfl rfl ?_ | refine JF.ln 0 rfl rfl rfl rfl ?_ | refine JF.l1 1 rfl rfl rfl rfl ?_ | refine JF.ln 1 rfl rfl rfl rfl ?_ | refine JF.l1 2 rfl rfl rfl rfl ?_ | refine JF.ln 2 rfl rfl rfl rfl ?_ | refine JF.l1 3 rfl rfl rfl rfl ?_ | refine JF.ln 3 rfl rfl rfl rfl ?_ | refine JF.l1 4 rfl rfl rfl rfl ?_ | refine JF.ln 4 rfl rfl rfl rfl ?_ | refine JF.l1 5 rfl rfl rfl rfl ?_ | refine JF.ln 5 rfl rfl rfl rfl ?_ | refine JF.l1 6 rfl rfl rfl rfl ?_ | refine JF.ln 6 rfl rfl rfl rfl ?_ | refine JF.l1 7 rfl rfl rfl rfl ?_ | refine JF.ln 7 rfl rfl rfl rfl ?_) <;> (first | (exact absurd h Bool.false_ne_true) | (exact absurd h.symm Bool.false_ne_true) | (exfalso; omega) | (exfalso; simp only [IntKind.wrap_i64, IntKind.wrap_i32, IntKind.wrap_u32, IntKind.wrap_u16, IntKind.wrap_u8] at *; omega) | refine J.go [] 900 rfl ?_))))
  refine JF.ret rfl fun w' hst => ⟨hst.ext, rfl⟩

theorem cloneB_ok {l : List Int} (w : World) (a : Option Addr) (n c : Nat) (hr : RdS w 1 (.slice a n c) (byC l) n) (hl : l.length ≤ 140737488355328) : Rets Pg n_slices_Clone_bytebyte [.slice a n c] w fun v w' => Ext NoB w w' ∧ ∃ E, OS 5 1 (byC l) v E ∧ News w w' E := by
  refine rets_of m_slices_Clone_bytebyte rfl rfl (St.nil w) ?_
  have hlen : l.length = n := by have := hr.length; simpa [byC] using this
  cases a with
  | none =>
    have h0 : byC l = [] := by generalize byC l = cs at hr; cases hr; rfl
    refine J.go [] 900 rfl ?_
    (repeat' (first | ((first | ((first | refine JF.condD rfl ?_ ?_ | refine JF.condE rfl ?_ ?_ | refine JF.condN rfl ?_ ?_ | refine JF.guardD rfl ?_ ?_ | refine JF.guardE rfl ?_ ?_ | refine JF.guardN rfl ?_ ?_ | refine JF.cond rfl ?_ ?_ | refine JF.guard rfl ?_ ?_) <;> intro h) | refine JF.l1 0 rfl rfl rfl rfl ?_ | refine JF.ln 0 rfl rfl rfl rfl ?_ | refine JF.l1 1 rfl rfl rfl rfl ?_ | refine JF.ln 1 rfl rfl rfl rfl ?_ | refine JF.l1 2 rfl rfl rfl rfl ?_ | refine JF.ln 2 rfl rfl rfl rfl ?_ | refine JF.l1 3 rfl rfl rfl rfl ?_ | refine JF.ln 3 rfl rfl rfl rfl ?_ | refine JF.l1 4 rfl rfl rfl rfl ?_ | refine JF.ln 4 rfl rfl rfl rfl ?_ | refine JF.l1 5 rfl rfl rfl rfl ?_ | refine JF.ln 5 rfl rfl rfl rfl ?_ | refine JF.l1 6 rfl rfl rfl rfl ?_ | refine JF.ln 6 rfl rfl rfl rfl ?_ | refine JF.l1 7 rfl rfl rfl rfl ?_ | refine JF.ln 7 rfl rfl rfl rfl ?_) <;> (first | (exact absurd h Bool.false_ne_true) | (exact absurd h.symm Bool.false_ne_true) | (exfalso; omega) | (exfalso; simp only [IntKind.wrap_i64, IntKind.wrap_i32, IntKind.wrap_u32, IntKind.wrap_u16, IntKind.wrap_u8] at *; omega) | refine J.go [] 900 rfl ?_))))
    rw [h0]
    refine JF.ret rfl fun w' hst => ⟨hst.ext, [], .emp _ (fun x hx => nomatch hx), ⟨by simp, by simp⟩, by simp⟩
  | some a =>
    refine J.go [] 900 rfl ?_
    refine JF.bldS rfl rfl (fun x hx => nomatch hx) fun b hb => ?_
    refine J.go [] 900 rfl ?_
    refine JF.append (A := []) (E := [⟨b, _, 0, 0, [], true⟩]) (B := []) (size := 1) (ys := byC l) (m := n) rfl u_bytes u_bytes y_byte rfl (.own b 0 0 [] [] rfl (by decide) (by decide)) (fun w' hst => hr.keep hst.ext (fun _ _ _ _ _ h => h)) (isOne_byC l) (fun n1 h => by simp at h; omega) (fun x hx => nomatch hx) fun v' E' hos => ?_
    refine J.go [] 900 rfl ?_
    refine JF.ret rfl fun w' hst => ⟨hst.ext, E', hos, hst.news (by simp) hos.rw⟩

theorem cloneT_ok {l : List Bool} (w : World) (a : Option Addr) (n c : Nat) (hr : RdS w 1 (.slice a n c) (l.map Value.bool) n) (hl : l.length ≤ 140737488355328) : Rets Pg n_slices_Clone_boolbool [.slice a n c] w fun v w' => Ext NoB w w' ∧ ∃ E, OS 4 1 (l.map Value.bool) v E ∧ News w w' E := by
  refine rets_of m_slices_Clone_boolbool rfl rfl (St.nil w) ?_
  have hlen : l.length = n := by have := hr.length; simpa [byC] using this
  cases a with
  | none =>
    have h0 : l.map Value.bool = [] := by generalize l.map Value.bool = cs at hr; cases hr; rfl
    refine J.go [] 900 rfl ?_
    (repeat' (first | ((first | ((first | refine JF.condD rfl ?_ ?_ | refine JF.condE rfl ?_ ?_ | refine JF.condN rfl ?_ ?_ | refine JF.guardD rfl ?_ ?_ | refine JF.guardE rfl ?_ ?_ | refine JF.guardN rfl ?_ ?_ | refine JF.cond rfl ?_ ?_ | refine JF.guard rfl ?_ ?_) <;> intro h) | refine JF.l1 0 rfl rfl rfl rfl ?_ | refine JF.ln 0 rfl rfl rfl rfl ?_ | refine JF.l1 1 rfl rfl rfl rfl ?_ | refine JF.ln 1 rfl rfl rfl rfl ?_ | refine JF.l1 2 rfl rfl rfl rfl ?_ | refine JF.ln 2 rfl rfl rfl rfl ?_ | refine JF.l1 3 rfl rfl rfl rfl ?_ | refine JF.ln 3 rfl rfl rfl rfl ?_ | refine JF.l1 4 rfl rfl rfl rfl ?_ | refine JF.ln 4 rfl rfl rfl rfl ?_ | refine JF.l1 5 rfl rfl rfl rfl ?_ | refine JF.ln 5 rfl rfl rfl rfl ?_ | refine JF.l1 6 rfl rfl rfl rfl ?_ | refine JF.ln 6 rfl rfl rfl rfl ?_ | refine JF.l1 7 rfl rfl rfl rfl ?_ | refine JF.ln 7 rfl rfl rfl rfl ?_) <;> (first | (exact absurd h Bool.false_ne_true) | (exact absurd h.symm Bool.false_ne_true) | (exfalso; omega) | (exfalso; simp only [IntKind.wrap_i64, IntKind.wrap_i32, IntKind.wrap_u32, IntKind.wrap_u16, IntKind.wrap_u8] at *; omega) | refine J.go [] 900 rfl ?_))))
    rw [h0]
    refine JF.ret rfl fun w' hst => ⟨hst.ext, [], .emp _ (fun x hx => nomatch hx), ⟨by simp, by simp⟩, by simp⟩
  | some a =>
    refine J.go [] 900 rfl ?_
    refine JF.bldS rfl rfl (fun x hx => nomatch hx) fun b hb => ?_
    refine J.go [] 900 rfl ?_
    refine JF.append (A := []) (E := [⟨b, _, 0, 0, [], true⟩]) (B := []) (size := 1) (ys := l.map Value.bool) (m := n) rfl u_bools u_bools y_bool rfl (.own b 0 0 [] [] rfl (by decide) (by decide)) (fun w' hst => hr.keep hst.ext (fun _ _ _ _ _ h => h)) (isOne_bool l) (fun n1 h => by simp at h; omega) (fun x hx => nomatch hx) fun v' E' hos => ?_
    refine J.go [] 900 rfl ?_
    refine JF.ret rfl fun w' hst => ⟨hst.ext, E', hos, hst.news (by simp) hos.rw⟩


theorem clip_ok {xs : List Value} {a : Option Addr} {n c : Nat} {E : List Ent} (w : World) (h : OS 5 1 xs (.slice a n c) E) (hn : n ≤ c) : Rets Pg n_slices_Clip_bytebyte [.slice a n c] w fun v w' => Ext NoB w w' ∧ v = .slice a n n := by
  refine rets_of m_slices_Clip_bytebyte rfl rfl (St.nil w) ?_
  refine J.go [] 900 rfl ?_
  (refine JF.chk rfl ?_ ?_; (focus ((repeat' (apply And.intro)) <;> (first | exact True.intro | (first | omega | (simp only [IntKind.wrap_i64, IntKind.wrap_i32, IntKind.wrap_u64, IntKind.wrap_u32, IntKind.wrap_u16, IntKind.wrap_u8] at *; omega))))))
  rw [slA_zero a _ _ h.spot]
  refine J.go [] 900 rfl ?_
  refine JF.ret rfl fun w' hst => ⟨hst.ext, by simp [tup]⟩

/-- Some bytes out of some. -/
def subB (B : List Int) (a n : Int) : List Int := (B.drop a.toNat).take n.toNat

theorem subB_len {B : List Int} {a n : Int} (h : okR B.length a n) : (subB B a n).length = n.toNat := by
  obtain ⟨h1, h2, h3⟩ := h
  simp [subB]; omega

theorem subL_app {cs sp r : List Value} {i n : Nat} (h : subL cs i n = some r) : subL (cs ++ sp) i n = some r := by
  obtain ⟨e1, e2⟩ := subL_some _ _ _ _ h
  rw [subL_take _ _ _ (by simp; omega), e1, List.drop_append_of_le_length (by omega), List.take_append_of_le_length (by simp; omega)]

theorem nthL_app {cs sp : List Value} {i : Nat} {v : Value} (h : nthL cs i = some v) : nthL (cs ++ sp) i = some v := by
  rw [nthL_eq] at h ⊢
  rw [List.getElem?_append_left (List.getElem?_eq_some_iff.1 h).1]; exact h

theorem putL_app {cs sp vs r : List Value} {o : Nat} (h : putL o vs cs = some r) : putL o vs (cs ++ sp) = some (r ++ sp) := by
  obtain ⟨e1, e2⟩ := putL_some _ _ _ _ h
  rw [putL_of _ _ _ (by simp; omega), e1, List.take_append_of_le_length (by omega), List.drop_append_of_le_length (by omega)]
  simp

theorem rd_sub {w : World} {w₀ : World} {S : Nat → Prop} {L : List Ent} (hst : St w₀ S w L) {x : Ent} (hx : x ∈ L) {b o c : Nat} {B : List Int} {a n : Int} (hb : x.b = b) {sp : List Value} (hc : x.cs = byC B ++ sp) (hok : okR B.length a n) (ho : 0 < n → o = a.toNat) : RdS w 1 (.slice (some ⟨b, o, none⟩) n.toNat c) (byC (subB B a n)) n.toNat := by
  have hl := subB_len hok
  obtain ⟨h1, h2, h3⟩ := hok
  by_cases h0 : n = 0
  · subst h0
    have : byC (subB B a 0) = [] := by simp [subB, byC]
    rw [this]
    exact RdS.empty _ (fun x hx => by cases hx; rfl)
  · rw [ho (by omega)]
    refine RdS.of hst hx hb ?_
    rw [hc, Nat.mul_one, subL_app (subL_byC _ _ _ (by omega))]
    rfl

theorem rd_fst {w w₀ : World} {S : Nat → Prop} {L : List Ent} (hst : St w₀ S w L) {x : Ent} (hx : x ∈ L) {b n c : Nat} {cs sp : List Value} (hb : x.b = b) (hc : x.cs = cs ++ sp) (hn : cs.length = n) : RdS w 1 (.slice (some ⟨b, 0, none⟩) n c) cs n := by
  refine RdS.of hst hx hb ?_
  rw [hc, Nat.mul_one]
  refine subL_app ?_
  rw [subL_take _ _ _ (by omega), List.drop_zero, List.take_of_length_le (by omega)]

theorem load_ok {t : TypeId} {M : MB} {r : Bool} {B : List Int} {T : List Bool} (a n : Int) (w : World) (hw : Here w (memL t M r B T)) (hM : okM M B T) (ha : isI64 a) (hn : isI64 n) :
    Rets Pg n_mem_Mem_Load [.pointer (some ⟨M.bm, 0, none⟩), .int .i64 a, .int .i64 n] w fun v w' => Ext NoB w w' ∧
      ((okR B.length a n ∧ ∃ x E, v = .tuple #[x, .nilIface] ∧ OS 5 1 (byC (subB B a n)) x E ∧ News w w' E) ∨
       (¬ okR B.length a n ∧ ∃ f, v = .tuple #[.slice none 0 0, f] ∧ FaultAt w w' ⟨#[109, 101, 109]⟩ a 6 f)) := by
  have hM' := hM
  obtain ⟨k1, k2, k3, k4, k5⟩ := hM'
  refine rets_of m_mem_Mem_Load rfl rfl ((show Here w (memL t M false B T) from hw.ro).start (S := NoB) (by simp)) ?_
  refine J.go [] 900 rfl ?_
  refine JF.callV _ rfl (fun w1 hst => span_ok a n w1 (hst.here (List.Sublist.refl _)) hM ha hn) fun w1 r w2 hst hq => ?_
  obtain ⟨hx, ⟨hok, o, rfl, ho⟩ | ⟨hok, f, rfl, hf⟩⟩ := hq
  · refine ⟨_, Tr.same hst hx (fun x hx => nomatch hx), ?_⟩
    refine J.go [] 900 rfl ?_
    (repeat' (first | ((first | ((first | refine JF.condD rfl ?_ ?_ | refine JF.condE rfl ?_ ?_ | refine JF.condN rfl ?_ ?_ | refine JF.guardD rfl ?_ ?_ | refine JF.guardE rfl ?_ ?_ | refine JF.guardN rfl ?_ ?_ | refine JF.cond rfl ?_ ?_ | refine JF.guard rfl ?_ ?_) <;> intro h) | refine JF.l1 0 rfl rfl rfl rfl ?_ | refine JF.ln 0 rfl rfl rfl rfl ?_ | refine JF.l1 1 rfl rfl rfl rfl ?_ | refine JF.ln 1 rfl rfl rfl rfl ?_ | refine JF.l1 2 rfl rfl rfl rfl ?_ | refine JF.ln 2 rfl rfl rfl rfl ?_ | refine JF.l1 3 rfl rfl rfl rfl ?_ | refine JF.ln 3 rfl rfl rfl rfl ?_ | refine JF.l1 4 rfl rfl rfl rfl ?_ | refine JF.ln 4 rfl rfl rfl rfl ?_ | refine JF.l1 5 rfl rfl rfl rfl ?_ | refine JF.ln 5 rfl rfl rfl rfl ?_ | refine JF.l1 6 rfl rfl rfl rfl ?_ | refine JF.ln 6 rfl rfl rfl rfl ?_ | refine JF.l1 7 rfl rfl rfl rfl ?_ | refine JF.ln 7 rfl rfl rfl rfl ?_) <;> (first | (exact absurd h Bool.false_ne_true) | (exact absurd h.symm Bool.false_ne_true) | (exfalso; omega) | (exfalso; simp only [IntKind.wrap_i64, IntKind.wrap_i32, IntKind.wrap_u32, IntKind.wrap_u16, IntKind.wrap_u8] at *; omega) | refine J.go [] 900 rfl ?_))))
    refine JF.callV _ rfl (fun w1 hst => cloneB_ok w1 _ _ _ (rd_sub hst (.tail _ (.head _)) rfl rfl hok ho) (by rw [subB_len hok]; obtain ⟨_, _, _⟩ := hok; omega)) fun w1 r w2 hst hq => ?_
    obtain ⟨hx, E, hos, hnew⟩ := hq
    obtain ⟨a', n', c', rfl, hn', hc'⟩ := hos.slice
    refine ⟨_, Tr.news hst hx hnew (fun x hx => nomatch hx), ?_⟩
    refine J.go [] 900 rfl ?_
    refine JF.callF _ rfl (fun w1 hst => clip_ok w1 hos hc') (fun x hx => nomatch hx) ?_
    refine J.go [] 900 rfl ?_
    refine JF.ret rfl fun w' hst => ⟨hst.ext, .inl ⟨hok, _, E, rfl, hos.clip, hst.news (by simp) hos.rw⟩⟩
  · obtain ⟨b, h1, rfl, h2⟩ := hf.tr hst hx
    refine ⟨_, h2, ?_⟩
    refine J.go [] 900 rfl ?_
    (repeat' (first | ((first | ((first | refine JF.condD rfl ?_ ?_ | refine JF.condE rfl ?_ ?_ | refine JF.condN rfl ?_ ?_ | refine JF.guardD rfl ?_ ?_ | refine JF.guardE rfl ?_ ?_ | refine JF.guardN rfl ?_ ?_ | refine JF.cond rfl ?_ ?_ | refine JF.guard rfl ?_ ?_) <;> intro h) | refine JF.l1 0 rfl rfl rfl rfl ?_ | refine JF.ln 0 rfl rfl rfl rfl ?_ | refine JF.l1 1 rfl rfl rfl rfl ?_ | refine JF.ln 1 rfl rfl rfl rfl ?_ | refine JF.l1 2 rfl rfl rfl rfl ?_ | refine JF.ln 2 rfl rfl rfl rfl ?_ | refine JF.l1 3 rfl rfl rfl rfl ?_ | refine JF.ln 3 rfl rfl rfl rfl ?_ | refine JF.l1 4 rfl rfl rfl rfl ?_ | refine JF.ln 4 rfl rfl rfl rfl ?_ | refine JF.l1 5 rfl rfl rfl rfl ?_ | refine JF.ln 5 rfl rfl rfl rfl ?_ | refine JF.l1 6 rfl rfl rfl rfl ?_ | refine JF.ln 6 rfl rfl rfl rfl ?_ | refine JF.l1 7 rfl rfl rfl rfl ?_ | refine JF.ln 7 rfl rfl rfl rfl ?_) <;> (first | (exact absurd h Bool.false_ne_true) | (exact absurd h.symm Bool.false_ne_true) | (exfalso; omega) | (exfalso; simp only [IntKind.wrap_i64, IntKind.wrap_i32, IntKind.wrap_u32, IntKind.wrap_u16, IntKind.wrap_u8] at *; omega) | refine J.go [] 900 rfl ?_))))
    refine JF.ret rfl fun w' hst => ⟨hst.ext, .inr ⟨hok, _, rfl, b, h1, rfl, hst.blk _ (List.Mem.head _)⟩⟩
end Go.HM
