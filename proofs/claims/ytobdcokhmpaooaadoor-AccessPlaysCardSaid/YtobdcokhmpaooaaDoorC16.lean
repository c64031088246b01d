/- Memory through capabilities: contracts. -/
import Derived.Test.YtobdcokhmpaooaaDoorKaccess
import Derived.Test.YtobdcokhmpaooaaDoorKhaspref11
import Derived.Test.YtobdcokhmpaooaaDoorC11
import Derived.Test.YtobdcokhmpaooaaDoorC15
namespace Go.HM
open Go Go.Proofs
set_option linter.unusedSimpArgs false
set_option linter.unusedVariables false

abbrev sSize : ByteArray := ⟨#[115, 105, 122, 101]⟩
abbrev sAccess : ByteArray := ⟨#[97, 99, 99, 101, 115, 115]⟩
abbrev ErrE := Option (ByteArray × Int × Int)

def okSz (n : Int) : Prop := n = 1 ∨ n = 2 ∨ n = 4
instance (n : Int) : Decidable (okSz n) := by unfold okSz; infer_instance
def szE (n : Int) : ErrE := if okSz n then none else some (sSize, n, 7)
def accNo (c : CapV) (a n perm : Int) : Int :=
  if c.tag = false then 1 else if c.type ≠ 0 then 2 else if bAnd .u16 c.perm perm ≠ perm then 3 else if capHas c a n = false then 4 else if 0 < n ∧ a.tmod n ≠ 0 then 5 else 0
def accE (c : CapV) (a n perm : Int) : ErrE := if accNo c a n perm = 0 then none else some (sAccess, a, accNo c a n perm)

theorem access_first (c : CapV) (a n perm : Int) (hc : c.ok) (ha : isU32 a) (hn : isU32 n) (w : World) : Rets Pg n_access_first [c.val, .int .u32 a, .int .u32 n, .int .u16 perm] w fun v w' => Ext NoB w w' ∧ v = .int .i64 (accNo c a n perm) := by
  
  refine rets_of m_access_first rfl rfl (St.nil w) ?_
  refine J.go [4] 900 rfl ?_
  (repeat' (first | ((first | refine JF.l1 0 rfl rfl rfl rfl ?_ | refine JF.ln 0 rfl rfl rfl rfl ?_ | refine JF.l1 1 rfl rfl rfl rfl ?_ | refine JF.ln 1 rfl rfl rfl rfl ?_ | refine JF.l1 2 rfl rfl rfl rfl ?_ | refine JF.ln 2 rfl rfl rfl rfl ?_ | refine JF.l1 3 rfl rfl rfl rfl ?_ | refine JF.ln 3 rfl rfl rfl rfl ?_ | refine JF.l1 4 rfl rfl rfl rfl ?_ | refine JF.ln 4 rfl rfl rfl rfl ?_ | refine JF.l1 5 rfl rfl rfl rfl ?_ | refine JF.ln 5 rfl rfl rfl rfl ?_ | refine JF.l1 6 rfl rfl rfl rfl ?_ | refine JF.ln 6 rfl rfl rfl rfl ?_ | refine JF.l1 7 rfl rfl rfl rfl ?_ | refine JF.ln 7 rfl rfl rfl rfl ?_); refine J.go [4] 900 rfl ?_) | (refine JF.chk rfl ?_ ?_; (focus ((repeat' (apply And.intro)) <;> (first | exact True.intro | omega))); refine J.go [4] 900 rfl ?_) | (((first | refine JF.condD rfl ?_ ?_ | refine JF.condE rfl ?_ ?_ | refine JF.condN rfl ?_ ?_ | refine JF.guardD rfl ?_ ?_ | refine JF.guardE rfl ?_ ?_ | refine JF.guardN rfl ?_ ?_ | refine JF.cond rfl ?_ ?_ | refine JF.guard rfl ?_ ?_) <;> intro h) <;> (first | (exact absurd h Bool.false_ne_true) | (exact absurd h.symm Bool.false_ne_true) | (exact absurd rfl h) | (exfalso; omega) | refine J.go [4] 900 rfl ?_))))
  case refine_1 => refine JF.ret rfl fun w' hst => ⟨hst.ext, ?_⟩; simp_all [tup, accNo]
  case refine_2.refine_1 => refine JF.ret rfl fun w' hst => ⟨hst.ext, ?_⟩; simp_all [tup, accNo]
  case refine_2.refine_2.refine_1 => refine JF.ret rfl fun w' hst => ⟨hst.ext, ?_⟩; simp_all [tup, accNo]
  refine JF.callF _ rfl (fun w1 hst => cap_has c a n hc ha hn w1) (fun x hx => nomatch hx) ?_
  refine J.go [4] 900 rfl ?_
  (repeat' (first | ((first | refine JF.l1 0 rfl rfl rfl rfl ?_ | refine JF.ln 0 rfl rfl rfl rfl ?_ | refine JF.l1 1 rfl rfl rfl rfl ?_ | refine JF.ln 1 rfl rfl rfl rfl ?_ | refine JF.l1 2 rfl rfl rfl rfl ?_ | refine JF.ln 2 rfl rfl rfl rfl ?_ | refine JF.l1 3 rfl rfl rfl rfl ?_ | refine JF.ln 3 rfl rfl rfl rfl ?_ | refine JF.l1 4 rfl rfl rfl rfl ?_ | refine JF.ln 4 rfl rfl rfl rfl ?_ | refine JF.l1 5 rfl rfl rfl rfl ?_ | refine JF.ln 5 rfl rfl rfl rfl ?_ | refine JF.l1 6 rfl rfl rfl rfl ?_ | refine JF.ln 6 rfl rfl rfl rfl ?_ | refine JF.l1 7 rfl rfl rfl rfl ?_ | refine JF.ln 7 rfl rfl rfl rfl ?_); refine J.go [4] 900 rfl ?_) | (refine JF.chk rfl ?_ ?_; (focus ((repeat' (apply And.intro)) <;> (first | exact True.intro | omega))); refine J.go [4] 900 rfl ?_) | (((first | refine JF.condD rfl ?_ ?_ | refine JF.condE rfl ?_ ?_ | refine JF.condN rfl ?_ ?_ | refine JF.guardD rfl ?_ ?_ | refine JF.guardE rfl ?_ ?_ | refine JF.guardN rfl ?_ ?_ | refine JF.cond rfl ?_ ?_ | refine JF.guard rfl ?_ ?_) <;> intro h) <;> (first | (exact absurd h Bool.false_ne_true) | (exact absurd h.symm Bool.false_ne_true) | (exact absurd rfl h) | (exfalso; omega) | refine J.go [4] 900 rfl ?_))))
  all_goals (refine JF.ret rfl fun w' hst => ⟨hst.ext, ?_⟩; simp_all [tup, accNo] <;> (intros; omega))

theorem accNo_ne {c : CapV} {a n perm : Int} (h : accE c a n perm = none) : accNo c a n perm = 0 := by
  unfold accE at h; split at h
  · assumption
  · cases h

theorem errNe_acc (c : CapV) (a n perm : Int) : errNe (accE c a n perm) := by
  unfold accE; split
  · trivial
  · assumption

abbrev fltV (b : Nat) : Value := .iface 86 (.pointer (some ⟨b, 0, none⟩))
/-- An error, made of its parts. -/
theorem ErrR.mk1 {w₀ w : World} {S : Nat → Prop} {L : List Ent} {b : Nat} {part : ByteArray} {at_ no : Int} (hst : St w₀ S w (fltE b part at_ no :: L)) (hb : w₀.heap.size ≤ b) : ErrR w₀ w (.iface 86 (.pointer (some ⟨b, 0, none⟩))) (some (part, at_, no)) :=
  ⟨b, hb, rfl, hst.blk _ (.head _)⟩

theorem access_Check (c : CapV) (a n perm : Int) (hc : c.ok) (ha : isU32 a) (hn : isU32 n) (w : World) : Rets Pg n_access_Check [c.val, .int .u32 a, .int .u32 n, .int .u16 perm] w fun v w' => Ext NoB w w' ∧ ErrR w w' v (accE c a n perm) := by
  
  refine rets_of m_access_Check rfl rfl (St.nil w) ?_
  refine J.go [4] 900 rfl ?_
  refine JF.callF _ rfl (fun w1 hst => access_first c a n perm hc ha hn w1) (fun x hx => nomatch hx) ?_
  refine J.go [4] 900 rfl ?_
  refine JF.callF _ rfl (fun w1 hst => isNum_ok _ 0 w1) (fun x hx => nomatch hx) ?_
  by_cases h0 : accNo c a n perm = 0
  · rw [show (accNo c a n perm == 0) = true by simpa using h0]
    refine J.go [4] 900 rfl ?_
    (repeat' (first | ((first | refine JF.l1 0 rfl rfl rfl rfl ?_ | refine JF.ln 0 rfl rfl rfl rfl ?_ | refine JF.l1 1 rfl rfl rfl rfl ?_ | refine JF.ln 1 rfl rfl rfl rfl ?_ | refine JF.l1 2 rfl rfl rfl rfl ?_ | refine JF.ln 2 rfl rfl rfl rfl ?_ | refine JF.l1 3 rfl rfl rfl rfl ?_ | refine JF.ln 3 rfl rfl rfl rfl ?_ | refine JF.l1 4 rfl rfl rfl rfl ?_ | refine JF.ln 4 rfl rfl rfl rfl ?_ | refine JF.l1 5 rfl rfl rfl rfl ?_ | refine JF.ln 5 rfl rfl rfl rfl ?_ | refine JF.l1 6 rfl rfl rfl rfl ?_ | refine JF.ln 6 rfl rfl rfl rfl ?_ | refine JF.l1 7 rfl rfl rfl rfl ?_ | refine JF.ln 7 rfl rfl rfl rfl ?_); refine J.go [4] 900 rfl ?_) | (refine JF.chk rfl ?_ ?_; (focus ((repeat' (apply And.intro)) <;> (first | exact True.intro | omega))); refine J.go [4] 900 rfl ?_) | (((first | refine JF.condD rfl ?_ ?_ | refine JF.condE rfl ?_ ?_ | refine JF.condN rfl ?_ ?_ | refine JF.guardD rfl ?_ ?_ | refine JF.guardE rfl ?_ ?_ | refine JF.guardN rfl ?_ ?_ | refine JF.cond rfl ?_ ?_ | refine JF.guard rfl ?_ ?_) <;> intro h) <;> (first | (exact absurd h Bool.false_ne_true) | (exact absurd h.symm Bool.false_ne_true) | (exact absurd rfl h) | (exfalso; omega) | refine J.go [4] 900 rfl ?_))))
    refine JF.ret rfl fun w' hst => ⟨hst.ext, ?_⟩
    unfold accE; rw [if_pos h0]; rfl
  · rw [show (accNo c a n perm == 0) = false by simpa using h0]
    refine J.go [4] 900 rfl ?_
    (repeat' (first | ((first | refine JF.l1 0 rfl rfl rfl rfl ?_ | refine JF.ln 0 rfl rfl rfl rfl ?_ | refine JF.l1 1 rfl rfl rfl rfl ?_ | refine JF.ln 1 rfl rfl rfl rfl ?_ | refine JF.l1 2 rfl rfl rfl rfl ?_ | refine JF.ln 2 rfl rfl rfl rfl ?_ | refine JF.l1 3 rfl rfl rfl rfl ?_ | refine JF.ln 3 rfl rfl rfl rfl ?_ | refine JF.l1 4 rfl rfl rfl rfl ?_ | refine JF.ln 4 rfl rfl rfl rfl ?_ | refine JF.l1 5 rfl rfl rfl rfl ?_ | refine JF.ln 5 rfl rfl rfl rfl ?_ | refine JF.l1 6 rfl rfl rfl rfl ?_ | refine JF.ln 6 rfl rfl rfl rfl ?_ | refine JF.l1 7 rfl rfl rfl rfl ?_ | refine JF.ln 7 rfl rfl rfl rfl ?_); refine J.go [4] 900 rfl ?_) | (refine JF.chk rfl ?_ ?_; (focus ((repeat' (apply And.intro)) <;> (first | exact True.intro | omega))); refine J.go [4] 900 rfl ?_) | (((first | refine JF.condD rfl ?_ ?_ | refine JF.condE rfl ?_ ?_ | refine JF.condN rfl ?_ ?_ | refine JF.guardD rfl ?_ ?_ | refine JF.guardE rfl ?_ ?_ | refine JF.guardN rfl ?_ ?_ | refine JF.cond rfl ?_ ?_ | refine JF.guard rfl ?_ ?_) <;> intro h) <;> (first | (exact absurd h Bool.false_ne_true) | (exact absurd h.symm Bool.false_ne_true) | (exact absurd rfl h) | (exfalso; omega) | refine J.go [4] 900 rfl ?_))))
    rw [i64_id (by have := ha.1; omega) (by have := ha.2; omega)]
    refine JF.bx rfl (fun x hx => nomatch hx) fun b hb => ?_
    refine J.go [4] 900 rfl ?_
    refine JF.ret rfl fun w' hst => ⟨hst.ext, ?_⟩
    unfold accE; rw [if_neg h0]; exact ErrR.mk1 hst hb

theorem r_CheckAccess (c : CapV) (a n perm : Int) (hc : c.ok) (ha : isU32 a) (hn : isU32 n) (w : World) : Rets Pg n_haspref11_CheckAccess [c.val, .int .u32 a, .int .u32 n, .int .u16 perm] w fun v w' => Ext NoB w w' ∧ v = wrE (accE c a n perm) := by
  
  have ea : IntKind.i64.wrap a = a := i64_id (by have := ha.1; omega) (by have := ha.2; omega)
  refine rets_of m_haspref11_CheckAccess rfl rfl (St.nil w) ?_
  refine J.go [4,8] 900 rfl ?_
  (repeat' (first | ((first | refine JF.l1 0 rfl rfl rfl rfl ?_ | refine JF.ln 0 rfl rfl rfl rfl ?_ | refine JF.l1 1 rfl rfl rfl rfl ?_ | refine JF.ln 1 rfl rfl rfl rfl ?_ | refine JF.l1 2 rfl rfl rfl rfl ?_ | refine JF.ln 2 rfl rfl rfl rfl ?_ | refine JF.l1 3 rfl rfl rfl rfl ?_ | refine JF.ln 3 rfl rfl rfl rfl ?_ | refine JF.l1 4 rfl rfl rfl rfl ?_ | refine JF.ln 4 rfl rfl rfl rfl ?_ | refine JF.l1 5 rfl rfl rfl rfl ?_ | refine JF.ln 5 rfl rfl rfl rfl ?_ | refine JF.l1 6 rfl rfl rfl rfl ?_ | refine JF.ln 6 rfl rfl rfl rfl ?_ | refine JF.l1 7 rfl rfl rfl rfl ?_ | refine JF.ln 7 rfl rfl rfl rfl ?_); refine J.go [4,8] 900 rfl ?_) | (refine JF.chk rfl ?_ ?_; (focus ((repeat' (apply And.intro)) <;> (first | exact True.intro | omega))); refine J.go [4,8] 900 rfl ?_) | (((first | refine JF.condD rfl ?_ ?_ | refine JF.condE rfl ?_ ?_ | refine JF.condN rfl ?_ ?_ | refine JF.guardD rfl ?_ ?_ | refine JF.guardE rfl ?_ ?_ | refine JF.guardN rfl ?_ ?_ | refine JF.cond rfl ?_ ?_ | refine JF.guard rfl ?_ ?_) <;> intro h) <;> (first | (exact absurd h Bool.false_ne_true) | (exact absurd h.symm Bool.false_ne_true) | (exact absurd rfl h) | (exfalso; omega) | refine J.go [4,8] 900 rfl ?_))))
  case refine_2.refine_2.refine_2 =>
    refine JF.callF _ rfl (fun w1 hst => r_has c a n hc ha hn w1) (fun x hx => nomatch hx) ?_
    refine J.go [4,8] 900 rfl ?_
    (repeat' (first | ((first | refine JF.l1 0 rfl rfl rfl rfl ?_ | refine JF.ln 0 rfl rfl rfl rfl ?_ | refine JF.l1 1 rfl rfl rfl rfl ?_ | refine JF.ln 1 rfl rfl rfl rfl ?_ | refine JF.l1 2 rfl rfl rfl rfl ?_ | refine JF.ln 2 rfl rfl rfl rfl ?_ | refine JF.l1 3 rfl rfl rfl rfl ?_ | refine JF.ln 3 rfl rfl rfl rfl ?_ | refine JF.l1 4 rfl rfl rfl rfl ?_ | refine JF.ln 4 rfl rfl rfl rfl ?_ | refine JF.l1 5 rfl rfl rfl rfl ?_ | refine JF.ln 5 rfl rfl rfl rfl ?_ | refine JF.l1 6 rfl rfl rfl rfl ?_ | refine JF.ln 6 rfl rfl rfl rfl ?_ | refine JF.l1 7 rfl rfl rfl rfl ?_ | refine JF.ln 7 rfl rfl rfl rfl ?_); refine J.go [4,8] 900 rfl ?_) | (refine JF.chk rfl ?_ ?_; (focus ((repeat' (apply And.intro)) <;> (first | exact True.intro | omega))); refine J.go [4,8] 900 rfl ?_) | (((first | refine JF.condD rfl ?_ ?_ | refine JF.condE rfl ?_ ?_ | refine JF.condN rfl ?_ ?_ | refine JF.guardD rfl ?_ ?_ | refine JF.guardE rfl ?_ ?_ | refine JF.guardN rfl ?_ ?_ | refine JF.cond rfl ?_ ?_ | refine JF.guard rfl ?_ ?_) <;> intro h) <;> (first | (exact absurd h Bool.false_ne_true) | (exact absurd h.symm Bool.false_ne_true) | (exact absurd rfl h) | (exfalso; omega) | refine J.go [4,8] 900 rfl ?_))))
    all_goals (refine JF.ret rfl fun w' hst => ⟨hst.ext, ?_⟩; simp_all [tup, accE, accNo, wrE, wr0, wrV] <;> rw [if_pos (fun h => by omega)])
  all_goals (refine JF.ret rfl fun w' hst => ⟨hst.ext, ?_⟩; simp_all [tup, accE, accNo, wrE, wr0, wrV])

def acAddr (c : CapV) (off : Int) : Int := IntKind.u32.wrap (c.addr + IntKind.u32.wrap off)
theorem acAddr_u32 (c : CapV) (off : Int) : isU32 (acAddr c off) := by unfold acAddr isU32; rw [IntKind.wrap_u32]; omega

theorem access_place (c : CapV) (off n perm : Int) (hc : c.ok) (hn : isU32 n) (w : World) : Rets Pg n_access_place [c.val, .int .i32 off, .int .u32 n, .int .u16 perm] w fun v w' => Ext NoB w w' ∧ ∃ f, v = .tuple #[.int .i64 (acAddr c off), f] ∧ ErrR w w' f (accE c (acAddr c off) n perm) := by
  
  refine rets_of m_access_place rfl rfl (St.nil w) ?_
  refine J.go [4] 900 rfl ?_
  have h := acAddr_u32 c off
  refine JF.callV _ rfl (fun w1 hst => access_Check c (acAddr c off) n perm hc h hn w1) fun w1 r w2 hst hq => ?_
  rw [show IntKind.u32.wrap (c.addr + IntKind.u32.wrap off) = acAddr c off from rfl, i64_id (by have := h.1; omega) (by have := h.2; omega)]
  obtain ⟨hx, hf⟩ := hq
  cases hE : accE c (acAddr c off) n perm with
  | none =>
    rw [hE] at hf
    obtain rfl : r = .nilIface := hf
    refine ⟨_, Tr.same hst hx (fun x hx => nomatch hx), ?_⟩
    refine J.go [4] 900 rfl ?_
    refine JF.ret rfl fun w' hst => ⟨hst.ext, _, rfl, rfl⟩
  | some E =>
    obtain ⟨p, a, no⟩ := E
    rw [hE] at hf
    obtain ⟨b, h1, rfl, h2⟩ := FaultAt.tr hst hx hf
    refine ⟨_, h2, ?_⟩
    refine J.go [4] 900 rfl ?_
    refine JF.ret rfl fun w' hst => ⟨hst.ext, _, rfl, ErrR.mk1 hst h1⟩

theorem access_size (n : Int) (w : World) : Rets Pg n_access_size [.int .i64 n] w fun v w' => Ext NoB w w' ∧ ErrR w w' v (szE n) := by
  
  refine rets_of m_access_size rfl rfl (St.nil w) ?_
  refine J.go [] 900 rfl ?_
  (repeat' (first | ((first | refine JF.l1 0 rfl rfl rfl rfl ?_ | refine JF.ln 0 rfl rfl rfl rfl ?_ | refine JF.l1 1 rfl rfl rfl rfl ?_ | refine JF.ln 1 rfl rfl rfl rfl ?_ | refine JF.l1 2 rfl rfl rfl rfl ?_ | refine JF.ln 2 rfl rfl rfl rfl ?_ | refine JF.l1 3 rfl rfl rfl rfl ?_ | refine JF.ln 3 rfl rfl rfl rfl ?_ | refine JF.l1 4 rfl rfl rfl rfl ?_ | refine JF.ln 4 rfl rfl rfl rfl ?_ | refine JF.l1 5 rfl rfl rfl rfl ?_ | refine JF.ln 5 rfl rfl rfl rfl ?_ | refine JF.l1 6 rfl rfl rfl rfl ?_ | refine JF.ln 6 rfl rfl rfl rfl ?_ | refine JF.l1 7 rfl rfl rfl rfl ?_ | refine JF.ln 7 rfl rfl rfl rfl ?_); refine J.go [] 900 rfl ?_) | (refine JF.chk rfl ?_ ?_; (focus ((repeat' (apply And.intro)) <;> (first | exact True.intro | omega))); refine J.go [] 900 rfl ?_) | (((first | refine JF.condD rfl ?_ ?_ | refine JF.condE rfl ?_ ?_ | refine JF.condN rfl ?_ ?_ | refine JF.guardD rfl ?_ ?_ | refine JF.guardE rfl ?_ ?_ | refine JF.guardN rfl ?_ ?_ | refine JF.cond rfl ?_ ?_ | refine JF.guard rfl ?_ ?_) <;> intro h) <;> (first | (exact absurd h Bool.false_ne_true) | (exact absurd h.symm Bool.false_ne_true) | (exact absurd rfl h) | (exfalso; omega) | refine J.go [] 900 rfl ?_))))
  case refine_2.refine_2.refine_2 =>
    refine JF.bx rfl (fun x hx => nomatch hx) fun b hb => ?_
    refine J.go [] 900 rfl ?_
    refine JF.ret rfl fun w' hst => ⟨hst.ext, ?_⟩
    unfold szE; rw [if_neg (by unfold okSz; omega)]; exact ErrR.mk1 hst hb
  all_goals
    refine JF.ret rfl fun w' hst => ⟨hst.ext, ?_⟩
    unfold szE; rw [if_pos (by unfold okSz; omega)]; rfl

theorem r_sized (n : Int) (w : World) : Rets Pg n_haspref11_sized [.int .i64 n] w fun v w' => Ext NoB w w' ∧ v = wrE (szE n) := by
  
  refine rets_of m_haspref11_sized rfl rfl (St.nil w) ?_
  refine J.go [2] 900 rfl ?_
  (repeat' (first | ((first | refine JF.l1 0 rfl rfl rfl rfl ?_ | refine JF.ln 0 rfl rfl rfl rfl ?_ | refine JF.l1 1 rfl rfl rfl rfl ?_ | refine JF.ln 1 rfl rfl rfl rfl ?_ | refine JF.l1 2 rfl rfl rfl rfl ?_ | refine JF.ln 2 rfl rfl rfl rfl ?_ | refine JF.l1 3 rfl rfl rfl rfl ?_ | refine JF.ln 3 rfl rfl rfl rfl ?_ | refine JF.l1 4 rfl rfl rfl rfl ?_ | refine JF.ln 4 rfl rfl rfl rfl ?_ | refine JF.l1 5 rfl rfl rfl rfl ?_ | refine JF.ln 5 rfl rfl rfl rfl ?_ | refine JF.l1 6 rfl rfl rfl rfl ?_ | refine JF.ln 6 rfl rfl rfl rfl ?_ | refine JF.l1 7 rfl rfl rfl rfl ?_ | refine JF.ln 7 rfl rfl rfl rfl ?_); refine J.go [2] 900 rfl ?_) | (refine JF.chk rfl ?_ ?_; (focus ((repeat' (apply And.intro)) <;> (first | exact True.intro | omega))); refine J.go [2] 900 rfl ?_) | (((first | refine JF.condD rfl ?_ ?_ | refine JF.condE rfl ?_ ?_ | refine JF.condN rfl ?_ ?_ | refine JF.guardD rfl ?_ ?_ | refine JF.guardE rfl ?_ ?_ | refine JF.guardN rfl ?_ ?_ | refine JF.cond rfl ?_ ?_ | refine JF.guard rfl ?_ ?_) <;> intro h) <;> (first | (exact absurd h Bool.false_ne_true) | (exact absurd h.symm Bool.false_ne_true) | (exact absurd rfl h) | (exfalso; omega) | refine J.go [2] 900 rfl ?_))))
  all_goals
    refine JF.ret rfl fun w' hst => ⟨hst.ext, ?_⟩
    unfold szE
    first
    | (rw [if_pos (by unfold okSz; omega)]; rfl)
    | (rw [if_neg (by unfold okSz; omega)]; rfl)
end Go.HM
