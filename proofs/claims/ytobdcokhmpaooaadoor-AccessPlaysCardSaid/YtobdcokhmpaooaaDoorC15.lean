/- What is made of capabilities: contracts. -/
import Derived.Test.YtobdcokhmpaooaaDoorKcap
import Derived.Test.YtobdcokhmpaooaaDoorKhaspref11
import Derived.Test.YtobdcokhmpaooaaDoorC8
namespace Go.HM
open Go Go.Proofs
set_option linter.unusedSimpArgs false
set_option linter.unusedVariables false

theorem u64_id {x : Int} (h0 : 0 ≤ x) (h1 : x < 18446744073709551616) : IntKind.u64.wrap x = x := by rw [IntKind.wrap_u64]; omega
theorem u32_id {x : Int} (h0 : 0 ≤ x) (h1 : x < 4294967296) : IntKind.u32.wrap x = x := by rw [IntKind.wrap_u32]; omega
theorem i64_id {x : Int} (h0 : -9223372036854775808 ≤ x) (h1 : x < 9223372036854775808) : IntKind.i64.wrap x = x := by rw [IntKind.wrap_i64]; omega

def isU32 (x : Int) : Prop := 0 ≤ x ∧ x < 4294967296
def isU16 (x : Int) : Prop := 0 ≤ x ∧ x < 65536

/-- Do so many bytes lie within? -/
def capHas (c : CapV) (a n : Int) : Bool := decide (c.base ≤ a) && decide (a + n ≤ c.top)
/-- With a tag only where it may. -/
def capKeep (c : CapV) (t : Bool) : CapV := { c with tag := c.tag && t }

theorem bAnd_u16 (x y : Int) : 0 ≤ bAnd .u16 x y ∧ bAnd .u16 x y < 65536 := by unfold bAnd; rw [IntKind.wrap_u16]; omega

theorem cap_has (c : CapV) (a n : Int) (hc : c.ok) (ha : isU32 a) (hn : isU32 n) (w : World) : Rets Pg n_cap_Has [c.val, .int .u32 a, .int .u32 n] w fun v w' => Ext NoB w w' ∧ v = .bool (capHas c a n) := by
  
  obtain ⟨h1, h2⟩ := ha
  obtain ⟨h3, h4⟩ := hn
  have h5 := hc.2.1
  refine rets_of m_cap_Has rfl rfl (St.nil w) ?_
  refine J.go [3] 900 rfl ?_
  (repeat' (first | ((first | refine JF.l1 0 rfl rfl rfl rfl ?_ | refine JF.ln 0 rfl rfl rfl rfl ?_ | refine JF.l1 1 rfl rfl rfl rfl ?_ | refine JF.ln 1 rfl rfl rfl rfl ?_ | refine JF.l1 2 rfl rfl rfl rfl ?_ | refine JF.ln 2 rfl rfl rfl rfl ?_ | refine JF.l1 3 rfl rfl rfl rfl ?_ | refine JF.ln 3 rfl rfl rfl rfl ?_ | refine JF.l1 4 rfl rfl rfl rfl ?_ | refine JF.ln 4 rfl rfl rfl rfl ?_ | refine JF.l1 5 rfl rfl rfl rfl ?_ | refine JF.ln 5 rfl rfl rfl rfl ?_ | refine JF.l1 6 rfl rfl rfl rfl ?_ | refine JF.ln 6 rfl rfl rfl rfl ?_ | refine JF.l1 7 rfl rfl rfl rfl ?_ | refine JF.ln 7 rfl rfl rfl rfl ?_); refine J.go [3] 900 rfl ?_) | (refine JF.chk rfl ?_ ?_; (focus ((repeat' (apply And.intro)) <;> (first | exact True.intro | omega))); refine J.go [3] 900 rfl ?_) | (((first | refine JF.condD rfl ?_ ?_ | refine JF.condE rfl ?_ ?_ | refine JF.condN rfl ?_ ?_ | refine JF.guardD rfl ?_ ?_ | refine JF.guardE rfl ?_ ?_ | refine JF.guardN rfl ?_ ?_ | refine JF.cond rfl ?_ ?_ | refine JF.guard rfl ?_ ?_) <;> intro h) <;> (first | (exact absurd h Bool.false_ne_true) | (exact absurd h.symm Bool.false_ne_true) | (exact absurd rfl h) | (exfalso; omega) | refine J.go [3] 900 rfl ?_))))
  · refine JF.ret rfl fun w' hst => ⟨hst.ext, ?_⟩
    rw [u64_id h1 (by omega), u64_id h3 (by omega), u64_id (by omega) (by omega), u64_id h5.1 (by omega)]
    simp [tup, capHas, h]
  · refine JF.ret rfl fun w' hst => ⟨hst.ext, ?_⟩
    simp [tup, capHas, h]

theorem r_has (c : CapV) (a n : Int) (hc : c.ok) (ha : isU32 a) (hn : isU32 n) (w : World) : Rets Pg n_haspref11_Has [c.val, .int .u32 a, .int .u32 n] w fun v w' => Ext NoB w w' ∧ v = .bool (capHas c a n) := by
  
  obtain ⟨h1, h2⟩ := ha
  obtain ⟨h3, h4⟩ := hn
  have h5 := hc.2.1
  refine rets_of m_haspref11_Has rfl rfl (St.nil w) ?_
  refine J.go [3] 900 rfl ?_
  (repeat' (first | ((first | refine JF.l1 0 rfl rfl rfl rfl ?_ | refine JF.ln 0 rfl rfl rfl rfl ?_ | refine JF.l1 1 rfl rfl rfl rfl ?_ | refine JF.ln 1 rfl rfl rfl rfl ?_ | refine JF.l1 2 rfl rfl rfl rfl ?_ | refine JF.ln 2 rfl rfl rfl rfl ?_ | refine JF.l1 3 rfl rfl rfl rfl ?_ | refine JF.ln 3 rfl rfl rfl rfl ?_ | refine JF.l1 4 rfl rfl rfl rfl ?_ | refine JF.ln 4 rfl rfl rfl rfl ?_ | refine JF.l1 5 rfl rfl rfl rfl ?_ | refine JF.ln 5 rfl rfl rfl rfl ?_ | refine JF.l1 6 rfl rfl rfl rfl ?_ | refine JF.ln 6 rfl rfl rfl rfl ?_ | refine JF.l1 7 rfl rfl rfl rfl ?_ | refine JF.ln 7 rfl rfl rfl rfl ?_); refine J.go [3] 900 rfl ?_) | (refine JF.chk rfl ?_ ?_; (focus ((repeat' (apply And.intro)) <;> (first | exact True.intro | omega))); refine J.go [3] 900 rfl ?_) | (((first | refine JF.condD rfl ?_ ?_ | refine JF.condE rfl ?_ ?_ | refine JF.condN rfl ?_ ?_ | refine JF.guardD rfl ?_ ?_ | refine JF.guardE rfl ?_ ?_ | refine JF.guardN rfl ?_ ?_ | refine JF.cond rfl ?_ ?_ | refine JF.guard rfl ?_ ?_) <;> intro h) <;> (first | (exact absurd h Bool.false_ne_true) | (exact absurd h.symm Bool.false_ne_true) | (exact absurd rfl h) | (exfalso; omega) | refine J.go [3] 900 rfl ?_))))
  · refine JF.ret rfl fun w' hst => ⟨hst.ext, ?_⟩
    rw [u64_id h1 (by omega), u64_id h3 (by omega), u64_id (by omega) (by omega), u64_id h5.1 (by omega)]
    simp [tup, capHas, h]
  · refine JF.ret rfl fun w' hst => ⟨hst.ext, ?_⟩
    simp [tup, capHas, h]

theorem cap_kept (c : CapV) (t : Bool) (w : World) : Rets Pg n_cap_Cap_kept [c.val, .bool t] w fun v w' => Ext NoB w w' ∧ v = (capKeep c t).val := by
  
  refine rets_of m_cap_Cap_kept rfl rfl (St.nil w) ?_
  refine J.go [2,4] 900 rfl ?_
  (repeat' (first | ((first | refine JF.l1 0 rfl rfl rfl rfl ?_ | refine JF.ln 0 rfl rfl rfl rfl ?_ | refine JF.l1 1 rfl rfl rfl rfl ?_ | refine JF.ln 1 rfl rfl rfl rfl ?_ | refine JF.l1 2 rfl rfl rfl rfl ?_ | refine JF.ln 2 rfl rfl rfl rfl ?_ | refine JF.l1 3 rfl rfl rfl rfl ?_ | refine JF.ln 3 rfl rfl rfl rfl ?_ | refine JF.l1 4 rfl rfl rfl rfl ?_ | refine JF.ln 4 rfl rfl rfl rfl ?_ | refine JF.l1 5 rfl rfl rfl rfl ?_ | refine JF.ln 5 rfl rfl rfl rfl ?_ | refine JF.l1 6 rfl rfl rfl rfl ?_ | refine JF.ln 6 rfl rfl rfl rfl ?_ | refine JF.l1 7 rfl rfl rfl rfl ?_ | refine JF.ln 7 rfl rfl rfl rfl ?_); refine J.go [2,4] 900 rfl ?_) | (refine JF.chk rfl ?_ ?_; (focus ((repeat' (apply And.intro)) <;> (first | exact True.intro | omega))); refine J.go [2,4] 900 rfl ?_) | (((first | refine JF.condD rfl ?_ ?_ | refine JF.condE rfl ?_ ?_ | refine JF.condN rfl ?_ ?_ | refine JF.guardD rfl ?_ ?_ | refine JF.guardE rfl ?_ ?_ | refine JF.guardN rfl ?_ ?_ | refine JF.cond rfl ?_ ?_ | refine JF.guard rfl ?_ ?_) <;> intro h) <;> (first | (exact absurd h Bool.false_ne_true) | (exact absurd h.symm Bool.false_ne_true) | (exact absurd rfl h) | (exfalso; omega) | refine J.go [2,4] 900 rfl ?_))))
  · refine JF.ret rfl fun w' hst => ⟨hst.ext, ?_⟩
    simp [tup, capKeep, CapV.val, h]
  · refine JF.ret rfl fun w' hst => ⟨hst.ext, ?_⟩
    simp [tup, capKeep, CapV.val, h]

theorem r_asks (c : CapV) (t : Bool) (w : World) : Rets Pg n_haspref11_asks [c.val, .bool t] w fun v w' => Ext NoB w w' ∧ v = (capKeep c t).val := by
  
  refine rets_of m_haspref11_asks rfl rfl (St.nil w) ?_
  refine J.go [2,4] 900 rfl ?_
  (repeat' (first | ((first | refine JF.l1 0 rfl rfl rfl rfl ?_ | refine JF.ln 0 rfl rfl rfl rfl ?_ | refine JF.l1 1 rfl rfl rfl rfl ?_ | refine JF.ln 1 rfl rfl rfl rfl ?_ | refine JF.l1 2 rfl rfl rfl rfl ?_ | refine JF.ln 2 rfl rfl rfl rfl ?_ | refine JF.l1 3 rfl rfl rfl rfl ?_ | refine JF.ln 3 rfl rfl rfl rfl ?_ | refine JF.l1 4 rfl rfl rfl rfl ?_ | refine JF.ln 4 rfl rfl rfl rfl ?_ | refine JF.l1 5 rfl rfl rfl rfl ?_ | refine JF.ln 5 rfl rfl rfl rfl ?_ | refine JF.l1 6 rfl rfl rfl rfl ?_ | refine JF.ln 6 rfl rfl rfl rfl ?_ | refine JF.l1 7 rfl rfl rfl rfl ?_ | refine JF.ln 7 rfl rfl rfl rfl ?_); refine J.go [2,4] 900 rfl ?_) | (refine JF.chk rfl ?_ ?_; (focus ((repeat' (apply And.intro)) <;> (first | exact True.intro | omega))); refine J.go [2,4] 900 rfl ?_) | (((first | refine JF.condD rfl ?_ ?_ | refine JF.condE rfl ?_ ?_ | refine JF.condN rfl ?_ ?_ | refine JF.guardD rfl ?_ ?_ | refine JF.guardE rfl ?_ ?_ | refine JF.guardN rfl ?_ ?_ | refine JF.cond rfl ?_ ?_ | refine JF.guard rfl ?_ ?_) <;> intro h) <;> (first | (exact absurd h Bool.false_ne_true) | (exact absurd h.symm Bool.false_ne_true) | (exact absurd rfl h) | (exfalso; omega) | refine J.go [2,4] 900 rfl ?_))))
  · refine JF.ret rfl fun w' hst => ⟨hst.ext, ?_⟩
    simp [tup, capKeep, CapV.val, h]
  · refine JF.ret rfl fun w' hst => ⟨hst.ext, ?_⟩
    simp [tup, capKeep, CapV.val, h]

/-- What a capability permits: 0 nothing asked but that it is open, 1 permissions too, 2 a byte at its address too. -/
def capMay (c : CapV) (what perm : Int) : Bool :=
  (if what = 2 then capHas c c.addr 1 else true) && (if what = 2 ∨ what = 1 then bAnd .u16 c.perm perm == perm else true) && (c.type == 0)

theorem cap_may (c : CapV) (what perm : Int) (hc : c.ok) (hw : what = 0 ∨ what = 1 ∨ what = 2) (w : World) : Rets Pg n_cap_Cap_may [c.val, .int .i64 what, .int .u16 perm] w fun v w' => Ext NoB w w' ∧ v = .bool (capMay c what perm) := by
  
  refine rets_of m_cap_Cap_may rfl rfl (St.nil w) ?_
  rcases hw with rfl | rfl | rfl
  · refine J.go [3] 900 rfl ?_
    (repeat' (first | ((first | refine JF.l1 0 rfl rfl rfl rfl ?_ | refine JF.ln 0 rfl rfl rfl rfl ?_ | refine JF.l1 1 rfl rfl rfl rfl ?_ | refine JF.ln 1 rfl rfl rfl rfl ?_ | refine JF.l1 2 rfl rfl rfl rfl ?_ | refine JF.ln 2 rfl rfl rfl rfl ?_ | refine JF.l1 3 rfl rfl rfl rfl ?_ | refine JF.ln 3 rfl rfl rfl rfl ?_ | refine JF.l1 4 rfl rfl rfl rfl ?_ | refine JF.ln 4 rfl rfl rfl rfl ?_ | refine JF.l1 5 rfl rfl rfl rfl ?_ | refine JF.ln 5 rfl rfl rfl rfl ?_ | refine JF.l1 6 rfl rfl rfl rfl ?_ | refine JF.ln 6 rfl rfl rfl rfl ?_ | refine JF.l1 7 rfl rfl rfl rfl ?_ | refine JF.ln 7 rfl rfl rfl rfl ?_); refine J.go [3] 900 rfl ?_) | (refine JF.chk rfl ?_ ?_; (focus ((repeat' (apply And.intro)) <;> (first | exact True.intro | omega))); refine J.go [3] 900 rfl ?_) | (((first | refine JF.condD rfl ?_ ?_ | refine JF.condE rfl ?_ ?_ | refine JF.condN rfl ?_ ?_ | refine JF.guardD rfl ?_ ?_ | refine JF.guardE rfl ?_ ?_ | refine JF.guardN rfl ?_ ?_ | refine JF.cond rfl ?_ ?_ | refine JF.guard rfl ?_ ?_) <;> intro h) <;> (first | (exact absurd h Bool.false_ne_true) | (exact absurd h.symm Bool.false_ne_true) | (exact absurd rfl h) | (exfalso; omega) | refine J.go [3] 900 rfl ?_))))
    refine JF.ret rfl fun w' hst => ⟨hst.ext, ?_⟩
    simp [tup, capMay]
  · refine J.go [3] 900 rfl ?_
    (repeat' (first | ((first | refine JF.l1 0 rfl rfl rfl rfl ?_ | refine JF.ln 0 rfl rfl rfl rfl ?_ | refine JF.l1 1 rfl rfl rfl rfl ?_ | refine JF.ln 1 rfl rfl rfl rfl ?_ | refine JF.l1 2 rfl rfl rfl rfl ?_ | refine JF.ln 2 rfl rfl rfl rfl ?_ | refine JF.l1 3 rfl rfl rfl rfl ?_ | refine JF.ln 3 rfl rfl rfl rfl ?_ | refine JF.l1 4 rfl rfl rfl rfl ?_ | refine JF.ln 4 rfl rfl rfl rfl ?_ | refine JF.l1 5 rfl rfl rfl rfl ?_ | refine JF.ln 5 rfl rfl rfl rfl ?_ | refine JF.l1 6 rfl rfl rfl rfl ?_ | refine JF.ln 6 rfl rfl rfl rfl ?_ | refine JF.l1 7 rfl rfl rfl rfl ?_ | refine JF.ln 7 rfl rfl rfl rfl ?_); refine J.go [3] 900 rfl ?_) | (refine JF.chk rfl ?_ ?_; (focus ((repeat' (apply And.intro)) <;> (first | exact True.intro | omega))); refine J.go [3] 900 rfl ?_) | (((first | refine JF.condD rfl ?_ ?_ | refine JF.condE rfl ?_ ?_ | refine JF.condN rfl ?_ ?_ | refine JF.guardD rfl ?_ ?_ | refine JF.guardE rfl ?_ ?_ | refine JF.guardN rfl ?_ ?_ | refine JF.cond rfl ?_ ?_ | refine JF.guard rfl ?_ ?_) <;> intro h) <;> (first | (exact absurd h Bool.false_ne_true) | (exact absurd h.symm Bool.false_ne_true) | (exact absurd rfl h) | (exfalso; omega) | refine J.go [3] 900 rfl ?_))))
    all_goals
      refine JF.ret rfl fun w' hst => ⟨hst.ext, ?_⟩
      simp_all [tup, capMay]
  · refine J.go [3] 900 rfl ?_
    (repeat' (first | ((first | refine JF.l1 0 rfl rfl rfl rfl ?_ | refine JF.ln 0 rfl rfl rfl rfl ?_ | refine JF.l1 1 rfl rfl rfl rfl ?_ | refine JF.ln 1 rfl rfl rfl rfl ?_ | refine JF.l1 2 rfl rfl rfl rfl ?_ | refine JF.ln 2 rfl rfl rfl rfl ?_ | refine JF.l1 3 rfl rfl rfl rfl ?_ | refine JF.ln 3 rfl rfl rfl rfl ?_ | refine JF.l1 4 rfl rfl rfl rfl ?_ | refine JF.ln 4 rfl rfl rfl rfl ?_ | refine JF.l1 5 rfl rfl rfl rfl ?_ | refine JF.ln 5 rfl rfl rfl rfl ?_ | refine JF.l1 6 rfl rfl rfl rfl ?_ | refine JF.ln 6 rfl rfl rfl rfl ?_ | refine JF.l1 7 rfl rfl rfl rfl ?_ | refine JF.ln 7 rfl rfl rfl rfl ?_); refine J.go [3] 900 rfl ?_) | (refine JF.chk rfl ?_ ?_; (focus ((repeat' (apply And.intro)) <;> (first | exact True.intro | omega))); refine J.go [3] 900 rfl ?_) | (((first | refine JF.condD rfl ?_ ?_ | refine JF.condE rfl ?_ ?_ | refine JF.condN rfl ?_ ?_ | refine JF.guardD rfl ?_ ?_ | refine JF.guardE rfl ?_ ?_ | refine JF.guardN rfl ?_ ?_ | refine JF.cond rfl ?_ ?_ | refine JF.guard rfl ?_ ?_) <;> intro h) <;> (first | (exact absurd h Bool.false_ne_true) | (exact absurd h.symm Bool.false_ne_true) | (exact absurd rfl h) | (exfalso; omega) | refine J.go [3] 900 rfl ?_))))
    refine JF.callF _ rfl (fun w1 hst => cap_has c c.addr 1 hc hc.2.2.1 (by constructor <;> decide) w1) (fun x hx => nomatch hx) ?_
    refine J.go [3] 900 rfl ?_
    (repeat' (first | ((first | refine JF.l1 0 rfl rfl rfl rfl ?_ | refine JF.ln 0 rfl rfl rfl rfl ?_ | refine JF.l1 1 rfl rfl rfl rfl ?_ | refine JF.ln 1 rfl rfl rfl rfl ?_ | refine JF.l1 2 rfl rfl rfl rfl ?_ | refine JF.ln 2 rfl rfl rfl rfl ?_ | refine JF.l1 3 rfl rfl rfl rfl ?_ | refine JF.ln 3 rfl rfl rfl rfl ?_ | refine JF.l1 4 rfl rfl rfl rfl ?_ | refine JF.ln 4 rfl rfl rfl rfl ?_ | refine JF.l1 5 rfl rfl rfl rfl ?_ | refine JF.ln 5 rfl rfl rfl rfl ?_ | refine JF.l1 6 rfl rfl rfl rfl ?_ | refine JF.ln 6 rfl rfl rfl rfl ?_ | refine JF.l1 7 rfl rfl rfl rfl ?_ | refine JF.ln 7 rfl rfl rfl rfl ?_); refine J.go [3] 900 rfl ?_) | (refine JF.chk rfl ?_ ?_; (focus ((repeat' (apply And.intro)) <;> (first | exact True.intro | omega))); refine J.go [3] 900 rfl ?_) | (((first | refine JF.condD rfl ?_ ?_ | refine JF.condE rfl ?_ ?_ | refine JF.condN rfl ?_ ?_ | refine JF.guardD rfl ?_ ?_ | refine JF.guardE rfl ?_ ?_ | refine JF.guardN rfl ?_ ?_ | refine JF.cond rfl ?_ ?_ | refine JF.guard rfl ?_ ?_) <;> intro h) <;> (first | (exact absurd h Bool.false_ne_true) | (exact absurd h.symm Bool.false_ne_true) | (exact absurd rfl h) | (exfalso; omega) | refine J.go [3] 900 rfl ?_))))
    all_goals
      refine JF.ret rfl fun w' hst => ⟨hst.ext, ?_⟩
      simp_all [tup, capMay]

def capSetAddr (c : CapV) (a : Int) : CapV := capKeep { c with addr := a } (c.type == 0)
def capBounds (c : CapV) (n : Int) : CapV := capKeep { c with base := c.addr, top := IntKind.u32.wrap (c.addr + n) } (c.type == 0 && capHas c c.addr n)
def capAndPerm (c : CapV) (m : Int) : CapV := capKeep { c with perm := bAnd .u16 c.perm m } (c.type == 0)
def capClear (c : CapV) : CapV := capKeep c false

theorem capMay_0 (c : CapV) (p : Int) : capMay c 0 p = (c.type == 0) := by simp [capMay]

theorem CapV.ok_addr {c : CapV} (h : c.ok) {a : Int} (ha : isU32 a) : ({ c with addr := a } : CapV).ok := ⟨h.1, h.2.1, ha, h.2.2.2⟩

theorem cap_setAddr (c : CapV) (a : Int) (hc : c.ok) (ha : isU32 a) (w : World) : Rets Pg n_cap_SetAddr [c.val, .int .u32 a] w fun v w' => Ext NoB w w' ∧ v = (capSetAddr c a).val := by
  
  refine rets_of m_cap_SetAddr rfl rfl (St.nil w) ?_
  refine J.go [2,4] 900 rfl ?_
  refine JF.draw [2] [] rfl (fun x hx => nomatch hx) ?_
  refine J.go [2,4] 900 rfl ?_
  refine JF.callF _ rfl (fun w1 hst => cap_may { c with addr := a } 0 0 (CapV.ok_addr hc ha) (.inl rfl) w1) (fun x hx => nomatch hx) ?_
  rw [capMay_0]
  refine J.go [2,4] 900 rfl ?_
  refine JF.callF _ rfl (fun w1 hst => cap_kept { c with addr := a } _ w1) (fun x hx => nomatch hx) ?_
  refine J.go [2,4] 900 rfl ?_
  refine JF.ret rfl fun w' hst => ⟨hst.ext, rfl⟩

theorem cap_andPerm (c : CapV) (m : Int) (hc : c.ok) (hm : isU16 m) (w : World) : Rets Pg n_cap_AndPerm [c.val, .int .u16 m] w fun v w' => Ext NoB w w' ∧ v = (capAndPerm c m).val := by
  
  refine rets_of m_cap_AndPerm rfl rfl (St.nil w) ?_
  refine J.go [2,4] 900 rfl ?_
  refine JF.draw [2] [] rfl (fun x hx => nomatch hx) ?_
  refine J.go [2,4] 900 rfl ?_
  refine JF.callF _ rfl (fun w1 hst => cap_may { c with perm := bAnd .u16 c.perm m } 0 0 ⟨hc.1, hc.2.1, hc.2.2.1, bAnd_u16 _ _, hc.2.2.2.2⟩ (.inl rfl) w1) (fun x hx => nomatch hx) ?_
  rw [capMay_0]
  refine J.go [2,4] 900 rfl ?_
  refine JF.callF _ rfl (fun w1 hst => cap_kept { c with perm := bAnd .u16 c.perm m } _ w1) (fun x hx => nomatch hx) ?_
  refine J.go [2,4] 900 rfl ?_
  refine JF.ret rfl fun w' hst => ⟨hst.ext, rfl⟩

theorem capBounds_open {c : CapV} {n : Int} (h0 : c.type = 0) : capBounds c n = capKeep { c with base := c.addr, top := IntKind.u32.wrap (c.addr + n) } (capHas c c.addr n) := by
  unfold capBounds; rw [show (c.type == 0) = true by simpa using h0, Bool.true_and]
theorem capBounds_shut {c : CapV} {n : Int} (h0 : ¬ c.type = 0) : capBounds c n = capKeep { c with base := c.addr, top := IntKind.u32.wrap (c.addr + n) } false := by
  unfold capBounds; rw [show (c.type == 0) = false by simpa using h0, Bool.false_and]

theorem cap_bounds (c : CapV) (n : Int) (hc : c.ok) (hn : isU32 n) (w : World) : Rets Pg n_cap_Bounds [c.val, .int .u32 n] w fun v w' => Ext NoB w w' ∧ v = (capBounds c n).val := by
  
  refine rets_of m_cap_Bounds rfl rfl (St.nil w) ?_
  refine J.go [2,4] 900 rfl ?_
  refine JF.callF _ rfl (fun w1 hst => cap_may c 0 0 hc (.inl rfl) w1) (fun x hx => nomatch hx) ?_
  rw [capMay_0]
  by_cases h0 : c.type = 0
  · rw [show (c.type == 0) = true by simpa using h0, capBounds_open h0]
    refine J.go [2,4] 900 rfl ?_
    (repeat' (first | ((first | refine JF.l1 0 rfl rfl rfl rfl ?_ | refine JF.ln 0 rfl rfl rfl rfl ?_ | refine JF.l1 1 rfl rfl rfl rfl ?_ | refine JF.ln 1 rfl rfl rfl rfl ?_ | refine JF.l1 2 rfl rfl rfl rfl ?_ | refine JF.ln 2 rfl rfl rfl rfl ?_ | refine JF.l1 3 rfl rfl rfl rfl ?_ | refine JF.ln 3 rfl rfl rfl rfl ?_ | refine JF.l1 4 rfl rfl rfl rfl ?_ | refine JF.ln 4 rfl rfl rfl rfl ?_ | refine JF.l1 5 rfl rfl rfl rfl ?_ | refine JF.ln 5 rfl rfl rfl rfl ?_ | refine JF.l1 6 rfl rfl rfl rfl ?_ | refine JF.ln 6 rfl rfl rfl rfl ?_ | refine JF.l1 7 rfl rfl rfl rfl ?_ | refine JF.ln 7 rfl rfl rfl rfl ?_); refine J.go [2,4] 900 rfl ?_) | (refine JF.chk rfl ?_ ?_; (focus ((repeat' (apply And.intro)) <;> (first | exact True.intro | omega))); refine J.go [2,4] 900 rfl ?_) | (((first | refine JF.condD rfl ?_ ?_ | refine JF.condE rfl ?_ ?_ | refine JF.condN rfl ?_ ?_ | refine JF.guardD rfl ?_ ?_ | refine JF.guardE rfl ?_ ?_ | refine JF.guardN rfl ?_ ?_ | refine JF.cond rfl ?_ ?_ | refine JF.guard rfl ?_ ?_) <;> intro h) <;> (first | (exact absurd h Bool.false_ne_true) | (exact absurd h.symm Bool.false_ne_true) | (exact absurd rfl h) | (exfalso; omega) | refine J.go [2,4] 900 rfl ?_))))
    refine JF.callF _ rfl (fun w1 hst => cap_has c c.addr n hc hc.2.2.1 hn w1) (fun x hx => nomatch hx) ?_
    refine J.go [2,4] 900 rfl ?_
    refine JF.callF _ rfl (fun w1 hst => cap_kept { c with base := c.addr, top := IntKind.u32.wrap (c.addr + n) } _ w1) (fun x hx => nomatch hx) ?_
    refine J.go [2,4] 900 rfl ?_
    refine JF.ret rfl fun w' hst => ⟨hst.ext, rfl⟩
  · rw [show (c.type == 0) = false by simpa using h0, capBounds_shut h0]
    refine J.go [2,4] 900 rfl ?_
    (repeat' (first | ((first | refine JF.l1 0 rfl rfl rfl rfl ?_ | refine JF.ln 0 rfl rfl rfl rfl ?_ | refine JF.l1 1 rfl rfl rfl rfl ?_ | refine JF.ln 1 rfl rfl rfl rfl ?_ | refine JF.l1 2 rfl rfl rfl rfl ?_ | refine JF.ln 2 rfl rfl rfl rfl ?_ | refine JF.l1 3 rfl rfl rfl rfl ?_ | refine JF.ln 3 rfl rfl rfl rfl ?_ | refine JF.l1 4 rfl rfl rfl rfl ?_ | refine JF.ln 4 rfl rfl rfl rfl ?_ | refine JF.l1 5 rfl rfl rfl rfl ?_ | refine JF.ln 5 rfl rfl rfl rfl ?_ | refine JF.l1 6 rfl rfl rfl rfl ?_ | refine JF.ln 6 rfl rfl rfl rfl ?_ | refine JF.l1 7 rfl rfl rfl rfl ?_ | refine JF.ln 7 rfl rfl rfl rfl ?_); refine J.go [2,4] 900 rfl ?_) | (refine JF.chk rfl ?_ ?_; (focus ((repeat' (apply And.intro)) <;> (first | exact True.intro | omega))); refine J.go [2,4] 900 rfl ?_) | (((first | refine JF.condD rfl ?_ ?_ | refine JF.condE rfl ?_ ?_ | refine JF.condN rfl ?_ ?_ | refine JF.guardD rfl ?_ ?_ | refine JF.guardE rfl ?_ ?_ | refine JF.guardN rfl ?_ ?_ | refine JF.cond rfl ?_ ?_ | refine JF.guard rfl ?_ ?_) <;> intro h) <;> (first | (exact absurd h Bool.false_ne_true) | (exact absurd h.symm Bool.false_ne_true) | (exact absurd rfl h) | (exfalso; omega) | refine J.go [2,4] 900 rfl ?_))))
    refine JF.callF _ rfl (fun w1 hst => cap_kept { c with base := c.addr, top := IntKind.u32.wrap (c.addr + n) } _ w1) (fun x hx => nomatch hx) ?_
    refine J.go [2,4] 900 rfl ?_
    refine JF.ret rfl fun w' hst => ⟨hst.ext, rfl⟩

theorem cap_clear (c : CapV) (w : World) : Rets Pg n_cap_Clear [c.val] w fun v w' => Ext NoB w w' ∧ v = (capClear c).val := by
  
  refine rets_of m_cap_Clear rfl rfl (St.nil w) ?_
  refine J.go [1,2] 900 rfl ?_
  refine JF.callF _ rfl (fun w1 hst => cap_kept c false w1) (fun x hx => nomatch hx) ?_
  refine J.go [1,2] 900 rfl ?_
  refine JF.ret rfl fun w' hst => ⟨hst.ext, rfl⟩

theorem r_root_ok (n : Int) (w : World) : Rets Pg n_haspref11_Root [.int .u32 n] w fun v w' => Ext NoB w w' ∧ v = (CapV.mk true 0 n 0 127 0).val := by
  
  refine rets_of m_haspref11_Root rfl rfl (St.nil w) ?_
  refine J.go [2] 900 rfl ?_
  refine JF.ret rfl fun w' hst => ⟨hst.ext, rfl⟩
end Go.HM
