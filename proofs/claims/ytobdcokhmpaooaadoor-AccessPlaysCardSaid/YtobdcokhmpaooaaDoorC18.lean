/- The document's loads, all stores, through capabilities: contracts. -/
import Derived.Test.YtobdcokhmpaooaaDoorKaccess
import Derived.Test.YtobdcokhmpaooaaDoorKhaspref11
import Derived.Test.YtobdcokhmpaooaaDoorC17
namespace Go.HM
open Go Go.Proofs
set_option linter.unusedSimpArgs false
set_option linter.unusedVariables false

theorem acc_i64 {c : CapV} {off : Int} : isI64 (acAddr c off) := by have h := acAddr_u32 c off; have := h.1; have := h.2; constructor <;> omega
theorem acc_conv {c : CapV} {off : Int} : IntKind.i64.wrap (acAddr c off) = acAddr c off := by have h := acAddr_u32 c off; rw [i64_id] <;> (have := h.1; have := h.2; omega)
theorem okSz_u32 {n : Int} (hs : okSz n) : isU32 n := by unfold okSz at hs; constructor <;> omega
theorem okSz_conv {n : Int} (hs : okSz n) : IntKind.u32.wrap n = n := u32_id (okSz_u32 hs).1 (okSz_u32 hs).2

theorem mE_sz {m : Nat} {c : CapV} {off n perm : Int} (hs : ¬ okSz n) : mE m c off n perm = some (sSize, n, 7) := by unfold mE szE; rw [if_neg hs]
theorem mE_acc {m : Nat} {c : CapV} {off n perm : Int} (hs : okSz n) {E : ByteArray × Int × Int} (h : accE c (acAddr c off) n perm = some E) : mE m c off n perm = some E := by
  unfold mE szE; rw [if_pos hs]; simp only [okSz_conv hs, h]
theorem mE_mem {m : Nat} {c : CapV} {off n perm : Int} (hs : okSz n) (h : accE c (acAddr c off) n perm = none) (hr : ¬ okR m (acAddr c off) n) : mE m c off n perm = some (sMem, acAddr c off, 6) := by
  unfold mE szE; rw [if_pos hs]; simp only [okSz_conv hs, h, if_neg hr]
theorem mE_ok {m : Nat} {c : CapV} {off n perm : Int} (hs : okSz n) (h : accE c (acAddr c off) n perm = none) (hr : okR m (acAddr c off) n) : mE m c off n perm = none := by
  unfold mE szE; rw [if_pos hs]; simp only [okSz_conv hs, h, if_pos hr]
theorem accE_ne {c : CapV} {a n perm : Int} {p : ByteArray} {x no : Int} (h : accE c a n perm = some (p, x, no)) : no ≠ 0 := by have := errNe_acc c a n perm; rw [h] at this; exact this

theorem r_Read {t : TypeId} {M : MB} {r : Bool} {B : List Int} {T : List Bool} (c : CapV) (off n : Int) (sign : Bool) (w : World) (hw : Here w (memL t M r B T)) (hM : okM M B T) (hB : isB B) (hc : c.ok) (hn : isI64 n) :
    Rets Pg n_haspref11_Read [.pointer (some ⟨M.bm, 0, none⟩), c.val, .int .i32 off, .int .i64 n, .bool sign] w fun v w' => Ext NoB w w' ∧ v = .tuple #[.int .u32 (ldR B c off n sign), wrE (mE B.length c off n 1)] := by
  
  have hM' := hM
  obtain ⟨k1, k2, k3, k4, k5⟩ := hM'
  refine rets_of m_haspref11_Read rfl rfl ((show Here w (memL t M false B T) from hw.ro).start (S := NoB) (by simp)) ?_
  refine J.go [6,11,13,15] 900 rfl ?_
  refine JF.callF _ rfl (fun w1 hst => r_sized n w1) (fun x hx => nomatch hx) ?_
  have hld : ∀ {E}, mE B.length c off n 1 = some E → ldR B c off n sign = 0 := fun h => if_neg (by rw [h]; simp)
  by_cases hs : okSz n
  case neg =>
    rw [show szE n = some (sSize, n, 7) from if_neg hs]
    refine J.go [6,11,13,15] 900 rfl ?_
    (repeat' (first | ((first | refine JF.l1 0 rfl rfl rfl rfl ?_ | refine JF.ln 0 rfl rfl rfl rfl ?_ | refine JF.l1 1 rfl rfl rfl rfl ?_ | refine JF.ln 1 rfl rfl rfl rfl ?_ | refine JF.l1 2 rfl rfl rfl rfl ?_ | refine JF.ln 2 rfl rfl rfl rfl ?_ | refine JF.l1 3 rfl rfl rfl rfl ?_ | refine JF.ln 3 rfl rfl rfl rfl ?_ | refine JF.l1 4 rfl rfl rfl rfl ?_ | refine JF.ln 4 rfl rfl rfl rfl ?_ | refine JF.l1 5 rfl rfl rfl rfl ?_ | refine JF.ln 5 rfl rfl rfl rfl ?_ | refine JF.l1 6 rfl rfl rfl rfl ?_ | refine JF.ln 6 rfl rfl rfl rfl ?_ | refine JF.l1 7 rfl rfl rfl rfl ?_ | refine JF.ln 7 rfl rfl rfl rfl ?_); refine J.go [6,11,13,15] 900 rfl ?_) | (refine JF.chk rfl ?_ ?_; (focus ((repeat' (apply And.intro)) <;> (first | exact True.intro | omega))); refine J.go [6,11,13,15] 900 rfl ?_) | (((first | refine JF.condD rfl ?_ ?_ | refine JF.condE rfl ?_ ?_ | refine JF.condN rfl ?_ ?_ | refine JF.guardD rfl ?_ ?_ | refine JF.guardE rfl ?_ ?_ | refine JF.guardN rfl ?_ ?_ | refine JF.cond rfl ?_ ?_ | refine JF.guard rfl ?_ ?_) <;> intro h) <;> (first | (exact absurd h Bool.false_ne_true) | (exact absurd h.symm Bool.false_ne_true) | (exact absurd rfl h) | (exfalso; omega) | refine J.go [6,11,13,15] 900 rfl ?_))))
    refine JF.draw [13] [] rfl (fun x hx => nomatch hx) ?_
    refine J.go [6,11,13,15] 900 rfl ?_
    refine JF.ret rfl fun w' hst => ⟨hst.ext, ?_⟩
    rw [hld (mE_sz hs), mE_sz hs]; rfl
  rw [show szE n = none from if_pos hs]
  refine J.go [6,11,13,15] 900 rfl ?_
  (repeat' (first | ((first | refine JF.l1 0 rfl rfl rfl rfl ?_ | refine JF.ln 0 rfl rfl rfl rfl ?_ | refine JF.l1 1 rfl rfl rfl rfl ?_ | refine JF.ln 1 rfl rfl rfl rfl ?_ | refine JF.l1 2 rfl rfl rfl rfl ?_ | refine JF.ln 2 rfl rfl rfl rfl ?_ | refine JF.l1 3 rfl rfl rfl rfl ?_ | refine JF.ln 3 rfl rfl rfl rfl ?_ | refine JF.l1 4 rfl rfl rfl rfl ?_ | refine JF.ln 4 rfl rfl rfl rfl ?_ | refine JF.l1 5 rfl rfl rfl rfl ?_ | refine JF.ln 5 rfl rfl rfl rfl ?_ | refine JF.l1 6 rfl rfl rfl rfl ?_ | refine JF.ln 6 rfl rfl rfl rfl ?_ | refine JF.l1 7 rfl rfl rfl rfl ?_ | refine JF.ln 7 rfl rfl rfl rfl ?_); refine J.go [6,11,13,15] 900 rfl ?_) | (refine JF.chk rfl ?_ ?_; (focus ((repeat' (apply And.intro)) <;> (first | exact True.intro | omega))); refine J.go [6,11,13,15] 900 rfl ?_) | (((first | refine JF.condD rfl ?_ ?_ | refine JF.condE rfl ?_ ?_ | refine JF.condN rfl ?_ ?_ | refine JF.guardD rfl ?_ ?_ | refine JF.guardE rfl ?_ ?_ | refine JF.guardN rfl ?_ ?_ | refine JF.cond rfl ?_ ?_ | refine JF.guard rfl ?_ ?_) <;> intro h) <;> (first | (exact absurd h Bool.false_ne_true) | (exact absurd h.symm Bool.false_ne_true) | (exact absurd rfl h) | (exfalso; omega) | refine J.go [6,11,13,15] 900 rfl ?_))))
  rw [okSz_conv hs]
  refine JF.callF _ rfl (fun w1 hst => r_CheckAccess c (acAddr c off) n 1 hc (acAddr_u32 c off) (okSz_u32 hs) w1) (fun x hx => nomatch hx) ?_
  cases hE : accE c (acAddr c off) n 1 with
  | some E =>
    obtain ⟨p, a, no⟩ := E
    have hne := accE_ne hE
    refine J.go [6,11,13,15] 900 rfl ?_
    (repeat' (first | ((first | refine JF.l1 0 rfl rfl rfl rfl ?_ | refine JF.ln 0 rfl rfl rfl rfl ?_ | refine JF.l1 1 rfl rfl rfl rfl ?_ | refine JF.ln 1 rfl rfl rfl rfl ?_ | refine JF.l1 2 rfl rfl rfl rfl ?_ | refine JF.ln 2 rfl rfl rfl rfl ?_ | refine JF.l1 3 rfl rfl rfl rfl ?_ | refine JF.ln 3 rfl rfl rfl rfl ?_ | refine JF.l1 4 rfl rfl rfl rfl ?_ | refine JF.ln 4 rfl rfl rfl rfl ?_ | refine JF.l1 5 rfl rfl rfl rfl ?_ | refine JF.ln 5 rfl rfl rfl rfl ?_ | refine JF.l1 6 rfl rfl rfl rfl ?_ | refine JF.ln 6 rfl rfl rfl rfl ?_ | refine JF.l1 7 rfl rfl rfl rfl ?_ | refine JF.ln 7 rfl rfl rfl rfl ?_); refine J.go [6,11,13,15] 900 rfl ?_) | (refine JF.chk rfl ?_ ?_; (focus ((repeat' (apply And.intro)) <;> (first | exact True.intro | omega))); refine J.go [6,11,13,15] 900 rfl ?_) | (((first | refine JF.condD rfl ?_ ?_ | refine JF.condE rfl ?_ ?_ | refine JF.condN rfl ?_ ?_ | refine JF.guardD rfl ?_ ?_ | refine JF.guardE rfl ?_ ?_ | refine JF.guardN rfl ?_ ?_ | refine JF.cond rfl ?_ ?_ | refine JF.guard rfl ?_ ?_) <;> intro h) <;> (first | (exact absurd h Bool.false_ne_true) | (exact absurd h.symm Bool.false_ne_true) | (exact absurd rfl h) | (exfalso; omega) | refine J.go [6,11,13,15] 900 rfl ?_))))
    refine JF.draw [13] [] rfl (fun x hx => nomatch hx) ?_
    refine J.go [6,11,13,15] 900 rfl ?_
    refine JF.ret rfl fun w' hst => ⟨hst.ext, ?_⟩
    rw [hld (mE_acc hs hE), mE_acc hs hE]; rfl
  | none =>
    refine J.go [6,11,13,15] 900 rfl ?_
    (repeat' (first | ((first | refine JF.l1 0 rfl rfl rfl rfl ?_ | refine JF.ln 0 rfl rfl rfl rfl ?_ | refine JF.l1 1 rfl rfl rfl rfl ?_ | refine JF.ln 1 rfl rfl rfl rfl ?_ | refine JF.l1 2 rfl rfl rfl rfl ?_ | refine JF.ln 2 rfl rfl rfl rfl ?_ | refine JF.l1 3 rfl rfl rfl rfl ?_ | refine JF.ln 3 rfl rfl rfl rfl ?_ | refine JF.l1 4 rfl rfl rfl rfl ?_ | refine JF.ln 4 rfl rfl rfl rfl ?_ | refine JF.l1 5 rfl rfl rfl rfl ?_ | refine JF.ln 5 rfl rfl rfl rfl ?_ | refine JF.l1 6 rfl rfl rfl rfl ?_ | refine JF.ln 6 rfl rfl rfl rfl ?_ | refine JF.l1 7 rfl rfl rfl rfl ?_ | refine JF.ln 7 rfl rfl rfl rfl ?_); refine J.go [6,11,13,15] 900 rfl ?_) | (refine JF.chk rfl ?_ ?_; (focus ((repeat' (apply And.intro)) <;> (first | exact True.intro | omega))); refine J.go [6,11,13,15] 900 rfl ?_) | (((first | refine JF.condD rfl ?_ ?_ | refine JF.condE rfl ?_ ?_ | refine JF.condN rfl ?_ ?_ | refine JF.guardD rfl ?_ ?_ | refine JF.guardE rfl ?_ ?_ | refine JF.guardN rfl ?_ ?_ | refine JF.cond rfl ?_ ?_ | refine JF.guard rfl ?_ ?_) <;> intro h) <;> (first | (exact absurd h Bool.false_ne_true) | (exact absurd h.symm Bool.false_ne_true) | (exact absurd rfl h) | (exfalso; omega) | refine J.go [6,11,13,15] 900 rfl ?_))))
    rw [show IntKind.u32.wrap (c.addr + IntKind.u32.wrap off) = acAddr c off from rfl, acc_conv]
    refine JF.callV _ rfl (fun w1 hst => rload_ok (acAddr c off) n w1 (hst.here (List.Sublist.refl _)) hM acc_i64 hn) fun w1 r w2 hst hq => ?_
    obtain ⟨hx, ⟨hok, x, E, rfl, hos, hnew⟩ | ⟨hok, rfl⟩⟩ := hq
    · have e2 := mE_ok (c := c) (perm := 1) hs hE hok
      have hl := subB_len hok
      refine ⟨_, Tr.news hst hx hnew (fun x hx => nomatch hx), ?_⟩
      obtain ⟨a', n', c', rfl, hn', hc'⟩ := hos.slice
      rw [byC_len, hl, Nat.mul_one] at hn'
      subst hn'
      rcases hos.inv with ⟨h0, hz, _⟩ | ⟨b, sp, rfl, rfl, hl1, hl2, hl3⟩
      · unfold okSz at hs; omega
      have hv : ldR B c off n sign = if sign then sgn (unw (subB B (acAddr c off) n)) (8 * n) else unw (subB B (acAddr c off) n) := by
        unfold ldR; rw [if_pos e2]; rfl
      have hlB := isB_subB hB (acAddr c off) n
      generalize subB B (acAddr c off) n = l at *
      rw [← hl]
      refine J.go [6,11,13,15] 900 rfl ?_
      (repeat' (first | ((first | refine JF.l1 0 rfl rfl rfl rfl ?_ | refine JF.ln 0 rfl rfl rfl rfl ?_ | refine JF.l1 1 rfl rfl rfl rfl ?_ | refine JF.ln 1 rfl rfl rfl rfl ?_ | refine JF.l1 2 rfl rfl rfl rfl ?_ | refine JF.ln 2 rfl rfl rfl rfl ?_ | refine JF.l1 3 rfl rfl rfl rfl ?_ | refine JF.ln 3 rfl rfl rfl rfl ?_ | refine JF.l1 4 rfl rfl rfl rfl ?_ | refine JF.ln 4 rfl rfl rfl rfl ?_ | refine JF.l1 5 rfl rfl rfl rfl ?_ | refine JF.ln 5 rfl rfl rfl rfl ?_ | refine JF.l1 6 rfl rfl rfl rfl ?_ | refine JF.ln 6 rfl rfl rfl rfl ?_ | refine JF.l1 7 rfl rfl rfl rfl ?_ | refine JF.ln 7 rfl rfl rfl rfl ?_); refine J.go [6,11,13,15] 900 rfl ?_) | (refine JF.chk rfl ?_ ?_; (focus ((repeat' (apply And.intro)) <;> (first | exact True.intro | omega))); refine J.go [6,11,13,15] 900 rfl ?_) | (((first | refine JF.condD rfl ?_ ?_ | refine JF.condE rfl ?_ ?_ | refine JF.condN rfl ?_ ?_ | refine JF.guardD rfl ?_ ?_ | refine JF.guardE rfl ?_ ?_ | refine JF.guardN rfl ?_ ?_ | refine JF.cond rfl ?_ ?_ | refine JF.guard rfl ?_ ?_) <;> intro h) <;> (first | (exact absurd h Bool.false_ne_true) | (exact absurd h.symm Bool.false_ne_true) | (exact absurd rfl h) | (exfalso; omega) | refine J.go [6,11,13,15] 900 rfl ?_))))
      refine JF.callF _ rfl (fun w1 hst => Word_ok (o := 0) (l := l) w1 (hst.here (List.Sublist.refl _)) (.head _) rfl hlB (fun i hi => nthL_app (nth_byC (by omega) hi)) (by unfold okSz at hs; omega)) (fun x hx => nomatch hx) ?_
      cases sign
      · refine J.go [6,11,13,15] 900 rfl ?_
        (repeat' (first | ((first | refine JF.l1 0 rfl rfl rfl rfl ?_ | refine JF.ln 0 rfl rfl rfl rfl ?_ | refine JF.l1 1 rfl rfl rfl rfl ?_ | refine JF.ln 1 rfl rfl rfl rfl ?_ | refine JF.l1 2 rfl rfl rfl rfl ?_ | refine JF.ln 2 rfl rfl rfl rfl ?_ | refine JF.l1 3 rfl rfl rfl rfl ?_ | refine JF.ln 3 rfl rfl rfl rfl ?_ | refine JF.l1 4 rfl rfl rfl rfl ?_ | refine JF.ln 4 rfl rfl rfl rfl ?_ | refine JF.l1 5 rfl rfl rfl rfl ?_ | refine JF.ln 5 rfl rfl rfl rfl ?_ | refine JF.l1 6 rfl rfl rfl rfl ?_ | refine JF.ln 6 rfl rfl rfl rfl ?_ | refine JF.l1 7 rfl rfl rfl rfl ?_ | refine JF.ln 7 rfl rfl rfl rfl ?_); refine J.go [6,11,13,15] 900 rfl ?_) | (refine JF.chk rfl ?_ ?_; (focus ((repeat' (apply And.intro)) <;> (first | exact True.intro | omega))); refine J.go [6,11,13,15] 900 rfl ?_) | (((first | refine JF.condD rfl ?_ ?_ | refine JF.condE rfl ?_ ?_ | refine JF.condN rfl ?_ ?_ | refine JF.guardD rfl ?_ ?_ | refine JF.guardE rfl ?_ ?_ | refine JF.guardN rfl ?_ ?_ | refine JF.cond rfl ?_ ?_ | refine JF.guard rfl ?_ ?_) <;> intro h) <;> (first | (exact absurd h Bool.false_ne_true) | (exact absurd h.symm Bool.false_ne_true) | (exact absurd rfl h) | (exfalso; omega) | refine J.go [6,11,13,15] 900 rfl ?_))))
        refine JF.ret rfl fun w' hst => ⟨hst.ext, ?_⟩
        rw [hv, e2]; rfl
      · have e4 : IntKind.i64.wrap (8 * n) = 8 * n := by rw [i64_id] <;> (unfold okSz at hs; omega)
        refine J.go [6,11,13,15] 900 rfl ?_
        (repeat' (first | ((first | refine JF.l1 0 rfl rfl rfl rfl ?_ | refine JF.ln 0 rfl rfl rfl rfl ?_ | refine JF.l1 1 rfl rfl rfl rfl ?_ | refine JF.ln 1 rfl rfl rfl rfl ?_ | refine JF.l1 2 rfl rfl rfl rfl ?_ | refine JF.ln 2 rfl rfl rfl rfl ?_ | refine JF.l1 3 rfl rfl rfl rfl ?_ | refine JF.ln 3 rfl rfl rfl rfl ?_ | refine JF.l1 4 rfl rfl rfl rfl ?_ | refine JF.ln 4 rfl rfl rfl rfl ?_ | refine JF.l1 5 rfl rfl rfl rfl ?_ | refine JF.ln 5 rfl rfl rfl rfl ?_ | refine JF.l1 6 rfl rfl rfl rfl ?_ | refine JF.ln 6 rfl rfl rfl rfl ?_ | refine JF.l1 7 rfl rfl rfl rfl ?_ | refine JF.ln 7 rfl rfl rfl rfl ?_); refine J.go [6,11,13,15] 900 rfl ?_) | (refine JF.chk rfl ?_ ?_; (focus ((repeat' (apply And.intro)) <;> (first | exact True.intro | omega))); refine J.go [6,11,13,15] 900 rfl ?_) | (((first | refine JF.condD rfl ?_ ?_ | refine JF.condE rfl ?_ ?_ | refine JF.condN rfl ?_ ?_ | refine JF.guardD rfl ?_ ?_ | refine JF.guardE rfl ?_ ?_ | refine JF.guardN rfl ?_ ?_ | refine JF.cond rfl ?_ ?_ | refine JF.guard rfl ?_ ?_) <;> intro h) <;> (first | (exact absurd h Bool.false_ne_true) | (exact absurd h.symm Bool.false_ne_true) | (exact absurd rfl h) | (exfalso; omega) | refine J.go [6,11,13,15] 900 rfl ?_))))
        rw [e4]
        refine JF.callF _ rfl (fun w1 hst => r_Signed _ (8 * n) (by unfold okSz at hs; omega) w1) (fun x hx => nomatch hx) ?_
        refine J.go [6,11,13,15] 900 rfl ?_
        refine JF.ret rfl fun w' hst => ⟨hst.ext, ?_⟩
        rw [hv, e2]; rfl
    · have e2 := mE_mem (c := c) (perm := 1) hs hE hok
      refine ⟨_, Tr.same hst hx (fun x hx => nomatch hx), ?_⟩
      refine J.go [6,11,13,15] 900 rfl ?_
      (repeat' (first | ((first | refine JF.l1 0 rfl rfl rfl rfl ?_ | refine JF.ln 0 rfl rfl rfl rfl ?_ | refine JF.l1 1 rfl rfl rfl rfl ?_ | refine JF.ln 1 rfl rfl rfl rfl ?_ | refine JF.l1 2 rfl rfl rfl rfl ?_ | refine JF.ln 2 rfl rfl rfl rfl ?_ | refine JF.l1 3 rfl rfl rfl rfl ?_ | refine JF.ln 3 rfl rfl rfl rfl ?_ | refine JF.l1 4 rfl rfl rfl rfl ?_ | refine JF.ln 4 rfl rfl rfl rfl ?_ | refine JF.l1 5 rfl rfl rfl rfl ?_ | refine JF.ln 5 rfl rfl rfl rfl ?_ | refine JF.l1 6 rfl rfl rfl rfl ?_ | refine JF.ln 6 rfl rfl rfl rfl ?_ | refine JF.l1 7 rfl rfl rfl rfl ?_ | refine JF.ln 7 rfl rfl rfl rfl ?_); refine J.go [6,11,13,15] 900 rfl ?_) | (refine JF.chk rfl ?_ ?_; (focus ((repeat' (apply And.intro)) <;> (first | exact True.intro | omega))); refine J.go [6,11,13,15] 900 rfl ?_) | (((first | refine JF.condD rfl ?_ ?_ | refine JF.condE rfl ?_ ?_ | refine JF.condN rfl ?_ ?_ | refine JF.guardD rfl ?_ ?_ | refine JF.guardE rfl ?_ ?_ | refine JF.guardN rfl ?_ ?_ | refine JF.cond rfl ?_ ?_ | refine JF.guard rfl ?_ ?_) <;> intro h) <;> (first | (exact absurd h Bool.false_ne_true) | (exact absurd h.symm Bool.false_ne_true) | (exact absurd rfl h) | (exfalso; omega) | refine J.go [6,11,13,15] 900 rfl ?_))))
      refine JF.draw [15] [] rfl (fun x hx => nomatch hx) ?_
      refine J.go [6,11,13,15] 900 rfl ?_
      refine JF.ret rfl fun w' hst => ⟨hst.ext, ?_⟩
      rw [hld e2, e2]; rfl

/-- What is there behind a store. -/
def stB (B : List Int) (c : CapV) (off n v : Int) : List Int := if mE B.length c off n 2 = none then wrB B (acAddr c off).toNat (wdL v n.toNat) else B
def stT (B : List Int) (T : List Bool) (c : CapV) (off n : Int) : List Bool := if mE B.length c off n 2 = none then clT T (acAddr c off).toNat n.toNat else T

theorem wdL_set (v : Int) (n i : Nat) (h : i < n) : (wdL v i ++ List.replicate (n - i) 0).set i (byt v i) = wdL v (i + 1) ++ List.replicate (n - (i + 1)) 0 := by
  rw [wdL_succ, List.set_append_right _ _ (by rw [wdL_len]; omega), wdL_len, Nat.sub_self]
  obtain ⟨k, hk⟩ : ∃ k, n - i = k + 1 := ⟨n - i - 1, by omega⟩
  rw [hk, show n - (i + 1) = k by omega]
  simp [List.replicate_succ]

theorem shr8 (v : Int) (k : Nat) : v / 2 ^ (8 * k) / 2 ^ 8 = v / 2 ^ (8 * (k + 1)) := by
  have hp : (0 : Int) < 2 ^ (8 * k) := Int.pow_pos (by decide)
  rw [Int.ediv_ediv, if_neg (by omega), Int.sub_zero, ← Int.pow_add]
  rfl

theorem wdL_take (v : Int) {n m : Nat} (h: n ≤ m): (wdL v m).take n = wdL v n := by simp [wdL, ← List.map_take, List.take_range, Nat.min_eq_left h]

theorem access_Store {t : TypeId} {M : MB} {B : List Int} {T : List Bool} (c : CapV) (off n v : Int) (w : World) (hG : GoodG w) (hw : Here w (memL t M true B T)) (hM : okM M B T) (hB : isB B) (hc : c.ok) (hn : isI64 n) (hv : isU32 v) :
    Rets Pg n_access_Store [.pointer (some ⟨M.bm, 0, none⟩), c.val, .int .i32 off, .int .i64 n, .int .u32 v] w fun r w' => Ext (fun x => x = M.bb ∨ x = M.bt) w w' ∧ ErrR w w' r (mE B.length c off n 2) ∧ Here w' (memL t M true (stB B c off n v) (stT B T c off n)) := by
  
  have hM' := hM
  obtain ⟨k1, k2, k3, k4, k5⟩ := hM'
  refine rets_of m_access_Store rfl rfl (hw.start (S := fun x => x = M.bb ∨ x = M.bt) (by simp)) ?_
  have hsame : ∀ {E}, mE B.length c off n 2 = some E → stB B c off n v = B ∧ stT B T c off n = T := fun h => ⟨if_neg (by rw [h]; simp), if_neg (by rw [h]; simp)⟩
  refine J.go [6] 900 rfl ?_
  refine JF.callV _ rfl (fun w1 hst => access_size n w1) fun w1 r w2 hst hq => ?_
  obtain ⟨hx, hf⟩ := hq
  by_cases hs : okSz n
  case neg =>
    rw [show szE n = some (sSize, n, 7) from if_neg hs] at hf
    obtain ⟨b, h1, rfl, h2⟩ := FaultAt.tr hst hx hf
    refine ⟨_, h2, ?_⟩
    refine J.go [6] 900 rfl ?_
    (repeat' (first | ((first | refine JF.l1 0 rfl rfl rfl rfl ?_ | refine JF.ln 0 rfl rfl rfl rfl ?_ | refine JF.l1 1 rfl rfl rfl rfl ?_ | refine JF.ln 1 rfl rfl rfl rfl ?_ | refine JF.l1 2 rfl rfl rfl rfl ?_ | refine JF.ln 2 rfl rfl rfl rfl ?_ | refine JF.l1 3 rfl rfl rfl rfl ?_ | refine JF.ln 3 rfl rfl rfl rfl ?_ | refine JF.l1 4 rfl rfl rfl rfl ?_ | refine JF.ln 4 rfl rfl rfl rfl ?_ | refine JF.l1 5 rfl rfl rfl rfl ?_ | refine JF.ln 5 rfl rfl rfl rfl ?_ | refine JF.l1 6 rfl rfl rfl rfl ?_ | refine JF.ln 6 rfl rfl rfl rfl ?_ | refine JF.l1 7 rfl rfl rfl rfl ?_ | refine JF.ln 7 rfl rfl rfl rfl ?_); refine J.go [6] 900 rfl ?_) | (refine JF.chk rfl ?_ ?_; (focus ((repeat' (apply And.intro)) <;> (first | exact True.intro | omega))); refine J.go [6] 900 rfl ?_) | (((first | refine JF.condD rfl ?_ ?_ | refine JF.condE rfl ?_ ?_ | refine JF.condN rfl ?_ ?_ | refine JF.guardD rfl ?_ ?_ | refine JF.guardE rfl ?_ ?_ | refine JF.guardN rfl ?_ ?_ | refine JF.cond rfl ?_ ?_ | refine JF.guard rfl ?_ ?_) <;> intro h) <;> (first | (exact absurd h Bool.false_ne_true) | (exact absurd h.symm Bool.false_ne_true) | (exact absurd rfl h) | (exfalso; omega) | refine J.go [6] 900 rfl ?_))))
    refine JF.ret rfl fun w' hst => ⟨hst.ext, ?_, ?_⟩
    · rw [mE_sz hs]; exact ErrR.mk1 hst h1
    · rw [(hsame (mE_sz hs)).1, (hsame (mE_sz hs)).2]; exact hst.here (List.sublist_cons_self _ _)
  rw [show szE n = none from if_pos hs] at hf
  obtain rfl : r = .nilIface := hf
  refine ⟨_, Tr.same hst hx (fun x hx => nomatch hx), ?_⟩
  refine J.go [6] 900 rfl ?_
  (repeat' (first | ((first | refine JF.l1 0 rfl rfl rfl rfl ?_ | refine JF.ln 0 rfl rfl rfl rfl ?_ | refine JF.l1 1 rfl rfl rfl rfl ?_ | refine JF.ln 1 rfl rfl rfl rfl ?_ | refine JF.l1 2 rfl rfl rfl rfl ?_ | refine JF.ln 2 rfl rfl rfl rfl ?_ | refine JF.l1 3 rfl rfl rfl rfl ?_ | refine JF.ln 3 rfl rfl rfl rfl ?_ | refine JF.l1 4 rfl rfl rfl rfl ?_ | refine JF.ln 4 rfl rfl rfl rfl ?_ | refine JF.l1 5 rfl rfl rfl rfl ?_ | refine JF.ln 5 rfl rfl rfl rfl ?_ | refine JF.l1 6 rfl rfl rfl rfl ?_ | refine JF.ln 6 rfl rfl rfl rfl ?_ | refine JF.l1 7 rfl rfl rfl rfl ?_ | refine JF.ln 7 rfl rfl rfl rfl ?_); refine J.go [6] 900 rfl ?_) | (refine JF.chk rfl ?_ ?_; (focus ((repeat' (apply And.intro)) <;> (first | exact True.intro | omega))); refine J.go [6] 900 rfl ?_) | (((first | refine JF.condD rfl ?_ ?_ | refine JF.condE rfl ?_ ?_ | refine JF.condN rfl ?_ ?_ | refine JF.guardD rfl ?_ ?_ | refine JF.guardE rfl ?_ ?_ | refine JF.guardN rfl ?_ ?_ | refine JF.cond rfl ?_ ?_ | refine JF.guard rfl ?_ ?_) <;> intro h) <;> (first | (exact absurd h Bool.false_ne_true) | (exact absurd h.symm Bool.false_ne_true) | (exact absurd rfl h) | (exfalso; omega) | refine J.go [6] 900 rfl ?_))))
  rw [okSz_conv hs]
  refine JF.callV _ rfl (fun w1 hst => access_place c off n 2 hc (okSz_u32 hs) w1) fun w1 r w2 hst hq => ?_
  obtain ⟨hx, f, rfl, hf⟩ := hq
  cases hE : accE c (acAddr c off) n 2 with
  | some E =>
    obtain ⟨p, a, no⟩ := E
    rw [hE] at hf
    obtain ⟨b, h1, rfl, h2⟩ := FaultAt.tr hst hx hf
    refine ⟨_, h2, ?_⟩
    refine J.go [6] 900 rfl ?_
    (repeat' (first | ((first | refine JF.l1 0 rfl rfl rfl rfl ?_ | refine JF.ln 0 rfl rfl rfl rfl ?_ | refine JF.l1 1 rfl rfl rfl rfl ?_ | refine JF.ln 1 rfl rfl rfl rfl ?_ | refine JF.l1 2 rfl rfl rfl rfl ?_ | refine JF.ln 2 rfl rfl rfl rfl ?_ | refine JF.l1 3 rfl rfl rfl rfl ?_ | refine JF.ln 3 rfl rfl rfl rfl ?_ | refine JF.l1 4 rfl rfl rfl rfl ?_ | refine JF.ln 4 rfl rfl rfl rfl ?_ | refine JF.l1 5 rfl rfl rfl rfl ?_ | refine JF.ln 5 rfl rfl rfl rfl ?_ | refine JF.l1 6 rfl rfl rfl rfl ?_ | refine JF.ln 6 rfl rfl rfl rfl ?_ | refine JF.l1 7 rfl rfl rfl rfl ?_ | refine JF.ln 7 rfl rfl rfl rfl ?_); refine J.go [6] 900 rfl ?_) | (refine JF.chk rfl ?_ ?_; (focus ((repeat' (apply And.intro)) <;> (first | exact True.intro | omega))); refine J.go [6] 900 rfl ?_) | (((first | refine JF.condD rfl ?_ ?_ | refine JF.condE rfl ?_ ?_ | refine JF.condN rfl ?_ ?_ | refine JF.guardD rfl ?_ ?_ | refine JF.guardE rfl ?_ ?_ | refine JF.guardN rfl ?_ ?_ | refine JF.cond rfl ?_ ?_ | refine JF.guard rfl ?_ ?_) <;> intro h) <;> (first | (exact absurd h Bool.false_ne_true) | (exact absurd h.symm Bool.false_ne_true) | (exact absurd rfl h) | (exfalso; omega) | refine J.go [6] 900 rfl ?_))))
    refine JF.ret rfl fun w' hst => ⟨hst.ext, ?_, ?_⟩
    · rw [mE_acc hs hE]; exact ErrR.mk1 hst h1
    · rw [(hsame (mE_acc hs hE)).1, (hsame (mE_acc hs hE)).2]; exact hst.here (List.sublist_cons_self _ _)
  | none =>
    rw [hE] at hf
    obtain rfl : f = .nilIface := hf
    refine ⟨_, Tr.same hst hx (fun x hx => nomatch hx), ?_⟩
    have hs' := hs
    unfold okSz at hs'
    refine J.go [6] 900 rfl ?_
    (repeat' (first | ((first | refine JF.l1 0 rfl rfl rfl rfl ?_ | refine JF.ln 0 rfl rfl rfl rfl ?_ | refine JF.l1 1 rfl rfl rfl rfl ?_ | refine JF.ln 1 rfl rfl rfl rfl ?_ | refine JF.l1 2 rfl rfl rfl rfl ?_ | refine JF.ln 2 rfl rfl rfl rfl ?_ | refine JF.l1 3 rfl rfl rfl rfl ?_ | refine JF.ln 3 rfl rfl rfl rfl ?_ | refine JF.l1 4 rfl rfl rfl rfl ?_ | refine JF.ln 4 rfl rfl rfl rfl ?_ | refine JF.l1 5 rfl rfl rfl rfl ?_ | refine JF.ln 5 rfl rfl rfl rfl ?_ | refine JF.l1 6 rfl rfl rfl rfl ?_ | refine JF.ln 6 rfl rfl rfl rfl ?_ | refine JF.l1 7 rfl rfl rfl rfl ?_ | refine JF.ln 7 rfl rfl rfl rfl ?_); refine J.go [6] 900 rfl ?_) | (refine JF.chk rfl ?_ ?_; (focus ((repeat' (apply And.intro)) <;> (first | exact True.intro | omega))); refine J.go [6] 900 rfl ?_) | (((first | refine JF.condD rfl ?_ ?_ | refine JF.condE rfl ?_ ?_ | refine JF.condN rfl ?_ ?_ | refine JF.guardD rfl ?_ ?_ | refine JF.guardE rfl ?_ ?_ | refine JF.guardN rfl ?_ ?_ | refine JF.cond rfl ?_ ?_ | refine JF.guard rfl ?_ ?_) <;> intro h) <;> (first | (exact absurd h Bool.false_ne_true) | (exact absurd h.symm Bool.false_ne_true) | (exact absurd rfl h) | (exfalso; omega) | refine J.go [6] 900 rfl ?_))))
    refine JF.mk1 rfl rfl u_bytes y_byte rfl (by omega) (by omega) (by omega) (by omega) (fun x hx => nomatch hx) fun q hq => ?_
    refine J.go [6] 900 rfl ?_
    refine JF.loop (σ := Nat) (fun k => [(36, .v (.int .i64 (k : Int))), (35, .v (.int .i64 ((n.toNat : Nat) : Int))), (4, .v (.int .u32 (v / 2 ^ (8 * k)))), (14, .v (.slice (some ⟨q, 0, none⟩) n.toNat n.toNat)), (0, .v (.pointer (some ⟨M.bm, 0, none⟩))), (12, .v (.int .i64 (acAddr c off)))]) (fun _ => [])
      (fun k => ⟨q, 5, 0, 0, byC (wdL v k ++ List.replicate (n.toNat - k) 0), true⟩ :: memL t M true B T) (fun k => k ≤ n.toNat) (fun k => n.toNat - k) 0 (Nat.zero_le _) ⟨rfl, rfl, by simp; rfl, rfl, rfl, rfl, trivial⟩ trivial (by simp [wdL, byC]) ?_
    intro k hk
    try dsimp only
    have hlk : (wdL v k ++ List.replicate (n.toNat - k) 0).length = n.toNat := by simp [wdL_len]; omega
    rcases Nat.lt_or_ge k n.toNat with hlt | hge
    · have e1 : IntKind.i64.wrap ((k : Int) + 1) = ((k + 1 : Nat) : Int) := by rw [IntKind.wrap_i64]; omega
      have e2 : IntKind.u8.wrap (v / 2 ^ (8 * k)) = byt v k := by rw [IntKind.wrap_u8]; rfl
      have e3 : shrV .u32 (v / 2 ^ (8 * k)) 8 = v / 2 ^ (8 * (k + 1)) := by
        rw [shrV_u32 (by decide), shr8]
      refine J.go [6] 900 rfl ?_
      (repeat' (first | ((first | refine JF.l1 0 rfl rfl rfl rfl ?_ | refine JF.ln 0 rfl rfl rfl rfl ?_ | refine JF.l1 1 rfl rfl rfl rfl ?_ | refine JF.ln 1 rfl rfl rfl rfl ?_ | refine JF.l1 2 rfl rfl rfl rfl ?_ | refine JF.ln 2 rfl rfl rfl rfl ?_ | refine JF.l1 3 rfl rfl rfl rfl ?_ | refine JF.ln 3 rfl rfl rfl rfl ?_ | refine JF.l1 4 rfl rfl rfl rfl ?_ | refine JF.ln 4 rfl rfl rfl rfl ?_ | refine JF.l1 5 rfl rfl rfl rfl ?_ | refine JF.ln 5 rfl rfl rfl rfl ?_ | refine JF.l1 6 rfl rfl rfl rfl ?_ | refine JF.ln 6 rfl rfl rfl rfl ?_ | refine JF.l1 7 rfl rfl rfl rfl ?_ | refine JF.ln 7 rfl rfl rfl rfl ?_); refine J.go [6] 900 rfl ?_) | (refine JF.chk rfl ?_ ?_; (focus ((repeat' (apply And.intro)) <;> (first | exact True.intro | omega))); refine J.go [6] 900 rfl ?_) | (((first | refine JF.condD rfl ?_ ?_ | refine JF.condE rfl ?_ ?_ | refine JF.condN rfl ?_ ?_ | refine JF.guardD rfl ?_ ?_ | refine JF.guardE rfl ?_ ?_ | refine JF.guardN rfl ?_ ?_ | refine JF.cond rfl ?_ ?_ | refine JF.guard rfl ?_ ?_) <;> intro h) <;> (first | (exact absurd h Bool.false_ne_true) | (exact absurd h.symm Bool.false_ne_true) | (exact absurd rfl h) | (exfalso; omega) | refine J.go [6] 900 rfl ?_))))
      rw [e2, e3]
      refine JF.st1 0 rfl rfl rfl rfl rfl rfl (.inr (.inr (Nat.le_refl _))) (putL_by (X := wdL v k ++ List.replicate (n.toNat - k) 0) (k := k) (by omega) (by omega) (wdL_set v n.toNat k hlt)) rfl (fun x hx => nomatch hx) ?_
      refine J.go [6] 900 rfl ?_
      rw [e1]
      exact JF.round (k + 1) hlt (by omega) ⟨rfl, rfl, rfl, rfl, rfl, rfl, trivial⟩ trivial (List.Sublist.refl _)
    · have hkn : k = n.toNat := by omega
      subst hkn
      rw [Nat.sub_self, List.replicate_zero, List.append_nil]
      refine J.go [6] 900 rfl ?_
      (repeat' (first | ((first | refine JF.l1 0 rfl rfl rfl rfl ?_ | refine JF.ln 0 rfl rfl rfl rfl ?_ | refine JF.l1 1 rfl rfl rfl rfl ?_ | refine JF.ln 1 rfl rfl rfl rfl ?_ | refine JF.l1 2 rfl rfl rfl rfl ?_ | refine JF.ln 2 rfl rfl rfl rfl ?_ | refine JF.l1 3 rfl rfl rfl rfl ?_ | refine JF.ln 3 rfl rfl rfl rfl ?_ | refine JF.l1 4 rfl rfl rfl rfl ?_ | refine JF.ln 4 rfl rfl rfl rfl ?_ | refine JF.l1 5 rfl rfl rfl rfl ?_ | refine JF.ln 5 rfl rfl rfl rfl ?_ | refine JF.l1 6 rfl rfl rfl rfl ?_ | refine JF.ln 6 rfl rfl rfl rfl ?_ | refine JF.l1 7 rfl rfl rfl rfl ?_ | refine JF.ln 7 rfl rfl rfl rfl ?_); refine J.go [6] 900 rfl ?_) | (refine JF.chk rfl ?_ ?_; (focus ((repeat' (apply And.intro)) <;> (first | exact True.intro | omega))); refine J.go [6] 900 rfl ?_) | (((first | refine JF.condD rfl ?_ ?_ | refine JF.condE rfl ?_ ?_ | refine JF.condN rfl ?_ ?_ | refine JF.guardD rfl ?_ ?_ | refine JF.guardE rfl ?_ ?_ | refine JF.guardN rfl ?_ ?_ | refine JF.cond rfl ?_ ?_ | refine JF.guard rfl ?_ ?_) <;> intro h) <;> (first | (exact absurd h Bool.false_ne_true) | (exact absurd h.symm Bool.false_ne_true) | (exact absurd rfl h) | (exfalso; omega) | refine J.go [6] 900 rfl ?_))))
      refine JF.callV _ rfl (fun w1 hst => store_ok (l := wdL v n.toNat) (acAddr c off) w1 (hst.here (List.sublist_cons_self _ _)) hM acc_i64 (rd_fst (sp := []) hst (.head _) rfl (by simp) (by rw [byC_len, wdL_len])) (fun b o hb _ => by
        cases hb
        have h3 := List.pairwise_cons.1 hst.dis
        exact ⟨h3.1 _ (.tail _ (.head _)), h3.1 _ (.tail _ (.tail _ (.head _)))⟩) (by omega)) fun w1 r w2 hst hq => ?_
      rw [Int.toNat_of_nonneg (by omega)] at hq
      obtain ⟨hx, ⟨hok, rfl, hh⟩ | ⟨hok, hf, hh⟩⟩ := hq
      · have e4 := mE_ok (c := c) (perm := 2) hs hE hok
        refine ⟨_, Tr.memN (A := [_]) (C := []) (N := []) hst hx hh (News.nil _ _) (fun x hx => nomatch hx), ?_⟩
        refine J.go [6] 900 rfl ?_
        refine JF.ret rfl fun w' hst => ⟨hst.ext, by rw [e4]; rfl, ?_⟩
        unfold stB stT
        rw [if_pos e4, if_pos e4]
        exact hst.here (List.sublist_cons_self _ _)
      · have e4 := mE_mem (c := c) (perm := 2) hs hE hok
        obtain ⟨bf, rfl, hn⟩ := hf.news
        have hlo : w.heap.size ≤ bf := Nat.le_trans hst.ext.size (hn.2 _ (.head _))
        refine ⟨_, Tr.memN (A := [_]) (C := []) (N := [_]) hst hx hh hn (fun x hx => nomatch hx), ?_⟩
        refine J.go [6] 900 rfl ?_
        refine JF.ret rfl fun w' hst => ⟨hst.ext, ?_, ?_⟩
        · rw [e4]
          exact ErrR.mk1 hst hlo
        · rw [(hsame e4).1, (hsame e4).2]; exact hst.here ((List.sublist_cons_self _ _).trans (List.sublist_cons_self _ _))

theorem r_Write {t : TypeId} {M : MB} {B : List Int} {T : List Bool} (c : CapV) (off n v : Int) (w : World) (hw : Here w (memL t M true B T)) (hM : okM M B T) (hB : isB B) (hc : c.ok) (hn : isI64 n) (hv : isU32 v) :
    Rets Pg n_haspref11_Write [.pointer (some ⟨M.bm, 0, none⟩), c.val, .int .i32 off, .int .i64 n, .int .u32 v] w fun r w' => Ext (fun x => x = M.bb ∨ x = M.bt) w w' ∧ r = wrE (mE B.length c off n 2) ∧ Here w' (memL t M true (stB B c off n v) (stT B T c off n)) := by
  
  have hM' := hM
  obtain ⟨k1, k2, k3, k4, k5⟩ := hM'
  refine rets_of m_haspref11_Write rfl rfl (hw.start (S := fun x => x = M.bb ∨ x = M.bt) (by simp)) ?_
  have hsame : ∀ {E}, mE B.length c off n 2 = some E → stB B c off n v = B ∧ stT B T c off n = T := fun h => ⟨if_neg (by rw [h]; simp), if_neg (by rw [h]; simp)⟩
  refine J.go [6,10,12] 900 rfl ?_
  refine JF.callF _ rfl (fun w1 hst => r_sized n w1) (fun x hx => nomatch hx) ?_
  by_cases hs : okSz n
  case neg =>
    rw [show szE n = some (sSize, n, 7) from if_neg hs]
    refine J.go [6,10,12] 900 rfl ?_
    (repeat' (first | ((first | refine JF.l1 0 rfl rfl rfl rfl ?_ | refine JF.ln 0 rfl rfl rfl rfl ?_ | refine JF.l1 1 rfl rfl rfl rfl ?_ | refine JF.ln 1 rfl rfl rfl rfl ?_ | refine JF.l1 2 rfl rfl rfl rfl ?_ | refine JF.ln 2 rfl rfl rfl rfl ?_ | refine JF.l1 3 rfl rfl rfl rfl ?_ | refine JF.ln 3 rfl rfl rfl rfl ?_ | refine JF.l1 4 rfl rfl rfl rfl ?_ | refine JF.ln 4 rfl rfl rfl rfl ?_ | refine JF.l1 5 rfl rfl rfl rfl ?_ | refine JF.ln 5 rfl rfl rfl rfl ?_ | refine JF.l1 6 rfl rfl rfl rfl ?_ | refine JF.ln 6 rfl rfl rfl rfl ?_ | refine JF.l1 7 rfl rfl rfl rfl ?_ | refine JF.ln 7 rfl rfl rfl rfl ?_); refine J.go [6,10,12] 900 rfl ?_) | (refine JF.chk rfl ?_ ?_; (focus ((repeat' (apply And.intro)) <;> (first | exact True.intro | omega))); refine J.go [6,10,12] 900 rfl ?_) | (((first | refine JF.condD rfl ?_ ?_ | refine JF.condE rfl ?_ ?_ | refine JF.condN rfl ?_ ?_ | refine JF.guardD rfl ?_ ?_ | refine JF.guardE rfl ?_ ?_ | refine JF.guardN rfl ?_ ?_ | refine JF.cond rfl ?_ ?_ | refine JF.guard rfl ?_ ?_) <;> intro h) <;> (first | (exact absurd h Bool.false_ne_true) | (exact absurd h.symm Bool.false_ne_true) | (exact absurd rfl h) | (exfalso; omega) | refine J.go [6,10,12] 900 rfl ?_))))
    refine JF.ret rfl fun w' hst => ⟨hst.ext, ?_, ?_⟩
    · rw [mE_sz hs]; rfl
    · rw [(hsame (mE_sz hs)).1, (hsame (mE_sz hs)).2]; exact hst.here (List.Sublist.refl _)
  rw [show szE n = none from if_pos hs]
  refine J.go [6,10,12] 900 rfl ?_
  (repeat' (first | ((first | refine JF.l1 0 rfl rfl rfl rfl ?_ | refine JF.ln 0 rfl rfl rfl rfl ?_ | refine JF.l1 1 rfl rfl rfl rfl ?_ | refine JF.ln 1 rfl rfl rfl rfl ?_ | refine JF.l1 2 rfl rfl rfl rfl ?_ | refine JF.ln 2 rfl rfl rfl rfl ?_ | refine JF.l1 3 rfl rfl rfl rfl ?_ | refine JF.ln 3 rfl rfl rfl rfl ?_ | refine JF.l1 4 rfl rfl rfl rfl ?_ | refine JF.ln 4 rfl rfl rfl rfl ?_ | refine JF.l1 5 rfl rfl rfl rfl ?_ | refine JF.ln 5 rfl rfl rfl rfl ?_ | refine JF.l1 6 rfl rfl rfl rfl ?_ | refine JF.ln 6 rfl rfl rfl rfl ?_ | refine JF.l1 7 rfl rfl rfl rfl ?_ | refine JF.ln 7 rfl rfl rfl rfl ?_); refine J.go [6,10,12] 900 rfl ?_) | (refine JF.chk rfl ?_ ?_; (focus ((repeat' (apply And.intro)) <;> (first | exact True.intro | omega))); refine J.go [6,10,12] 900 rfl ?_) | (((first | refine JF.condD rfl ?_ ?_ | refine JF.condE rfl ?_ ?_ | refine JF.condN rfl ?_ ?_ | refine JF.guardD rfl ?_ ?_ | refine JF.guardE rfl ?_ ?_ | refine JF.guardN rfl ?_ ?_ | refine JF.cond rfl ?_ ?_ | refine JF.guard rfl ?_ ?_) <;> intro h) <;> (first | (exact absurd h Bool.false_ne_true) | (exact absurd h.symm Bool.false_ne_true) | (exact absurd rfl h) | (exfalso; omega) | refine J.go [6,10,12] 900 rfl ?_))))
  rw [okSz_conv hs]
  refine JF.callF _ rfl (fun w1 hst => r_CheckAccess c (acAddr c off) n 2 hc (acAddr_u32 c off) (okSz_u32 hs) w1) (fun x hx => nomatch hx) ?_
  cases hE : accE c (acAddr c off) n 2 with
  | some E =>
    obtain ⟨p, a, no⟩ := E
    have hne := accE_ne hE
    refine J.go [6,10,12] 900 rfl ?_
    (repeat' (first | ((first | refine JF.l1 0 rfl rfl rfl rfl ?_ | refine JF.ln 0 rfl rfl rfl rfl ?_ | refine JF.l1 1 rfl rfl rfl rfl ?_ | refine JF.ln 1 rfl rfl rfl rfl ?_ | refine JF.l1 2 rfl rfl rfl rfl ?_ | refine JF.ln 2 rfl rfl rfl rfl ?_ | refine JF.l1 3 rfl rfl rfl rfl ?_ | refine JF.ln 3 rfl rfl rfl rfl ?_ | refine JF.l1 4 rfl rfl rfl rfl ?_ | refine JF.ln 4 rfl rfl rfl rfl ?_ | refine JF.l1 5 rfl rfl rfl rfl ?_ | refine JF.ln 5 rfl rfl rfl rfl ?_ | refine JF.l1 6 rfl rfl rfl rfl ?_ | refine JF.ln 6 rfl rfl rfl rfl ?_ | refine JF.l1 7 rfl rfl rfl rfl ?_ | refine JF.ln 7 rfl rfl rfl rfl ?_); refine J.go [6,10,12] 900 rfl ?_) | (refine JF.chk rfl ?_ ?_; (focus ((repeat' (apply And.intro)) <;> (first | exact True.intro | omega))); refine J.go [6,10,12] 900 rfl ?_) | (((first | refine JF.condD rfl ?_ ?_ | refine JF.condE rfl ?_ ?_ | refine JF.condN rfl ?_ ?_ | refine JF.guardD rfl ?_ ?_ | refine JF.guardE rfl ?_ ?_ | refine JF.guardN rfl ?_ ?_ | refine JF.cond rfl ?_ ?_ | refine JF.guard rfl ?_ ?_) <;> intro h) <;> (first | (exact absurd h Bool.false_ne_true) | (exact absurd h.symm Bool.false_ne_true) | (exact absurd rfl h) | (exfalso; omega) | refine J.go [6,10,12] 900 rfl ?_))))
    refine JF.ret rfl fun w' hst => ⟨hst.ext, ?_, ?_⟩
    · rw [mE_acc hs hE]; rfl
    · rw [(hsame (mE_acc hs hE)).1, (hsame (mE_acc hs hE)).2]; exact hst.here (List.Sublist.refl _)
  | none =>
    have hs' := hs
    unfold okSz at hs'
    refine J.go [6,10,12] 900 rfl ?_
    (repeat' (first | ((first | refine JF.l1 0 rfl rfl rfl rfl ?_ | refine JF.ln 0 rfl rfl rfl rfl ?_ | refine JF.l1 1 rfl rfl rfl rfl ?_ | refine JF.ln 1 rfl rfl rfl rfl ?_ | refine JF.l1 2 rfl rfl rfl rfl ?_ | refine JF.ln 2 rfl rfl rfl rfl ?_ | refine JF.l1 3 rfl rfl rfl rfl ?_ | refine JF.ln 3 rfl rfl rfl rfl ?_ | refine JF.l1 4 rfl rfl rfl rfl ?_ | refine JF.ln 4 rfl rfl rfl rfl ?_ | refine JF.l1 5 rfl rfl rfl rfl ?_ | refine JF.ln 5 rfl rfl rfl rfl ?_ | refine JF.l1 6 rfl rfl rfl rfl ?_ | refine JF.ln 6 rfl rfl rfl rfl ?_ | refine JF.l1 7 rfl rfl rfl rfl ?_ | refine JF.ln 7 rfl rfl rfl rfl ?_); refine J.go [6,10,12] 900 rfl ?_) | (refine JF.chk rfl ?_ ?_; (focus ((repeat' (apply And.intro)) <;> (first | exact True.intro | omega))); refine J.go [6,10,12] 900 rfl ?_) | (((first | refine JF.condD rfl ?_ ?_ | refine JF.condE rfl ?_ ?_ | refine JF.condN rfl ?_ ?_ | refine JF.guardD rfl ?_ ?_ | refine JF.guardE rfl ?_ ?_ | refine JF.guardN rfl ?_ ?_ | refine JF.cond rfl ?_ ?_ | refine JF.guard rfl ?_ ?_) <;> intro h) <;> (first | (exact absurd h Bool.false_ne_true) | (exact absurd h.symm Bool.false_ne_true) | (exact absurd rfl h) | (exfalso; omega) | refine J.go [6,10,12] 900 rfl ?_))))
    rw [show IntKind.u32.wrap (c.addr + IntKind.u32.wrap off) = acAddr c off from rfl, acc_conv]
    refine JF.callV _ rfl (fun w1 hst => word_ok w1 hv) fun w1 r w2 hst hq => ?_
    obtain ⟨hx, E, hos, hnew⟩ := hq
    obtain ⟨a', n', c', rfl, hn', hc'⟩ := hos.slice
    rw [byC_len, wdL_len, Nat.mul_one] at hn'
    have hn4 : n' = 4 := hn'.symm
    subst hn4
    rcases hos.inv with ⟨h0, hz, _⟩ | ⟨b, sp, rfl, rfl, hl1, hl2, hl3⟩
    · omega
    refine ⟨_, Tr.news hst hx hnew (fun x hx => nomatch hx), ?_⟩
    refine J.go [6,10,12] 900 rfl ?_
    (refine JF.chk rfl ?_ ?_; (focus ((repeat' (apply And.intro)) <;> (first | exact True.intro | (first | omega | (simp only [IntKind.wrap_i64, IntKind.wrap_i32, IntKind.wrap_u64, IntKind.wrap_u32, IntKind.wrap_u16, IntKind.wrap_u8] at *; omega))))))
    rw [slA_zero _ _ _ (fun x hx => by cases hx; rfl), Nat.sub_zero, Nat.sub_zero]
    refine J.go [6,10,12] 900 rfl ?_
    refine JF.callV _ rfl (fun w1 hst => rstore_ok (l := wdL v n.toNat) (acAddr c off) w1 (hst.here (List.sublist_cons_self _ _)) hM acc_i64 (RdS.of hst (.head _) rfl (by
        rw [Nat.mul_one, subL_app (subL_byC _ _ _ (by rw [wdL_len]; omega)), List.drop_zero, wdL_take v (by omega)])) (fun b o hb _ => by
      cases hb
      have h3 := List.pairwise_cons.1 hst.dis
      exact ⟨h3.1 _ (.head _), h3.1 _ (.tail _ (.head _)), h3.1 _ (.tail _ (.tail _ (.head _)))⟩) (by omega)) fun w1 r w2 hst hq => ?_
    rw [Int.toNat_of_nonneg (by omega)] at hq
    obtain ⟨hx, ⟨hok, rfl, hh⟩ | ⟨hok, rfl, hh⟩⟩ := hq
    · have e4 := mE_ok (c := c) (perm := 2) hs hE hok
      refine ⟨_, Tr.memN (A := [_]) (C := []) (N := []) hst hx hh (News.nil _ _) (fun x hx => nomatch hx), ?_⟩
      refine J.go [6,10,12] 900 rfl ?_
      refine JF.ret rfl fun w' hst => ⟨hst.ext, by rw [e4]; rfl, ?_⟩
      unfold stB stT
      rw [if_pos e4, if_pos e4]
      exact hst.here (List.sublist_cons_self _ _)
    · have e4 := mE_mem (c := c) (perm := 2) hs hE hok
      refine ⟨_, Tr.memN (A := [_]) (C := []) (N := []) hst hx hh (News.nil _ _) (fun x hx => nomatch hx), ?_⟩
      refine J.go [6,10,12] 900 rfl ?_
      refine JF.ret rfl fun w' hst => ⟨hst.ext, by rw [e4]; rfl, ?_⟩
      rw [(hsame e4).1, (hsame e4).2]; exact hst.here (List.sublist_cons_self _ _)
end Go.HM
