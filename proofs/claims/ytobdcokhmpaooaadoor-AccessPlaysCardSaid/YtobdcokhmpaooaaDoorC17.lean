/- Numbers and capabilities, loaded and stored through capabilities: contracts. -/
import Derived.Test.YtobdcokhmpaooaaDoorKaccess
import Derived.Test.YtobdcokhmpaooaaDoorKhaspref11
import Derived.Test.YtobdcokhmpaooaaDoorKword
import Derived.Test.YtobdcokhmpaooaaDoorC16
namespace Go.HM
open Go Go.Proofs
set_option linter.unusedSimpArgs false
set_option linter.unusedVariables false

instance (m : Nat) (a n : Int) : Decidable (okR m a n) := by unfold okR; infer_instance
instance (m : Nat) (a : Int) : Decidable (okC m a) := by unfold okC; infer_instance

/-- What is wrong with a number of bytes through a capability. -/
def mE (m : Nat) (c : CapV) (off n perm : Int) : ErrE :=
  match szE n with
  | some e => some e
  | none => match accE c (acAddr c off) (IntKind.u32.wrap n) perm with
    | some e => some e
    | none => if okR m (acAddr c off) n then none else some (sMem, acAddr c off, 6)

theorem errNe_mE (m : Nat) (c : CapV) (off n perm : Int) : errNe (mE m c off n perm) := by
  unfold mE szE
  split
  · rename_i e he; split at he
    · cases he
    · cases he; show (7 : Int) ≠ 0; decide
  · split
    · rename_i e he; rw [← he]; exact errNe_acc _ _ _ _
    · split
      · trivial
      · show (6 : Int) ≠ 0; decide

/-- The sign, brought up from a number's top bit. -/
def sgn (v n : Int) : Int := IntKind.u32.wrap (shrV .i32 (IntKind.i32.wrap (shlV .u32 v (32 - n).toNat)) (32 - n).toNat)

theorem word_Signed (v n : Int) (hn : n = 8 ∨ n = 16 ∨ n = 32) (w : World) : Rets Pg n_word_Signed [.int .u32 v, .int .i64 n] w fun r w' => Ext NoB w w' ∧ r = .int .u32 (sgn v n) := by
  
  refine rets_of m_word_Signed rfl rfl (St.nil w) ?_
  rcases hn with rfl | rfl | rfl
  all_goals
    refine J.go [] 900 rfl ?_
    (refine JF.chk rfl ?_ ?_; (focus ((repeat' (apply And.intro)) <;> (first | exact True.intro | (first | omega | (simp only [IntKind.wrap_i64, IntKind.wrap_i32, IntKind.wrap_u64, IntKind.wrap_u32, IntKind.wrap_u16, IntKind.wrap_u8] at *; omega))))))
    refine J.go [] 900 rfl ?_
    (refine JF.chk rfl ?_ ?_; (focus ((repeat' (apply And.intro)) <;> (first | exact True.intro | (first | omega | (simp only [IntKind.wrap_i64, IntKind.wrap_i32, IntKind.wrap_u64, IntKind.wrap_u32, IntKind.wrap_u16, IntKind.wrap_u8] at *; omega))))))
    refine J.go [] 900 rfl ?_
    refine JF.ret rfl fun w' hst => ⟨hst.ext, rfl⟩

theorem r_Signed (v n : Int) (hn : n = 8 ∨ n = 16 ∨ n = 32) (w : World) : Rets Pg n_haspref11_Signed [.int .u32 v, .int .i64 n] w fun r w' => Ext NoB w w' ∧ r = .int .u32 (sgn v n) := by
  
  refine rets_of m_haspref11_Signed rfl rfl (St.nil w) ?_
  rcases hn with rfl | rfl | rfl
  all_goals
    refine J.go [] 900 rfl ?_
    (repeat' (first | ((first | refine JF.l1 0 rfl rfl rfl rfl ?_ | refine JF.ln 0 rfl rfl rfl rfl ?_ | refine JF.l1 1 rfl rfl rfl rfl ?_ | refine JF.ln 1 rfl rfl rfl rfl ?_ | refine JF.l1 2 rfl rfl rfl rfl ?_ | refine JF.ln 2 rfl rfl rfl rfl ?_ | refine JF.l1 3 rfl rfl rfl rfl ?_ | refine JF.ln 3 rfl rfl rfl rfl ?_ | refine JF.l1 4 rfl rfl rfl rfl ?_ | refine JF.ln 4 rfl rfl rfl rfl ?_ | refine JF.l1 5 rfl rfl rfl rfl ?_ | refine JF.ln 5 rfl rfl rfl rfl ?_ | refine JF.l1 6 rfl rfl rfl rfl ?_ | refine JF.ln 6 rfl rfl rfl rfl ?_ | refine JF.l1 7 rfl rfl rfl rfl ?_ | refine JF.ln 7 rfl rfl rfl rfl ?_); refine J.go [] 900 rfl ?_) | (refine JF.chk rfl ?_ ?_; (focus ((repeat' (apply And.intro)) <;> (first | exact True.intro | omega))); refine J.go [] 900 rfl ?_) | (((first | refine JF.condD rfl ?_ ?_ | refine JF.condE rfl ?_ ?_ | refine JF.condN rfl ?_ ?_ | refine JF.guardD rfl ?_ ?_ | refine JF.guardE rfl ?_ ?_ | refine JF.guardN rfl ?_ ?_ | refine JF.cond rfl ?_ ?_ | refine JF.guard rfl ?_ ?_) <;> intro h) <;> (first | (exact absurd h Bool.false_ne_true) | (exact absurd h.symm Bool.false_ne_true) | (exact absurd rfl h) | (exfalso; omega) | refine J.go [] 900 rfl ?_))))
    (refine JF.chk rfl ?_ ?_; (focus ((repeat' (apply And.intro)) <;> (first | exact True.intro | (first | omega | (simp only [IntKind.wrap_i64, IntKind.wrap_i32, IntKind.wrap_u64, IntKind.wrap_u32, IntKind.wrap_u16, IntKind.wrap_u8] at *; omega))))))
    refine J.go [] 900 rfl ?_
    (refine JF.chk rfl ?_ ?_; (focus ((repeat' (apply And.intro)) <;> (first | exact True.intro | (first | omega | (simp only [IntKind.wrap_i64, IntKind.wrap_i32, IntKind.wrap_u64, IntKind.wrap_u32, IntKind.wrap_u16, IntKind.wrap_u8] at *; omega))))))
    refine J.go [] 900 rfl ?_
    refine JF.ret rfl fun w' hst => ⟨hst.ext, rfl⟩

def ldV (B : List Int) (c : CapV) (off n : Int) (sign : Bool) : Int :=
  if sign then sgn (unw (subB B (acAddr c off) n)) (8 * n) else unw (subB B (acAddr c off) n)
def ldR (B : List Int) (c : CapV) (off n : Int) (sign : Bool) : Int := if mE B.length c off n 1 = none then ldV B c off n sign else 0

theorem access_Load {t : TypeId} {M : MB} {r : Bool} {B : List Int} {T : List Bool} (c : CapV) (off n : Int) (sign : Bool) (w : World) (hG : GoodG w) (hw : Here w (memL t M r B T)) (hM : okM M B T) (hB : isB B) (hc : c.ok) (hn : isI64 n) :
    Rets Pg n_access_Load [.pointer (some ⟨M.bm, 0, none⟩), c.val, .int .i32 off, .int .i64 n, .bool sign] w fun v w' => Ext NoB w w' ∧ ∃ f, v = .tuple #[.int .u32 (ldR B c off n sign), f] ∧ ErrR w w' f (mE B.length c off n 1) := by
  
  have hM' := hM
  obtain ⟨k1, k2, k3, k4, k5⟩ := hM'
  have hau := acAddr_u32 c off
  refine rets_of m_access_Load rfl rfl ((show Here w (memL t M false B T) from hw.ro).start (S := NoB) (by simp)) ?_
  refine J.go [6] 900 rfl ?_
  refine JF.callV _ rfl (fun w1 hst => access_size n w1) fun w1 r w2 hst hq => ?_
  obtain ⟨hx, hf⟩ := hq
  by_cases hs : okSz n
  case neg =>
    have e1 : szE n = some (sSize, n, 7) := if_neg hs
    have e2 : mE B.length c off n 1 = some (sSize, n, 7) := by unfold mE; rw [e1]
    rw [e1] at hf
    obtain ⟨b, h1, rfl, h2⟩ := FaultAt.tr hst hx hf
    refine ⟨_, h2, ?_⟩
    refine J.go [6] 900 rfl ?_
    (repeat' (first | ((first | refine JF.l1 0 rfl rfl rfl rfl ?_ | refine JF.ln 0 rfl rfl rfl rfl ?_ | refine JF.l1 1 rfl rfl rfl rfl ?_ | refine JF.ln 1 rfl rfl rfl rfl ?_ | refine JF.l1 2 rfl rfl rfl rfl ?_ | refine JF.ln 2 rfl rfl rfl rfl ?_ | refine JF.l1 3 rfl rfl rfl rfl ?_ | refine JF.ln 3 rfl rfl rfl rfl ?_ | refine JF.l1 4 rfl rfl rfl rfl ?_ | refine JF.ln 4 rfl rfl rfl rfl ?_ | refine JF.l1 5 rfl rfl rfl rfl ?_ | refine JF.ln 5 rfl rfl rfl rfl ?_ | refine JF.l1 6 rfl rfl rfl rfl ?_ | refine JF.ln 6 rfl rfl rfl rfl ?_ | refine JF.l1 7 rfl rfl rfl rfl ?_ | refine JF.ln 7 rfl rfl rfl rfl ?_); refine J.go [6] 900 rfl ?_) | (refine JF.chk rfl ?_ ?_; (focus ((repeat' (apply And.intro)) <;> (first | exact True.intro | omega))); refine J.go [6] 900 rfl ?_) | (((first | refine JF.condD rfl ?_ ?_ | refine JF.condE rfl ?_ ?_ | refine JF.condN rfl ?_ ?_ | refine JF.guardD rfl ?_ ?_ | refine JF.guardE rfl ?_ ?_ | refine JF.guardN rfl ?_ ?_ | refine JF.cond rfl ?_ ?_ | refine JF.guard rfl ?_ ?_) <;> intro h) <;> (first | (exact absurd h Bool.false_ne_true) | (exact absurd h.symm Bool.false_ne_true) | (exact absurd rfl h) | (exfalso; omega) | refine J.go [6] 900 rfl ?_))))
    refine JF.ret rfl fun w' hst => ⟨hst.ext, fltV b, ?_, ?_⟩
    · rw [show ldR B c off n sign = 0 from if_neg (by rw [e2]; simp)]; rfl
    · rw [e2]; exact ErrR.mk1 hst h1
  have e1 : szE n = none := if_pos hs
  rw [e1] at hf
  obtain rfl : r = .nilIface := hf
  refine ⟨_, Tr.same hst hx (fun x hx => nomatch hx), ?_⟩
  have hnu : IntKind.u32.wrap n = n := u32_id (by unfold okSz at hs; omega) (by unfold okSz at hs; omega)
  refine J.go [6] 900 rfl ?_
  (repeat' (first | ((first | refine JF.l1 0 rfl rfl rfl rfl ?_ | refine JF.ln 0 rfl rfl rfl rfl ?_ | refine JF.l1 1 rfl rfl rfl rfl ?_ | refine JF.ln 1 rfl rfl rfl rfl ?_ | refine JF.l1 2 rfl rfl rfl rfl ?_ | refine JF.ln 2 rfl rfl rfl rfl ?_ | refine JF.l1 3 rfl rfl rfl rfl ?_ | refine JF.ln 3 rfl rfl rfl rfl ?_ | refine JF.l1 4 rfl rfl rfl rfl ?_ | refine JF.ln 4 rfl rfl rfl rfl ?_ | refine JF.l1 5 rfl rfl rfl rfl ?_ | refine JF.ln 5 rfl rfl rfl rfl ?_ | refine JF.l1 6 rfl rfl rfl rfl ?_ | refine JF.ln 6 rfl rfl rfl rfl ?_ | refine JF.l1 7 rfl rfl rfl rfl ?_ | refine JF.ln 7 rfl rfl rfl rfl ?_); refine J.go [6] 900 rfl ?_) | (refine JF.chk rfl ?_ ?_; (focus ((repeat' (apply And.intro)) <;> (first | exact True.intro | omega))); refine J.go [6] 900 rfl ?_) | (((first | refine JF.condD rfl ?_ ?_ | refine JF.condE rfl ?_ ?_ | refine JF.condN rfl ?_ ?_ | refine JF.guardD rfl ?_ ?_ | refine JF.guardE rfl ?_ ?_ | refine JF.guardN rfl ?_ ?_ | refine JF.cond rfl ?_ ?_ | refine JF.guard rfl ?_ ?_) <;> intro h) <;> (first | (exact absurd h Bool.false_ne_true) | (exact absurd h.symm Bool.false_ne_true) | (exact absurd rfl h) | (exfalso; omega) | refine J.go [6] 900 rfl ?_))))
  rw [hnu]
  refine JF.callV _ rfl (fun w1 hst => access_place c off n 1 hc (by unfold okSz at hs; constructor <;> omega) w1) fun w1 r w2 hst hq => ?_
  obtain ⟨hx, f, rfl, hf⟩ := hq
  cases hE : accE c (acAddr c off) n 1 with
  | some E =>
    obtain ⟨p, a, no⟩ := E
    have e2 : mE B.length c off n 1 = some (p, a, no) := by unfold mE; rw [e1]; simp only [hnu, hE]
    rw [hE] at hf
    obtain ⟨b, h1, rfl, h2⟩ := FaultAt.tr hst hx hf
    refine ⟨_, h2, ?_⟩
    refine J.go [6] 900 rfl ?_
    (repeat' (first | ((first | refine JF.l1 0 rfl rfl rfl rfl ?_ | refine JF.ln 0 rfl rfl rfl rfl ?_ | refine JF.l1 1 rfl rfl rfl rfl ?_ | refine JF.ln 1 rfl rfl rfl rfl ?_ | refine JF.l1 2 rfl rfl rfl rfl ?_ | refine JF.ln 2 rfl rfl rfl rfl ?_ | refine JF.l1 3 rfl rfl rfl rfl ?_ | refine JF.ln 3 rfl rfl rfl rfl ?_ | refine JF.l1 4 rfl rfl rfl rfl ?_ | refine JF.ln 4 rfl rfl rfl rfl ?_ | refine JF.l1 5 rfl rfl rfl rfl ?_ | refine JF.ln 5 rfl rfl rfl rfl ?_ | refine JF.l1 6 rfl rfl rfl rfl ?_ | refine JF.ln 6 rfl rfl rfl rfl ?_ | refine JF.l1 7 rfl rfl rfl rfl ?_ | refine JF.ln 7 rfl rfl rfl rfl ?_); refine J.go [6] 900 rfl ?_) | (refine JF.chk rfl ?_ ?_; (focus ((repeat' (apply And.intro)) <;> (first | exact True.intro | omega))); refine J.go [6] 900 rfl ?_) | (((first | refine JF.condD rfl ?_ ?_ | refine JF.condE rfl ?_ ?_ | refine JF.condN rfl ?_ ?_ | refine JF.guardD rfl ?_ ?_ | refine JF.guardE rfl ?_ ?_ | refine JF.guardN rfl ?_ ?_ | refine JF.cond rfl ?_ ?_ | refine JF.guard rfl ?_ ?_) <;> intro h) <;> (first | (exact absurd h Bool.false_ne_true) | (exact absurd h.symm Bool.false_ne_true) | (exact absurd rfl h) | (exfalso; omega) | refine J.go [6] 900 rfl ?_))))
    refine JF.ret rfl fun w' hst => ⟨hst.ext, fltV b, ?_, ?_⟩
    · rw [show ldR B c off n sign = 0 from if_neg (by rw [e2]; simp)]; rfl
    · rw [e2]; exact ErrR.mk1 hst h1
  | none =>
    rw [hE] at hf
    obtain rfl : f = .nilIface := hf
    refine ⟨_, Tr.same hst hx (fun x hx => nomatch hx), ?_⟩
    refine J.go [6] 900 rfl ?_
    (repeat' (first | ((first | refine JF.l1 0 rfl rfl rfl rfl ?_ | refine JF.ln 0 rfl rfl rfl rfl ?_ | refine JF.l1 1 rfl rfl rfl rfl ?_ | refine JF.ln 1 rfl rfl rfl rfl ?_ | refine JF.l1 2 rfl rfl rfl rfl ?_ | refine JF.ln 2 rfl rfl rfl rfl ?_ | refine JF.l1 3 rfl rfl rfl rfl ?_ | refine JF.ln 3 rfl rfl rfl rfl ?_ | refine JF.l1 4 rfl rfl rfl rfl ?_ | refine JF.ln 4 rfl rfl rfl rfl ?_ | refine JF.l1 5 rfl rfl rfl rfl ?_ | refine JF.ln 5 rfl rfl rfl rfl ?_ | refine JF.l1 6 rfl rfl rfl rfl ?_ | refine JF.ln 6 rfl rfl rfl rfl ?_ | refine JF.l1 7 rfl rfl rfl rfl ?_ | refine JF.ln 7 rfl rfl rfl rfl ?_); refine J.go [6] 900 rfl ?_) | (refine JF.chk rfl ?_ ?_; (focus ((repeat' (apply And.intro)) <;> (first | exact True.intro | omega))); refine J.go [6] 900 rfl ?_) | (((first | refine JF.condD rfl ?_ ?_ | refine JF.condE rfl ?_ ?_ | refine JF.condN rfl ?_ ?_ | refine JF.guardD rfl ?_ ?_ | refine JF.guardE rfl ?_ ?_ | refine JF.guardN rfl ?_ ?_ | refine JF.cond rfl ?_ ?_ | refine JF.guard rfl ?_ ?_) <;> intro h) <;> (first | (exact absurd h Bool.false_ne_true) | (exact absurd h.symm Bool.false_ne_true) | (exact absurd rfl h) | (exfalso; omega) | refine J.go [6] 900 rfl ?_))))
    refine JF.callV _ rfl (fun w1 hst => load_ok (acAddr c off) n w1 (hst.here (List.Sublist.refl _)) hM (by have := hau.1; have := hau.2; constructor <;> omega) hn) fun w1 r w2 hst hq => ?_
    obtain ⟨hx, ⟨hok, x, E, rfl, hos, hnew⟩ | ⟨hok, f, rfl, hf⟩⟩ := hq
    · have e2 : mE B.length c off n 1 = none := by unfold mE; rw [e1]; simp only [hnu, hE, if_pos hok]
      have hl := subB_len hok
      refine ⟨_, Tr.news hst hx hnew (fun x hx => nomatch hx), ?_⟩
      obtain ⟨a', n', c', rfl, hn', hc'⟩ := hos.slice
      rw [byC_len, hl, Nat.mul_one] at hn'
      subst hn'
      rcases hos.inv with ⟨h0, hz, _⟩ | ⟨b, sp, rfl, rfl, hl1, hl2, hl3⟩
      · unfold okSz at hs; omega
      have hn4 : n.toNat ≤ 4 := by unfold okSz at hs; omega
      have e3 : IntKind.i64.wrap (n - 1) = ((n.toNat : Nat) : Int) - 1 := by rw [i64_id (by unfold okSz at hs; omega) (by unfold okSz at hs; omega)]; unfold okSz at hs; omega
      refine J.go [6] 900 rfl ?_
      (repeat' (first | ((first | refine JF.l1 0 rfl rfl rfl rfl ?_ | refine JF.ln 0 rfl rfl rfl rfl ?_ | refine JF.l1 1 rfl rfl rfl rfl ?_ | refine JF.ln 1 rfl rfl rfl rfl ?_ | refine JF.l1 2 rfl rfl rfl rfl ?_ | refine JF.ln 2 rfl rfl rfl rfl ?_ | refine JF.l1 3 rfl rfl rfl rfl ?_ | refine JF.ln 3 rfl rfl rfl rfl ?_ | refine JF.l1 4 rfl rfl rfl rfl ?_ | refine JF.ln 4 rfl rfl rfl rfl ?_ | refine JF.l1 5 rfl rfl rfl rfl ?_ | refine JF.ln 5 rfl rfl rfl rfl ?_ | refine JF.l1 6 rfl rfl rfl rfl ?_ | refine JF.ln 6 rfl rfl rfl rfl ?_ | refine JF.l1 7 rfl rfl rfl rfl ?_ | refine JF.ln 7 rfl rfl rfl rfl ?_); refine J.go [6] 900 rfl ?_) | (refine JF.chk rfl ?_ ?_; (focus ((repeat' (apply And.intro)) <;> (first | exact True.intro | omega))); refine J.go [6] 900 rfl ?_) | (((first | refine JF.condD rfl ?_ ?_ | refine JF.condE rfl ?_ ?_ | refine JF.condN rfl ?_ ?_ | refine JF.guardD rfl ?_ ?_ | refine JF.guardE rfl ?_ ?_ | refine JF.guardN rfl ?_ ?_ | refine JF.cond rfl ?_ ?_ | refine JF.guard rfl ?_ ?_) <;> intro h) <;> (first | (exact absurd h Bool.false_ne_true) | (exact absurd h.symm Bool.false_ne_true) | (exact absurd rfl h) | (exfalso; omega) | refine J.go [6] 900 rfl ?_))))
      rw [e3]
      refine JF.loop (σ := Nat) (fun k => [(17, .v (.int .i64 ((k : Int) - 1))), (16, .v (.int .u32 (unw ((subB B (acAddr c off) n).drop k)))), (15, .v (.slice (some ⟨b, 0, none⟩) n.toNat c')), (4, .v (.bool sign)), (3, .v (.int .i64 n))]) (fun _ => [])
        (fun _ => [⟨b, 5, 0, 0, byC (subB B (acAddr c off) n) ++ sp, true⟩]) (fun k => k ≤ n.toNat) (fun k => k) n.toNat (Nat.le_refl _) ⟨rfl, by rw [List.drop_of_length_le (by omega)]; rfl, rfl, rfl, rfl, trivial⟩ trivial (List.sublist_append_left _ _) ?_
      intro k hk
      try dsimp only
      generalize hbl : subB B (acAddr c off) n = l at *
      have hlB : isB l := by rw [← hbl]; exact isB_subB hB _ _
      rcases k with _ | k
      · have hv : ldR B c off n sign = if sign then sgn (unw l) (8 * n) else unw l := by
          unfold ldR; rw [if_pos e2]; unfold ldV; rw [hbl]
        cases sign
        · refine J.go [6] 900 rfl ?_
          (repeat' (first | ((first | refine JF.l1 0 rfl rfl rfl rfl ?_ | refine JF.ln 0 rfl rfl rfl rfl ?_ | refine JF.l1 1 rfl rfl rfl rfl ?_ | refine JF.ln 1 rfl rfl rfl rfl ?_ | refine JF.l1 2 rfl rfl rfl rfl ?_ | refine JF.ln 2 rfl rfl rfl rfl ?_ | refine JF.l1 3 rfl rfl rfl rfl ?_ | refine JF.ln 3 rfl rfl rfl rfl ?_ | refine JF.l1 4 rfl rfl rfl rfl ?_ | refine JF.ln 4 rfl rfl rfl rfl ?_ | refine JF.l1 5 rfl rfl rfl rfl ?_ | refine JF.ln 5 rfl rfl rfl rfl ?_ | refine JF.l1 6 rfl rfl rfl rfl ?_ | refine JF.ln 6 rfl rfl rfl rfl ?_ | refine JF.l1 7 rfl rfl rfl rfl ?_ | refine JF.ln 7 rfl rfl rfl rfl ?_); refine J.go [6] 900 rfl ?_) | (refine JF.chk rfl ?_ ?_; (focus ((repeat' (apply And.intro)) <;> (first | exact True.intro | omega))); refine J.go [6] 900 rfl ?_) | (((first | refine JF.condD rfl ?_ ?_ | refine JF.condE rfl ?_ ?_ | refine JF.condN rfl ?_ ?_ | refine JF.guardD rfl ?_ ?_ | refine JF.guardE rfl ?_ ?_ | refine JF.guardN rfl ?_ ?_ | refine JF.cond rfl ?_ ?_ | refine JF.guard rfl ?_ ?_) <;> intro h) <;> (first | (exact absurd h Bool.false_ne_true) | (exact absurd h.symm Bool.false_ne_true) | (exact absurd rfl h) | (exfalso; omega) | refine J.go [6] 900 rfl ?_))))
          refine JF.ret rfl fun w' hst => ⟨hst.ext, _, ?_, by rw [e2]; rfl⟩
          rw [hv, List.drop_zero]; rfl
        · have e4 : IntKind.i64.wrap (8 * n) = 8 * n := by rw [i64_id] <;> (unfold okSz at hs; omega)
          refine J.go [6] 900 rfl ?_
          (repeat' (first | ((first | refine JF.l1 0 rfl rfl rfl rfl ?_ | refine JF.ln 0 rfl rfl rfl rfl ?_ | refine JF.l1 1 rfl rfl rfl rfl ?_ | refine JF.ln 1 rfl rfl rfl rfl ?_ | refine JF.l1 2 rfl rfl rfl rfl ?_ | refine JF.ln 2 rfl rfl rfl rfl ?_ | refine JF.l1 3 rfl rfl rfl rfl ?_ | refine JF.ln 3 rfl rfl rfl rfl ?_ | refine JF.l1 4 rfl rfl rfl rfl ?_ | refine JF.ln 4 rfl rfl rfl rfl ?_ | refine JF.l1 5 rfl rfl rfl rfl ?_ | refine JF.ln 5 rfl rfl rfl rfl ?_ | refine JF.l1 6 rfl rfl rfl rfl ?_ | refine JF.ln 6 rfl rfl rfl rfl ?_ | refine JF.l1 7 rfl rfl rfl rfl ?_ | refine JF.ln 7 rfl rfl rfl rfl ?_); refine J.go [6] 900 rfl ?_) | (refine JF.chk rfl ?_ ?_; (focus ((repeat' (apply And.intro)) <;> (first | exact True.intro | omega))); refine J.go [6] 900 rfl ?_) | (((first | refine JF.condD rfl ?_ ?_ | refine JF.condE rfl ?_ ?_ | refine JF.condN rfl ?_ ?_ | refine JF.guardD rfl ?_ ?_ | refine JF.guardE rfl ?_ ?_ | refine JF.guardN rfl ?_ ?_ | refine JF.cond rfl ?_ ?_ | refine JF.guard rfl ?_ ?_) <;> intro h) <;> (first | (exact absurd h Bool.false_ne_true) | (exact absurd h.symm Bool.false_ne_true) | (exact absurd rfl h) | (exfalso; omega) | refine J.go [6] 900 rfl ?_))))
          rw [e4]
          refine JF.callF _ rfl (fun w1 hst => word_Signed _ (8 * n) (by unfold okSz at hs; omega) w1) (fun x hx => nomatch hx) ?_
          refine J.go [6] 900 rfl ?_
          refine JF.ret rfl fun w' hst => ⟨hst.ext, _, ?_, by rw [e2]; rfl⟩
          rw [hv, List.drop_zero]; rfl
      · have e5 : ((k + 1 : Nat) : Int) - 1 = (k : Int) := by omega
        have e6 : IntKind.i64.wrap ((k : Int) - 1) = (k : Int) - 1 := by rw [IntKind.wrap_i64]; omega
        rw [e5]
        refine J.go [6] 900 rfl ?_
        (repeat' (first | ((first | refine JF.l1 0 rfl rfl rfl rfl ?_ | refine JF.ln 0 rfl rfl rfl rfl ?_ | refine JF.l1 1 rfl rfl rfl rfl ?_ | refine JF.ln 1 rfl rfl rfl rfl ?_ | refine JF.l1 2 rfl rfl rfl rfl ?_ | refine JF.ln 2 rfl rfl rfl rfl ?_ | refine JF.l1 3 rfl rfl rfl rfl ?_ | refine JF.ln 3 rfl rfl rfl rfl ?_ | refine JF.l1 4 rfl rfl rfl rfl ?_ | refine JF.ln 4 rfl rfl rfl rfl ?_ | refine JF.l1 5 rfl rfl rfl rfl ?_ | refine JF.ln 5 rfl rfl rfl rfl ?_ | refine JF.l1 6 rfl rfl rfl rfl ?_ | refine JF.ln 6 rfl rfl rfl rfl ?_ | refine JF.l1 7 rfl rfl rfl rfl ?_ | refine JF.ln 7 rfl rfl rfl rfl ?_); refine J.go [6] 900 rfl ?_) | (refine JF.chk rfl ?_ ?_; (focus ((repeat' (apply And.intro)) <;> (first | exact True.intro | omega))); refine J.go [6] 900 rfl ?_) | (((first | refine JF.condD rfl ?_ ?_ | refine JF.condE rfl ?_ ?_ | refine JF.condN rfl ?_ ?_ | refine JF.guardD rfl ?_ ?_ | refine JF.guardE rfl ?_ ?_ | refine JF.guardN rfl ?_ ?_ | refine JF.cond rfl ?_ ?_ | refine JF.guard rfl ?_ ?_) <;> intro h) <;> (first | (exact absurd h Bool.false_ne_true) | (exact absurd h.symm Bool.false_ne_true) | (exact absurd rfl h) | (exfalso; omega) | refine J.go [6] 900 rfl ?_))))
        refine JF.ld1 (v := .int .u8 (l.getD k 0)) rfl (.head _) rfl (nthL_app (nth_byC (by omega) (by omega))) ?_
        refine J.go [6] 900 rfl ?_
        have hg := getD_isB hlB k
        rw [IntKind.wrap_u32, Int.emod_eq_of_lt (by omega) (by omega)]
        rw [unw_stepD hlB (by omega) (by omega), e6]
        refine JF.round k (by omega) (by omega) ⟨rfl, rfl, rfl, rfl, rfl, trivial⟩ trivial (List.Sublist.refl _)
    · have e2 : mE B.length c off n 1 = some (sMem, acAddr c off, 6) := by unfold mE; rw [e1]; simp only [hnu, hE, if_neg hok]
      obtain ⟨b, h1, rfl, h2⟩ := FaultAt.tr hst hx hf
      refine ⟨_, h2, ?_⟩
      refine J.go [6] 900 rfl ?_
      (repeat' (first | ((first | refine JF.l1 0 rfl rfl rfl rfl ?_ | refine JF.ln 0 rfl rfl rfl rfl ?_ | refine JF.l1 1 rfl rfl rfl rfl ?_ | refine JF.ln 1 rfl rfl rfl rfl ?_ | refine JF.l1 2 rfl rfl rfl rfl ?_ | refine JF.ln 2 rfl rfl rfl rfl ?_ | refine JF.l1 3 rfl rfl rfl rfl ?_ | refine JF.ln 3 rfl rfl rfl rfl ?_ | refine JF.l1 4 rfl rfl rfl rfl ?_ | refine JF.ln 4 rfl rfl rfl rfl ?_ | refine JF.l1 5 rfl rfl rfl rfl ?_ | refine JF.ln 5 rfl rfl rfl rfl ?_ | refine JF.l1 6 rfl rfl rfl rfl ?_ | refine JF.ln 6 rfl rfl rfl rfl ?_ | refine JF.l1 7 rfl rfl rfl rfl ?_ | refine JF.ln 7 rfl rfl rfl rfl ?_); refine J.go [6] 900 rfl ?_) | (refine JF.chk rfl ?_ ?_; (focus ((repeat' (apply And.intro)) <;> (first | exact True.intro | omega))); refine J.go [6] 900 rfl ?_) | (((first | refine JF.condD rfl ?_ ?_ | refine JF.condE rfl ?_ ?_ | refine JF.condN rfl ?_ ?_ | refine JF.guardD rfl ?_ ?_ | refine JF.guardE rfl ?_ ?_ | refine JF.guardN rfl ?_ ?_ | refine JF.cond rfl ?_ ?_ | refine JF.guard rfl ?_ ?_) <;> intro h) <;> (first | (exact absurd h Bool.false_ne_true) | (exact absurd h.symm Bool.false_ne_true) | (exact absurd rfl h) | (exfalso; omega) | refine J.go [6] 900 rfl ?_))))
      refine JF.ret rfl fun w' hst => ⟨hst.ext, fltV b, ?_, ?_⟩
      · rw [show ldR B c off n sign = 0 from if_neg (by rw [e2]; simp)]; rfl
      · rw [e2]; exact ErrR.mk1 hst h1
end Go.HM
