/- Capabilities, loaded and stored through capabilities: contracts. -/
import Derived.Test.YtobdcokhmpaooaaDoorKaccess
import Derived.Test.YtobdcokhmpaooaaDoorKhaspref11
import Derived.Test.YtobdcokhmpaooaaDoorC18
namespace Go.HM
open Go Go.Proofs
set_option linter.unusedSimpArgs false
set_option linter.unusedVariables false

/-- What is wrong with a granule through a capability. -/
def cE (m : Nat) (c : CapV) (off perm : Int) : ErrE :=
  match accE c (acAddr c off) 16 perm with
  | some e => some e
  | none => if okC m (acAddr c off) then none else some (sMem, acAddr c off, capNo m (acAddr c off))

theorem cE_acc {m : Nat} {c : CapV} {off perm : Int} {E : ByteArray × Int × Int} (h : accE c (acAddr c off) 16 perm = some E) : cE m c off perm = some E := by unfold cE; rw [h]
theorem cE_mem {m : Nat} {c : CapV} {off perm : Int} (h : accE c (acAddr c off) 16 perm = none) (hr : ¬ okC m (acAddr c off)) : cE m c off perm = some (sMem, acAddr c off, capNo m (acAddr c off)) := by unfold cE; rw [h]; exact if_neg hr
theorem cE_ok {m : Nat} {c : CapV} {off perm : Int} (h : accE c (acAddr c off) 16 perm = none) (hr : okC m (acAddr c off)) : cE m c off perm = none := by unfold cE; rw [h]; exact if_pos hr

theorem errNe_cE (m : Nat) (c : CapV) (off perm : Int) : errNe (cE m c off perm) := by
  unfold cE
  split
  · rename_i e he; rw [← he]; exact errNe_acc _ _ _ _
  · split
    · trivial
    · exact capNo_ne _ _

def lcR (B : List Int) (T : List Bool) (c : CapV) (off : Int) : CapV := if cE B.length c off 1 = none then capKeep (capAt B T (acAddr c off)) (bAnd .u16 c.perm 8 != 0) else cap0

theorem u16_16 : isU32 16 := by constructor <;> decide

theorem access_LoadCap {t : TypeId} {M : MB} {r : Bool} {B : List Int} {T : List Bool} (c : CapV) (off : Int) (w : World) (hG : GoodG w) (hw : Here w (memL t M r B T)) (hM : okM M B T) (hB : isB B) (hc : c.ok) :
    Rets Pg n_access_LoadCap [.pointer (some ⟨M.bm, 0, none⟩), c.val, .int .i32 off] w fun v w' => Ext NoB w w' ∧ ∃ f, v = .tuple #[(lcR B T c off).val, f] ∧ ErrR w w' f (cE B.length c off 1) := by
  
  refine rets_of m_access_LoadCap rfl rfl ((show Here w (memL t M false B T) from hw.ro).start (S := NoB) (by simp)) ?_
  refine J.go [4,6,10] 900 rfl ?_
  refine JF.callV _ rfl (fun w1 hst => access_place c off 16 1 hc u16_16 w1) fun w1 r w2 hst hq => ?_
  obtain ⟨hx, f, rfl, hf⟩ := hq
  have hlc : ∀ {E}, cE B.length c off 1 = some E → lcR B T c off = cap0 := fun h => if_neg (by rw [h]; simp)
  cases hE : accE c (acAddr c off) 16 1 with
  | some E =>
    obtain ⟨p, a, no⟩ := E
    rw [hE] at hf
    obtain ⟨b, h1, rfl, h2⟩ := FaultAt.tr hst hx hf
    refine ⟨_, h2, ?_⟩
    refine J.go [4,6,10] 900 rfl ?_
    (repeat' (first | ((first | refine JF.l1 0 rfl rfl rfl rfl ?_ | refine JF.ln 0 rfl rfl rfl rfl ?_ | refine JF.l1 1 rfl rfl rfl rfl ?_ | refine JF.ln 1 rfl rfl rfl rfl ?_ | refine JF.l1 2 rfl rfl rfl rfl ?_ | refine JF.ln 2 rfl rfl rfl rfl ?_ | refine JF.l1 3 rfl rfl rfl rfl ?_ | refine JF.ln 3 rfl rfl rfl rfl ?_ | refine JF.l1 4 rfl rfl rfl rfl ?_ | refine JF.ln 4 rfl rfl rfl rfl ?_ | refine JF.l1 5 rfl rfl rfl rfl ?_ | refine JF.ln 5 rfl rfl rfl rfl ?_ | refine JF.l1 6 rfl rfl rfl rfl ?_ | refine JF.ln 6 rfl rfl rfl rfl ?_ | refine JF.l1 7 rfl rfl rfl rfl ?_ | refine JF.ln 7 rfl rfl rfl rfl ?_); refine J.go [4,6,10] 900 rfl ?_) | (refine JF.chk rfl ?_ ?_; (focus ((repeat' (apply And.intro)) <;> (first | exact True.intro | omega))); refine J.go [4,6,10] 900 rfl ?_) | (((first | refine JF.condD rfl ?_ ?_ | refine JF.condE rfl ?_ ?_ | refine JF.condN rfl ?_ ?_ | refine JF.guardD rfl ?_ ?_ | refine JF.guardE rfl ?_ ?_ | refine JF.guardN rfl ?_ ?_ | refine JF.cond rfl ?_ ?_ | refine JF.guard rfl ?_ ?_) <;> intro h) <;> (first | (exact absurd h Bool.false_ne_true) | (exact absurd h.symm Bool.false_ne_true) | (exact absurd rfl h) | (exfalso; omega) | refine J.go [4,6,10] 900 rfl ?_))))
    refine JF.ret rfl fun w' hst => ⟨hst.ext, fltV b, ?_, ?_⟩
    · rw [hlc (cE_acc hE)]; rfl
    · rw [cE_acc hE]; exact ErrR.mk1 hst h1
  | none =>
    rw [hE] at hf
    obtain rfl : f = .nilIface := hf
    refine ⟨_, Tr.same hst hx (fun x hx => nomatch hx), ?_⟩
    refine J.go [4,6,10] 900 rfl ?_
    (repeat' (first | ((first | refine JF.l1 0 rfl rfl rfl rfl ?_ | refine JF.ln 0 rfl rfl rfl rfl ?_ | refine JF.l1 1 rfl rfl rfl rfl ?_ | refine JF.ln 1 rfl rfl rfl rfl ?_ | refine JF.l1 2 rfl rfl rfl rfl ?_ | refine JF.ln 2 rfl rfl rfl rfl ?_ | refine JF.l1 3 rfl rfl rfl rfl ?_ | refine JF.ln 3 rfl rfl rfl rfl ?_ | refine JF.l1 4 rfl rfl rfl rfl ?_ | refine JF.ln 4 rfl rfl rfl rfl ?_ | refine JF.l1 5 rfl rfl rfl rfl ?_ | refine JF.ln 5 rfl rfl rfl rfl ?_ | refine JF.l1 6 rfl rfl rfl rfl ?_ | refine JF.ln 6 rfl rfl rfl rfl ?_ | refine JF.l1 7 rfl rfl rfl rfl ?_ | refine JF.ln 7 rfl rfl rfl rfl ?_); refine J.go [4,6,10] 900 rfl ?_) | (refine JF.chk rfl ?_ ?_; (focus ((repeat' (apply And.intro)) <;> (first | exact True.intro | omega))); refine J.go [4,6,10] 900 rfl ?_) | (((first | refine JF.condD rfl ?_ ?_ | refine JF.condE rfl ?_ ?_ | refine JF.condN rfl ?_ ?_ | refine JF.guardD rfl ?_ ?_ | refine JF.guardE rfl ?_ ?_ | refine JF.guardN rfl ?_ ?_ | refine JF.cond rfl ?_ ?_ | refine JF.guard rfl ?_ ?_) <;> intro h) <;> (first | (exact absurd h Bool.false_ne_true) | (exact absurd h.symm Bool.false_ne_true) | (exact absurd rfl h) | (exfalso; omega) | refine J.go [4,6,10] 900 rfl ?_))))
    refine JF.callV _ rfl (fun w1 hst => loadCap_ok (acAddr c off) w1 (hG.keep hst.ext (fun h => h)) (hst.here (List.Sublist.refl _)) hM acc_i64 hB) fun w1 r w2 hst hq => ?_
    obtain ⟨hx, ⟨hok, rfl⟩ | ⟨hok, f, rfl, hf⟩⟩ := hq
    · have e2 := cE_ok (perm := 1) hE hok
      have hv : lcR B T c off = capKeep (capAt B T (acAddr c off)) (bAnd .u16 c.perm 8 != 0) := if_pos e2
      refine ⟨_, Tr.same hst hx (fun x hx => nomatch hx), ?_⟩
      generalize capAt B T (acAddr c off) = k at *
      refine J.go [4,6,10] 900 rfl ?_
      (repeat' (first | ((first | refine JF.l1 0 rfl rfl rfl rfl ?_ | refine JF.ln 0 rfl rfl rfl rfl ?_ | refine JF.l1 1 rfl rfl rfl rfl ?_ | refine JF.ln 1 rfl rfl rfl rfl ?_ | refine JF.l1 2 rfl rfl rfl rfl ?_ | refine JF.ln 2 rfl rfl rfl rfl ?_ | refine JF.l1 3 rfl rfl rfl rfl ?_ | refine JF.ln 3 rfl rfl rfl rfl ?_ | refine JF.l1 4 rfl rfl rfl rfl ?_ | refine JF.ln 4 rfl rfl rfl rfl ?_ | refine JF.l1 5 rfl rfl rfl rfl ?_ | refine JF.ln 5 rfl rfl rfl rfl ?_ | refine JF.l1 6 rfl rfl rfl rfl ?_ | refine JF.ln 6 rfl rfl rfl rfl ?_ | refine JF.l1 7 rfl rfl rfl rfl ?_ | refine JF.ln 7 rfl rfl rfl rfl ?_); refine J.go [4,6,10] 900 rfl ?_) | (refine JF.chk rfl ?_ ?_; (focus ((repeat' (apply And.intro)) <;> (first | exact True.intro | omega))); refine J.go [4,6,10] 900 rfl ?_) | (((first | refine JF.condD rfl ?_ ?_ | refine JF.condE rfl ?_ ?_ | refine JF.condN rfl ?_ ?_ | refine JF.guardD rfl ?_ ?_ | refine JF.guardE rfl ?_ ?_ | refine JF.guardN rfl ?_ ?_ | refine JF.cond rfl ?_ ?_ | refine JF.guard rfl ?_ ?_) <;> intro h) <;> (first | (exact absurd h Bool.false_ne_true) | (exact absurd h.symm Bool.false_ne_true) | (exact absurd rfl h) | (exfalso; omega) | refine J.go [4,6,10] 900 rfl ?_))))
      · refine JF.callF _ rfl (fun w1 hst => cap_clear k w1) (fun x hx => nomatch hx) ?_
        refine J.go [4,6,10] 900 rfl ?_
        refine JF.ret rfl fun w' hst => ⟨hst.ext, .nilIface, ?_, by rw [e2]; rfl⟩
        rw [hv, h]; rfl
      · refine JF.ret rfl fun w' hst => ⟨hst.ext, .nilIface, ?_, by rw [e2]; rfl⟩
        rw [hv, show (bAnd .u16 c.perm 8 != 0) = true by simpa using h]
        simp [tup, capKeep, CapV.val]
    · have e2 := cE_mem (perm := 1) hE hok
      obtain ⟨b, h1, rfl, h2⟩ := FaultAt.tr hst hx hf
      refine ⟨_, h2, ?_⟩
      refine J.go [4,6,10] 900 rfl ?_
      (repeat' (first | ((first | refine JF.l1 0 rfl rfl rfl rfl ?_ | refine JF.ln 0 rfl rfl rfl rfl ?_ | refine JF.l1 1 rfl rfl rfl rfl ?_ | refine JF.ln 1 rfl rfl rfl rfl ?_ | refine JF.l1 2 rfl rfl rfl rfl ?_ | refine JF.ln 2 rfl rfl rfl rfl ?_ | refine JF.l1 3 rfl rfl rfl rfl ?_ | refine JF.ln 3 rfl rfl rfl rfl ?_ | refine JF.l1 4 rfl rfl rfl rfl ?_ | refine JF.ln 4 rfl rfl rfl rfl ?_ | refine JF.l1 5 rfl rfl rfl rfl ?_ | refine JF.ln 5 rfl rfl rfl rfl ?_ | refine JF.l1 6 rfl rfl rfl rfl ?_ | refine JF.ln 6 rfl rfl rfl rfl ?_ | refine JF.l1 7 rfl rfl rfl rfl ?_ | refine JF.ln 7 rfl rfl rfl rfl ?_); refine J.go [4,6,10] 900 rfl ?_) | (refine JF.chk rfl ?_ ?_; (focus ((repeat' (apply And.intro)) <;> (first | exact True.intro | omega))); refine J.go [4,6,10] 900 rfl ?_) | (((first | refine JF.condD rfl ?_ ?_ | refine JF.condE rfl ?_ ?_ | refine JF.condN rfl ?_ ?_ | refine JF.guardD rfl ?_ ?_ | refine JF.guardE rfl ?_ ?_ | refine JF.guardN rfl ?_ ?_ | refine JF.cond rfl ?_ ?_ | refine JF.guard rfl ?_ ?_) <;> intro h) <;> (first | (exact absurd h Bool.false_ne_true) | (exact absurd h.symm Bool.false_ne_true) | (exact absurd rfl h) | (exfalso; omega) | refine J.go [4,6,10] 900 rfl ?_))))
      · refine JF.callF _ rfl (fun w1 hst => cap_clear cap0 w1) (fun x hx => nomatch hx) ?_
        refine J.go [4,6,10] 900 rfl ?_
        refine JF.ret rfl fun w' hst => ⟨hst.ext, fltV b, ?_, ?_⟩
        · rw [hlc e2]; rfl
        · rw [e2]; exact ErrR.mk1 hst h1
      · refine JF.ret rfl fun w' hst => ⟨hst.ext, fltV b, ?_, ?_⟩
        · rw [hlc e2]; rfl
        · rw [e2]; exact ErrR.mk1 hst h1

theorem r_ReadCap {t : TypeId} {M : MB} {r : Bool} {B : List Int} {T : List Bool} (c : CapV) (off : Int) (w : World) (hw : Here w (memL t M r B T)) (hM : okM M B T) (hB : isB B) (hc : c.ok) :
    Rets Pg n_haspref11_ReadCap [.pointer (some ⟨M.bm, 0, none⟩), c.val, .int .i32 off] w fun v w' => Ext NoB w w' ∧ v = .tuple #[(lcR B T c off).val, wrE (cE B.length c off 1)] := by
  
  refine rets_of m_haspref11_ReadCap rfl rfl ((show Here w (memL t M false B T) from hw.ro).start (S := NoB) (by simp)) ?_
  refine J.go [4,6,7,9,10,11] 900 rfl ?_
  refine JF.callF _ rfl (fun w1 hst => r_CheckAccess c (acAddr c off) 16 1 hc (acAddr_u32 c off) u16_16 w1) (fun x hx => nomatch hx) ?_
  have hlc : ∀ {E}, cE B.length c off 1 = some E → lcR B T c off = cap0 := fun h => if_neg (by rw [h]; simp)
  cases hE : accE c (acAddr c off) 16 1 with
  | some E =>
    obtain ⟨p, a, no⟩ := E
    have hne := accE_ne hE
    refine J.go [4,6,7,9,10,11] 900 rfl ?_
    (repeat' (first | ((first | refine JF.l1 0 rfl rfl rfl rfl ?_ | refine JF.ln 0 rfl rfl rfl rfl ?_ | refine JF.l1 1 rfl rfl rfl rfl ?_ | refine JF.ln 1 rfl rfl rfl rfl ?_ | refine JF.l1 2 rfl rfl rfl rfl ?_ | refine JF.ln 2 rfl rfl rfl rfl ?_ | refine JF.l1 3 rfl rfl rfl rfl ?_ | refine JF.ln 3 rfl rfl rfl rfl ?_ | refine JF.l1 4 rfl rfl rfl rfl ?_ | refine JF.ln 4 rfl rfl rfl rfl ?_ | refine JF.l1 5 rfl rfl rfl rfl ?_ | refine JF.ln 5 rfl rfl rfl rfl ?_ | refine JF.l1 6 rfl rfl rfl rfl ?_ | refine JF.ln 6 rfl rfl rfl rfl ?_ | refine JF.l1 7 rfl rfl rfl rfl ?_ | refine JF.ln 7 rfl rfl rfl rfl ?_); refine J.go [4,6,7,9,10,11] 900 rfl ?_) | (refine JF.chk rfl ?_ ?_; (focus ((repeat' (apply And.intro)) <;> (first | exact True.intro | omega))); refine J.go [4,6,7,9,10,11] 900 rfl ?_) | (((first | refine JF.condD rfl ?_ ?_ | refine JF.condE rfl ?_ ?_ | refine JF.condN rfl ?_ ?_ | refine JF.guardD rfl ?_ ?_ | refine JF.guardE rfl ?_ ?_ | refine JF.guardN rfl ?_ ?_ | refine JF.cond rfl ?_ ?_ | refine JF.guard rfl ?_ ?_) <;> intro h) <;> (first | (exact absurd h Bool.false_ne_true) | (exact absurd h.symm Bool.false_ne_true) | (exact absurd rfl h) | (exfalso; omega) | refine J.go [4,6,7,9,10,11] 900 rfl ?_))))
    refine JF.draw [9] [] rfl (fun x hx => nomatch hx) ?_
    refine J.go [4,6,7,9,10,11] 900 rfl ?_
    refine JF.ret rfl fun w' hst => ⟨hst.ext, ?_⟩
    rw [hlc (cE_acc hE), cE_acc hE]; rfl
  | none =>
    refine J.go [4,6,7,9,10,11] 900 rfl ?_
    (repeat' (first | ((first | refine JF.l1 0 rfl rfl rfl rfl ?_ | refine JF.ln 0 rfl rfl rfl rfl ?_ | refine JF.l1 1 rfl rfl rfl rfl ?_ | refine JF.ln 1 rfl rfl rfl rfl ?_ | refine JF.l1 2 rfl rfl rfl rfl ?_ | refine JF.ln 2 rfl rfl rfl rfl ?_ | refine JF.l1 3 rfl rfl rfl rfl ?_ | refine JF.ln 3 rfl rfl rfl rfl ?_ | refine JF.l1 4 rfl rfl rfl rfl ?_ | refine JF.ln 4 rfl rfl rfl rfl ?_ | refine JF.l1 5 rfl rfl rfl rfl ?_ | refine JF.ln 5 rfl rfl rfl rfl ?_ | refine JF.l1 6 rfl rfl rfl rfl ?_ | refine JF.ln 6 rfl rfl rfl rfl ?_ | refine JF.l1 7 rfl rfl rfl rfl ?_ | refine JF.ln 7 rfl rfl rfl rfl ?_); refine J.go [4,6,7,9,10,11] 900 rfl ?_) | (refine JF.chk rfl ?_ ?_; (focus ((repeat' (apply And.intro)) <;> (first | exact True.intro | omega))); refine J.go [4,6,7,9,10,11] 900 rfl ?_) | (((first | refine JF.condD rfl ?_ ?_ | refine JF.condE rfl ?_ ?_ | refine JF.condN rfl ?_ ?_ | refine JF.guardD rfl ?_ ?_ | refine JF.guardE rfl ?_ ?_ | refine JF.guardN rfl ?_ ?_ | refine JF.cond rfl ?_ ?_ | refine JF.guard rfl ?_ ?_) <;> intro h) <;> (first | (exact absurd h Bool.false_ne_true) | (exact absurd h.symm Bool.false_ne_true) | (exact absurd rfl h) | (exfalso; omega) | refine J.go [4,6,7,9,10,11] 900 rfl ?_))))
    rw [show IntKind.u32.wrap (c.addr + IntKind.u32.wrap off) = acAddr c off from rfl, acc_conv]
    refine JF.callV _ rfl (fun w1 hst => rloadCap_ok (acAddr c off) w1 (hst.here (List.Sublist.refl _)) hM acc_i64 hB) fun w1 r w2 hst hq => ?_
    obtain ⟨hx, ⟨hok, rfl⟩ | ⟨hok, rfl⟩⟩ := hq
    · have e2 := cE_ok (perm := 1) hE hok
      have hv : lcR B T c off = capKeep (capAt B T (acAddr c off)) (bAnd .u16 c.perm 8 != 0) := if_pos e2
      refine ⟨_, Tr.same hst hx (fun x hx => nomatch hx), ?_⟩
      generalize capAt B T (acAddr c off) = k at *
      refine J.go [4,6,7,9,10,11] 900 rfl ?_
      (repeat' (first | ((first | refine JF.l1 0 rfl rfl rfl rfl ?_ | refine JF.ln 0 rfl rfl rfl rfl ?_ | refine JF.l1 1 rfl rfl rfl rfl ?_ | refine JF.ln 1 rfl rfl rfl rfl ?_ | refine JF.l1 2 rfl rfl rfl rfl ?_ | refine JF.ln 2 rfl rfl rfl rfl ?_ | refine JF.l1 3 rfl rfl rfl rfl ?_ | refine JF.ln 3 rfl rfl rfl rfl ?_ | refine JF.l1 4 rfl rfl rfl rfl ?_ | refine JF.ln 4 rfl rfl rfl rfl ?_ | refine JF.l1 5 rfl rfl rfl rfl ?_ | refine JF.ln 5 rfl rfl rfl rfl ?_ | refine JF.l1 6 rfl rfl rfl rfl ?_ | refine JF.ln 6 rfl rfl rfl rfl ?_ | refine JF.l1 7 rfl rfl rfl rfl ?_ | refine JF.ln 7 rfl rfl rfl rfl ?_); refine J.go [4,6,7,9,10,11] 900 rfl ?_) | (refine JF.chk rfl ?_ ?_; (focus ((repeat' (apply And.intro)) <;> (first | exact True.intro | omega))); refine J.go [4,6,7,9,10,11] 900 rfl ?_) | (((first | refine JF.condD rfl ?_ ?_ | refine JF.condE rfl ?_ ?_ | refine JF.condN rfl ?_ ?_ | refine JF.guardD rfl ?_ ?_ | refine JF.guardE rfl ?_ ?_ | refine JF.guardN rfl ?_ ?_ | refine JF.cond rfl ?_ ?_ | refine JF.guard rfl ?_ ?_) <;> intro h) <;> (first | (exact absurd h Bool.false_ne_true) | (exact absurd h.symm Bool.false_ne_true) | (exact absurd rfl h) | (exfalso; omega) | refine J.go [4,6,7,9,10,11] 900 rfl ?_))))
      refine JF.callF _ rfl (fun w1 hst => r_asks k _ w1) (fun x hx => nomatch hx) ?_
      refine J.go [4,6,7,9,10,11] 900 rfl ?_
      refine JF.ret rfl fun w' hst => ⟨hst.ext, ?_⟩
      rw [hv, e2]; rfl
    · have e2 := cE_mem (perm := 1) hE hok
      have hne := capNo_ne B.length (acAddr c off)
      refine ⟨_, Tr.same hst hx (fun x hx => nomatch hx), ?_⟩
      refine J.go [4,6,7,9,10,11] 900 rfl ?_
      (repeat' (first | ((first | refine JF.l1 0 rfl rfl rfl rfl ?_ | refine JF.ln 0 rfl rfl rfl rfl ?_ | refine JF.l1 1 rfl rfl rfl rfl ?_ | refine JF.ln 1 rfl rfl rfl rfl ?_ | refine JF.l1 2 rfl rfl rfl rfl ?_ | refine JF.ln 2 rfl rfl rfl rfl ?_ | refine JF.l1 3 rfl rfl rfl rfl ?_ | refine JF.ln 3 rfl rfl rfl rfl ?_ | refine JF.l1 4 rfl rfl rfl rfl ?_ | refine JF.ln 4 rfl rfl rfl rfl ?_ | refine JF.l1 5 rfl rfl rfl rfl ?_ | refine JF.ln 5 rfl rfl rfl rfl ?_ | refine JF.l1 6 rfl rfl rfl rfl ?_ | refine JF.ln 6 rfl rfl rfl rfl ?_ | refine JF.l1 7 rfl rfl rfl rfl ?_ | refine JF.ln 7 rfl rfl rfl rfl ?_); refine J.go [4,6,7,9,10,11] 900 rfl ?_) | (refine JF.chk rfl ?_ ?_; (focus ((repeat' (apply And.intro)) <;> (first | exact True.intro | omega))); refine J.go [4,6,7,9,10,11] 900 rfl ?_) | (((first | refine JF.condD rfl ?_ ?_ | refine JF.condE rfl ?_ ?_ | refine JF.condN rfl ?_ ?_ | refine JF.guardD rfl ?_ ?_ | refine JF.guardE rfl ?_ ?_ | refine JF.guardN rfl ?_ ?_ | refine JF.cond rfl ?_ ?_ | refine JF.guard rfl ?_ ?_) <;> intro h) <;> (first | (exact absurd h Bool.false_ne_true) | (exact absurd h.symm Bool.false_ne_true) | (exact absurd rfl h) | (exfalso; omega) | refine J.go [4,6,7,9,10,11] 900 rfl ?_))))
      refine JF.draw [11] [] rfl (fun x hx => nomatch hx) ?_
      refine J.go [4,6,7,9,10,11] 900 rfl ?_
      refine JF.ret rfl fun w' hst => ⟨hst.ext, ?_⟩
      rw [hlc e2, e2]; rfl

def scP (v : CapV) : Int := if v.tag then 18 else 2
def scB (B : List Int) (c : CapV) (off : Int) (v : CapV) : List Int := if cE B.length c off (scP v) = none then wrC B (acAddr c off) v else B
def scT (B : List Int) (T : List Bool) (c : CapV) (off : Int) (v : CapV) : List Bool := if cE B.length c off (scP v) = none then tgC T (acAddr c off) v.tag else T

theorem access_StoreCap {t : TypeId} {M : MB} {B : List Int} {T : List Bool} (c : CapV) (off : Int) (v : CapV) (w : World) (hG : GoodG w) (hg0 : M.bb ≠ 0 ∧ M.bt ≠ 0) (hw : Here w (memL t M true B T)) (hM : okM M B T) (hB : isB B) (hc : c.ok) (hv : v.ok) :
    Rets Pg n_access_StoreCap [.pointer (some ⟨M.bm, 0, none⟩), c.val, .int .i32 off, v.val] w fun r w' => Ext (fun x => x = M.bb ∨ x = M.bt) w w' ∧ ErrR w w' r (cE B.length c off (scP v)) ∧ Here w' (memL t M true (scB B c off v) (scT B T c off v)) := by
  
  refine rets_of m_access_StoreCap rfl rfl (hw.start (S := fun x => x = M.bb ∨ x = M.bt) (by simp)) ?_
  have hsame : ∀ {E}, cE B.length c off (scP v) = some E → scB B c off v = B ∧ scT B T c off v = T := fun h => ⟨if_neg (by rw [h]; simp), if_neg (by rw [h]; simp)⟩
  have hgk : ∀ {w1}, Ext (fun x => x = M.bb ∨ x = M.bt) w w1 → GoodG w1 := fun h => hG.keep h (fun h => h.elim (fun h => hg0.1 h.symm) (fun h => hg0.2 h.symm))
  have h18 : bOr .u16 2 16 = 18 := by decide
  have hp : scP v = if v.tag then 18 else 2 := rfl
  refine J.go [5,7] 900 rfl ?_
  (repeat' (first | ((first | refine JF.l1 0 rfl rfl rfl rfl ?_ | refine JF.ln 0 rfl rfl rfl rfl ?_ | refine JF.l1 1 rfl rfl rfl rfl ?_ | refine JF.ln 1 rfl rfl rfl rfl ?_ | refine JF.l1 2 rfl rfl rfl rfl ?_ | refine JF.ln 2 rfl rfl rfl rfl ?_ | refine JF.l1 3 rfl rfl rfl rfl ?_ | refine JF.ln 3 rfl rfl rfl rfl ?_ | refine JF.l1 4 rfl rfl rfl rfl ?_ | refine JF.ln 4 rfl rfl rfl rfl ?_ | refine JF.l1 5 rfl rfl rfl rfl ?_ | refine JF.ln 5 rfl rfl rfl rfl ?_ | refine JF.l1 6 rfl rfl rfl rfl ?_ | refine JF.ln 6 rfl rfl rfl rfl ?_ | refine JF.l1 7 rfl rfl rfl rfl ?_ | refine JF.ln 7 rfl rfl rfl rfl ?_); refine J.go [5,7] 900 rfl ?_) | (refine JF.chk rfl ?_ ?_; (focus ((repeat' (apply And.intro)) <;> (first | exact True.intro | omega))); refine J.go [5,7] 900 rfl ?_) | (((first | refine JF.condD rfl ?_ ?_ | refine JF.condE rfl ?_ ?_ | refine JF.condN rfl ?_ ?_ | refine JF.guardD rfl ?_ ?_ | refine JF.guardE rfl ?_ ?_ | refine JF.guardN rfl ?_ ?_ | refine JF.cond rfl ?_ ?_ | refine JF.guard rfl ?_ ?_) <;> intro h) <;> (first | (exact absurd h Bool.false_ne_true) | (exact absurd h.symm Bool.false_ne_true) | (exact absurd rfl h) | (exfalso; omega) | refine J.go [5,7] 900 rfl ?_))))
  all_goals
    try rw [h18]
    rw [h] at hp
    first
    | (have hp' : scP v = 18 := hp; rw [← hp'])
    | (have hp' : scP v = 2 := hp; rw [← hp'])
    refine JF.callV _ rfl (fun w1 hst => access_place c off 16 (scP v) hc u16_16 w1) fun w1 r w2 hst hq => ?_
    obtain ⟨hx, f, rfl, hf⟩ := hq
    cases hE : accE c (acAddr c off) 16 (scP v) with
    | some E =>
      obtain ⟨p, a, no⟩ := E
      rw [hE] at hf
      obtain ⟨b, h1, rfl, h2⟩ := FaultAt.tr hst hx hf
      refine ⟨_, h2, ?_⟩
      refine J.go [5,7] 900 rfl ?_
      (repeat' (first | ((first | refine JF.l1 0 rfl rfl rfl rfl ?_ | refine JF.ln 0 rfl rfl rfl rfl ?_ | refine JF.l1 1 rfl rfl rfl rfl ?_ | refine JF.ln 1 rfl rfl rfl rfl ?_ | refine JF.l1 2 rfl rfl rfl rfl ?_ | refine JF.ln 2 rfl rfl rfl rfl ?_ | refine JF.l1 3 rfl rfl rfl rfl ?_ | refine JF.ln 3 rfl rfl rfl rfl ?_ | refine JF.l1 4 rfl rfl rfl rfl ?_ | refine JF.ln 4 rfl rfl rfl rfl ?_ | refine JF.l1 5 rfl rfl rfl rfl ?_ | refine JF.ln 5 rfl rfl rfl rfl ?_ | refine JF.l1 6 rfl rfl rfl rfl ?_ | refine JF.ln 6 rfl rfl rfl rfl ?_ | refine JF.l1 7 rfl rfl rfl rfl ?_ | refine JF.ln 7 rfl rfl rfl rfl ?_); refine J.go [5,7] 900 rfl ?_) | (refine JF.chk rfl ?_ ?_; (focus ((repeat' (apply And.intro)) <;> (first | exact True.intro | omega))); refine J.go [5,7] 900 rfl ?_) | (((first | refine JF.condD rfl ?_ ?_ | refine JF.condE rfl ?_ ?_ | refine JF.condN rfl ?_ ?_ | refine JF.guardD rfl ?_ ?_ | refine JF.guardE rfl ?_ ?_ | refine JF.guardN rfl ?_ ?_ | refine JF.cond rfl ?_ ?_ | refine JF.guard rfl ?_ ?_) <;> intro h) <;> (first | (exact absurd h Bool.false_ne_true) | (exact absurd h.symm Bool.false_ne_true) | (exact absurd rfl h) | (exfalso; omega) | refine J.go [5,7] 900 rfl ?_))))
      refine JF.ret rfl fun w' hst => ⟨hst.ext, ?_, ?_⟩
      · rw [cE_acc hE]; exact ErrR.mk1 hst h1
      · rw [(hsame (cE_acc hE)).1, (hsame (cE_acc hE)).2]; exact hst.here (List.sublist_cons_self _ _)
    | none =>
      rw [hE] at hf
      obtain rfl : f = .nilIface := hf
      refine ⟨_, Tr.same hst hx (fun x hx => nomatch hx), ?_⟩
      refine J.go [5,7] 900 rfl ?_
      (repeat' (first | ((first | refine JF.l1 0 rfl rfl rfl rfl ?_ | refine JF.ln 0 rfl rfl rfl rfl ?_ | refine JF.l1 1 rfl rfl rfl rfl ?_ | refine JF.ln 1 rfl rfl rfl rfl ?_ | refine JF.l1 2 rfl rfl rfl rfl ?_ | refine JF.ln 2 rfl rfl rfl rfl ?_ | refine JF.l1 3 rfl rfl rfl rfl ?_ | refine JF.ln 3 rfl rfl rfl rfl ?_ | refine JF.l1 4 rfl rfl rfl rfl ?_ | refine JF.ln 4 rfl rfl rfl rfl ?_ | refine JF.l1 5 rfl rfl rfl rfl ?_ | refine JF.ln 5 rfl rfl rfl rfl ?_ | refine JF.l1 6 rfl rfl rfl rfl ?_ | refine JF.ln 6 rfl rfl rfl rfl ?_ | refine JF.l1 7 rfl rfl rfl rfl ?_ | refine JF.ln 7 rfl rfl rfl rfl ?_); refine J.go [5,7] 900 rfl ?_) | (refine JF.chk rfl ?_ ?_; (focus ((repeat' (apply And.intro)) <;> (first | exact True.intro | omega))); refine J.go [5,7] 900 rfl ?_) | (((first | refine JF.condD rfl ?_ ?_ | refine JF.condE rfl ?_ ?_ | refine JF.condN rfl ?_ ?_ | refine JF.guardD rfl ?_ ?_ | refine JF.guardE rfl ?_ ?_ | refine JF.guardN rfl ?_ ?_ | refine JF.cond rfl ?_ ?_ | refine JF.guard rfl ?_ ?_) <;> intro h) <;> (first | (exact absurd h Bool.false_ne_true) | (exact absurd h.symm Bool.false_ne_true) | (exact absurd rfl h) | (exfalso; omega) | refine J.go [5,7] 900 rfl ?_))))
      refine JF.callV _ rfl (fun w1 hst => storeCap_ok (acAddr c off) v hv w1 (hgk hst.ext) hg0 (hst.here (List.Sublist.refl _)) hM acc_i64 hB) fun w1 r w2 hst hq => ?_
      obtain ⟨hx, ⟨hok, rfl, hh⟩ | ⟨hok, hf, hh⟩⟩ := hq
      · have e4 := cE_ok (perm := scP v) hE hok
        refine ⟨_, Tr.memN (A := []) (C := []) (N := []) hst hx hh (News.nil _ _) (fun x hx => nomatch hx), ?_⟩
        refine J.go [5,7] 900 rfl ?_
        refine JF.ret rfl fun w' hst => ⟨hst.ext, by rw [e4]; rfl, ?_⟩
        unfold scB scT
        rw [if_pos e4, if_pos e4]
        exact hst.here (List.Sublist.refl _)
      · have e4 := cE_mem (perm := scP v) hE hok
        obtain ⟨bf, rfl, hn⟩ := hf.news
        have hlo : w.heap.size ≤ bf := Nat.le_trans hst.ext.size (hn.2 _ (.head _))
        refine ⟨_, Tr.memN (A := []) (C := []) (N := [_]) hst hx hh hn (fun x hx => nomatch hx), ?_⟩
        refine J.go [5,7] 900 rfl ?_
        refine JF.ret rfl fun w' hst => ⟨hst.ext, ?_, ?_⟩
        · rw [e4]
          exact ErrR.mk1 hst hlo
        · rw [(hsame e4).1, (hsame e4).2]; exact hst.here (List.sublist_cons_self _ _)

theorem r_WriteCap {t : TypeId} {M : MB} {B : List Int} {T : List Bool} (c : CapV) (off : Int) (v : CapV) (w : World) (hw : Here w (memL t M true B T)) (hM : okM M B T) (hB : isB B) (hc : c.ok) (hv : v.ok) :
    Rets Pg n_haspref11_WriteCap [.pointer (some ⟨M.bm, 0, none⟩), c.val, .int .i32 off, v.val] w fun r w' => Ext (fun x => x = M.bb ∨ x = M.bt) w w' ∧ r = wrE (cE B.length c off (scP v)) ∧ Here w' (memL t M true (scB B c off v) (scT B T c off v)) := by
  
  refine rets_of m_haspref11_WriteCap rfl rfl (hw.start (S := fun x => x = M.bb ∨ x = M.bt) (by simp)) ?_
  have hsame : ∀ {E}, cE B.length c off (scP v) = some E → scB B c off v = B ∧ scT B T c off v = T := fun h => ⟨if_neg (by rw [h]; simp), if_neg (by rw [h]; simp)⟩
  have hp : scP v = if v.tag then 18 else 2 := rfl
  refine J.go [5,7,8,11] 900 rfl ?_
  (repeat' (first | ((first | refine JF.l1 0 rfl rfl rfl rfl ?_ | refine JF.ln 0 rfl rfl rfl rfl ?_ | refine JF.l1 1 rfl rfl rfl rfl ?_ | refine JF.ln 1 rfl rfl rfl rfl ?_ | refine JF.l1 2 rfl rfl rfl rfl ?_ | refine JF.ln 2 rfl rfl rfl rfl ?_ | refine JF.l1 3 rfl rfl rfl rfl ?_ | refine JF.ln 3 rfl rfl rfl rfl ?_ | refine JF.l1 4 rfl rfl rfl rfl ?_ | refine JF.ln 4 rfl rfl rfl rfl ?_ | refine JF.l1 5 rfl rfl rfl rfl ?_ | refine JF.ln 5 rfl rfl rfl rfl ?_ | refine JF.l1 6 rfl rfl rfl rfl ?_ | refine JF.ln 6 rfl rfl rfl rfl ?_ | refine JF.l1 7 rfl rfl rfl rfl ?_ | refine JF.ln 7 rfl rfl rfl rfl ?_); refine J.go [5,7,8,11] 900 rfl ?_) | (refine JF.chk rfl ?_ ?_; (focus ((repeat' (apply And.intro)) <;> (first | exact True.intro | omega))); refine J.go [5,7,8,11] 900 rfl ?_) | (((first | refine JF.condD rfl ?_ ?_ | refine JF.condE rfl ?_ ?_ | refine JF.condN rfl ?_ ?_ | refine JF.guardD rfl ?_ ?_ | refine JF.guardE rfl ?_ ?_ | refine JF.guardN rfl ?_ ?_ | refine JF.cond rfl ?_ ?_ | refine JF.guard rfl ?_ ?_) <;> intro h) <;> (first | (exact absurd h Bool.false_ne_true) | (exact absurd h.symm Bool.false_ne_true) | (exact absurd rfl h) | (exfalso; omega) | refine J.go [5,7,8,11] 900 rfl ?_))))
  all_goals
    rw [h] at hp
    first
    | (have hp' : scP v = 18 := hp; rw [← hp'])
    | (have hp' : scP v = 2 := hp; rw [← hp'])
    refine JF.callF _ rfl (fun w1 hst => r_CheckAccess c (acAddr c off) 16 (scP v) hc (acAddr_u32 c off) u16_16 w1) (fun x hx => nomatch hx) ?_
    cases hE : accE c (acAddr c off) 16 (scP v) with
    | some E =>
      obtain ⟨p, a, no⟩ := E
      have hne := accE_ne hE
      refine J.go [5,7,8,11] 900 rfl ?_
      (repeat' (first | ((first | refine JF.l1 0 rfl rfl rfl rfl ?_ | refine JF.ln 0 rfl rfl rfl rfl ?_ | refine JF.l1 1 rfl rfl rfl rfl ?_ | refine JF.ln 1 rfl rfl rfl rfl ?_ | refine JF.l1 2 rfl rfl rfl rfl ?_ | refine JF.ln 2 rfl rfl rfl rfl ?_ | refine JF.l1 3 rfl rfl rfl rfl ?_ | refine JF.ln 3 rfl rfl rfl rfl ?_ | refine JF.l1 4 rfl rfl rfl rfl ?_ | refine JF.ln 4 rfl rfl rfl rfl ?_ | refine JF.l1 5 rfl rfl rfl rfl ?_ | refine JF.ln 5 rfl rfl rfl rfl ?_ | refine JF.l1 6 rfl rfl rfl rfl ?_ | refine JF.ln 6 rfl rfl rfl rfl ?_ | refine JF.l1 7 rfl rfl rfl rfl ?_ | refine JF.ln 7 rfl rfl rfl rfl ?_); refine J.go [5,7,8,11] 900 rfl ?_) | (refine JF.chk rfl ?_ ?_; (focus ((repeat' (apply And.intro)) <;> (first | exact True.intro | omega))); refine J.go [5,7,8,11] 900 rfl ?_) | (((first | refine JF.condD rfl ?_ ?_ | refine JF.condE rfl ?_ ?_ | refine JF.condN rfl ?_ ?_ | refine JF.guardD rfl ?_ ?_ | refine JF.guardE rfl ?_ ?_ | refine JF.guardN rfl ?_ ?_ | refine JF.cond rfl ?_ ?_ | refine JF.guard rfl ?_ ?_) <;> intro h) <;> (first | (exact absurd h Bool.false_ne_true) | (exact absurd h.symm Bool.false_ne_true) | (exact absurd rfl h) | (exfalso; omega) | refine J.go [5,7,8,11] 900 rfl ?_))))
      refine JF.ret rfl fun w' hst => ⟨hst.ext, ?_, ?_⟩
      · rw [cE_acc hE]; rfl
      · rw [(hsame (cE_acc hE)).1, (hsame (cE_acc hE)).2]; exact hst.here (List.Sublist.refl _)
    | none =>
      refine J.go [5,7,8,11] 900 rfl ?_
      (repeat' (first | ((first | refine JF.l1 0 rfl rfl rfl rfl ?_ | refine JF.ln 0 rfl rfl rfl rfl ?_ | refine JF.l1 1 rfl rfl rfl rfl ?_ | refine JF.ln 1 rfl rfl rfl rfl ?_ | refine JF.l1 2 rfl rfl rfl rfl ?_ | refine JF.ln 2 rfl rfl rfl rfl ?_ | refine JF.l1 3 rfl rfl rfl rfl ?_ | refine JF.ln 3 rfl rfl rfl rfl ?_ | refine JF.l1 4 rfl rfl rfl rfl ?_ | refine JF.ln 4 rfl rfl rfl rfl ?_ | refine JF.l1 5 rfl rfl rfl rfl ?_ | refine JF.ln 5 rfl rfl rfl rfl ?_ | refine JF.l1 6 rfl rfl rfl rfl ?_ | refine JF.ln 6 rfl rfl rfl rfl ?_ | refine JF.l1 7 rfl rfl rfl rfl ?_ | refine JF.ln 7 rfl rfl rfl rfl ?_); refine J.go [5,7,8,11] 900 rfl ?_) | (refine JF.chk rfl ?_ ?_; (focus ((repeat' (apply And.intro)) <;> (first | exact True.intro | omega))); refine J.go [5,7,8,11] 900 rfl ?_) | (((first | refine JF.condD rfl ?_ ?_ | refine JF.condE rfl ?_ ?_ | refine JF.condN rfl ?_ ?_ | refine JF.guardD rfl ?_ ?_ | refine JF.guardE rfl ?_ ?_ | refine JF.guardN rfl ?_ ?_ | refine JF.cond rfl ?_ ?_ | refine JF.guard rfl ?_ ?_) <;> intro h) <;> (first | (exact absurd h Bool.false_ne_true) | (exact absurd h.symm Bool.false_ne_true) | (exact absurd rfl h) | (exfalso; omega) | refine J.go [5,7,8,11] 900 rfl ?_))))
      rw [show IntKind.u32.wrap (c.addr + IntKind.u32.wrap off) = acAddr c off from rfl, acc_conv]
      refine JF.callV _ rfl (fun w1 hst => rstoreCap_ok (acAddr c off) v hv w1 (hst.here (List.Sublist.refl _)) hM acc_i64 hB) fun w1 r w2 hst hq => ?_
      obtain ⟨hx, ⟨hok, rfl, hh⟩ | ⟨hok, rfl, hh⟩⟩ := hq
      · have e4 := cE_ok (perm := scP v) hE hok
        refine ⟨_, Tr.memN (A := []) (C := []) (N := []) hst hx hh (News.nil _ _) (fun x hx => nomatch hx), ?_⟩
        refine J.go [5,7,8,11] 900 rfl ?_
        refine JF.ret rfl fun w' hst => ⟨hst.ext, by rw [e4]; rfl, ?_⟩
        unfold scB scT
        rw [if_pos e4, if_pos e4]
        exact hst.here (List.Sublist.refl _)
      · have e4 := cE_mem (perm := scP v) hE hok
        refine ⟨_, Tr.memN (A := []) (C := []) (N := []) hst hx hh (News.nil _ _) (fun x hx => nomatch hx), ?_⟩
        refine J.go [5,7,8,11] 900 rfl ?_
        refine JF.ret rfl fun w' hst => ⟨hst.ext, by rw [e4]; rfl, ?_⟩
        rw [(hsame e4).1, (hsame e4).2]; exact hst.here (List.Sublist.refl _)
end Go.HM
