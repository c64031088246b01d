/- hasplaw5's own: what is known, a memory that is filled; whatever is loaded and stored, the two memories go alike. -/
import Derived.Test.YtobdcokhmpaooaaDoorKhasplaw5
import Derived.Test.YtobdcokhmpaooaaDoorC19
import Derived.Test.YtobdcokhmpaooaaDoorC14
namespace Go.HM
open Go Go.Proofs
set_option linter.unusedSimpArgs false
set_option linter.unusedVariables false

def aC : CapV := ⟨true, 16, 32, 16, 127, 0⟩
theorem aC_ok : aC.ok := by unfold CapV.ok aC; decide
def aC1 : CapV := capAndPerm aC 1
theorem aC1_ok : aC1.ok := by unfold CapV.ok aC1; decide
def aB1 : List Int := stB (zB 64) aC 4 2 65534
def aT1 : List Bool := stT (zB 64) (zT 64) aC 4 2
def aB2 : List Int := scB aB1 aC 0 aC
def aT2 : List Bool := scT aB1 aT1 aC 0 aC

theorem q1 : capBounds (capSetAddr ⟨true, 0, 64, 0, 127, 0⟩ 16) 16 = aC := by decide
theorem q2 : mE (zB 64).length aC 4 2 2 = none := by decide
theorem q3 : aB1.length = 64 ∧ aT1.length = 4 := by decide
theorem q4 : mE aB1.length aC 4 2 1 = none := by decide
theorem q5 : ldR aB1 aC 4 2 true = 4294967294 := by decide
theorem q6 : mE aB1.length aC 16 1 1 = some (sAccess, 32, 4) := by decide
theorem q7 : mE aB1.length aC1 0 1 2 = some (sAccess, 16, 3) := by decide
theorem q8 : cE aB1.length aC 0 (scP aC) = none := by decide
theorem q9 : aB2.length = 64 ∧ aT2.length = 4 := by decide
theorem q10 : cE aB2.length aC 0 1 = none := by decide
theorem q11 : lcR aB2 aT2 aC 0 = aC := by decide
theorem q12 : cE aB2.length aC1 0 1 = none := by decide
theorem q13 : (lcR aB2 aT2 aC1 0).tag = false := by decide
theorem q14 : accE aC 16 16 1 = none := by decide

theorem known5_ok (w : World) (hG : GoodG w) : Rets Pg n_hasplaw5_known [] w fun v w' => Ext NoB w w' ∧ v = .bool true := by
  
  have hp := hG.pos
  refine rets_of m_hasplaw5_known rfl rfl (St.nil w) ?_
  refine J.go [3,11,13] 900 rfl ?_
  refine JF.callV _ rfl (fun w1 hst => new_ok 64 w1 (by decide)) fun w1 r w2 hst hq => ?_
  obtain ⟨hx, ⟨_, M, rfl, hM, hnew⟩ | ⟨h, _⟩⟩ := hq
  case inr => exact absurd ⟨by decide, by decide, by decide⟩ h
  have hlo := hnew.lo
  have hsz := hst.ext.size
  refine ⟨_, Tr.news hst hx hnew (fun x hx => nomatch hx), ?_⟩
  refine J.go [3,11,13] 900 rfl ?_
  (repeat' (first | ((first | refine JF.l1 0 rfl rfl rfl rfl ?_ | refine JF.ln 0 rfl rfl rfl rfl ?_ | refine JF.l1 1 rfl rfl rfl rfl ?_ | refine JF.ln 1 rfl rfl rfl rfl ?_ | refine JF.l1 2 rfl rfl rfl rfl ?_ | refine JF.ln 2 rfl rfl rfl rfl ?_ | refine JF.l1 3 rfl rfl rfl rfl ?_ | refine JF.ln 3 rfl rfl rfl rfl ?_ | refine JF.l1 4 rfl rfl rfl rfl ?_ | refine JF.ln 4 rfl rfl rfl rfl ?_ | refine JF.l1 5 rfl rfl rfl rfl ?_ | refine JF.ln 5 rfl rfl rfl rfl ?_ | refine JF.l1 6 rfl rfl rfl rfl ?_ | refine JF.ln 6 rfl rfl rfl rfl ?_ | refine JF.l1 7 rfl rfl rfl rfl ?_ | refine JF.ln 7 rfl rfl rfl rfl ?_); refine J.go [3,11,13] 900 rfl ?_) | (refine JF.chk rfl ?_ ?_; (focus ((repeat' (apply And.intro)) <;> (first | exact True.intro | omega))); refine J.go [3,11,13] 900 rfl ?_) | (((first | refine JF.condD rfl ?_ ?_ | refine JF.condE rfl ?_ ?_ | refine JF.condN rfl ?_ ?_ | refine JF.guardD rfl ?_ ?_ | refine JF.guardE rfl ?_ ?_ | refine JF.guardN rfl ?_ ?_ | refine JF.cond rfl ?_ ?_ | refine JF.guard rfl ?_ ?_) <;> intro h) <;> (first | (exact absurd h Bool.false_ne_true) | (exact absurd h.symm Bool.false_ne_true) | (exact absurd rfl h) | (exfalso; omega) | refine J.go [3,11,13] 900 rfl ?_))))
  refine JF.callF _ rfl (fun w1 hst => root_ok 64 w1 (by decide)) (fun x hx => nomatch hx) ?_
  refine J.go [3,11,13] 900 rfl ?_
  refine JF.callF _ rfl (fun w1 hst => cap_setAddr ⟨true, 0, 64, 0, 127, 0⟩ 16 (by unfold CapV.ok; decide) (by constructor <;> decide) w1) (fun x hx => nomatch hx) ?_
  refine J.go [3,11,13] 900 rfl ?_
  refine JF.callF _ rfl (fun w1 hst => cap_bounds (capSetAddr ⟨true, 0, 64, 0, 127, 0⟩ 16) 16 (by unfold CapV.ok; decide) (by constructor <;> decide) w1) (fun x hx => nomatch hx) ?_
  rw [q1]
  refine J.go [3,11,13] 900 rfl ?_
  -- a number there
  refine JF.callV _ rfl (fun w1 hst => access_Store aC 4 2 65534 w1 (hG.keep hst.ext (fun h => h)) (hst.here (List.sublist_append_left _ _)) hM (isB_zB _) aC_ok (by decide) (by constructor <;> decide)) fun w1 r w2 hst hq => ?_
  obtain ⟨hx, hf, hh⟩ := hq
  rw [q2] at hf
  obtain rfl : r = .nilIface := hf
  refine ⟨_, Tr.memN (A := []) (C := []) (N := []) hst hx hh (News.nil _ _) (fun x hx => nomatch hx), ?_⟩
  have hM1 : okM M aB1 aT1 := okM_of hM (by rw [q3.1]; rfl) (by rw [q3.2]; rfl)
  have hB1 : isB aB1 := by
    unfold aB1 stB
    split
    · exact isB_wrB (isB_zB _) (isB_wdL _ _)
    · exact isB_zB _
  refine J.go [3,11,13] 900 rfl ?_
  refine JF.drop (L' := memL 85 M true aB1 aT1) (List.Sublist.refl _) ?_
  refine JF.callV _ rfl (fun w1 hst => access_Load aC 4 2 true w1 (hG.keep hst.ext (fun h => h)) (hst.here (List.Sublist.refl _)) hM1 hB1 aC_ok (by decide)) fun w1 r w2 hst hq => ?_
  obtain ⟨hx, f, rfl, hf⟩ := hq
  rw [q4] at hf
  obtain rfl : f = .nilIface := hf
  rw [q5]
  refine ⟨_, Tr.same hst hx (fun x hx => nomatch hx), ?_⟩
  refine J.go [3,11,13] 900 rfl ?_
  -- beyond
  refine JF.callV _ rfl (fun w1 hst => access_Load aC 16 1 false w1 (hG.keep hst.ext (fun h => h)) (hst.here (List.Sublist.refl _)) hM1 hB1 aC_ok (by decide)) fun w1 r w2 hst hq => ?_
  obtain ⟨hx, f, rfl, hf⟩ := hq
  rw [q6] at hf
  obtain ⟨b1, h1, rfl, h2⟩ := FaultAt.tr hst hx hf
  refine ⟨_, h2, ?_⟩
  refine J.go [3,11,13] 900 rfl ?_
  refine JF.callF _ rfl (fun w1 hst => cap_andPerm aC 1 aC_ok (by constructor <;> decide) w1) (fun x hx => nomatch hx) ?_
  refine J.go [3,11,13] 900 rfl ?_
  refine JF.callV _ rfl (fun w1 hst => access_Store aC1 0 1 0 w1 (hG.keep hst.ext (fun h => h)) (hst.here (List.sublist_cons_self _ _)) hM1 hB1 aC1_ok (by decide) (by constructor <;> decide)) fun w1 r w2 hst hq => ?_
  obtain ⟨hx, hf, hh⟩ := hq
  rw [q7] at hf
  obtain ⟨b2, rfl, hn⟩ := FaultAt.news hf
  have hs1 : stB aB1 aC1 0 1 0 = aB1 := if_neg (by rw [q7]; simp)
  have hs2 : stT aB1 aT1 aC1 0 1 = aT1 := if_neg (by rw [q7]; simp)
  rw [hs1, hs2] at hh
  refine ⟨_, Tr.memN (A := [_]) (C := []) (N := [_]) hst hx hh hn (by exact fun x hx => nomatch hx), ?_⟩
  refine J.go [3,11,13] 900 rfl ?_
  refine JF.drop (L' := fltE b2 sAccess 16 3 :: fltE b1 sAccess 32 4 :: memL 85 M true aB1 aT1) (List.Sublist.refl _) ?_
  refine JF.callV _ rfl (fun w1 hst => access_StoreCap aC 0 aC w1 (hG.keep hst.ext (fun h => h)) ⟨by omega, by omega⟩ (hst.here ((List.sublist_cons_self _ _).cons _)) hM1 hB1 aC_ok aC_ok) fun w1 r w2 hst hq => ?_
  obtain ⟨hx, hf, hh⟩ := hq
  rw [q8] at hf
  obtain rfl : r = .nilIface := hf
  refine ⟨_, Tr.memN (A := [_, _]) (C := []) (N := []) hst hx hh (News.nil _ _) (by exact fun x hx => nomatch hx), ?_⟩
  have hM2 : okM M aB2 aT2 := okM_of hM1 (by rw [q9.1, q3.1]) (by rw [q9.2, q3.2])
  have hB2 : isB aB2 := by
    unfold aB2 scB
    split
    · exact isB_wrB hB1 (isB_capB _)
    · exact hB1
  refine J.go [3,11,13] 900 rfl ?_
  refine JF.drop (L' := fltE b2 sAccess 16 3 :: fltE b1 sAccess 32 4 :: memL 85 M true aB2 aT2) (List.Sublist.refl _) ?_
  have hsub : (memL 85 M true aB2 aT2).Sublist (fltE b2 sAccess 16 3 :: fltE b1 sAccess 32 4 :: memL 85 M true aB2 aT2) := (List.sublist_cons_self _ _).cons _
  refine JF.callV _ rfl (fun w1 hst => access_LoadCap aC 0 w1 (hG.keep hst.ext (fun h => h)) (hst.here hsub) hM2 hB2 aC_ok) fun w1 r w2 hst hq => ?_
  obtain ⟨hx, f, rfl, hf⟩ := hq
  rw [q10] at hf
  obtain rfl : f = .nilIface := hf
  rw [q11]
  refine ⟨_, Tr.same hst hx (fun x hx => nomatch hx), ?_⟩
  refine J.go [3,11,13] 900 rfl ?_
  refine JF.callF _ rfl (fun w1 hst => cap_andPerm aC 1 aC_ok (by constructor <;> decide) w1) (fun x hx => nomatch hx) ?_
  refine J.go [3,11,13] 900 rfl ?_
  refine JF.callV _ rfl (fun w1 hst => access_LoadCap aC1 0 w1 (hG.keep hst.ext (fun h => h)) (hst.here hsub) hM2 hB2 aC1_ok) fun w1 r w2 hst hq => ?_
  obtain ⟨hx, f, rfl, hf⟩ := hq
  rw [q12] at hf
  obtain rfl : f = .nilIface := hf
  have h13 := q13
  generalize lcR aB2 aT2 aC1 0 = k at *
  obtain ⟨kt, kb, ko, ka, kp, ky⟩ := k
  obtain rfl : kt = false := h13
  refine ⟨_, Tr.same hst hx (fun x hx => nomatch hx), ?_⟩
  refine J.go [3,11,13] 900 rfl ?_
  (repeat' (first | ((first | refine JF.l1 0 rfl rfl rfl rfl ?_ | refine JF.ln 0 rfl rfl rfl rfl ?_ | refine JF.l1 1 rfl rfl rfl rfl ?_ | refine JF.ln 1 rfl rfl rfl rfl ?_ | refine JF.l1 2 rfl rfl rfl rfl ?_ | refine JF.ln 2 rfl rfl rfl rfl ?_ | refine JF.l1 3 rfl rfl rfl rfl ?_ | refine JF.ln 3 rfl rfl rfl rfl ?_ | refine JF.l1 4 rfl rfl rfl rfl ?_ | refine JF.ln 4 rfl rfl rfl rfl ?_ | refine JF.l1 5 rfl rfl rfl rfl ?_ | refine JF.ln 5 rfl rfl rfl rfl ?_ | refine JF.l1 6 rfl rfl rfl rfl ?_ | refine JF.ln 6 rfl rfl rfl rfl ?_ | refine JF.l1 7 rfl rfl rfl rfl ?_ | refine JF.ln 7 rfl rfl rfl rfl ?_); refine J.go [3,11,13] 900 rfl ?_) | (refine JF.chk rfl ?_ ?_; (focus ((repeat' (apply And.intro)) <;> (first | exact True.intro | omega))); refine J.go [3,11,13] 900 rfl ?_) | (((first | refine JF.condD rfl ?_ ?_ | refine JF.condE rfl ?_ ?_ | refine JF.condN rfl ?_ ?_ | refine JF.guardD rfl ?_ ?_ | refine JF.guardE rfl ?_ ?_ | refine JF.guardN rfl ?_ ?_ | refine JF.cond rfl ?_ ?_ | refine JF.guard rfl ?_ ?_) <;> intro h) <;> (first | (exact absurd h Bool.false_ne_true) | (exact absurd h.symm Bool.false_ne_true) | (exact absurd rfl h) | (exfalso; omega) | refine J.go [3,11,13] 900 rfl ?_))))
  refine JF.callF _ rfl (fun w1 hst => tells_at (x := true) _ (some (_, _, _)) sAccess 32 4 w1 (hG.keep hst.ext (fun h => h)) ⟨b1, rfl, hst.blk _ (.tail _ (.head _))⟩ (by simp [tellsB])) (fun x hx => nomatch hx) ?_
  refine J.go [3,11,13] 900 rfl ?_
  (repeat' (first | ((first | refine JF.l1 0 rfl rfl rfl rfl ?_ | refine JF.ln 0 rfl rfl rfl rfl ?_ | refine JF.l1 1 rfl rfl rfl rfl ?_ | refine JF.ln 1 rfl rfl rfl rfl ?_ | refine JF.l1 2 rfl rfl rfl rfl ?_ | refine JF.ln 2 rfl rfl rfl rfl ?_ | refine JF.l1 3 rfl rfl rfl rfl ?_ | refine JF.ln 3 rfl rfl rfl rfl ?_ | refine JF.l1 4 rfl rfl rfl rfl ?_ | refine JF.ln 4 rfl rfl rfl rfl ?_ | refine JF.l1 5 rfl rfl rfl rfl ?_ | refine JF.ln 5 rfl rfl rfl rfl ?_ | refine JF.l1 6 rfl rfl rfl rfl ?_ | refine JF.ln 6 rfl rfl rfl rfl ?_ | refine JF.l1 7 rfl rfl rfl rfl ?_ | refine JF.ln 7 rfl rfl rfl rfl ?_); refine J.go [3,11,13] 900 rfl ?_) | (refine JF.chk rfl ?_ ?_; (focus ((repeat' (apply And.intro)) <;> (first | exact True.intro | omega))); refine J.go [3,11,13] 900 rfl ?_) | (((first | refine JF.condD rfl ?_ ?_ | refine JF.condE rfl ?_ ?_ | refine JF.condN rfl ?_ ?_ | refine JF.guardD rfl ?_ ?_ | refine JF.guardE rfl ?_ ?_ | refine JF.guardN rfl ?_ ?_ | refine JF.cond rfl ?_ ?_ | refine JF.guard rfl ?_ ?_) <;> intro h) <;> (first | (exact absurd h Bool.false_ne_true) | (exact absurd h.symm Bool.false_ne_true) | (exact absurd rfl h) | (exfalso; omega) | refine J.go [3,11,13] 900 rfl ?_))))
  refine JF.callF _ rfl (fun w1 hst => tells_at (x := true) _ (some (_, _, _)) sAccess 16 3 w1 (hG.keep hst.ext (fun h => h)) ⟨b2, rfl, hst.blk _ (.head _)⟩ (by simp [tellsB])) (fun x hx => nomatch hx) ?_
  refine J.go [3,11,13] 900 rfl ?_
  (repeat' (first | ((first | refine JF.l1 0 rfl rfl rfl rfl ?_ | refine JF.ln 0 rfl rfl rfl rfl ?_ | refine JF.l1 1 rfl rfl rfl rfl ?_ | refine JF.ln 1 rfl rfl rfl rfl ?_ | refine JF.l1 2 rfl rfl rfl rfl ?_ | refine JF.ln 2 rfl rfl rfl rfl ?_ | refine JF.l1 3 rfl rfl rfl rfl ?_ | refine JF.ln 3 rfl rfl rfl rfl ?_ | refine JF.l1 4 rfl rfl rfl rfl ?_ | refine JF.ln 4 rfl rfl rfl rfl ?_ | refine JF.l1 5 rfl rfl rfl rfl ?_ | refine JF.ln 5 rfl rfl rfl rfl ?_ | refine JF.l1 6 rfl rfl rfl rfl ?_ | refine JF.ln 6 rfl rfl rfl rfl ?_ | refine JF.l1 7 rfl rfl rfl rfl ?_ | refine JF.ln 7 rfl rfl rfl rfl ?_); refine J.go [3,11,13] 900 rfl ?_) | (refine JF.chk rfl ?_ ?_; (focus ((repeat' (apply And.intro)) <;> (first | exact True.intro | omega))); refine J.go [3,11,13] 900 rfl ?_) | (((first | refine JF.condD rfl ?_ ?_ | refine JF.condE rfl ?_ ?_ | refine JF.condN rfl ?_ ?_ | refine JF.guardD rfl ?_ ?_ | refine JF.guardE rfl ?_ ?_ | refine JF.guardN rfl ?_ ?_ | refine JF.cond rfl ?_ ?_ | refine JF.guard rfl ?_ ?_) <;> intro h) <;> (first | (exact absurd h Bool.false_ne_true) | (exact absurd h.symm Bool.false_ne_true) | (exact absurd rfl h) | (exfalso; omega) | refine J.go [3,11,13] 900 rfl ?_))))
  refine JF.callV _ rfl (fun w1 hst => access_Check aC 16 16 1 aC_ok (by constructor <;> decide) (by constructor <;> decide) w1) fun w1 r w2 hst hq => ?_
  obtain ⟨hx, hf⟩ := hq
  rw [q14] at hf
  obtain rfl : r = .nilIface := hf
  refine ⟨_, Tr.same hst hx (fun x hx => nomatch hx), ?_⟩
  refine J.go [3,11,13] 900 rfl ?_
  refine JF.ret rfl fun w' hst => ⟨hst.ext, rfl⟩

def fB (l : List Int) (c : CapV) : List Int := wrC (wrC (wrB (zB 128) 0 l) 64 c) 96 ⟨true, 0, 128, 0, 127, 0⟩
def fT (l : List Int) (c : CapV) : List Bool := tgC (tgC (clT (zT 128) 0 l.length) 64 c.tag) 96 true

theorem filled_ok {a : Option Addr} {cp : Nat} (l : List Int) (c : CapV) (w : World) (hG : GoodG w) (hl : l.length ≤ 128) (hB : isB l) (hr : RdS w 1 (.slice a l.length cp) (byC l) l.length) (hc : c.ok) :
    Rets Pg n_hasplaw5_filled [.slice a l.length cp, c.val] w fun v w' => Ext NoB w w' ∧ ∃ M X : MB, v = .tuple #[.pointer (some ⟨M.bm, 0, none⟩), .pointer (some ⟨X.bm, 0, none⟩), .bool true] ∧
      okM M (fB l c) (fT l c) ∧ okM X (fB l c) (fT l c) ∧ isB (fB l c) ∧ News w w' (memL 61 X true (fB l c) (fT l c) ++ memL 85 M true (fB l c) (fT l c)) := by
  
  have hp := hG.pos
  have z1 : (zB 128).length = 128 := by simp [zB]
  have z2 : (zT 128).length = 8 := by simp [zT]
  have hr0 : okR (zB 128).length 0 l.length := ⟨by decide, by omega, by omega⟩
  have b1 : (wrB (zB 128) 0 l).length = 128 := by rw [wrB_len (by omega), z1]
  have t1 : (clT (zT 128) 0 l.length).length = 8 := by rw [clT_len, z2]
  have c1 : okC (wrB (zB 128) 0 l).length 64 := by rw [b1]; exact ⟨⟨by decide, by decide, by decide⟩, by decide⟩
  have b2 : (wrC (wrB (zB 128) 0 l) 64 c).length = 128 := by rw [wrC_len c1, b1]
  have t2 : (tgC (clT (zT 128) 0 l.length) 64 c.tag).length = 8 := by rw [tgC_len, t1]
  have c2 : okC (wrC (wrB (zB 128) 0 l) 64 c).length 96 := by rw [b2]; exact ⟨⟨by decide, by decide, by decide⟩, by decide⟩
  have b3 : (fB l c).length = 128 := by unfold fB; rw [wrC_len c2, b2]
  have t3 : (fT l c).length = 8 := by unfold fT; rw [tgC_len, t2]
  have i1 : isB (wrB (zB 128) 0 l) := isB_wrB (isB_zB _) hB
  have i2 : isB (wrC (wrB (zB 128) 0 l) 64 c) := isB_wrB i1 (isB_capB _)
  have i3 : isB (fB l c) := isB_wrB i2 (isB_capB _)
  have hrk : CapV.ok ⟨true, 0, 128, 0, 127, 0⟩ := by unfold CapV.ok; decide
  have hap : ∀ b o, a = some ⟨b, o, none⟩ → l.length ≠ 0 → b < w.heap.size := fun b o => hr.apart (by decide)
  refine rets_of m_hasplaw5_filled rfl rfl (St.nil w) ?_
  refine J.go [3,10] 900 rfl ?_
  refine JF.callV _ rfl (fun w1 hst => new_ok 128 w1 (by decide)) fun w1 r w2 hst hq => ?_
  obtain ⟨hx, ⟨_, M, rfl, hM, hnew⟩ | ⟨h, _⟩⟩ := hq
  case inr => exact absurd ⟨by decide, by decide, by decide⟩ h
  have hlM := hnew.lo
  have hs1 := hst.ext.size
  refine ⟨_, Tr.news hst hx hnew (fun x hx => nomatch hx), ?_⟩
  refine J.go [3,10] 900 rfl ?_
  refine JF.callV _ rfl (fun w1 hst => rnew_ok 128 w1 (by decide)) fun w1 r w2 hst hq => ?_
  obtain ⟨hx, ⟨_, X, rfl, hX, hnew⟩ | ⟨h, _⟩⟩ := hq
  case inr => exact absurd ⟨by decide, by decide, by decide⟩ h
  have hlX := hnew.lo
  have hs2 := hst.ext.size
  refine ⟨_, Tr.news hst hx hnew (fun x hx => nomatch hx), ?_⟩
  refine J.go [3,10] 900 rfl ?_
  (repeat' (first | ((first | refine JF.l1 0 rfl rfl rfl rfl ?_ | refine JF.ln 0 rfl rfl rfl rfl ?_ | refine JF.l1 1 rfl rfl rfl rfl ?_ | refine JF.ln 1 rfl rfl rfl rfl ?_ | refine JF.l1 2 rfl rfl rfl rfl ?_ | refine JF.ln 2 rfl rfl rfl rfl ?_ | refine JF.l1 3 rfl rfl rfl rfl ?_ | refine JF.ln 3 rfl rfl rfl rfl ?_ | refine JF.l1 4 rfl rfl rfl rfl ?_ | refine JF.ln 4 rfl rfl rfl rfl ?_ | refine JF.l1 5 rfl rfl rfl rfl ?_ | refine JF.ln 5 rfl rfl rfl rfl ?_ | refine JF.l1 6 rfl rfl rfl rfl ?_ | refine JF.ln 6 rfl rfl rfl rfl ?_ | refine JF.l1 7 rfl rfl rfl rfl ?_ | refine JF.ln 7 rfl rfl rfl rfl ?_); refine J.go [3,10] 900 rfl ?_) | (refine JF.chk rfl ?_ ?_; (focus ((repeat' (apply And.intro)) <;> (first | exact True.intro | omega))); refine J.go [3,10] 900 rfl ?_) | (((first | refine JF.condD rfl ?_ ?_ | refine JF.condE rfl ?_ ?_ | refine JF.condN rfl ?_ ?_ | refine JF.guardD rfl ?_ ?_ | refine JF.guardE rfl ?_ ?_ | refine JF.guardN rfl ?_ ?_ | refine JF.cond rfl ?_ ?_ | refine JF.guard rfl ?_ ?_) <;> intro h) <;> (first | (exact absurd h Bool.false_ne_true) | (exact absurd h.symm Bool.false_ne_true) | (exact absurd rfl h) | (exfalso; omega) | refine J.go [3,10] 900 rfl ?_))))
  -- the program's
  refine JF.callV _ rfl (fun w1 hst => store_ok (l := l) 0 w1 (hst.here ((List.sublist_append_left _ _).trans (List.sublist_append_right _ _))) hM (by decide) (hr.keep hst.ext (fun _ _ _ _ _ h => h)) (fun b o hb hn => by
    have := hap b o hb hn
    constructor <;> omega) (by omega)) fun w1 r w2 hst hq => ?_
  obtain ⟨hx, ⟨_, rfl, hh⟩ | ⟨h, _⟩⟩ := hq
  case inr => exact absurd hr0 h
  refine ⟨_, Tr.memN (A := memL 61 X true (zB 128) (zT 128)) (C := []) (N := []) hst hx hh (News.nil _ _) (by exact fun x hx => nomatch hx), ?_⟩
  refine J.go [3,10] 900 rfl ?_
  (repeat' (first | ((first | refine JF.l1 0 rfl rfl rfl rfl ?_ | refine JF.ln 0 rfl rfl rfl rfl ?_ | refine JF.l1 1 rfl rfl rfl rfl ?_ | refine JF.ln 1 rfl rfl rfl rfl ?_ | refine JF.l1 2 rfl rfl rfl rfl ?_ | refine JF.ln 2 rfl rfl rfl rfl ?_ | refine JF.l1 3 rfl rfl rfl rfl ?_ | refine JF.ln 3 rfl rfl rfl rfl ?_ | refine JF.l1 4 rfl rfl rfl rfl ?_ | refine JF.ln 4 rfl rfl rfl rfl ?_ | refine JF.l1 5 rfl rfl rfl rfl ?_ | refine JF.ln 5 rfl rfl rfl rfl ?_ | refine JF.l1 6 rfl rfl rfl rfl ?_ | refine JF.ln 6 rfl rfl rfl rfl ?_ | refine JF.l1 7 rfl rfl rfl rfl ?_ | refine JF.ln 7 rfl rfl rfl rfl ?_); refine J.go [3,10] 900 rfl ?_) | (refine JF.chk rfl ?_ ?_; (focus ((repeat' (apply And.intro)) <;> (first | exact True.intro | omega))); refine J.go [3,10] 900 rfl ?_) | (((first | refine JF.condD rfl ?_ ?_ | refine JF.condE rfl ?_ ?_ | refine JF.condN rfl ?_ ?_ | refine JF.guardD rfl ?_ ?_ | refine JF.guardE rfl ?_ ?_ | refine JF.guardN rfl ?_ ?_ | refine JF.cond rfl ?_ ?_ | refine JF.guard rfl ?_ ?_) <;> intro h) <;> (first | (exact absurd h Bool.false_ne_true) | (exact absurd h.symm Bool.false_ne_true) | (exact absurd rfl h) | (exfalso; omega) | refine J.go [3,10] 900 rfl ?_))))
  refine JF.callV _ rfl (fun w1 hst => storeCap_ok 64 c hc w1 (hG.keep hst.ext (fun h => h)) ⟨by omega, by omega⟩ (hst.here ((List.sublist_append_left _ _).trans (List.sublist_append_right _ _))) (okM_of hM (by rw [z1]; exact b1) (by rw [z2]; exact t1)) (by decide) i1) fun w1 r w2 hst hq => ?_
  obtain ⟨hx, ⟨_, rfl, hh⟩ | ⟨h, _⟩⟩ := hq
  case inr => exact absurd c1 h
  refine ⟨_, Tr.memN (A := memL 61 X true (zB 128) (zT 128)) (C := []) (N := []) hst hx hh (News.nil _ _) (by exact fun x hx => nomatch hx), ?_⟩
  refine J.go [3,10] 900 rfl ?_
  (repeat' (first | ((first | refine JF.l1 0 rfl rfl rfl rfl ?_ | refine JF.ln 0 rfl rfl rfl rfl ?_ | refine JF.l1 1 rfl rfl rfl rfl ?_ | refine JF.ln 1 rfl rfl rfl rfl ?_ | refine JF.l1 2 rfl rfl rfl rfl ?_ | refine JF.ln 2 rfl rfl rfl rfl ?_ | refine JF.l1 3 rfl rfl rfl rfl ?_ | refine JF.ln 3 rfl rfl rfl rfl ?_ | refine JF.l1 4 rfl rfl rfl rfl ?_ | refine JF.ln 4 rfl rfl rfl rfl ?_ | refine JF.l1 5 rfl rfl rfl rfl ?_ | refine JF.ln 5 rfl rfl rfl rfl ?_ | refine JF.l1 6 rfl rfl rfl rfl ?_ | refine JF.ln 6 rfl rfl rfl rfl ?_ | refine JF.l1 7 rfl rfl rfl rfl ?_ | refine JF.ln 7 rfl rfl rfl rfl ?_); refine J.go [3,10] 900 rfl ?_) | (refine JF.chk rfl ?_ ?_; (focus ((repeat' (apply And.intro)) <;> (first | exact True.intro | omega))); refine J.go [3,10] 900 rfl ?_) | (((first | refine JF.condD rfl ?_ ?_ | refine JF.condE rfl ?_ ?_ | refine JF.condN rfl ?_ ?_ | refine JF.guardD rfl ?_ ?_ | refine JF.guardE rfl ?_ ?_ | refine JF.guardN rfl ?_ ?_ | refine JF.cond rfl ?_ ?_ | refine JF.guard rfl ?_ ?_) <;> intro h) <;> (first | (exact absurd h Bool.false_ne_true) | (exact absurd h.symm Bool.false_ne_true) | (exact absurd rfl h) | (exfalso; omega) | refine J.go [3,10] 900 rfl ?_))))
  refine JF.callF _ rfl (fun w1 hst => root_ok 128 w1 (by decide)) (fun x hx => nomatch hx) ?_
  refine J.go [3,10] 900 rfl ?_
  refine JF.callV _ rfl (fun w1 hst => storeCap_ok 96 ⟨true, 0, 128, 0, 127, 0⟩ hrk w1 (hG.keep hst.ext (fun h => h)) ⟨by omega, by omega⟩ (hst.here ((List.sublist_append_left _ _).trans (List.sublist_append_right _ _))) (okM_of hM (by rw [z1]; exact b2) (by rw [z2]; exact t2)) (by decide) i2) fun w1 r w2 hst hq => ?_
  obtain ⟨hx, ⟨_, rfl, hh⟩ | ⟨h, _⟩⟩ := hq
  case inr => exact absurd c2 h
  refine ⟨_, Tr.memN (A := memL 61 X true (zB 128) (zT 128)) (C := []) (N := []) hst hx hh (News.nil _ _) (by exact fun x hx => nomatch hx), ?_⟩
  refine J.go [3,10] 900 rfl ?_
  -- the document's
  refine JF.callV _ rfl (fun w1 hst => rstore_ok (l := l) 0 w1 (hst.here (List.sublist_append_left _ _)) hX (by decide) (hr.keep hst.ext (fun _ _ _ _ _ h => h)) (fun b o hb hn => by
    have := hap b o hb hn
    refine ⟨?_, ?_, ?_⟩ <;> omega) (by omega)) fun w1 r w2 hst hq => ?_
  obtain ⟨hx, ⟨_, rfl, hh⟩ | ⟨h, _⟩⟩ := hq
  case inr => exact absurd hr0 h
  refine ⟨_, Tr.memN (A := []) (C := memL 85 M true (fB l c) (fT l c)) (N := []) hst hx hh (News.nil _ _) (by exact fun x hx => nomatch hx), ?_⟩
  refine J.go [3,10] 900 rfl ?_
  refine JF.callF _ rfl (fun w1 hst => of_ok c w1) (fun x hx => nomatch hx) ?_
  refine J.go [3,10] 900 rfl ?_
  refine JF.callV _ rfl (fun w1 hst => rstoreCap_ok 64 c hc w1 (hst.here (List.sublist_append_left _ _)) (okM_of hX (by rw [z1]; exact b1) (by rw [z2]; exact t1)) (by decide) i1) fun w1 r w2 hst hq => ?_
  obtain ⟨hx, ⟨_, rfl, hh⟩ | ⟨h, _⟩⟩ := hq
  case inr => exact absurd c1 h
  refine ⟨_, Tr.memN (A := []) (C := memL 85 M true (fB l c) (fT l c)) (N := []) hst hx hh (News.nil _ _) (by exact fun x hx => nomatch hx), ?_⟩
  refine J.go [3,10] 900 rfl ?_
  refine JF.callF _ rfl (fun w1 hst => r_root_ok 128 w1) (fun x hx => nomatch hx) ?_
  refine J.go [3,10] 900 rfl ?_
  refine JF.callV _ rfl (fun w1 hst => rstoreCap_ok 96 ⟨true, 0, 128, 0, 127, 0⟩ hrk w1 (hst.here (List.sublist_append_left _ _)) (okM_of hX (by rw [z1]; exact b2) (by rw [z2]; exact t2)) (by decide) i2) fun w1 r w2 hst hq => ?_
  obtain ⟨hx, ⟨_, rfl, hh⟩ | ⟨h, _⟩⟩ := hq
  case inr => exact absurd c2 h
  refine ⟨_, Tr.memN (A := []) (C := memL 85 M true (fB l c) (fT l c)) (N := []) hst hx hh (News.nil _ _) (by exact fun x hx => nomatch hx), ?_⟩
  refine J.go [3,10] 900 rfl ?_
  refine JF.ret rfl fun w' hst => ⟨hst.ext, M, X, rfl, okM_of hM (by rw [z1]; exact b3) (by rw [z2]; exact t3), okM_of hX (by rw [z1]; exact b3) (by rw [z2]; exact t3), i3, ?_⟩
  exact ⟨hst.here (List.Sublist.refl _), by simp; omega⟩

theorem mE_room {m : Nat} {c : CapV} {off n perm : Int} (h : mE m c off n perm = none) : (acAddr c off).toNat + n.toNat ≤ m := by
  unfold mE at h
  split at h
  · cases h
  · split at h
    · cases h
    · split at h
      · rename_i hr; obtain ⟨_, _, _⟩ := hr; omega
      · cases h

theorem cE_room {m : Nat} {c : CapV} {off perm : Int} (h : cE m c off perm = none) : okC m (acAddr c off) := by
  unfold cE at h
  split at h
  · cases h
  · split at h
    · assumption
    · cases h

set_option maxHeartbeats 1000000 in
theorem accessPlays_ok {a : Option Addr} {cp : Nat} (l : List Int) (c : CapV) (off n v : Int) (u : CapV) (w : World) (hG : GoodG w) (hl : l.length < 9223372036854775808) (hB : isB l) (hr : RdS w 1 (.slice a l.length cp) (byC l) l.length) (hc : c.ok) (hn : isI64 n) (hv : isU32 v) (hu : u.ok) :
    Rets Pg n_hasplaw5_AccessPlays [.slice a l.length cp, c.val, .int .i32 off, .int .i64 n, .int .u32 v, u.val] w fun r w' => Ext NoB w w' ∧ r = .bool true := by
  
  have hp := hG.pos
  refine rets_of m_hasplaw5_AccessPlays rfl rfl (St.nil w) ?_
  refine J.go [7,11,16,21,22,24,25,27,29] 900 rfl ?_
  refine JF.callF _ rfl (fun w1 hst => known5_ok w1 (hG.keep hst.ext (fun h => h))) (fun x hx => nomatch hx) ?_
  refine J.go [7,11,16,21,22,24,25,27,29] 900 rfl ?_
  (repeat' (first | ((first | refine JF.l1 0 rfl rfl rfl rfl ?_ | refine JF.ln 0 rfl rfl rfl rfl ?_ | refine JF.l1 1 rfl rfl rfl rfl ?_ | refine JF.ln 1 rfl rfl rfl rfl ?_ | refine JF.l1 2 rfl rfl rfl rfl ?_ | refine JF.ln 2 rfl rfl rfl rfl ?_ | refine JF.l1 3 rfl rfl rfl rfl ?_ | refine JF.ln 3 rfl rfl rfl rfl ?_ | refine JF.l1 4 rfl rfl rfl rfl ?_ | refine JF.ln 4 rfl rfl rfl rfl ?_ | refine JF.l1 5 rfl rfl rfl rfl ?_ | refine JF.ln 5 rfl rfl rfl rfl ?_ | refine JF.l1 6 rfl rfl rfl rfl ?_ | refine JF.ln 6 rfl rfl rfl rfl ?_ | refine JF.l1 7 rfl rfl rfl rfl ?_ | refine JF.ln 7 rfl rfl rfl rfl ?_); refine J.go [7,11,16,21,22,24,25,27,29] 900 rfl ?_) | (refine JF.chk rfl ?_ ?_; (focus ((repeat' (apply And.intro)) <;> (first | exact True.intro | omega))); refine J.go [7,11,16,21,22,24,25,27,29] 900 rfl ?_) | (((first | refine JF.condD rfl ?_ ?_ | refine JF.condE rfl ?_ ?_ | refine JF.condN rfl ?_ ?_ | refine JF.guardD rfl ?_ ?_ | refine JF.guardE rfl ?_ ?_ | refine JF.guardN rfl ?_ ?_ | refine JF.cond rfl ?_ ?_ | refine JF.guard rfl ?_ ?_) <;> intro h) <;> (first | (exact absurd h Bool.false_ne_true) | (exact absurd h.symm Bool.false_ne_true) | (exact absurd rfl h) | (exfalso; omega) | refine J.go [7,11,16,21,22,24,25,27,29] 900 rfl ?_))))
  · refine JF.ret rfl fun w' hst => ⟨hst.ext, rfl⟩
  refine JF.callV _ rfl (fun w1 hst => filled_ok l u w1 (hG.keep hst.ext (fun h => h)) (by omega) hB (hr.keep hst.ext (fun _ _ _ _ _ h => h)) hu) fun w1 r w2 hst hq => ?_
  obtain ⟨hx, M, X, rfl, hM, hX, hB0, hnew⟩ := hq
  refine ⟨_, Tr.news hst hx hnew (fun x hx => nomatch hx), ?_⟩
  refine J.go [7,11,16,21,22,24,25,27,29] 900 rfl ?_
  (repeat' (first | ((first | refine JF.l1 0 rfl rfl rfl rfl ?_ | refine JF.ln 0 rfl rfl rfl rfl ?_ | refine JF.l1 1 rfl rfl rfl rfl ?_ | refine JF.ln 1 rfl rfl rfl rfl ?_ | refine JF.l1 2 rfl rfl rfl rfl ?_ | refine JF.ln 2 rfl rfl rfl rfl ?_ | refine JF.l1 3 rfl rfl rfl rfl ?_ | refine JF.ln 3 rfl rfl rfl rfl ?_ | refine JF.l1 4 rfl rfl rfl rfl ?_ | refine JF.ln 4 rfl rfl rfl rfl ?_ | refine JF.l1 5 rfl rfl rfl rfl ?_ | refine JF.ln 5 rfl rfl rfl rfl ?_ | refine JF.l1 6 rfl rfl rfl rfl ?_ | refine JF.ln 6 rfl rfl rfl rfl ?_ | refine JF.l1 7 rfl rfl rfl rfl ?_ | refine JF.ln 7 rfl rfl rfl rfl ?_); refine J.go [7,11,16,21,22,24,25,27,29] 900 rfl ?_) | (refine JF.chk rfl ?_ ?_; (focus ((repeat' (apply And.intro)) <;> (first | exact True.intro | omega))); refine J.go [7,11,16,21,22,24,25,27,29] 900 rfl ?_) | (((first | refine JF.condD rfl ?_ ?_ | refine JF.condE rfl ?_ ?_ | refine JF.condN rfl ?_ ?_ | refine JF.guardD rfl ?_ ?_ | refine JF.guardE rfl ?_ ?_ | refine JF.guardN rfl ?_ ?_ | refine JF.cond rfl ?_ ?_ | refine JF.guard rfl ?_ ?_) <;> intro h) <;> (first | (exact absurd h Bool.false_ne_true) | (exact absurd h.symm Bool.false_ne_true) | (exact absurd rfl h) | (exfalso; omega) | refine J.go [7,11,16,21,22,24,25,27,29] 900 rfl ?_))))
  refine JF.callF _ rfl (fun w1 hst => of_ok c w1) (fun x hx => nomatch hx) ?_
  refine J.go [7,11,16,21,22,24,25,27,29] 900 rfl ?_
  have hMlo : w.heap.size ≤ M.bb ∧ w.heap.size ≤ M.bt := by
    have h := hst.ext.size
    exact ⟨Nat.le_trans h (hnew.2 _ (.tail _ (.tail _ (.tail _ (.tail _ (.head _)))))), Nat.le_trans h (hnew.2 _ (.tail _ (.tail _ (.tail _ (.tail _ (.tail _ (.head _))))))) ⟩
  refine JF.loop (σ := Nat × List Int × List Bool) (fun s => [(17, .v (.int .i64 (s.1 : Int))), (13, .v (.pointer (some ⟨M.bm, 0, none⟩))), (14, .v (.pointer (some ⟨X.bm, 0, none⟩))), (7, .box 7 0), (11, .box 11 0), (16, .box 16 0), (2, .v (.int .i32 off)), (3, .v (.int .i64 n)), (4, .v (.int .u32 v))]) (fun _ => [(7, c.cells), (11, u.cells), (16, c.cells)])
    (fun s => memL 61 X true s.2.1 s.2.2 ++ memL 85 M true s.2.1 s.2.2) (fun s => s.1 ≤ 2 ∧ okM M s.2.1 s.2.2 ∧ okM X s.2.1 s.2.2 ∧ isB s.2.1) (fun s => 2 - s.1) (0, fB l u, fT l u) ⟨Nat.zero_le _, hM, hX, hB0⟩ ⟨rfl, rfl, rfl, rfl, rfl, rfl, rfl, rfl, rfl, trivial⟩ ⟨rfl, rfl, rfl, trivial⟩ (List.sublist_append_left _ _) ?_
  clear hM hX hB0 hnew
  rintro ⟨i, B, T⟩ ⟨hi, hM, hX, hB⟩
  dsimp only at hi hM hX hB ⊢
  have subX : (memL 61 X true B T).Sublist (memL 61 X true B T ++ memL 85 M true B T) := List.sublist_append_left _ _
  have subM : (memL 85 M true B T).Sublist (memL 61 X true B T ++ memL 85 M true B T) := List.sublist_append_right _ _
  rcases Nat.lt_or_ge i 2 with hlt | hge
  case inr =>
    refine J.go [7,11,16,21,22,24,25,27,29] 900 rfl ?_
    (repeat' (first | ((first | refine JF.l1 0 rfl rfl rfl rfl ?_ | refine JF.ln 0 rfl rfl rfl rfl ?_ | refine JF.l1 1 rfl rfl rfl rfl ?_ | refine JF.ln 1 rfl rfl rfl rfl ?_ | refine JF.l1 2 rfl rfl rfl rfl ?_ | refine JF.ln 2 rfl rfl rfl rfl ?_ | refine JF.l1 3 rfl rfl rfl rfl ?_ | refine JF.ln 3 rfl rfl rfl rfl ?_ | refine JF.l1 4 rfl rfl rfl rfl ?_ | refine JF.ln 4 rfl rfl rfl rfl ?_ | refine JF.l1 5 rfl rfl rfl rfl ?_ | refine JF.ln 5 rfl rfl rfl rfl ?_ | refine JF.l1 6 rfl rfl rfl rfl ?_ | refine JF.ln 6 rfl rfl rfl rfl ?_ | refine JF.l1 7 rfl rfl rfl rfl ?_ | refine JF.ln 7 rfl rfl rfl rfl ?_); refine J.go [7,11,16,21,22,24,25,27,29] 900 rfl ?_) | (refine JF.chk rfl ?_ ?_; (focus ((repeat' (apply And.intro)) <;> (first | exact True.intro | omega))); refine J.go [7,11,16,21,22,24,25,27,29] 900 rfl ?_) | (((first | refine JF.condD rfl ?_ ?_ | refine JF.condE rfl ?_ ?_ | refine JF.condN rfl ?_ ?_ | refine JF.guardD rfl ?_ ?_ | refine JF.guardE rfl ?_ ?_ | refine JF.guardN rfl ?_ ?_ | refine JF.cond rfl ?_ ?_ | refine JF.guard rfl ?_ ?_) <;> intro h) <;> (first | (exact absurd h Bool.false_ne_true) | (exact absurd h.symm Bool.false_ne_true) | (exact absurd rfl h) | (exfalso; omega) | refine J.go [7,11,16,21,22,24,25,27,29] 900 rfl ?_))))
    refine JF.ret rfl fun w' hst => ⟨hst.ext, rfl⟩
  have e1 : IntKind.i64.wrap ((i : Int) + 1) = ((i + 1 : Nat) : Int) := by rw [IntKind.wrap_i64]; omega
  refine J.go [7,11,16,21,22,24,25,27,29] 900 rfl ?_
  (repeat' (first | ((first | refine JF.l1 0 rfl rfl rfl rfl ?_ | refine JF.ln 0 rfl rfl rfl rfl ?_ | refine JF.l1 1 rfl rfl rfl rfl ?_ | refine JF.ln 1 rfl rfl rfl rfl ?_ | refine JF.l1 2 rfl rfl rfl rfl ?_ | refine JF.ln 2 rfl rfl rfl rfl ?_ | refine JF.l1 3 rfl rfl rfl rfl ?_ | refine JF.ln 3 rfl rfl rfl rfl ?_ | refine JF.l1 4 rfl rfl rfl rfl ?_ | refine JF.ln 4 rfl rfl rfl rfl ?_ | refine JF.l1 5 rfl rfl rfl rfl ?_ | refine JF.ln 5 rfl rfl rfl rfl ?_ | refine JF.l1 6 rfl rfl rfl rfl ?_ | refine JF.ln 6 rfl rfl rfl rfl ?_ | refine JF.l1 7 rfl rfl rfl rfl ?_ | refine JF.ln 7 rfl rfl rfl rfl ?_); refine J.go [7,11,16,21,22,24,25,27,29] 900 rfl ?_) | (refine JF.chk rfl ?_ ?_; (focus ((repeat' (apply And.intro)) <;> (first | exact True.intro | omega))); refine J.go [7,11,16,21,22,24,25,27,29] 900 rfl ?_) | (((first | refine JF.condD rfl ?_ ?_ | refine JF.condE rfl ?_ ?_ | refine JF.condN rfl ?_ ?_ | refine JF.guardD rfl ?_ ?_ | refine JF.guardE rfl ?_ ?_ | refine JF.guardN rfl ?_ ?_ | refine JF.cond rfl ?_ ?_ | refine JF.guard rfl ?_ ?_) <;> intro h) <;> (first | (exact absurd h Bool.false_ne_true) | (exact absurd h.symm Bool.false_ne_true) | (exact absurd rfl h) | (exfalso; omega) | refine J.go [7,11,16,21,22,24,25,27,29] 900 rfl ?_))))
  obtain ⟨sign, hsg⟩ : ∃ s, ((i : Int) == 0) = s := ⟨_, rfl⟩
  rw [hsg]
  -- what comes
  refine JF.callV _ rfl (fun w1 hst => access_Load c off n sign w1 (hG.keep hst.ext (fun h => h)) (hst.here subM) hM hB hc hn) fun w1 r w2 hst hq => ?_
  obtain ⟨hx, f1, rfl, hf⟩ := hq
  obtain ⟨N1, hn1, hf1⟩ := hf.ents
  refine ⟨_, Tr.news hst hx hn1 (fun x hx => nomatch hx), ?_⟩
  refine J.go [7,11,16,21,22,24,25,27,29] 900 rfl ?_
  rw [hsg]
  refine JF.callF _ rfl (fun w1 hst => r_Read c off n sign w1 (hst.here (subX.trans (List.sublist_append_right _ _))) hX hB hc hn) (fun x hx => nomatch hx) ?_
  generalize ldR B c off n sign = z
  have g1 := errNe_mE B.length c off n 1
  generalize mE B.length c off n 1 = E1 at *
  obtain ⟨p1, a1, o1, eE1⟩ := wrE_V E1
  rw [eE1]
  refine J.go [7,11,16,21,22,24,25,27,29] 900 rfl ?_
  refine JF.callV _ rfl (fun w1 hst => access_LoadCap c off w1 (hG.keep hst.ext (fun h => h)) (hst.here (subM.trans (List.sublist_append_right _ _))) hM hB hc) fun w1 r w2 hst hq => ?_
  obtain ⟨hx, f2, rfl, hf⟩ := hq
  obtain ⟨N2, hn2, hf2⟩ := hf.ents
  refine ⟨_, Tr.news hst hx hn2 (fun x hx => nomatch hx), ?_⟩
  refine J.go [7,11,16,21,22,24,25,27,29] 900 rfl ?_
  refine JF.callF _ rfl (fun w1 hst => r_ReadCap c off w1 (hst.here ((subX.trans (List.sublist_append_right _ _)).trans (List.sublist_append_right _ _))) hX hB hc) (fun x hx => nomatch hx) ?_
  generalize lcR B T c off = y
  have g2 := errNe_cE B.length c off 1
  generalize cE B.length c off 1 = E2 at *
  obtain ⟨p2, a2, o2, eE2⟩ := wrE_V E2
  rw [eE2]
  refine J.go [7,11,16,21,22,24,25,27,29] 900 rfl ?_
  refine JF.draw [21, 22, 24, 25] [] rfl (fun x hx => nomatch hx) ?_
  refine J.go [7,11,16,21,22,24,25,27,29] 900 rfl ?_
  refine JF.guardN rfl ?_ ?_ <;> intro h
  · exact absurd rfl h
  refine J.go [7,11,16,21,22,24,25,27,29] 900 rfl ?_
  refine JF.callF _ rfl (fun w1 hst => tells_W f1 E1 eE1 g1 w1 (hG.keep hst.ext (fun h => h)) (hf1 w1 fun x hx => hst.blk x (List.mem_append.2 (.inr (List.mem_append.2 (.inl hx)))))) (by exact fun x hx => nomatch hx) ?_
  refine J.go [7,11,16,21,22,24,25,27,29] 900 rfl ?_
  (repeat' (first | ((first | refine JF.l1 0 rfl rfl rfl rfl ?_ | refine JF.ln 0 rfl rfl rfl rfl ?_ | refine JF.l1 1 rfl rfl rfl rfl ?_ | refine JF.ln 1 rfl rfl rfl rfl ?_ | refine JF.l1 2 rfl rfl rfl rfl ?_ | refine JF.ln 2 rfl rfl rfl rfl ?_ | refine JF.l1 3 rfl rfl rfl rfl ?_ | refine JF.ln 3 rfl rfl rfl rfl ?_ | refine JF.l1 4 rfl rfl rfl rfl ?_ | refine JF.ln 4 rfl rfl rfl rfl ?_ | refine JF.l1 5 rfl rfl rfl rfl ?_ | refine JF.ln 5 rfl rfl rfl rfl ?_ | refine JF.l1 6 rfl rfl rfl rfl ?_ | refine JF.ln 6 rfl rfl rfl rfl ?_ | refine JF.l1 7 rfl rfl rfl rfl ?_ | refine JF.ln 7 rfl rfl rfl rfl ?_); refine J.go [7,11,16,21,22,24,25,27,29] 900 rfl ?_) | (refine JF.chk rfl ?_ ?_; (focus ((repeat' (apply And.intro)) <;> (first | exact True.intro | omega))); refine J.go [7,11,16,21,22,24,25,27,29] 900 rfl ?_) | (((first | refine JF.condD rfl ?_ ?_ | refine JF.condE rfl ?_ ?_ | refine JF.condN rfl ?_ ?_ | refine JF.guardD rfl ?_ ?_ | refine JF.guardE rfl ?_ ?_ | refine JF.guardN rfl ?_ ?_ | refine JF.cond rfl ?_ ?_ | refine JF.guard rfl ?_ ?_) <;> intro h) <;> (first | (exact absurd h Bool.false_ne_true) | (exact absurd h.symm Bool.false_ne_true) | (exact absurd rfl h) | (exfalso; omega) | refine J.go [7,11,16,21,22,24,25,27,29] 900 rfl ?_))))
  refine JF.callF _ rfl (fun w1 hst => of_ok y w1) (by exact fun x hx => nomatch hx) ?_
  refine J.go [7,11,16,21,22,24,25,27,29] 900 rfl ?_
  refine JF.guard rfl ?_ ?_ <;> intro h
  · exfalso; simp at h
  refine J.go [7,11,16,21,22,24,25,27,29] 900 rfl ?_
  refine JF.callF _ rfl (fun w1 hst => tells_W f2 E2 eE2 g2 w1 (hG.keep hst.ext (fun h => h)) (hf2 w1 fun x hx => hst.blk x (List.mem_append.2 (.inl hx)))) (by exact fun x hx => nomatch hx) ?_
  refine J.go [7,11,16,21,22,24,25,27,29] 900 rfl ?_
  (repeat' (first | ((first | refine JF.l1 0 rfl rfl rfl rfl ?_ | refine JF.ln 0 rfl rfl rfl rfl ?_ | refine JF.l1 1 rfl rfl rfl rfl ?_ | refine JF.ln 1 rfl rfl rfl rfl ?_ | refine JF.l1 2 rfl rfl rfl rfl ?_ | refine JF.ln 2 rfl rfl rfl rfl ?_ | refine JF.l1 3 rfl rfl rfl rfl ?_ | refine JF.ln 3 rfl rfl rfl rfl ?_ | refine JF.l1 4 rfl rfl rfl rfl ?_ | refine JF.ln 4 rfl rfl rfl rfl ?_ | refine JF.l1 5 rfl rfl rfl rfl ?_ | refine JF.ln 5 rfl rfl rfl rfl ?_ | refine JF.l1 6 rfl rfl rfl rfl ?_ | refine JF.ln 6 rfl rfl rfl rfl ?_ | refine JF.l1 7 rfl rfl rfl rfl ?_ | refine JF.ln 7 rfl rfl rfl rfl ?_); refine J.go [7,11,16,21,22,24,25,27,29] 900 rfl ?_) | (refine JF.chk rfl ?_ ?_; (focus ((repeat' (apply And.intro)) <;> (first | exact True.intro | omega))); refine J.go [7,11,16,21,22,24,25,27,29] 900 rfl ?_) | (((first | refine JF.condD rfl ?_ ?_ | refine JF.condE rfl ?_ ?_ | refine JF.condN rfl ?_ ?_ | refine JF.guardD rfl ?_ ?_ | refine JF.guardE rfl ?_ ?_ | refine JF.guardN rfl ?_ ?_ | refine JF.cond rfl ?_ ?_ | refine JF.guard rfl ?_ ?_) <;> intro h) <;> (first | (exact absurd h Bool.false_ne_true) | (exact absurd h.symm Bool.false_ne_true) | (exact absurd rfl h) | (exfalso; omega) | refine J.go [7,11,16,21,22,24,25,27,29] 900 rfl ?_))))
  refine JF.drop (L' := memL 61 X true B T ++ memL 85 M true B T) ((List.sublist_append_right _ _).trans (List.sublist_append_right _ _)) ?_
  -- a number is stored
  refine JF.callV _ rfl (fun w1 hst => access_Store c off n v w1 (hG.keep hst.ext (fun h => h)) (hst.here subM) hM hB hc hn hv) fun w1 r w2 hst hq => ?_
  obtain ⟨hx, hf, hh⟩ := hq
  obtain ⟨N3, hn3, hf3⟩ := hf.ents
  refine ⟨_, Tr.memN (A := memL 61 X true B T) (C := []) (N := N3) hst hx hh hn3 (by exact fun x hx => nomatch hx), ?_⟩
  refine J.go [7,11,16,21,22,24,25,27,29] 900 rfl ?_
  refine JF.callV _ rfl (fun w1 hst => r_Write c off n v w1 (hst.here ((List.sublist_append_left _ _).trans (List.sublist_append_right _ _))) hX hB hc hn hv) fun w1 r w2 hst hq => ?_
  obtain ⟨hx, rfl, hh⟩ := hq
  refine ⟨_, Tr.memN (A := N3) (C := memL 85 M true (stB B c off n v) (stT B T c off n)) (N := []) hst hx hh (News.nil _ _) (by exact fun x hx => nomatch hx), ?_⟩
  have hM1 : okM M (stB B c off n v) (stT B T c off n) := by
    unfold stB stT
    by_cases hE : mE B.length c off n 2 = none
    · rw [if_pos hE, if_pos hE]
      exact okM_of hM (wrB_len (by rw [wdL_len]; exact mE_room hE)) (clT_len _ _ _)
    · rw [if_neg hE, if_neg hE]; exact hM
  have hX1 : okM X (stB B c off n v) (stT B T c off n) := by
    unfold stB stT
    by_cases hE : mE B.length c off n 2 = none
    · rw [if_pos hE, if_pos hE]
      exact okM_of hX (wrB_len (by rw [wdL_len]; exact mE_room hE)) (clT_len _ _ _)
    · rw [if_neg hE, if_neg hE]; exact hX
  have hB1 : isB (stB B c off n v) := by
    unfold stB
    split
    · exact isB_wrB hB (isB_wdL _ _)
    · exact hB
  generalize stB B c off n v = B1 at *
  generalize stT B T c off n = T1 at *
  have g3 := errNe_mE B.length c off n 2
  generalize mE B.length c off n 2 = E3 at *
  obtain ⟨p3, a3, o3, eE3⟩ := wrE_V E3
  rw [eE3]
  refine J.go [7,11,16,21,22,24,25,27,29] 900 rfl ?_
  refine JF.callF _ rfl (fun w1 hst => tells_W _ E3 eE3 g3 w1 (hG.keep hst.ext (fun h => h)) (hf3 w1 fun x hx => hst.blk x (List.mem_append.2 (.inr (List.mem_append.2 (.inl hx)))))) (by exact fun x hx => nomatch hx) ?_
  refine J.go [7,11,16,21,22,24,25,27,29] 900 rfl ?_
  (repeat' (first | ((first | refine JF.l1 0 rfl rfl rfl rfl ?_ | refine JF.ln 0 rfl rfl rfl rfl ?_ | refine JF.l1 1 rfl rfl rfl rfl ?_ | refine JF.ln 1 rfl rfl rfl rfl ?_ | refine JF.l1 2 rfl rfl rfl rfl ?_ | refine JF.ln 2 rfl rfl rfl rfl ?_ | refine JF.l1 3 rfl rfl rfl rfl ?_ | refine JF.ln 3 rfl rfl rfl rfl ?_ | refine JF.l1 4 rfl rfl rfl rfl ?_ | refine JF.ln 4 rfl rfl rfl rfl ?_ | refine JF.l1 5 rfl rfl rfl rfl ?_ | refine JF.ln 5 rfl rfl rfl rfl ?_ | refine JF.l1 6 rfl rfl rfl rfl ?_ | refine JF.ln 6 rfl rfl rfl rfl ?_ | refine JF.l1 7 rfl rfl rfl rfl ?_ | refine JF.ln 7 rfl rfl rfl rfl ?_); refine J.go [7,11,16,21,22,24,25,27,29] 900 rfl ?_) | (refine JF.chk rfl ?_ ?_; (focus ((repeat' (apply And.intro)) <;> (first | exact True.intro | omega))); refine J.go [7,11,16,21,22,24,25,27,29] 900 rfl ?_) | (((first | refine JF.condD rfl ?_ ?_ | refine JF.condE rfl ?_ ?_ | refine JF.condN rfl ?_ ?_ | refine JF.guardD rfl ?_ ?_ | refine JF.guardE rfl ?_ ?_ | refine JF.guardN rfl ?_ ?_ | refine JF.cond rfl ?_ ?_ | refine JF.guard rfl ?_ ?_) <;> intro h) <;> (first | (exact absurd h Bool.false_ne_true) | (exact absurd h.symm Bool.false_ne_true) | (exact absurd rfl h) | (exfalso; omega) | refine J.go [7,11,16,21,22,24,25,27,29] 900 rfl ?_))))
  refine JF.callF _ rfl (fun w1 hst => same4_ok w1 (hst.here_perm List.perm_append_comm ((List.Sublist.refl _).append (List.sublist_append_left _ _) |>.trans (List.sublist_append_right _ _))) hM1 hX1 hB1) (by exact fun x hx => nomatch hx) ?_
  refine J.go [7,11,16,21,22,24,25,27,29] 900 rfl ?_
  (repeat' (first | ((first | refine JF.l1 0 rfl rfl rfl rfl ?_ | refine JF.ln 0 rfl rfl rfl rfl ?_ | refine JF.l1 1 rfl rfl rfl rfl ?_ | refine JF.ln 1 rfl rfl rfl rfl ?_ | refine JF.l1 2 rfl rfl rfl rfl ?_ | refine JF.ln 2 rfl rfl rfl rfl ?_ | refine JF.l1 3 rfl rfl rfl rfl ?_ | refine JF.ln 3 rfl rfl rfl rfl ?_ | refine JF.l1 4 rfl rfl rfl rfl ?_ | refine JF.ln 4 rfl rfl rfl rfl ?_ | refine JF.l1 5 rfl rfl rfl rfl ?_ | refine JF.ln 5 rfl rfl rfl rfl ?_ | refine JF.l1 6 rfl rfl rfl rfl ?_ | refine JF.ln 6 rfl rfl rfl rfl ?_ | refine JF.l1 7 rfl rfl rfl rfl ?_ | refine JF.ln 7 rfl rfl rfl rfl ?_); refine J.go [7,11,16,21,22,24,25,27,29] 900 rfl ?_) | (refine JF.chk rfl ?_ ?_; (focus ((repeat' (apply And.intro)) <;> (first | exact True.intro | omega))); refine J.go [7,11,16,21,22,24,25,27,29] 900 rfl ?_) | (((first | refine JF.condD rfl ?_ ?_ | refine JF.condE rfl ?_ ?_ | refine JF.condN rfl ?_ ?_ | refine JF.guardD rfl ?_ ?_ | refine JF.guardE rfl ?_ ?_ | refine JF.guardN rfl ?_ ?_ | refine JF.cond rfl ?_ ?_ | refine JF.guard rfl ?_ ?_) <;> intro h) <;> (first | (exact absurd h Bool.false_ne_true) | (exact absurd h.symm Bool.false_ne_true) | (exact absurd rfl h) | (exfalso; omega) | refine J.go [7,11,16,21,22,24,25,27,29] 900 rfl ?_))))
  refine JF.drop (L' := memL 61 X true B1 T1 ++ memL 85 M true B1 T1) ((List.Sublist.refl _).append (List.sublist_append_left _ _) |>.trans (List.sublist_append_right _ _)) ?_
  have subX : (memL 61 X true B1 T1).Sublist (memL 61 X true B1 T1 ++ memL 85 M true B1 T1) := List.sublist_append_left _ _
  have subM : (memL 85 M true B1 T1).Sublist (memL 61 X true B1 T1 ++ memL 85 M true B1 T1) := List.sublist_append_right _ _
  -- a capability is stored
  refine JF.callV _ rfl (fun w1 hst => access_StoreCap c off u w1 (hG.keep hst.ext (fun h => h)) ⟨by omega, by omega⟩ (hst.here subM) hM1 hB1 hc hu) fun w1 r w2 hst hq => ?_
  obtain ⟨hx, hf, hh⟩ := hq
  obtain ⟨N4, hn4, hf4⟩ := hf.ents
  refine ⟨_, Tr.memN (A := memL 61 X true B1 T1) (C := []) (N := N4) hst hx hh hn4 (by exact fun x hx => nomatch hx), ?_⟩
  refine J.go [7,11,16,21,22,24,25,27,29] 900 rfl ?_
  refine JF.draw [16, 11] [] rfl (fun x hx => nomatch hx) ?_
  refine J.go [7,11,16,21,22,24,25,27,29] 900 rfl ?_
  have hM2 : okM M (scB B1 c off u) (scT B1 T1 c off u) := by
    unfold scB scT
    by_cases hE : cE B1.length c off (scP u) = none
    · rw [if_pos hE, if_pos hE]
      exact okM_of hM1 (wrC_len (cE_room hE)) (tgC_len _ _ _)
    · rw [if_neg hE, if_neg hE]; exact hM1
  have hX2 : okM X (scB B1 c off u) (scT B1 T1 c off u) := by
    unfold scB scT
    by_cases hE : cE B1.length c off (scP u) = none
    · rw [if_pos hE, if_pos hE]
      exact okM_of hX1 (wrC_len (cE_room hE)) (tgC_len _ _ _)
    · rw [if_neg hE, if_neg hE]; exact hX1
  have hB2 : isB (scB B1 c off u) := by
    unfold scB
    split
    · exact isB_wrB hB1 (isB_capB _)
    · exact hB1
  refine JF.both ?_ ?_
  all_goals
    refine J.go [7,11,16,21,22,24,25,27,29] 900 rfl ?_
    refine JF.callF _ rfl (fun w1 hst => of_ok u w1) (by exact fun x hx => nomatch hx) ?_
    refine J.go [7,11,16,21,22,24,25,27,29] 900 rfl ?_
  all_goals (try (refine JF.both ?_ ?_))
  all_goals
    refine J.go [7,11,16,21,22,24,25,27,29] 900 rfl ?_
    refine JF.callV _ rfl (fun w1 hst => r_WriteCap c off u w1 (hst.here ((List.sublist_append_left _ _).trans (List.sublist_append_right _ _))) hX1 hB1 hc hu) fun w1 r w2 hst hq => ?_
    obtain ⟨hx, rfl, hh⟩ := hq
    refine ⟨_, Tr.memN (A := N4) (C := memL 85 M true (scB B1 c off u) (scT B1 T1 c off u) ++ []) (N := []) hst hx hh (News.nil _ _) (by exact fun x hx => nomatch hx), ?_⟩
    have g4 := errNe_cE B1.length c off (scP u)
    obtain ⟨p4, a4, o4, eE4⟩ := wrE_V (cE B1.length c off (scP u))
    rw [eE4]
    generalize scB B1 c off u = B2 at *
    generalize scT B1 T1 c off u = T2 at *
    refine J.go [7,11,16,21,22,24,25,27,29] 900 rfl ?_
    refine JF.callF _ rfl (fun w1 hst => tells_W _ _ eE4 g4 w1 (hG.keep hst.ext (fun h => h)) (hf4 w1 fun x hx => hst.blk x (List.mem_append.2 (.inr (List.mem_append.2 (.inl hx)))))) (by exact fun x hx => nomatch hx) ?_
    refine J.go [7,11,16,21,22,24,25,27,29] 900 rfl ?_
    (repeat' (first | ((first | refine JF.l1 0 rfl rfl rfl rfl ?_ | refine JF.ln 0 rfl rfl rfl rfl ?_ | refine JF.l1 1 rfl rfl rfl rfl ?_ | refine JF.ln 1 rfl rfl rfl rfl ?_ | refine JF.l1 2 rfl rfl rfl rfl ?_ | refine JF.ln 2 rfl rfl rfl rfl ?_ | refine JF.l1 3 rfl rfl rfl rfl ?_ | refine JF.ln 3 rfl rfl rfl rfl ?_ | refine JF.l1 4 rfl rfl rfl rfl ?_ | refine JF.ln 4 rfl rfl rfl rfl ?_ | refine JF.l1 5 rfl rfl rfl rfl ?_ | refine JF.ln 5 rfl rfl rfl rfl ?_ | refine JF.l1 6 rfl rfl rfl rfl ?_ | refine JF.ln 6 rfl rfl rfl rfl ?_ | refine JF.l1 7 rfl rfl rfl rfl ?_ | refine JF.ln 7 rfl rfl rfl rfl ?_); refine J.go [7,11,16,21,22,24,25,27,29] 900 rfl ?_) | (refine JF.chk rfl ?_ ?_; (focus ((repeat' (apply And.intro)) <;> (first | exact True.intro | omega))); refine J.go [7,11,16,21,22,24,25,27,29] 900 rfl ?_) | (((first | refine JF.condD rfl ?_ ?_ | refine JF.condE rfl ?_ ?_ | refine JF.condN rfl ?_ ?_ | refine JF.guardD rfl ?_ ?_ | refine JF.guardE rfl ?_ ?_ | refine JF.guardN rfl ?_ ?_ | refine JF.cond rfl ?_ ?_ | refine JF.guard rfl ?_ ?_) <;> intro h) <;> (first | (exact absurd h Bool.false_ne_true) | (exact absurd h.symm Bool.false_ne_true) | (exact absurd rfl h) | (exfalso; omega) | refine J.go [7,11,16,21,22,24,25,27,29] 900 rfl ?_))))
    refine JF.callF _ rfl (fun w1 hst => same4_ok w1 (hst.here_perm List.perm_append_comm ((List.Sublist.refl _).append (List.sublist_append_left _ _) |>.trans (List.sublist_append_right _ _))) hM2 hX2 hB2) (by exact fun x hx => nomatch hx) ?_
    refine J.go [7,11,16,21,22,24,25,27,29] 900 rfl ?_
    (repeat' (first | ((first | refine JF.l1 0 rfl rfl rfl rfl ?_ | refine JF.ln 0 rfl rfl rfl rfl ?_ | refine JF.l1 1 rfl rfl rfl rfl ?_ | refine JF.ln 1 rfl rfl rfl rfl ?_ | refine JF.l1 2 rfl rfl rfl rfl ?_ | refine JF.ln 2 rfl rfl rfl rfl ?_ | refine JF.l1 3 rfl rfl rfl rfl ?_ | refine JF.ln 3 rfl rfl rfl rfl ?_ | refine JF.l1 4 rfl rfl rfl rfl ?_ | refine JF.ln 4 rfl rfl rfl rfl ?_ | refine JF.l1 5 rfl rfl rfl rfl ?_ | refine JF.ln 5 rfl rfl rfl rfl ?_ | refine JF.l1 6 rfl rfl rfl rfl ?_ | refine JF.ln 6 rfl rfl rfl rfl ?_ | refine JF.l1 7 rfl rfl rfl rfl ?_ | refine JF.ln 7 rfl rfl rfl rfl ?_); refine J.go [7,11,16,21,22,24,25,27,29] 900 rfl ?_) | (refine JF.chk rfl ?_ ?_; (focus ((repeat' (apply And.intro)) <;> (first | exact True.intro | omega))); refine J.go [7,11,16,21,22,24,25,27,29] 900 rfl ?_) | (((first | refine JF.condD rfl ?_ ?_ | refine JF.condE rfl ?_ ?_ | refine JF.condN rfl ?_ ?_ | refine JF.guardD rfl ?_ ?_ | refine JF.guardE rfl ?_ ?_ | refine JF.guardN rfl ?_ ?_ | refine JF.cond rfl ?_ ?_ | refine JF.guard rfl ?_ ?_) <;> intro h) <;> (first | (exact absurd h Bool.false_ne_true) | (exact absurd h.symm Bool.false_ne_true) | (exact absurd rfl h) | (exfalso; omega) | refine J.go [7,11,16,21,22,24,25,27,29] 900 rfl ?_))))
    rw [e1]
    exact JF.round (i + 1, B2, T2) ⟨hlt, hM2, hX2, hB2⟩ (by dsimp only; omega) ⟨rfl, rfl, rfl, rfl, rfl, rfl, rfl, rfl, rfl, trivial⟩ ⟨rfl, rfl, rfl, trivial⟩ ((List.Sublist.refl _).append (List.sublist_append_left _ _) |>.trans (List.sublist_append_right _ _))
end Go.HM
