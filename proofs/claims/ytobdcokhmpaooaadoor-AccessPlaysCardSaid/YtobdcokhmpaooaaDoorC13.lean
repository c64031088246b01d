/- hasplaw4's known: a capability that is there till a byte goes over it. -/
import Derived.Test.YtobdcokhmpaooaaDoorKhasplaw4
import Derived.Test.YtobdcokhmpaooaaDoorC12
namespace Go.HM
open Go Go.Proofs
set_option linter.unusedSimpArgs false
set_option linter.unusedVariables false

theorem GoodG.pos {w : World} (h : GoodG w) : 0 < w.heap.size := by
  unfold GoodG at h
  rcases Nat.eq_zero_or_pos w.heap.size with h0 | h0
  · simp [World.cell?, h0] at h
  · exact h0

theorem News.lo {w w' : World} {t : TypeId} {M : MB} {r : Bool} {B : List Int} {T : List Bool} (h : News w w' (memL t M r B T)) : w.heap.size ≤ M.bm ∧ w.heap.size ≤ M.bb ∧ w.heap.size ≤ M.bt :=
  ⟨h.2 _ (.head _), h.2 _ (.tail _ (.head _)), h.2 _ (.tail _ (.tail _ (.head _)))⟩

theorem isB_zB (n : Int) : isB (zB n) := fun x hx => by rw [List.eq_of_mem_replicate hx]; decide

theorem isB_wrB {B l : List Int} {a : Nat} (hB : isB B) (hl : isB l) : isB (wrB B a l) := isB_app (isB_app (isB_take hB _) hl) (isB_drop hB _)

theorem okM_of {M : MB} {B B' : List Int} {T T' : List Bool} (h : okM M B T) (hB : B'.length = B.length) (hT : T'.length = T.length) : okM M B' T' := by
  obtain ⟨k1, k2, k3, k4, k5⟩ := h
  exact ⟨by omega, by omega, by omega, by omega, by omega⟩

theorem tgC_len (T : List Bool) (a : Int) (t : Bool) : (tgC T a t).length = T.length := by simp [tgC]

theorem wrC_len {B : List Int} {a : Int} {c : CapV} (h : okC B.length a) : (wrC B a c).length = B.length := wrB_len (by rw [capB_len]; obtain ⟨⟨h1, h2, h3⟩, h4⟩ := h; omega)

def kC : CapV := ⟨true, 0, 64, 0, 127, 0⟩
def kB1 : List Int := wrC (zB 64) 16 kC
def kT1 : List Bool := tgC (zT 64) 16 true
def kB2 : List Int := wrB kB1 31 [9]
def kT2 : List Bool := clT kT1 31 1

theorem k1 : capAt kB1 kT1 16 = kC := by decide
theorem k2 : tagsTo kT1 kT1.length = [16] := by decide
theorem k3 : (capAt kB2 kT2 16).tag = false := by decide
theorem k4 : subB kB2 31 1 = [9] := by decide
theorem k5 : ¬ kB1 = kB2 := by decide
theorem k6 : kB1.length = 64 := by decide
theorem k7 : kB2.length = 64 := by decide
theorem k8 : kT1.length = 4 := by decide
theorem k9 : kT2.length = 4 := by decide
theorem k10 : kT1.getD 1 false = true := by decide
theorem k11 : kT2.getD 1 false = false := by decide
theorem k12 : okC (zB 64).length 16 := ⟨⟨by decide, by decide, by decide⟩, by decide⟩
theorem k13 : okC kB1.length 16 := ⟨⟨by decide, by decide, by decide⟩, by decide⟩
theorem k14 : okC kB2.length 16 := ⟨⟨by decide, by decide, by decide⟩, by decide⟩
theorem kC_ok : kC.ok := by unfold CapV.ok kC; decide
theorem k15 : okR kB1.length 31 1 := ⟨by decide, by decide, by decide⟩
theorem k16 : okR kB2.length 31 1 := ⟨by decide, by decide, by decide⟩
theorem k17 : ¬ okR kB2.length 60 5 := fun h => absurd h.2.2 (by decide)

theorem known_ok (w : World) (hG : GoodG w) : Rets Pg n_hasplaw4_known [] w fun v w' => Ext NoB w w' ∧ v = .bool true := by
  
  have hp := hG.pos
  refine rets_of m_hasplaw4_known rfl rfl (St.nil w) ?_
  refine J.go [5,7,12] 900 rfl ?_
  refine JF.callV _ rfl (fun w1 hst => new_ok 64 w1 (by decide)) fun w1 r w2 hst hq => ?_
  obtain ⟨hx, ⟨_, M, rfl, hM, hnew⟩ | ⟨h, _⟩⟩ := hq
  case inr => exact absurd ⟨by decide, by decide, by decide⟩ h
  have hlo := hnew.lo
  have hsz := hst.ext.size
  refine ⟨_, Tr.news hst hx hnew (fun x hx => nomatch hx), ?_⟩
  refine J.go [5,7,12] 900 rfl ?_
  refine JF.callV _ rfl (fun w1 hst => new_ok 17 w1 (by decide)) fun w1 r w2 hst hq => ?_
  obtain ⟨hx, ⟨h, _⟩ | ⟨_, f, rfl, hf⟩⟩ := hq
  · exact absurd h.2.2 (by decide)
  obtain ⟨b, h1, rfl, h2⟩ := hf.tr hst hx
  refine ⟨_, h2, ?_⟩
  refine J.go [5,7,12] 900 rfl ?_
  (repeat' (first | ((first | ((first | refine JF.condD rfl ?_ ?_ | refine JF.condE rfl ?_ ?_ | refine JF.condN rfl ?_ ?_ | refine JF.guardD rfl ?_ ?_ | refine JF.guardE rfl ?_ ?_ | refine JF.guardN rfl ?_ ?_ | refine JF.cond rfl ?_ ?_ | refine JF.guard rfl ?_ ?_) <;> intro h) | refine JF.l1 0 rfl rfl rfl rfl ?_ | refine JF.ln 0 rfl rfl rfl rfl ?_ | refine JF.l1 1 rfl rfl rfl rfl ?_ | refine JF.ln 1 rfl rfl rfl rfl ?_ | refine JF.l1 2 rfl rfl rfl rfl ?_ | refine JF.ln 2 rfl rfl rfl rfl ?_ | refine JF.l1 3 rfl rfl rfl rfl ?_ | refine JF.ln 3 rfl rfl rfl rfl ?_ | refine JF.l1 4 rfl rfl rfl rfl ?_ | refine JF.ln 4 rfl rfl rfl rfl ?_ | refine JF.l1 5 rfl rfl rfl rfl ?_ | refine JF.ln 5 rfl rfl rfl rfl ?_ | refine JF.l1 6 rfl rfl rfl rfl ?_ | refine JF.ln 6 rfl rfl rfl rfl ?_ | refine JF.l1 7 rfl rfl rfl rfl ?_ | refine JF.ln 7 rfl rfl rfl rfl ?_) <;> (first | (exact absurd h Bool.false_ne_true) | (exact absurd h.symm Bool.false_ne_true) | (exfalso; omega) | (exfalso; simp only [IntKind.wrap_i64, IntKind.wrap_i32, IntKind.wrap_u32, IntKind.wrap_u16, IntKind.wrap_u8] at *; omega) | refine J.go [5,7,12] 900 rfl ?_))))
  refine JF.callF _ rfl (fun w1 hst => tells_at (x := true) _ (some (_, _, _)) ⟨#[115, 105, 122, 101]⟩ 17 5 w1 (hG.keep hst.ext (fun h => h)) ⟨b, rfl, hst.blk _ (.head _)⟩ (by simp [tellsB, newAt])) (fun x hx => nomatch hx) ?_
  refine J.go [5,7,12] 900 rfl ?_
  (repeat' (first | ((first | ((first | refine JF.condD rfl ?_ ?_ | refine JF.condE rfl ?_ ?_ | refine JF.condN rfl ?_ ?_ | refine JF.guardD rfl ?_ ?_ | refine JF.guardE rfl ?_ ?_ | refine JF.guardN rfl ?_ ?_ | refine JF.cond rfl ?_ ?_ | refine JF.guard rfl ?_ ?_) <;> intro h) | refine JF.l1 0 rfl rfl rfl rfl ?_ | refine JF.ln 0 rfl rfl rfl rfl ?_ | refine JF.l1 1 rfl rfl rfl rfl ?_ | refine JF.ln 1 rfl rfl rfl rfl ?_ | refine JF.l1 2 rfl rfl rfl rfl ?_ | refine JF.ln 2 rfl rfl rfl rfl ?_ | refine JF.l1 3 rfl rfl rfl rfl ?_ | refine JF.ln 3 rfl rfl rfl rfl ?_ | refine JF.l1 4 rfl rfl rfl rfl ?_ | refine JF.ln 4 rfl rfl rfl rfl ?_ | refine JF.l1 5 rfl rfl rfl rfl ?_ | refine JF.ln 5 rfl rfl rfl rfl ?_ | refine JF.l1 6 rfl rfl rfl rfl ?_ | refine JF.ln 6 rfl rfl rfl rfl ?_ | refine JF.l1 7 rfl rfl rfl rfl ?_ | refine JF.ln 7 rfl rfl rfl rfl ?_) <;> (first | (exact absurd h Bool.false_ne_true) | (exact absurd h.symm Bool.false_ne_true) | (exfalso; omega) | (exfalso; simp only [IntKind.wrap_i64, IntKind.wrap_i32, IntKind.wrap_u32, IntKind.wrap_u16, IntKind.wrap_u8] at *; omega) | refine J.go [5,7,12] 900 rfl ?_))))
  refine JF.drop (L' := memL 85 M true (zB 64) (zT 64)) ((List.sublist_append_left _ _).cons _) ?_
  refine JF.callF _ rfl (fun w1 hst => root_ok 64 w1 (by decide)) (fun x hx => nomatch hx) ?_
  refine J.go [5,7,12] 900 rfl ?_
  refine JF.callV _ rfl (fun w1 hst => storeCap_ok 16 kC kC_ok w1 (hG.keep hst.ext (fun h => h)) ⟨by omega, by omega⟩ (hst.here (List.Sublist.refl _)) hM (by decide) (isB_zB _)) fun w1 r w2 hst hq => ?_
  obtain ⟨hx, ⟨_, rfl, hh⟩ | ⟨h, _⟩⟩ := hq
  case inr => exact absurd k12 h
  refine ⟨_, Tr.memN (A := []) (C := []) (N := []) hst hx hh (News.nil _ _) (fun x hx => nomatch hx), ?_⟩
  have hM1 : okM M kB1 kT1 := okM_of hM (by rw [k6]; rfl) (by rw [k8]; rfl)
  have hB1 : isB kB1 := isB_wrB (isB_zB _) (isB_capB _)
  refine J.go [5,7,12] 900 rfl ?_
  refine JF.drop (L' := memL 85 M true kB1 kT1) (List.Sublist.refl _) ?_
  refine JF.callF _ rfl (fun w1 hst => by
    refine (loadCap_ok 16 w1 (hG.keep hst.ext (fun h => h)) (hst.here (List.Sublist.refl _)) hM1 (by decide) hB1).mono ?_
    rintro v w' ⟨hx, ⟨_, rfl⟩ | ⟨h, _⟩⟩
    · rw [k1]; exact ⟨hx, rfl⟩
    · exact absurd k13 h) (fun x hx => nomatch hx) ?_
  refine J.go [5,7,12] 900 rfl ?_
  -- its tags
  refine JF.callV _ rfl (fun w1 hst => tags_ok w1 (hst.here (List.Sublist.refl _)) hM1) fun w1 r w2 hst hq => ?_
  obtain ⟨hx, E1, hos1, hnew1⟩ := hq
  refine ⟨_, Tr.news hst hx hnew1 (fun x hx => nomatch hx), ?_⟩
  rw [k2] at hos1
  obtain ⟨a1, n1, c1, rfl, hn1, hc1⟩ := hos1.slice
  have hn1' : n1 = 1 := by simpa [inC] using hn1.symm
  subst hn1'
  rcases hos1.inv with ⟨h0, _⟩ | ⟨b1, sp1, rfl, rfl, _⟩
  · cases h0
  refine J.go [5,7,12] 900 rfl ?_
  -- a twin
  refine JF.callV _ rfl (fun w1 hst => twin_ok w1 (hst.here (List.sublist_cons_self _ _)) hM1) fun w1 r w2 hst hq => ?_
  obtain ⟨hx, M', rfl, hM', hnew2⟩ := hq
  refine ⟨_, Tr.news hst hx hnew2 (fun x hx => nomatch hx), ?_⟩
  refine J.go [5,7,12] 900 rfl ?_
  -- a byte
  refine JF.bldS rfl rfl (fun x hx => nomatch hx) fun q hq => ?_
  refine J.go [5,7,12] 900 rfl ?_
  refine JF.callV _ rfl (fun w1 hst => store_ok (l := [9]) 31 w1 (hst.here (((List.sublist_cons_self _ _).trans (List.sublist_append_right _ _)).trans (List.sublist_cons_self _ _))) hM1 (by decide) (rd_fst (sp := []) hst (.head _) rfl rfl rfl) (fun b o hb _ => by
    cases hb
    have h3 := List.pairwise_cons.1 hst.dis
    exact ⟨h3.1 _ (.tail _ (.tail _ (.tail _ (.tail _ (.tail _ (.head _)))))), h3.1 _ (.tail _ (.tail _ (.tail _ (.tail _ (.tail _ (.tail _ (.head _)))))))⟩) (by decide)) fun w1 r w2 hst hq => ?_
  obtain ⟨hx, ⟨_, rfl, hh⟩ | ⟨h, _⟩⟩ := hq
  case inr => exact absurd k15 h
  refine ⟨_, Tr.memN (A := _ :: (memL 85 M' true kB1 kT1 ++ [_])) (C := []) (N := []) hst hx hh (News.nil _ _) (by exact fun x hx => nomatch hx), ?_⟩
  have hM2 : okM M kB2 kT2 := okM_of hM1 (by rw [k7, k6]) (by rw [k9, k8])
  have hB2 : isB kB2 := isB_wrB hB1 (by intro x hx; rw [List.mem_singleton.1 hx]; decide)
  refine J.go [5,7,12] 900 rfl ?_
  refine JF.drop (L' := memL 85 M' true kB1 kT1 ++ (⟨b1, 3, 0, 0, inC [16] ++ sp1, true⟩ :: memL 85 M true kB2 kT2)) (List.sublist_cons_self _ _) ?_
  have hsub : (memL 85 M true kB2 kT2).Sublist (memL 85 M' true kB1 kT1 ++ (⟨b1, 3, 0, 0, inC [16] ++ sp1, true⟩ :: memL 85 M true kB2 kT2)) := (List.sublist_cons_self _ _).trans (List.sublist_append_right _ _)
  refine JF.callF _ rfl (fun w1 hst => by
    refine (loadCap_ok 16 w1 (hG.keep hst.ext (fun h => h)) (hst.here hsub) hM2 (by decide) hB2).mono ?_
    rintro v w' ⟨hx, ⟨_, rfl⟩ | ⟨h, _⟩⟩
    · exact ⟨hx, rfl⟩
    · exact absurd k14 h) (fun x hx => nomatch hx) ?_
  refine J.go [5,7,12] 900 rfl ?_
  -- what lies there
  refine JF.callV _ rfl (fun w1 hst => load_ok 31 1 w1 (hst.here hsub) hM2 (by decide) (by decide)) fun w1 r w2 hst hq => ?_
  obtain ⟨hx, ⟨_, x, E2, rfl, hos2, hnew3⟩ | ⟨h, _⟩⟩ := hq
  case inr => exact absurd k16 h
  refine ⟨_, Tr.news hst hx hnew3 (fun x hx => nomatch hx), ?_⟩
  rw [k4] at hos2
  obtain ⟨a2, n2, c2, rfl, hn2, hc2⟩ := hos2.slice
  have hn2' : n2 = 1 := by simpa [byC] using hn2.symm
  subst hn2'
  rcases hos2.inv with ⟨h0, _⟩ | ⟨b2, sp2, rfl, rfl, _⟩
  · cases h0
  refine J.go [5,7,12] 900 rfl ?_
  refine JF.callV _ rfl (fun w1 hst => load_ok 60 5 w1 (hst.here (hsub.cons _)) hM2 (by decide) (by decide)) fun w1 r w2 hst hq => ?_
  obtain ⟨hx, ⟨h, _⟩ | ⟨_, f, rfl, hf⟩⟩ := hq
  · exact absurd h k17
  obtain ⟨b3, h3, rfl, h4⟩ := hf.tr hst hx
  refine ⟨_, h4, ?_⟩
  refine J.go [5,7,12] 900 rfl ?_
  (repeat' (first | ((first | refine JF.l1 0 rfl rfl rfl rfl ?_ | refine JF.ln 0 rfl rfl rfl rfl ?_ | refine JF.l1 1 rfl rfl rfl rfl ?_ | refine JF.ln 1 rfl rfl rfl rfl ?_ | refine JF.l1 2 rfl rfl rfl rfl ?_ | refine JF.ln 2 rfl rfl rfl rfl ?_ | refine JF.l1 3 rfl rfl rfl rfl ?_ | refine JF.ln 3 rfl rfl rfl rfl ?_ | refine JF.l1 4 rfl rfl rfl rfl ?_ | refine JF.ln 4 rfl rfl rfl rfl ?_ | refine JF.l1 5 rfl rfl rfl rfl ?_ | refine JF.ln 5 rfl rfl rfl rfl ?_ | refine JF.l1 6 rfl rfl rfl rfl ?_ | refine JF.ln 6 rfl rfl rfl rfl ?_ | refine JF.l1 7 rfl rfl rfl rfl ?_ | refine JF.ln 7 rfl rfl rfl rfl ?_); refine J.go [5,7,12] 900 rfl ?_) | (refine JF.chk rfl ?_ ?_; (focus ((repeat' (apply And.intro)) <;> (first | exact True.intro | omega))); refine J.go [5,7,12] 900 rfl ?_) | (((first | refine JF.condD rfl ?_ ?_ | refine JF.condE rfl ?_ ?_ | refine JF.condN rfl ?_ ?_ | refine JF.guardD rfl ?_ ?_ | refine JF.guardE rfl ?_ ?_ | refine JF.guardN rfl ?_ ?_ | refine JF.cond rfl ?_ ?_ | refine JF.guard rfl ?_ ?_) <;> intro h) <;> (first | (exact absurd h Bool.false_ne_true) | (exact absurd h.symm Bool.false_ne_true) | (exact absurd rfl h) | (exfalso; omega) | refine J.go [5,7,12] 900 rfl ?_))))
  refine JF.callF _ rfl (fun w1 hst => size_ok (B := kB2) w1 (hst.here ((hsub.cons _).cons _))) (fun x hx => nomatch hx) ?_
  rw [k7]
  refine J.go [5,7,12] 900 rfl ?_
  (repeat' (first | ((first | refine JF.l1 0 rfl rfl rfl rfl ?_ | refine JF.ln 0 rfl rfl rfl rfl ?_ | refine JF.l1 1 rfl rfl rfl rfl ?_ | refine JF.ln 1 rfl rfl rfl rfl ?_ | refine JF.l1 2 rfl rfl rfl rfl ?_ | refine JF.ln 2 rfl rfl rfl rfl ?_ | refine JF.l1 3 rfl rfl rfl rfl ?_ | refine JF.ln 3 rfl rfl rfl rfl ?_ | refine JF.l1 4 rfl rfl rfl rfl ?_ | refine JF.ln 4 rfl rfl rfl rfl ?_ | refine JF.l1 5 rfl rfl rfl rfl ?_ | refine JF.ln 5 rfl rfl rfl rfl ?_ | refine JF.l1 6 rfl rfl rfl rfl ?_ | refine JF.ln 6 rfl rfl rfl rfl ?_ | refine JF.l1 7 rfl rfl rfl rfl ?_ | refine JF.ln 7 rfl rfl rfl rfl ?_); refine J.go [5,7,12] 900 rfl ?_) | (refine JF.chk rfl ?_ ?_; (focus ((repeat' (apply And.intro)) <;> (first | exact True.intro | omega))); refine J.go [5,7,12] 900 rfl ?_) | (((first | refine JF.condD rfl ?_ ?_ | refine JF.condE rfl ?_ ?_ | refine JF.condN rfl ?_ ?_ | refine JF.guardD rfl ?_ ?_ | refine JF.guardE rfl ?_ ?_ | refine JF.guardN rfl ?_ ?_ | refine JF.cond rfl ?_ ?_ | refine JF.guard rfl ?_ ?_) <;> intro h) <;> (first | (exact absurd h Bool.false_ne_true) | (exact absurd h.symm Bool.false_ne_true) | (exact absurd rfl h) | (exfalso; omega) | refine J.go [5,7,12] 900 rfl ?_))))
  refine JF.callF _ rfl (fun w1 hst => tells_at (x := true) _ (some (_, _, _)) sMem 60 6 w1 (hG.keep hst.ext (fun h => h)) ⟨b3, rfl, hst.blk _ (.head _)⟩ (by simp [tellsB])) (fun x hx => nomatch hx) ?_
  refine J.go [5,7,12] 900 rfl ?_
  (repeat' (first | ((first | refine JF.l1 0 rfl rfl rfl rfl ?_ | refine JF.ln 0 rfl rfl rfl rfl ?_ | refine JF.l1 1 rfl rfl rfl rfl ?_ | refine JF.ln 1 rfl rfl rfl rfl ?_ | refine JF.l1 2 rfl rfl rfl rfl ?_ | refine JF.ln 2 rfl rfl rfl rfl ?_ | refine JF.l1 3 rfl rfl rfl rfl ?_ | refine JF.ln 3 rfl rfl rfl rfl ?_ | refine JF.l1 4 rfl rfl rfl rfl ?_ | refine JF.ln 4 rfl rfl rfl rfl ?_ | refine JF.l1 5 rfl rfl rfl rfl ?_ | refine JF.ln 5 rfl rfl rfl rfl ?_ | refine JF.l1 6 rfl rfl rfl rfl ?_ | refine JF.ln 6 rfl rfl rfl rfl ?_ | refine JF.l1 7 rfl rfl rfl rfl ?_ | refine JF.ln 7 rfl rfl rfl rfl ?_); refine J.go [5,7,12] 900 rfl ?_) | (refine JF.chk rfl ?_ ?_; (focus ((repeat' (apply And.intro)) <;> (first | exact True.intro | omega))); refine J.go [5,7,12] 900 rfl ?_) | (((first | refine JF.condD rfl ?_ ?_ | refine JF.condE rfl ?_ ?_ | refine JF.condN rfl ?_ ?_ | refine JF.guardD rfl ?_ ?_ | refine JF.guardE rfl ?_ ?_ | refine JF.guardN rfl ?_ ?_ | refine JF.cond rfl ?_ ?_ | refine JF.guard rfl ?_ ?_) <;> intro h) <;> (first | (exact absurd h Bool.false_ne_true) | (exact absurd h.symm Bool.false_ne_true) | (exact absurd rfl h) | (exfalso; omega) | refine J.go [5,7,12] 900 rfl ?_))))
  have hsub1 : (memL 85 M' true kB1 kT1).Sublist (memL 85 M' true kB1 kT1 ++ (⟨b1, 3, 0, 0, inC [16] ++ sp1, true⟩ :: memL 85 M true kB2 kT2)) := List.sublist_append_left _ _
  refine JF.callF _ rfl (fun w1 hst => tag_ok 31 w1 (hst.here ((hsub1.cons _).cons _)) hM' (by decide)) (fun x hx => nomatch hx) ?_
  rw [k6, show (31 : Int).toNat / 16 = 1 from rfl, k10]
  refine J.go [5,7,12] 900 rfl ?_
  (repeat' (first | ((first | refine JF.l1 0 rfl rfl rfl rfl ?_ | refine JF.ln 0 rfl rfl rfl rfl ?_ | refine JF.l1 1 rfl rfl rfl rfl ?_ | refine JF.ln 1 rfl rfl rfl rfl ?_ | refine JF.l1 2 rfl rfl rfl rfl ?_ | refine JF.ln 2 rfl rfl rfl rfl ?_ | refine JF.l1 3 rfl rfl rfl rfl ?_ | refine JF.ln 3 rfl rfl rfl rfl ?_ | refine JF.l1 4 rfl rfl rfl rfl ?_ | refine JF.ln 4 rfl rfl rfl rfl ?_ | refine JF.l1 5 rfl rfl rfl rfl ?_ | refine JF.ln 5 rfl rfl rfl rfl ?_ | refine JF.l1 6 rfl rfl rfl rfl ?_ | refine JF.ln 6 rfl rfl rfl rfl ?_ | refine JF.l1 7 rfl rfl rfl rfl ?_ | refine JF.ln 7 rfl rfl rfl rfl ?_); refine J.go [5,7,12] 900 rfl ?_) | (refine JF.chk rfl ?_ ?_; (focus ((repeat' (apply And.intro)) <;> (first | exact True.intro | omega))); refine J.go [5,7,12] 900 rfl ?_) | (((first | refine JF.condD rfl ?_ ?_ | refine JF.condE rfl ?_ ?_ | refine JF.condN rfl ?_ ?_ | refine JF.guardD rfl ?_ ?_ | refine JF.guardE rfl ?_ ?_ | refine JF.guardN rfl ?_ ?_ | refine JF.cond rfl ?_ ?_ | refine JF.guard rfl ?_ ?_) <;> intro h) <;> (first | (exact absurd h Bool.false_ne_true) | (exact absurd h.symm Bool.false_ne_true) | (exact absurd rfl h) | (exfalso; omega) | refine J.go [5,7,12] 900 rfl ?_))))
  refine JF.callF _ rfl (fun w1 hst => tag_ok 31 w1 (hst.here ((hsub.cons _).cons _)) hM2 (by decide)) (fun x hx => nomatch hx) ?_
  rw [k7, show (31 : Int).toNat / 16 = 1 from rfl, k11]
  refine J.go [5,7,12] 900 rfl ?_
  (repeat' (first | ((first | refine JF.l1 0 rfl rfl rfl rfl ?_ | refine JF.ln 0 rfl rfl rfl rfl ?_ | refine JF.l1 1 rfl rfl rfl rfl ?_ | refine JF.ln 1 rfl rfl rfl rfl ?_ | refine JF.l1 2 rfl rfl rfl rfl ?_ | refine JF.ln 2 rfl rfl rfl rfl ?_ | refine JF.l1 3 rfl rfl rfl rfl ?_ | refine JF.ln 3 rfl rfl rfl rfl ?_ | refine JF.l1 4 rfl rfl rfl rfl ?_ | refine JF.ln 4 rfl rfl rfl rfl ?_ | refine JF.l1 5 rfl rfl rfl rfl ?_ | refine JF.ln 5 rfl rfl rfl rfl ?_ | refine JF.l1 6 rfl rfl rfl rfl ?_ | refine JF.ln 6 rfl rfl rfl rfl ?_ | refine JF.l1 7 rfl rfl rfl rfl ?_ | refine JF.ln 7 rfl rfl rfl rfl ?_); refine J.go [5,7,12] 900 rfl ?_) | (refine JF.chk rfl ?_ ?_; (focus ((repeat' (apply And.intro)) <;> (first | exact True.intro | omega))); refine J.go [5,7,12] 900 rfl ?_) | (((first | refine JF.condD rfl ?_ ?_ | refine JF.condE rfl ?_ ?_ | refine JF.condN rfl ?_ ?_ | refine JF.guardD rfl ?_ ?_ | refine JF.guardE rfl ?_ ?_ | refine JF.guardN rfl ?_ ?_ | refine JF.cond rfl ?_ ?_ | refine JF.guard rfl ?_ ?_) <;> intro h) <;> (first | (exact absurd h Bool.false_ne_true) | (exact absurd h.symm Bool.false_ne_true) | (exact absurd rfl h) | (exfalso; omega) | refine J.go [5,7,12] 900 rfl ?_))))
  refine JF.callF _ rfl (fun w1 hst => same_ok w1 (hst.here (List.Sublist.refl _)) (fun x hx => ((hsub1.cons _).cons _).subset hx) (fun x hx => ((hsub.cons _).cons _).subset hx) hM' hM2 hB1 hB2) (fun x hx => nomatch hx) ?_
  rw [decide_eq_false (fun h => k5 h.1)]
  refine J.go [5,7,12] 900 rfl ?_
  (repeat' (first | ((first | refine JF.l1 0 rfl rfl rfl rfl ?_ | refine JF.ln 0 rfl rfl rfl rfl ?_ | refine JF.l1 1 rfl rfl rfl rfl ?_ | refine JF.ln 1 rfl rfl rfl rfl ?_ | refine JF.l1 2 rfl rfl rfl rfl ?_ | refine JF.ln 2 rfl rfl rfl rfl ?_ | refine JF.l1 3 rfl rfl rfl rfl ?_ | refine JF.ln 3 rfl rfl rfl rfl ?_ | refine JF.l1 4 rfl rfl rfl rfl ?_ | refine JF.ln 4 rfl rfl rfl rfl ?_ | refine JF.l1 5 rfl rfl rfl rfl ?_ | refine JF.ln 5 rfl rfl rfl rfl ?_ | refine JF.l1 6 rfl rfl rfl rfl ?_ | refine JF.ln 6 rfl rfl rfl rfl ?_ | refine JF.l1 7 rfl rfl rfl rfl ?_ | refine JF.ln 7 rfl rfl rfl rfl ?_); refine J.go [5,7,12] 900 rfl ?_) | (refine JF.chk rfl ?_ ?_; (focus ((repeat' (apply And.intro)) <;> (first | exact True.intro | omega))); refine J.go [5,7,12] 900 rfl ?_) | (((first | refine JF.condD rfl ?_ ?_ | refine JF.condE rfl ?_ ?_ | refine JF.condN rfl ?_ ?_ | refine JF.guardD rfl ?_ ?_ | refine JF.guardE rfl ?_ ?_ | refine JF.guardN rfl ?_ ?_ | refine JF.cond rfl ?_ ?_ | refine JF.guard rfl ?_ ?_) <;> intro h) <;> (first | (exact absurd h Bool.false_ne_true) | (exact absurd h.symm Bool.false_ne_true) | (exact absurd rfl h) | (exfalso; omega) | refine J.go [5,7,12] 900 rfl ?_))))
  refine JF.callF _ rfl (fun w1 hst => same_ok w1 (hst.here (List.Sublist.refl _)) (fun x hx => ((hsub1.cons _).cons _).subset hx) (fun x hx => ((hsub1.cons _).cons _).subset hx) hM' hM' hB1 hB1) (fun x hx => nomatch hx) ?_
  rw [decide_eq_true ⟨rfl, rfl⟩]
  refine J.go [5,7,12] 900 rfl ?_
  refine JF.ret rfl fun w' hst => ⟨hst.ext, rfl⟩
end Go.HM
