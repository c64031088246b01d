/- hasplaw4's own: whether two memories are alike. -/
import Derived.Test.YtobdcokhmpaooaaDoorKhasplaw4
import Derived.Test.YtobdcokhmpaooaaDoorC11
namespace Go.HM
open Go Go.Proofs
set_option linter.unusedSimpArgs false
set_option linter.unusedVariables false

theorem subB_all (B : List Int) : subB B 0 B.length = B := by simp [subB]

theorem inC_len (l : List Int) : (inC l).length = l.length := by simp [inC]

theorem nth_inC {l : List Int} {o i : Nat} (h : o = i) (hi : i < l.length) : nthL (inC l) o = some (.int .i64 (l.getD i 0)) := by
  subst h
  rw [nthL_eq]
  simp [inC, hi]

theorem same4_ok {t t2 : TypeId} {M X : MB} {r s : Bool} {B : List Int} {T : List Bool} (w : World) (hw : Here w (memL t M r B T ++ memL t2 X s B T)) (hM : okM M B T) (hX : okM X B T) (hB : isB B) :
    Rets Pg n_hasplaw4_Same [.pointer (some ⟨M.bm, 0, none⟩), .pointer (some ⟨X.bm, 0, none⟩)] w fun v w' => Ext NoB w w' ∧ v = .bool true := by
  
  have hM' := hM
  obtain ⟨k1, k2, k3, k4, k5⟩ := hM'
  have hX' := hX
  obtain ⟨j1, j2, j3, j4, j5⟩ := hX'
  refine rets_of m_hasplaw4_Same rfl rfl ((show Here w (memL t M false B T ++ memL t2 X false B T) from hw.ro).start (S := NoB) (by simp)) ?_
  refine J.go [] 900 rfl ?_
  refine JF.draw [] (memL t M false B T ++ memL t2 X false B T) rfl (fun x hx => hx) ?_
  refine J.go [] 900 rfl ?_
  (repeat' (first | ((first | ((first | refine JF.condD rfl ?_ ?_ | refine JF.condE rfl ?_ ?_ | refine JF.condN rfl ?_ ?_ | refine JF.guardD rfl ?_ ?_ | refine JF.guardE rfl ?_ ?_ | refine JF.guardN rfl ?_ ?_ | refine JF.cond rfl ?_ ?_ | refine JF.guard rfl ?_ ?_) <;> intro h) | refine JF.l1 0 rfl rfl rfl rfl ?_ | refine JF.ln 0 rfl rfl rfl rfl ?_ | refine JF.l1 1 rfl rfl rfl rfl ?_ | refine JF.ln 1 rfl rfl rfl rfl ?_ | refine JF.l1 2 rfl rfl rfl rfl ?_ | refine JF.ln 2 rfl rfl rfl rfl ?_ | refine JF.l1 3 rfl rfl rfl rfl ?_ | refine JF.ln 3 rfl rfl rfl rfl ?_ | refine JF.l1 4 rfl rfl rfl rfl ?_ | refine JF.ln 4 rfl rfl rfl rfl ?_ | refine JF.l1 5 rfl rfl rfl rfl ?_ | refine JF.ln 5 rfl rfl rfl rfl ?_ | refine JF.l1 6 rfl rfl rfl rfl ?_ | refine JF.ln 6 rfl rfl rfl rfl ?_ | refine JF.l1 7 rfl rfl rfl rfl ?_ | refine JF.ln 7 rfl rfl rfl rfl ?_) <;> (first | (exact absurd h Bool.false_ne_true) | (exact absurd h.symm Bool.false_ne_true) | (exfalso; omega) | (exfalso; simp only [IntKind.wrap_i64, IntKind.wrap_i32, IntKind.wrap_u32, IntKind.wrap_u16, IntKind.wrap_u8] at *; omega) | refine J.go [] 900 rfl ?_))))
  refine JF.callF _ rfl (fun w1 hst => size_ok w1 (hst.here (List.sublist_append_left _ _))) (fun x hx => hx) ?_
  refine J.go [] 900 rfl ?_
  (repeat' (first | ((first | ((first | refine JF.condD rfl ?_ ?_ | refine JF.condE rfl ?_ ?_ | refine JF.condN rfl ?_ ?_ | refine JF.guardD rfl ?_ ?_ | refine JF.guardE rfl ?_ ?_ | refine JF.guardN rfl ?_ ?_ | refine JF.cond rfl ?_ ?_ | refine JF.guard rfl ?_ ?_) <;> intro h) | refine JF.l1 0 rfl rfl rfl rfl ?_ | refine JF.ln 0 rfl rfl rfl rfl ?_ | refine JF.l1 1 rfl rfl rfl rfl ?_ | refine JF.ln 1 rfl rfl rfl rfl ?_ | refine JF.l1 2 rfl rfl rfl rfl ?_ | refine JF.ln 2 rfl rfl rfl rfl ?_ | refine JF.l1 3 rfl rfl rfl rfl ?_ | refine JF.ln 3 rfl rfl rfl rfl ?_ | refine JF.l1 4 rfl rfl rfl rfl ?_ | refine JF.ln 4 rfl rfl rfl rfl ?_ | refine JF.l1 5 rfl rfl rfl rfl ?_ | refine JF.ln 5 rfl rfl rfl rfl ?_ | refine JF.l1 6 rfl rfl rfl rfl ?_ | refine JF.ln 6 rfl rfl rfl rfl ?_ | refine JF.l1 7 rfl rfl rfl rfl ?_ | refine JF.ln 7 rfl rfl rfl rfl ?_) <;> (first | (exact absurd h Bool.false_ne_true) | (exact absurd h.symm Bool.false_ne_true) | (exfalso; omega) | (exfalso; simp only [IntKind.wrap_i64, IntKind.wrap_i32, IntKind.wrap_u32, IntKind.wrap_u16, IntKind.wrap_u8] at *; omega) | refine J.go [] 900 rfl ?_))))
  refine JF.callV _ rfl (fun w1 hst => load_ok 0 B.length w1 (hst.here (List.sublist_append_left _ _)) hM (by decide) (by constructor <;> omega)) fun w1 r w2 hst hq => ?_
  obtain ⟨hx, ⟨hok, x, E, rfl, hos, hnew⟩ | ⟨hok, f, rfl, hf⟩⟩ := hq
  case inr => exact absurd ⟨by decide, by omega, by omega⟩ hok
  rw [subB_all] at hos
  refine ⟨_, Tr.news hst hx hnew (fun x hx => nomatch hx), ?_⟩
  obtain ⟨a', n', c', rfl, hn', hc'⟩ := hos.slice
  rw [byC_len, Nat.mul_one] at hn'
  subst hn'
  rcases hos.inv with ⟨h0, _⟩ | ⟨b, sp, rfl, rfl, hl1, hl2, hl3⟩
  · have := congrArg List.length h0; rw [byC_len, List.length_nil] at this; omega
  refine J.go [] 900 rfl ?_
  refine JF.callV _ rfl (fun w1 hst => tags_ok w1 (hst.here ((List.sublist_append_left _ _).cons _)) hM) fun w1 r w2 hst hq => ?_
  obtain ⟨hx, E1, hos1, hnew1⟩ := hq
  refine ⟨_, Tr.news hst hx hnew1 (fun x hx => nomatch hx), ?_⟩
  refine J.go [] 900 rfl ?_
  refine JF.callV _ rfl (fun w1 hst => rtags_ok w1 (hst.here (((List.sublist_append_right _ _).cons _).trans (List.sublist_append_right _ _))) hX) fun w1 r' w2 hst hq => ?_
  obtain ⟨hx, E2, hos2, hnew2⟩ := hq
  refine ⟨_, Tr.news hst hx hnew2 (fun x hx => nomatch hx), ?_⟩
  obtain ⟨a1, n1, c1, rfl, hn1, hc1⟩ := hos1.slice
  obtain ⟨a2, n2, c2, rfl, hn2, hc2⟩ := hos2.slice
  rw [inC_len, Nat.mul_one] at hn1 hn2
  obtain rfl := hn1
  obtain rfl := hn2
  refine J.go [] 900 rfl ?_
  have h5 : ∀ x ∈ memL t2 X false B T, x ∈ E2 ++ (E1 ++ (⟨b, 5, 0, 0, byC B ++ sp, true⟩ :: (memL t M false B T ++ memL t2 X false B T))) := fun x hx =>
    List.mem_append.2 (.inr (List.mem_append.2 (.inr (.tail _ (List.mem_append.2 (.inr hx))))))
  have h6 : (⟨b, 5, 0, 0, byC B ++ sp, true⟩ : Ent) ∈ E2 ++ (E1 ++ (⟨b, 5, 0, 0, byC B ++ sp, true⟩ :: (memL t M false B T ++ memL t2 X false B T))) :=
    List.mem_append.2 (.inr (List.mem_append.2 (.inr (.head _))))
  refine JF.draw [] (memL t2 X false B T) rfl h5 ?_
  refine J.go [] 900 rfl ?_
  refine JF.ld1 (md := some []) rfl (.head _) rfl rfl ?_
  refine J.go [] 900 rfl ?_
  have hstr : ∀ w', St w NoB w' (E2 ++ (E1 ++ (⟨b, 5, 0, 0, byC B ++ sp, true⟩ :: (memL t M false B T ++ memL t2 X false B T)))) → RdS w' 1 (.slice (some ⟨b, 0, none⟩) B.length c') (byC B) B.length := fun w' hst => rd_fst hst h6 rfl rfl (byC_len _)
  have hstx : ∀ w', St w NoB w' (E2 ++ (E1 ++ (⟨b, 5, 0, 0, byC B ++ sp, true⟩ :: (memL t M false B T ++ memL t2 X false B T)))) → RdS w' 1 (.slice (some ⟨X.bb, 0, none⟩) B.length X.cb) (byC B) B.length := fun w' hst => rd_fst hst (h5 _ (.tail _ (.head _))) rfl rfl (byC_len _)
  refine JF.both ?_ ?_
  all_goals
    refine J.go [] 900 rfl ?_
    refine JF.str rfl (by first | exact hstr | exact hstx) h5 ?_
    refine J.go [] 900 rfl ?_
    refine JF.str rfl (by first | exact hstr | exact hstx) h5 ?_
    refine J.go [] 900 rfl ?_
    rw [show (!((byS B).toList == (byS B).toList)) = false from by simp]
    refine J.go [] 900 rfl ?_
    (repeat' (first | ((first | ((first | refine JF.condD rfl ?_ ?_ | refine JF.condE rfl ?_ ?_ | refine JF.condN rfl ?_ ?_ | refine JF.guardD rfl ?_ ?_ | refine JF.guardE rfl ?_ ?_ | refine JF.guardN rfl ?_ ?_ | refine JF.cond rfl ?_ ?_ | refine JF.guard rfl ?_ ?_) <;> intro h) | refine JF.l1 0 rfl rfl rfl rfl ?_ | refine JF.ln 0 rfl rfl rfl rfl ?_ | refine JF.l1 1 rfl rfl rfl rfl ?_ | refine JF.ln 1 rfl rfl rfl rfl ?_ | refine JF.l1 2 rfl rfl rfl rfl ?_ | refine JF.ln 2 rfl rfl rfl rfl ?_ | refine JF.l1 3 rfl rfl rfl rfl ?_ | refine JF.ln 3 rfl rfl rfl rfl ?_ | refine JF.l1 4 rfl rfl rfl rfl ?_ | refine JF.ln 4 rfl rfl rfl rfl ?_ | refine JF.l1 5 rfl rfl rfl rfl ?_ | refine JF.ln 5 rfl rfl rfl rfl ?_ | refine JF.l1 6 rfl rfl rfl rfl ?_ | refine JF.ln 6 rfl rfl rfl rfl ?_ | refine JF.l1 7 rfl rfl rfl rfl ?_ | refine JF.ln 7 rfl rfl rfl rfl ?_) <;> (first | (exact absurd h Bool.false_ne_true) | (exact absurd h.symm Bool.false_ne_true) | (exfalso; omega) | (exfalso; simp only [IntKind.wrap_i64, IntKind.wrap_i32, IntKind.wrap_u32, IntKind.wrap_u16, IntKind.wrap_u8] at *; omega) | refine J.go [] 900 rfl ?_))))
    refine JF.loop (σ := Nat) (fun i => [(9, .v (.int .i64 (i : Int))), (7, .v (.slice a1 (tagsTo T T.length).length c1)), (8, .v (.slice a2 (tagsTo T T.length).length c2))]) (fun _ => [])
      (fun _ => E2 ++ (E1 ++ (⟨b, 5, 0, 0, byC B ++ sp, true⟩ :: (memL t M false B T ++ memL t2 X false B T)))) (fun i => i ≤ (tagsTo T T.length).length) (fun i => (tagsTo T T.length).length - i) 0 (Nat.zero_le _) ⟨rfl, rfl, rfl, trivial⟩ trivial (List.Sublist.refl _) ?_
    intro i hi
    try dsimp only
    have htl := tagsTo_len T T.length
    rcases Nat.lt_or_ge i (tagsTo T T.length).length with hlt | hge
    · have e1 : IntKind.i64.wrap ((i : Int) + 1) = ((i + 1 : Nat) : Int) := by rw [IntKind.wrap_i64]; omega
      rcases hos1.inv with ⟨h0, _⟩ | ⟨b1, sp1, rfl, rfl, _⟩
      · have := congrArg List.length h0; rw [inC_len, List.length_nil] at this; omega
      rcases hos2.inv with ⟨h0, _⟩ | ⟨b2, sp2, rfl, rfl, _⟩
      · have := congrArg List.length h0; rw [inC_len, List.length_nil] at this; omega
      refine J.go [] 900 rfl ?_
      (repeat' (first | ((first | ((first | refine JF.condD rfl ?_ ?_ | refine JF.condE rfl ?_ ?_ | refine JF.condN rfl ?_ ?_ | refine JF.guardD rfl ?_ ?_ | refine JF.guardE rfl ?_ ?_ | refine JF.guardN rfl ?_ ?_ | refine JF.cond rfl ?_ ?_ | refine JF.guard rfl ?_ ?_) <;> intro h) | refine JF.l1 0 rfl rfl rfl rfl ?_ | refine JF.ln 0 rfl rfl rfl rfl ?_ | refine JF.l1 1 rfl rfl rfl rfl ?_ | refine JF.ln 1 rfl rfl rfl rfl ?_ | refine JF.l1 2 rfl rfl rfl rfl ?_ | refine JF.ln 2 rfl rfl rfl rfl ?_ | refine JF.l1 3 rfl rfl rfl rfl ?_ | refine JF.ln 3 rfl rfl rfl rfl ?_ | refine JF.l1 4 rfl rfl rfl rfl ?_ | refine JF.ln 4 rfl rfl rfl rfl ?_ | refine JF.l1 5 rfl rfl rfl rfl ?_ | refine JF.ln 5 rfl rfl rfl rfl ?_ | refine JF.l1 6 rfl rfl rfl rfl ?_ | refine JF.ln 6 rfl rfl rfl rfl ?_ | refine JF.l1 7 rfl rfl rfl rfl ?_ | refine JF.ln 7 rfl rfl rfl rfl ?_) <;> (first | (exact absurd h Bool.false_ne_true) | (exact absurd h.symm Bool.false_ne_true) | (exfalso; omega) | (exfalso; simp only [IntKind.wrap_i64, IntKind.wrap_i32, IntKind.wrap_u32, IntKind.wrap_u16, IntKind.wrap_u8] at *; omega) | refine J.go [] 900 rfl ?_))))
      refine JF.draw [] [⟨b2, 3, 0, 0, inC (tagsTo T T.length) ++ sp2, true⟩, ⟨b1, 3, 0, 0, inC (tagsTo T T.length) ++ sp1, true⟩] rfl (fun x hx => List.Sublist.subset ((List.Sublist.refl _).append (List.sublist_append_left _ _)) hx) ?_
      refine J.go [] 900 rfl ?_
      (refine JF.chk rfl ?_ ?_; (focus ((repeat' (apply And.intro)) <;> (first | exact True.intro | (first | omega | (simp only [IntKind.wrap_i64, IntKind.wrap_i32, IntKind.wrap_u64, IntKind.wrap_u32, IntKind.wrap_u16, IntKind.wrap_u8] at *; omega))))))
      refine J.go [] 900 rfl ?_
      refine JF.ld1 (md := some []) (v := .int .i64 ((tagsTo T T.length).getD i 0)) rfl (.tail _ (.head _)) rfl (nthL_app (nth_inC (by omega) hlt)) ?_
      refine J.go [] 900 rfl ?_
      (refine JF.chk rfl ?_ ?_; (focus ((repeat' (apply And.intro)) <;> (first | exact True.intro | (first | omega | (simp only [IntKind.wrap_i64, IntKind.wrap_i32, IntKind.wrap_u64, IntKind.wrap_u32, IntKind.wrap_u16, IntKind.wrap_u8] at *; omega))))))
      refine J.go [] 900 rfl ?_
      refine JF.ld1 (md := some []) (v := .int .i64 ((tagsTo T T.length).getD i 0)) rfl (.head _) rfl (nthL_app (nth_inC (by omega) hlt)) ?_
      refine J.go [] 900 rfl ?_
      (repeat' (first | ((first | ((first | refine JF.condD rfl ?_ ?_ | refine JF.condE rfl ?_ ?_ | refine JF.condN rfl ?_ ?_ | refine JF.guardD rfl ?_ ?_ | refine JF.guardE rfl ?_ ?_ | refine JF.guardN rfl ?_ ?_ | refine JF.cond rfl ?_ ?_ | refine JF.guard rfl ?_ ?_) <;> intro h) | refine JF.l1 0 rfl rfl rfl rfl ?_ | refine JF.ln 0 rfl rfl rfl rfl ?_ | refine JF.l1 1 rfl rfl rfl rfl ?_ | refine JF.ln 1 rfl rfl rfl rfl ?_ | refine JF.l1 2 rfl rfl rfl rfl ?_ | refine JF.ln 2 rfl rfl rfl rfl ?_ | refine JF.l1 3 rfl rfl rfl rfl ?_ | refine JF.ln 3 rfl rfl rfl rfl ?_ | refine JF.l1 4 rfl rfl rfl rfl ?_ | refine JF.ln 4 rfl rfl rfl rfl ?_ | refine JF.l1 5 rfl rfl rfl rfl ?_ | refine JF.ln 5 rfl rfl rfl rfl ?_ | refine JF.l1 6 rfl rfl rfl rfl ?_ | refine JF.ln 6 rfl rfl rfl rfl ?_ | refine JF.l1 7 rfl rfl rfl rfl ?_ | refine JF.ln 7 rfl rfl rfl rfl ?_) <;> (first | (exact absurd h Bool.false_ne_true) | (exact absurd h.symm Bool.false_ne_true) | (exfalso; omega) | (exfalso; simp only [IntKind.wrap_i64, IntKind.wrap_i32, IntKind.wrap_u32, IntKind.wrap_u16, IntKind.wrap_u8] at *; omega) | refine J.go [] 900 rfl ?_))))
      rw [e1]
      exact JF.round (i + 1) hlt (by omega) ⟨rfl, rfl, rfl, trivial⟩ trivial (List.Sublist.refl _)
    · refine J.go [] 900 rfl ?_
      (repeat' (first | ((first | ((first | refine JF.condD rfl ?_ ?_ | refine JF.condE rfl ?_ ?_ | refine JF.condN rfl ?_ ?_ | refine JF.guardD rfl ?_ ?_ | refine JF.guardE rfl ?_ ?_ | refine JF.guardN rfl ?_ ?_ | refine JF.cond rfl ?_ ?_ | refine JF.guard rfl ?_ ?_) <;> intro h) | refine JF.l1 0 rfl rfl rfl rfl ?_ | refine JF.ln 0 rfl rfl rfl rfl ?_ | refine JF.l1 1 rfl rfl rfl rfl ?_ | refine JF.ln 1 rfl rfl rfl rfl ?_ | refine JF.l1 2 rfl rfl rfl rfl ?_ | refine JF.ln 2 rfl rfl rfl rfl ?_ | refine JF.l1 3 rfl rfl rfl rfl ?_ | refine JF.ln 3 rfl rfl rfl rfl ?_ | refine JF.l1 4 rfl rfl rfl rfl ?_ | refine JF.ln 4 rfl rfl rfl rfl ?_ | refine JF.l1 5 rfl rfl rfl rfl ?_ | refine JF.ln 5 rfl rfl rfl rfl ?_ | refine JF.l1 6 rfl rfl rfl rfl ?_ | refine JF.ln 6 rfl rfl rfl rfl ?_ | refine JF.l1 7 rfl rfl rfl rfl ?_ | refine JF.ln 7 rfl rfl rfl rfl ?_) <;> (first | (exact absurd h Bool.false_ne_true) | (exact absurd h.symm Bool.false_ne_true) | (exfalso; omega) | (exfalso; simp only [IntKind.wrap_i64, IntKind.wrap_i32, IntKind.wrap_u32, IntKind.wrap_u16, IntKind.wrap_u8] at *; omega) | refine J.go [] 900 rfl ?_))))
      refine JF.ret rfl fun w' hst => ⟨hst.ext, rfl⟩
end Go.HM
