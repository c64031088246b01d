/- A memory is made, is made anew, is asked: contracts. -/
import Derived.Test.YtobdcokhmpaooaaDoorKhaspref11
import Derived.Test.YtobdcokhmpaooaaDoorKmem
import Derived.Test.YtobdcokhmpaooaaDoorC3
namespace Go.HM
open Go Go.Proofs
set_option linter.unusedSimpArgs false
set_option linter.unusedVariables false

/-- May a memory have so many bytes? -/
def okN (n : Int) : Prop := 16 ≤ n ∧ n ≤ 65536 ∧ n % 16 = 0

def zB (n : Int) : List Int := List.replicate n.toNat 0
def zT (n : Int) : List Bool := List.replicate (n.toNat / 16) false

theorem byC_rep (n : Nat) (v : Int) : byC (List.replicate n v) = List.replicate n (.int .u8 v) := by simp [byC]

theorem here_cons {w : World} {x : Ent} {L : List Ent} (h : Here w L) (hb : w.heap[x.b]? = some x.obj) (hd : ∀ y ∈ L, x.b ≠ y.b) : Here w (x :: L) :=
  ⟨fun y hy => by rcases List.mem_cons.1 hy with rfl | hy; exact hb; exact h.1 y hy, List.pairwise_cons.2 ⟨hd, h.2⟩⟩

theorem news_mem {w w' : World} {t : TypeId} {M : MB} {r : Bool} {B : List Int} {T : List Bool} (g1 : w'.heap[M.bm]? = some (.cells #[.slice (some ⟨M.bb, 0, none⟩) B.length M.cb, .slice (some ⟨M.bt, 0, none⟩) T.length M.ct] t (0, 0)))
    (g2 : w'.heap[M.bb]? = some (.cells (byC B ++ M.sb).toArray 5 (0, 0))) (g3 : w'.heap[M.bt]? = some (.cells (T.map Value.bool ++ M.st).toArray 4 (0, 0))) (d1 : M.bm ≠ M.bb) (d2 : M.bm ≠ M.bt) (d3 : M.bb ≠ M.bt) (k1 : w.heap.size ≤ M.bm) (k2 : w.heap.size ≤ M.bb) (k3 : w.heap.size ≤ M.bt) :
    News w w' (memL t M r B T) := by
  refine ⟨⟨fun x hx => ?_, by simp [d1, d2, d3]⟩, fun x hx => ?_⟩
  · simp only [List.mem_cons, List.not_mem_nil, or_false] at hx
    rcases hx with rfl | rfl | rfl
    · exact g1
    · exact g2
    · exact g3
  · simp only [List.mem_cons, List.not_mem_nil, or_false] at hx
    rcases hx with rfl | rfl | rfl <;> assumption

/-- What New's error says. -/
def newAt (n : Int) : Int := if 16 ≤ n ∧ n ≤ 65536 then 5 else 6

theorem new_ok (n : Int) (w : World) (hn : isI64 n) : Rets Pg n_mem_New [.int .i64 n] w fun v w' => Ext NoB w w' ∧
    ((okN n ∧ ∃ M, v = .tuple #[.pointer (some ⟨M.bm, 0, none⟩), .nilIface] ∧ okM M (zB n) (zT n) ∧ News w w' (memL 85 M true (zB n) (zT n))) ∨
     (¬ okN n ∧ ∃ f, v = .tuple #[.pointer none, f] ∧ FaultAt w w' ⟨#[115, 105, 122, 101]⟩ n (newAt n) f)) := by
  
  by_cases hok : okN n
  · have hok' := hok
    obtain ⟨h1, h2, h3⟩ := hok'
    have e1 : IntKind.i64.wrap (n.tdiv 16) = ((n.toNat / 16 : Nat) : Int) := by rw [IntKind.wrap_i64, Int.tdiv_eq_ediv_of_nonneg (by omega)]; omega
    have e2 : n.tmod 16 = 0 := by rw [Int.tmod_eq_emod_of_nonneg (by omega)]; omega
    have l1 : (zB n).length = n.toNat := by simp [zB]
    have l2 : (zT n).length = n.toNat / 16 := by simp [zT]
    refine rets_of m_mem_New rfl rfl (St.nil w) ?_
    refine J.go [] 900 rfl ?_
    (repeat' (first | ((first | ((first | refine JF.condD rfl ?_ ?_ | refine JF.condE rfl ?_ ?_ | refine JF.condN rfl ?_ ?_ | refine JF.guardD rfl ?_ ?_ | refine JF.guardE rfl ?_ ?_ | refine JF.guardN rfl ?_ ?_ | refine JF.cond rfl ?_ ?_ | refine JF.guard rfl ?_ ?_) <;> intro h) | refine JF.l1 0 rfl rfl rfl rfl ?_ | refine JF.ln 0 rfl rfl rfl rfl ?_ | refine JF.l1 1 rfl rfl rfl rfl ?_ | refine JF.ln 1 rfl rfl rfl rfl ?_ | refine JF.l1 2 rfl rfl rfl rfl ?_ | refine JF.ln 2 rfl rfl rfl rfl ?_ | refine JF.l1 3 rfl rfl rfl rfl ?_ | refine JF.ln 3 rfl rfl rfl rfl ?_ | refine JF.l1 4 rfl rfl rfl rfl ?_ | refine JF.ln 4 rfl rfl rfl rfl ?_ | refine JF.l1 5 rfl rfl rfl rfl ?_ | refine JF.ln 5 rfl rfl rfl rfl ?_ | refine JF.l1 6 rfl rfl rfl rfl ?_ | refine JF.ln 6 rfl rfl rfl rfl ?_ | refine JF.l1 7 rfl rfl rfl rfl ?_ | refine JF.ln 7 rfl rfl rfl rfl ?_) <;> (first | (exact absurd h Bool.false_ne_true) | (exact absurd h.symm Bool.false_ne_true) | (exfalso; omega) | (exfalso; simp only [IntKind.wrap_i64, IntKind.wrap_i32, IntKind.wrap_u32, IntKind.wrap_u16, IntKind.wrap_u8] at *; omega) | refine J.go [] 900 rfl ?_))))
    refine JF.draw [] [] rfl (by simp) ?_
    refine J.go [] 900 rfl ?_
    rw [e1]
    refine JF.both ?_ ?_
    all_goals refine J.go [] 900 rfl ?_
    · refine JF.mk1 rfl rfl u_bytes y_byte rfl (by omega) (Int.le_refl _) (by omega) (by omega) (fun x hx => nomatch hx) fun bb hbb => ?_
      refine J.go [] 900 rfl ?_
      refine JF.mk1 rfl rfl u_bools y_bool rfl (by omega) (Int.le_refl _) (by omega) (by omega) (fun x hx => nomatch hx) fun bt hbt => ?_
      refine J.go [] 900 rfl ?_
      refine JF.bx rfl (by simp [mdL]) fun bm hbm => ?_
      refine J.go [] 900 rfl ?_
      refine JF.ret rfl fun w' hst => ⟨hst.ext, .inl ⟨hok, ⟨bm, bb, bt, n.toNat, n.toNat / 16, [], []⟩, rfl, ⟨by simp only; omega, by simp only; omega, by omega, by omega, by omega⟩, ?_⟩⟩
      have hd := hst.dis
      simp only [List.pairwise_cons, List.mem_cons, List.not_mem_nil, or_false, forall_eq_or_imp, forall_eq] at hd
      refine news_mem ?_ ?_ ?_ hd.1.2 hd.1.1 (fun h => hd.2.1 h.symm) hbm hbb hbt
      · rw [l1, l2]; exact hst.blk _ (.head _)
      · rw [zB, byC_rep, List.append_nil]; exact hst.blk _ (.tail _ (.tail _ (.head _)))
      · rw [zT, List.map_replicate, List.append_nil]; exact hst.blk _ (.tail _ (.head _))
    · refine JF.mk1 rfl rfl u_bools y_bool rfl (by omega) (Int.le_refl _) (by omega) (by omega) (fun x hx => nomatch hx) fun bt hbt => ?_
      refine J.go [] 900 rfl ?_
      refine JF.mk1 rfl rfl u_bytes y_byte rfl (by omega) (Int.le_refl _) (by omega) (by omega) (fun x hx => nomatch hx) fun bb hbb => ?_
      refine J.go [] 900 rfl ?_
      refine JF.bx rfl (by simp [mdL]) fun bm hbm => ?_
      refine J.go [] 900 rfl ?_
      refine JF.ret rfl fun w' hst => ⟨hst.ext, .inl ⟨hok, ⟨bm, bb, bt, n.toNat, n.toNat / 16, [], []⟩, rfl, ⟨by simp only; omega, by simp only; omega, by omega, by omega, by omega⟩, ?_⟩⟩
      have hd := hst.dis
      simp only [List.pairwise_cons, List.mem_cons, List.not_mem_nil, or_false, forall_eq_or_imp, forall_eq] at hd
      refine news_mem ?_ ?_ ?_ hd.1.1 hd.1.2 hd.2.1 hbm hbb hbt
      · rw [l1, l2]; exact hst.blk _ (.head _)
      · rw [zB, byC_rep, List.append_nil]; exact hst.blk _ (.tail _ (.head _))
      · rw [zT, List.map_replicate, List.append_nil]; exact hst.blk _ (.tail _ (.tail _ (.head _)))
  · have e2 : 16 ≤ n → n ≤ 65536 → n.tmod 16 ≠ 0 := fun h1 h2 h3 => hok ⟨h1, h2, by rw [Int.tmod_eq_emod_of_nonneg (by omega)] at h3; exact h3⟩
    refine rets_of m_mem_New rfl rfl (St.nil w) ?_
    refine J.go [] 900 rfl ?_
    (repeat' (first | ((first | ((first | refine JF.condD rfl ?_ ?_ | refine JF.condE rfl ?_ ?_ | refine JF.condN rfl ?_ ?_ | refine JF.guardD rfl ?_ ?_ | refine JF.guardE rfl ?_ ?_ | refine JF.guardN rfl ?_ ?_ | refine JF.cond rfl ?_ ?_ | refine JF.guard rfl ?_ ?_) <;> intro h) | refine JF.l1 0 rfl rfl rfl rfl ?_ | refine JF.ln 0 rfl rfl rfl rfl ?_ | refine JF.l1 1 rfl rfl rfl rfl ?_ | refine JF.ln 1 rfl rfl rfl rfl ?_ | refine JF.l1 2 rfl rfl rfl rfl ?_ | refine JF.ln 2 rfl rfl rfl rfl ?_ | refine JF.l1 3 rfl rfl rfl rfl ?_ | refine JF.ln 3 rfl rfl rfl rfl ?_ | refine JF.l1 4 rfl rfl rfl rfl ?_ | refine JF.ln 4 rfl rfl rfl rfl ?_ | refine JF.l1 5 rfl rfl rfl rfl ?_ | refine JF.ln 5 rfl rfl rfl rfl ?_ | refine JF.l1 6 rfl rfl rfl rfl ?_ | refine JF.ln 6 rfl rfl rfl rfl ?_ | refine JF.l1 7 rfl rfl rfl rfl ?_ | refine JF.ln 7 rfl rfl rfl rfl ?_) <;> (first | (exact absurd h Bool.false_ne_true) | (exact absurd h.symm Bool.false_ne_true) | (exfalso; omega) | (exfalso; simp only [IntKind.wrap_i64, IntKind.wrap_i32, IntKind.wrap_u32, IntKind.wrap_u16, IntKind.wrap_u8] at *; omega) | refine J.go [] 900 rfl ?_))))
    all_goals
      first
      | (exfalso; exact e2 (by omega) (by omega) (by assumption))
      | skip
    all_goals
      refine JF.callV _ rfl (fun w _ => fault_ok _ _ _ w) fun w r w' hst hq => ?_
      obtain ⟨b, h1, rfl, h2⟩ := hq.2.tr hst hq.1
      refine ⟨_, h2, ?_⟩
      refine J.go [] 900 rfl ?_
      refine JF.ret rfl fun w' hst => ⟨hst.ext, .inr ⟨hok, _, rfl, b, h1, rfl, ?_⟩⟩
      have := hst.blk _ (List.Mem.head _)
      unfold newAt
      first
      | rw [if_pos (by omega)]; exact this
      | rw [if_neg (by omega)]; exact this
theorem rnew_ok (n : Int) (w : World) (hn : isI64 n) : Rets Pg n_haspref11_NewMem [.int .i64 n] w fun v w' => Ext NoB w w' ∧
    ((okN n ∧ ∃ M, v = .tuple #[.pointer (some ⟨M.bm, 0, none⟩), wr0] ∧ okM M (zB n) (zT n) ∧ News w w' (memL 61 M true (zB n) (zT n))) ∨
     (¬ okN n ∧ v = .tuple #[.pointer none, wrV ⟨#[115, 105, 122, 101]⟩ n (newAt n)])) := by
  
  by_cases hok : okN n
  · have hok' := hok
    obtain ⟨h1, h2, h3⟩ := hok'
    have e1 : IntKind.i64.wrap (n.tdiv 16) = ((n.toNat / 16 : Nat) : Int) := by rw [IntKind.wrap_i64, Int.tdiv_eq_ediv_of_nonneg (by omega)]; omega
    have e2 : n.tmod 16 = 0 := by rw [Int.tmod_eq_emod_of_nonneg (by omega)]; omega
    have l1 : (zB n).length = n.toNat := by simp [zB]
    have l2 : (zT n).length = n.toNat / 16 := by simp [zT]
    refine rets_of m_haspref11_NewMem rfl rfl (St.nil w) ?_
    refine J.go [3] 900 rfl ?_
    (repeat' (first | ((first | ((first | refine JF.condD rfl ?_ ?_ | refine JF.condE rfl ?_ ?_ | refine JF.condN rfl ?_ ?_ | refine JF.guardD rfl ?_ ?_ | refine JF.guardE rfl ?_ ?_ | refine JF.guardN rfl ?_ ?_ | refine JF.cond rfl ?_ ?_ | refine JF.guard rfl ?_ ?_) <;> intro h) | refine JF.l1 0 rfl rfl rfl rfl ?_ | refine JF.ln 0 rfl rfl rfl rfl ?_ | refine JF.l1 1 rfl rfl rfl rfl ?_ | refine JF.ln 1 rfl rfl rfl rfl ?_ | refine JF.l1 2 rfl rfl rfl rfl ?_ | refine JF.ln 2 rfl rfl rfl rfl ?_ | refine JF.l1 3 rfl rfl rfl rfl ?_ | refine JF.ln 3 rfl rfl rfl rfl ?_ | refine JF.l1 4 rfl rfl rfl rfl ?_ | refine JF.ln 4 rfl rfl rfl rfl ?_ | refine JF.l1 5 rfl rfl rfl rfl ?_ | refine JF.ln 5 rfl rfl rfl rfl ?_ | refine JF.l1 6 rfl rfl rfl rfl ?_ | refine JF.ln 6 rfl rfl rfl rfl ?_ | refine JF.l1 7 rfl rfl rfl rfl ?_ | refine JF.ln 7 rfl rfl rfl rfl ?_) <;> (first | (exact absurd h Bool.false_ne_true) | (exact absurd h.symm Bool.false_ne_true) | (exfalso; omega) | (exfalso; simp only [IntKind.wrap_i64, IntKind.wrap_i32, IntKind.wrap_u32, IntKind.wrap_u16, IntKind.wrap_u8] at *; omega) | refine J.go [3] 900 rfl ?_))))
    refine JF.draw [] [] rfl (by simp) ?_
    refine J.go [3] 900 rfl ?_
    rw [e1]
    refine JF.both ?_ ?_
    all_goals refine J.go [3] 900 rfl ?_
    · refine JF.mk1 rfl rfl u_bytes y_byte rfl (by omega) (Int.le_refl _) (by omega) (by omega) (fun x hx => nomatch hx) fun bb hbb => ?_
      refine J.go [3] 900 rfl ?_
      refine JF.mk1 rfl rfl u_bools y_bool rfl (by omega) (Int.le_refl _) (by omega) (by omega) (fun x hx => nomatch hx) fun bt hbt => ?_
      refine J.go [3] 900 rfl ?_
      refine JF.bx rfl (by simp [mdL]) fun bm hbm => ?_
      refine J.go [3] 900 rfl ?_
      refine JF.ret rfl fun w' hst => ⟨hst.ext, .inl ⟨hok, ⟨bm, bb, bt, n.toNat, n.toNat / 16, [], []⟩, rfl, ⟨by simp only; omega, by simp only; omega, by omega, by omega, by omega⟩, ?_⟩⟩
      have hd := hst.dis
      simp only [List.pairwise_cons, List.mem_cons, List.not_mem_nil, or_false, forall_eq_or_imp, forall_eq] at hd
      refine news_mem ?_ ?_ ?_ hd.1.2 hd.1.1 (fun h => hd.2.1 h.symm) hbm hbb hbt
      · rw [l1, l2]; exact hst.blk _ (.head _)
      · rw [zB, byC_rep, List.append_nil]; exact hst.blk _ (.tail _ (.tail _ (.head _)))
      · rw [zT, List.map_replicate, List.append_nil]; exact hst.blk _ (.tail _ (.head _))
    · refine JF.mk1 rfl rfl u_bools y_bool rfl (by omega) (Int.le_refl _) (by omega) (by omega) (fun x hx => nomatch hx) fun bt hbt => ?_
      refine J.go [3] 900 rfl ?_
      refine JF.mk1 rfl rfl u_bytes y_byte rfl (by omega) (Int.le_refl _) (by omega) (by omega) (fun x hx => nomatch hx) fun bb hbb => ?_
      refine J.go [3] 900 rfl ?_
      refine JF.bx rfl (by simp [mdL]) fun bm hbm => ?_
      refine J.go [3] 900 rfl ?_
      refine JF.ret rfl fun w' hst => ⟨hst.ext, .inl ⟨hok, ⟨bm, bb, bt, n.toNat, n.toNat / 16, [], []⟩, rfl, ⟨by simp only; omega, by simp only; omega, by omega, by omega, by omega⟩, ?_⟩⟩
      have hd := hst.dis
      simp only [List.pairwise_cons, List.mem_cons, List.not_mem_nil, or_false, forall_eq_or_imp, forall_eq] at hd
      refine news_mem ?_ ?_ ?_ hd.1.1 hd.1.2 hd.2.1 hbm hbb hbt
      · rw [l1, l2]; exact hst.blk _ (.head _)
      · rw [zB, byC_rep, List.append_nil]; exact hst.blk _ (.tail _ (.head _))
      · rw [zT, List.map_replicate, List.append_nil]; exact hst.blk _ (.tail _ (.tail _ (.head _)))
  · have e2 : 16 ≤ n → n ≤ 65536 → n.tmod 16 ≠ 0 := fun h1 h2 h3 => hok ⟨h1, h2, by rw [Int.tmod_eq_emod_of_nonneg (by omega)] at h3; exact h3⟩
    refine rets_of m_haspref11_NewMem rfl rfl (St.nil w) ?_
    refine J.go [3] 900 rfl ?_
    (repeat' (first | ((first | ((first | refine JF.condD rfl ?_ ?_ | refine JF.condE rfl ?_ ?_ | refine JF.condN rfl ?_ ?_ | refine JF.guardD rfl ?_ ?_ | refine JF.guardE rfl ?_ ?_ | refine JF.guardN rfl ?_ ?_ | refine JF.cond rfl ?_ ?_ | refine JF.guard rfl ?_ ?_) <;> intro h) | refine JF.l1 0 rfl rfl rfl rfl ?_ | refine JF.ln 0 rfl rfl rfl rfl ?_ | refine JF.l1 1 rfl rfl rfl rfl ?_ | refine JF.ln 1 rfl rfl rfl rfl ?_ | refine JF.l1 2 rfl rfl rfl rfl ?_ | refine JF.ln 2 rfl rfl rfl rfl ?_ | refine JF.l1 3 rfl rfl rfl rfl ?_ | refine JF.ln 3 rfl rfl rfl rfl ?_ | refine JF.l1 4 rfl rfl rfl rfl ?_ | refine JF.ln 4 rfl rfl rfl rfl ?_ | refine JF.l1 5 rfl rfl rfl rfl ?_ | refine JF.ln 5 rfl rfl rfl rfl ?_ | refine JF.l1 6 rfl rfl rfl rfl ?_ | refine JF.ln 6 rfl rfl rfl rfl ?_ | refine JF.l1 7 rfl rfl rfl rfl ?_ | refine JF.ln 7 rfl rfl rfl rfl ?_) <;> (first | (exact absurd h Bool.false_ne_true) | (exact absurd h.symm Bool.false_ne_true) | (exfalso; omega) | (exfalso; simp only [IntKind.wrap_i64, IntKind.wrap_i32, IntKind.wrap_u32, IntKind.wrap_u16, IntKind.wrap_u8] at *; omega) | refine J.go [3] 900 rfl ?_))))
    all_goals
      first
      | (exfalso; exact e2 (by omega) (by omega) (by assumption))
      | skip
    all_goals
      refine JF.ret rfl fun w' hst => ⟨hst.ext, .inr ⟨hok, ?_⟩⟩
      unfold newAt
      first
      | rw [if_pos (by omega)]; rfl
      | rw [if_neg (by omega)]; rfl


theorem zero_ok {t : TypeId} {M : MB} {B : List Int} {T : List Bool} (a n : Int) (w : World) (hw : Here w (memL t M true B T)) (hM : okM M B T) (ha : isI64 a) (hn : isI64 n) :
    Rets Pg n_mem_Mem_Zero [.pointer (some ⟨M.bm, 0, none⟩), .int .i64 a, .int .i64 n] w fun v w' =>
      Ext (fun x => x = M.bb ∨ x = M.bt) w w' ∧
      ((okR B.length a n ∧ v = .nilIface ∧ Here w' (memL t M true (wrB B a.toNat (List.replicate n.toNat 0)) (clT T a.toNat n.toNat))) ∨
       (¬ okR B.length a n ∧ FaultAt w w' ⟨#[109, 101, 109]⟩ a 6 v ∧ Here w' (memL t M true B T))) := by
  
  have hM' := hM
  obtain ⟨k1, k2, k3, k4, k5⟩ := hM'
  refine rets_of m_mem_Mem_Zero rfl rfl (hw.start (S := fun x => x = M.bb ∨ x = M.bt) (by simp)) ?_
  refine J.go [] 900 rfl ?_
  refine JF.callV _ rfl (fun w1 hst => load_ok a n w1 (hst.here (List.Sublist.refl _)) hM ha hn) fun w1 r w2 hst hq => ?_
  obtain ⟨hx, ⟨hok, x, E, rfl, hos, hnew⟩ | ⟨hok, f, rfl, hf⟩⟩ := hq
  · have hok' := hok
    obtain ⟨h1, h2, h3⟩ := hok'
    have hl := subB_len hok
    obtain ⟨a', n', c', rfl, hn', hc'⟩ := hos.slice
    have hn2 : n' = n.toNat := by rw [byC_len] at hn'; omega
    subst hn2
    refine ⟨_, Tr.news hst hx hnew (fun x hx => nomatch hx), ?_⟩
    refine J.go [] 900 rfl ?_
    (repeat' (first | ((first | ((first | refine JF.condD rfl ?_ ?_ | refine JF.condE rfl ?_ ?_ | refine JF.condN rfl ?_ ?_ | refine JF.guardD rfl ?_ ?_ | refine JF.guardE rfl ?_ ?_ | refine JF.guardN rfl ?_ ?_ | refine JF.cond rfl ?_ ?_ | refine JF.guard rfl ?_ ?_) <;> intro h) | refine JF.l1 0 rfl rfl rfl rfl ?_ | refine JF.ln 0 rfl rfl rfl rfl ?_ | refine JF.l1 1 rfl rfl rfl rfl ?_ | refine JF.ln 1 rfl rfl rfl rfl ?_ | refine JF.l1 2 rfl rfl rfl rfl ?_ | refine JF.ln 2 rfl rfl rfl rfl ?_ | refine JF.l1 3 rfl rfl rfl rfl ?_ | refine JF.ln 3 rfl rfl rfl rfl ?_ | refine JF.l1 4 rfl rfl rfl rfl ?_ | refine JF.ln 4 rfl rfl rfl rfl ?_ | refine JF.l1 5 rfl rfl rfl rfl ?_ | refine JF.ln 5 rfl rfl rfl rfl ?_ | refine JF.l1 6 rfl rfl rfl rfl ?_ | refine JF.ln 6 rfl rfl rfl rfl ?_ | refine JF.l1 7 rfl rfl rfl rfl ?_ | refine JF.ln 7 rfl rfl rfl rfl ?_) <;> (first | (exact absurd h Bool.false_ne_true) | (exact absurd h.symm Bool.false_ne_true) | (exfalso; omega) | (exfalso; simp only [IntKind.wrap_i64, IntKind.wrap_i32, IntKind.wrap_u32, IntKind.wrap_u16, IntKind.wrap_u8] at *; omega) | refine J.go [] 900 rfl ?_))))
    have hfin : ∀ (E : List Ent) (r : Value) (w1 w2 : World), St w (fun x => x = M.bb ∨ x = M.bt) w1 (E ++ memL t M true B T) → Ext (fun x => x = M.bb ∨ x = M.bt) w1 w2 ∧
      ((okR B.length a n.toNat ∧ r = .nilIface ∧ Here w2 (memL t M true (wrB B a.toNat (List.replicate n.toNat 0)) (clT T a.toNat n.toNat))) ∨
       (¬ okR B.length a n.toNat ∧ FaultAt w1 w2 ⟨#[109, 101, 109]⟩ a 6 r ∧ Here w2 (memL t M true B T))) → r = .nilIface ∧ Tr w (fun x => x = M.bb ∨ x = M.bt) none [] (E ++ memL t M true B T) w1 w2 (E ++ memL t M true (wrB B a.toNat (List.replicate n.toNat 0)) (clT T a.toNat n.toNat)) := fun E r w1 w2 hst hq => by
      obtain ⟨hx, ⟨hok', rfl, hh⟩ | ⟨hno, _⟩⟩ := hq
      · refine ⟨rfl, ?_⟩
        have := Tr.wrote (md := none) (Lh := []) (A := E) (B := []) (M' := memL t M true (wrB B a.toNat (List.replicate n.toNat 0)) (clT T a.toNat n.toNat)) (by simpa using hst) hx (fun b hb => ?_) hh (by simp) (fun x hx => nomatch hx)
        · simpa using this
        · rcases hb with rfl | rfl
          · exact ⟨_, .tail _ (.head _), rfl, rfl⟩
          · exact ⟨_, .tail _ (.tail _ (.head _)), rfl, rfl⟩
      · exact absurd ⟨h1, by omega, by omega⟩ hno
    have hrep : byC (List.replicate n.toNat 0) = List.replicate n.toNat (.int .u8 0) := byC_rep _ _
    rcases hos.inv with ⟨_, h0, rfl, ha'⟩ | ⟨b, sp, rfl, rfl, hn1, hc1, hnc1⟩
    · rw [h0] at hrep ⊢
      refine JF.clear 1 (o := 0) (b := M.bb) (cs := byC B ++ M.sb) rfl u_bytes y_byte rfl rfl (.inl rfl) rfl rfl rfl (Nat.le_refl _) (by cases byC B ++ M.sb <;> rfl) rfl (fun x hx => nomatch hx) rfl ?_
      refine J.go [] 900 rfl ?_
      refine JF.callV _ rfl (fun w1 hst => store_ok (l := []) a w1 (hst.here (List.Sublist.refl _)) hM ha (RdS.empty _ ha') (fun b o hb h => absurd rfl h) (by omega)) fun w1 r w2 hst hq => ?_
      obtain ⟨rfl, htr⟩ := hfin [] r w1 w2 hst (by rw [h0]; exact hq)
      refine ⟨_, htr, ?_⟩
      refine J.go [] 900 rfl ?_
      refine JF.ret rfl fun w' hst => ⟨hst.ext, .inl ⟨hok, rfl, by rw [← h0]; exact hst.here (List.Sublist.refl _)⟩⟩
    · refine JF.clear 0 (o := 0) (b := b) (cs := List.replicate n.toNat (.int .u8 0) ++ sp) rfl u_bytes y_byte rfl rfl (.inr rfl) rfl rfl rfl (Nat.le_refl _) ?_ rfl (fun x hx => nomatch hx) rfl ?_
      · rw [putL_of _ _ _ (by simp; omega)]
        refine congrArg some ?_
        have e5 : ∀ k, k = (byC (subB B a n)).length → (byC (subB B a n) ++ sp).drop k = sp := fun k hk => by rw [hk, List.drop_left]
        rw [e5 _ (by simp; omega)]
        simp
      refine J.go [] 900 rfl ?_
      refine JF.callV _ rfl (fun w1 hst => store_ok (l := List.replicate n.toNat 0) a w1 (hst.here (List.sublist_cons_self _ _)) hM ha (RdS.of hst (List.Mem.head _) rfl ?_) (fun b' o hb h => ?_) (by omega)) fun w1 r w2 hst hq => ?_
      · rw [Nat.mul_one, hrep, subL_take _ _ _ (by simp)]
        simp
      · cases hb
        have h3 := List.pairwise_cons.1 hst.dis
        exact ⟨h3.1 _ (.tail _ (.head _)), h3.1 _ (.tail _ (.tail _ (.head _)))⟩
      obtain ⟨rfl, htr⟩ := hfin [_] r w1 w2 hst hq
      refine ⟨_, htr, ?_⟩
      refine J.go [] 900 rfl ?_
      refine JF.ret rfl fun w' hst => ⟨hst.ext, .inl ⟨hok, rfl, hst.here (List.sublist_cons_self _ _)⟩⟩
  · obtain ⟨b, h1, rfl, h2⟩ := hf.tr hst hx
    refine ⟨_, h2, ?_⟩
    refine J.go [] 900 rfl ?_
    (repeat' (first | ((first | ((first | refine JF.condD rfl ?_ ?_ | refine JF.condE rfl ?_ ?_ | refine JF.condN rfl ?_ ?_ | refine JF.guardD rfl ?_ ?_ | refine JF.guardE rfl ?_ ?_ | refine JF.guardN rfl ?_ ?_ | refine JF.cond rfl ?_ ?_ | refine JF.guard rfl ?_ ?_) <;> intro h) | refine JF.l1 0 rfl rfl rfl rfl ?_ | refine JF.ln 0 rfl rfl rfl rfl ?_ | refine JF.l1 1 rfl rfl rfl rfl ?_ | refine JF.ln 1 rfl rfl rfl rfl ?_ | refine JF.l1 2 rfl rfl rfl rfl ?_ | refine JF.ln 2 rfl rfl rfl rfl ?_ | refine JF.l1 3 rfl rfl rfl rfl ?_ | refine JF.ln 3 rfl rfl rfl rfl ?_ | refine JF.l1 4 rfl rfl rfl rfl ?_ | refine JF.ln 4 rfl rfl rfl rfl ?_ | refine JF.l1 5 rfl rfl rfl rfl ?_ | refine JF.ln 5 rfl rfl rfl rfl ?_ | refine JF.l1 6 rfl rfl rfl rfl ?_ | refine JF.ln 6 rfl rfl rfl rfl ?_ | refine JF.l1 7 rfl rfl rfl rfl ?_ | refine JF.ln 7 rfl rfl rfl rfl ?_) <;> (first | (exact absurd h Bool.false_ne_true) | (exact absurd h.symm Bool.false_ne_true) | (exfalso; omega) | (exfalso; simp only [IntKind.wrap_i64, IntKind.wrap_i32, IntKind.wrap_u32, IntKind.wrap_u16, IntKind.wrap_u8] at *; omega) | refine J.go [] 900 rfl ?_))))
    refine JF.ret rfl fun w' hst => ⟨hst.ext, .inr ⟨hok, ⟨b, h1, rfl, hst.blk _ (List.Mem.head _)⟩, hst.here (List.sublist_cons_self _ _)⟩⟩

theorem twin_ok {t : TypeId} {M : MB} {r : Bool} {B : List Int} {T : List Bool} (w : World) (hw : Here w (memL t M r B T)) (hM : okM M B T) :
    Rets Pg n_mem_Mem_Twin [.pointer (some ⟨M.bm, 0, none⟩)] w fun v w' =>
      Ext NoB w w' ∧ ∃ M', v = .pointer (some ⟨M'.bm, 0, none⟩) ∧ okM M' B T ∧ News w w' (memL 85 M' true B T) := by
  
  have hM' := hM
  obtain ⟨k1, k2, k3, k4, k5⟩ := hM'
  refine rets_of m_mem_Mem_Twin rfl rfl ((show Here w (memL t M false B T) from hw.ro).start (S := NoB) (by simp)) ?_
  refine J.go [] 900 rfl ?_
  refine JF.draw [] (memL t M false B T) rfl (fun x hx => hx) ?_
  refine J.go [] 900 rfl ?_
  (repeat' (first | ((first | ((first | refine JF.condD rfl ?_ ?_ | refine JF.condE rfl ?_ ?_ | refine JF.condN rfl ?_ ?_ | refine JF.guardD rfl ?_ ?_ | refine JF.guardE rfl ?_ ?_ | refine JF.guardN rfl ?_ ?_ | refine JF.cond rfl ?_ ?_ | refine JF.guard rfl ?_ ?_) <;> intro h) | refine JF.l1 0 rfl rfl rfl rfl ?_ | refine JF.ln 0 rfl rfl rfl rfl ?_ | refine JF.l1 1 rfl rfl rfl rfl ?_ | refine JF.ln 1 rfl rfl rfl rfl ?_ | refine JF.l1 2 rfl rfl rfl rfl ?_ | refine JF.ln 2 rfl rfl rfl rfl ?_ | refine JF.l1 3 rfl rfl rfl rfl ?_ | refine JF.ln 3 rfl rfl rfl rfl ?_ | refine JF.l1 4 rfl rfl rfl rfl ?_ | refine JF.ln 4 rfl rfl rfl rfl ?_ | refine JF.l1 5 rfl rfl rfl rfl ?_ | refine JF.ln 5 rfl rfl rfl rfl ?_ | refine JF.l1 6 rfl rfl rfl rfl ?_ | refine JF.ln 6 rfl rfl rfl rfl ?_ | refine JF.l1 7 rfl rfl rfl rfl ?_ | refine JF.ln 7 rfl rfl rfl rfl ?_) <;> (first | (exact absurd h Bool.false_ne_true) | (exact absurd h.symm Bool.false_ne_true) | (exfalso; omega) | (exfalso; simp only [IntKind.wrap_i64, IntKind.wrap_i32, IntKind.wrap_u32, IntKind.wrap_u16, IntKind.wrap_u8] at *; omega) | refine J.go [] 900 rfl ?_))))
  refine JF.callV _ rfl (fun w1 hst => cloneB_ok w1 _ _ _ (rd_fst hst (.tail _ (.head _)) rfl rfl (by rw [byC_len])) (by omega)) fun w1 r w2 hst hq => ?_
  obtain ⟨hx, E1, hos1, hnew1⟩ := hq
  obtain ⟨a1, n1, c1, rfl, hn1, hc1⟩ := hos1.slice
  refine ⟨_, Tr.news hst hx hnew1 (fun x hx => hx), ?_⟩
  refine J.go [] 900 rfl ?_
  refine JF.callV _ rfl (fun w1 hst => cloneT_ok w1 _ _ _ (rd_fst hst (List.mem_append.2 (.inr (.tail _ (.tail _ (.head _))))) rfl rfl (by simp)) (by omega)) fun w1 r w2 hst hq => ?_
  obtain ⟨hx, E2, hos2, hnew2⟩ := hq
  obtain ⟨a2, n2, c2, rfl, hn2, hc2⟩ := hos2.slice
  refine ⟨_, Tr.news hst hx hnew2 (fun x hx => List.mem_append.2 (.inr hx)), ?_⟩
  rw [byC_len, Nat.mul_one] at hn1
  rw [List.length_map, Nat.mul_one] at hn2
  rcases hos1.inv with ⟨_, h0, _⟩ | ⟨b1, s1, rfl, rfl, _, hl1, _⟩
  · omega
  rcases hos2.inv with ⟨_, h0, _⟩ | ⟨b2, s2, rfl, rfl, _, hl2, _⟩
  · omega
  subst hn1
  subst hn2
  refine J.go [] 900 rfl ?_
  refine JF.bx rfl (fun x hx => List.mem_append.2 (.inr (List.mem_append.2 (.inr hx)))) fun b3 hb3 => ?_
  refine J.go [] 900 rfl ?_
  refine JF.ret rfl fun w' hst => ⟨hst.ext, ⟨b3, b1, b2, c1, c2, s1, s2⟩, rfl, ⟨hc1, hc2, k3, k4, k5⟩, ?_⟩
  have hd := hst.dis
  have e1 := List.pairwise_cons.1 hd
  have e2 := List.pairwise_cons.1 e1.2
  have o1 := hst.own _ (.tail _ (.head _)) rfl
  have o2 := hst.own _ (.tail _ (.tail _ (.head _))) rfl
  refine news_mem (hst.blk _ (.head _)) (hst.blk _ (.tail _ (.tail _ (.head _)))) (hst.blk _ (.tail _ (.head _))) (e1.1 _ (.tail _ (.head _))) (e1.1 _ (.head _)) (fun h => e2.1 _ (.head _) h.symm) hb3 ?_ ?_
  · exact o2.elim id (fun h => h.elim)
  · exact o1.elim id (fun h => h.elim)

theorem tag_ok {t : TypeId} {M : MB} {r : Bool} {B : List Int} {T : List Bool} (a : Int) (w : World) (hw : Here w (memL t M r B T)) (hM : okM M B T) (ha : isI64 a) :
    Rets Pg n_mem_Mem_Tag [.pointer (some ⟨M.bm, 0, none⟩), .int .i64 a] w fun v w' => Ext NoB w w' ∧ v = .bool (decide (0 ≤ a ∧ a < B.length) && T.getD (a.toNat / 16) false) := by
  
  have hM' := hM
  obtain ⟨k1, k2, k3, k4, k5⟩ := hM'
  by_cases hok : 0 ≤ a ∧ a < B.length
  · obtain ⟨h1, h2⟩ := hok
    have e1 : IntKind.i64.wrap (a.tdiv 16) = ((a.toNat / 16 : Nat) : Int) := by rw [IntKind.wrap_i64, Int.tdiv_eq_ediv_of_nonneg (by omega)]; omega
    refine rets_of m_mem_Mem_Tag rfl rfl ((show Here w (memL t M false B T) from hw.ro).start (S := NoB) (by simp)) ?_
    refine J.go [] 900 rfl ?_
    (repeat' (first | ((first | ((first | refine JF.condD rfl ?_ ?_ | refine JF.condE rfl ?_ ?_ | refine JF.condN rfl ?_ ?_ | refine JF.guardD rfl ?_ ?_ | refine JF.guardE rfl ?_ ?_ | refine JF.guardN rfl ?_ ?_ | refine JF.cond rfl ?_ ?_ | refine JF.guard rfl ?_ ?_) <;> intro h) | refine JF.l1 0 rfl rfl rfl rfl ?_ | refine JF.ln 0 rfl rfl rfl rfl ?_ | refine JF.l1 1 rfl rfl rfl rfl ?_ | refine JF.ln 1 rfl rfl rfl rfl ?_ | refine JF.l1 2 rfl rfl rfl rfl ?_ | refine JF.ln 2 rfl rfl rfl rfl ?_ | refine JF.l1 3 rfl rfl rfl rfl ?_ | refine JF.ln 3 rfl rfl rfl rfl ?_ | refine JF.l1 4 rfl rfl rfl rfl ?_ | refine JF.ln 4 rfl rfl rfl rfl ?_ | refine JF.l1 5 rfl rfl rfl rfl ?_ | refine JF.ln 5 rfl rfl rfl rfl ?_ | refine JF.l1 6 rfl rfl rfl rfl ?_ | refine JF.ln 6 rfl rfl rfl rfl ?_ | refine JF.l1 7 rfl rfl rfl rfl ?_ | refine JF.ln 7 rfl rfl rfl rfl ?_) <;> (first | (exact absurd h Bool.false_ne_true) | (exact absurd h.symm Bool.false_ne_true) | (exfalso; omega) | (exfalso; simp only [IntKind.wrap_i64, IntKind.wrap_i32, IntKind.wrap_u32, IntKind.wrap_u16, IntKind.wrap_u8] at *; omega) | refine J.go [] 900 rfl ?_))))
    rw [e1]
    (refine JF.chk rfl ?_ ?_; (focus ((repeat' (apply And.intro)) <;> (first | exact True.intro | (first | omega | (simp only [IntKind.wrap_i64, IntKind.wrap_i32, IntKind.wrap_u64, IntKind.wrap_u32, IntKind.wrap_u16, IntKind.wrap_u8] at *; omega))))))
    refine J.go [] 900 rfl ?_
    refine JF.ld1 (v := .bool (T.getD (a.toNat / 16) false)) rfl (.tail _ (.tail _ (.head _))) rfl (nthL_app (nth_bool (by omega) (by omega))) ?_
    refine J.go [] 900 rfl ?_
    refine JF.ret rfl fun w' hst => ⟨hst.ext, ?_⟩
    rw [decide_eq_true ⟨h1, h2⟩, Bool.true_and]
    rfl
  · rw [decide_eq_false hok, Bool.false_and]
    refine rets_of m_mem_Mem_Tag rfl rfl ((show Here w (memL t M false B T) from hw.ro).start (S := NoB) (by simp)) ?_
    refine J.go [] 900 rfl ?_
    (repeat' (first | ((first | ((first | refine JF.condD rfl ?_ ?_ | refine JF.condE rfl ?_ ?_ | refine JF.condN rfl ?_ ?_ | refine JF.guardD rfl ?_ ?_ | refine JF.guardE rfl ?_ ?_ | refine JF.guardN rfl ?_ ?_ | refine JF.cond rfl ?_ ?_ | refine JF.guard rfl ?_ ?_) <;> intro h) | refine JF.l1 0 rfl rfl rfl rfl ?_ | refine JF.ln 0 rfl rfl rfl rfl ?_ | refine JF.l1 1 rfl rfl rfl rfl ?_ | refine JF.ln 1 rfl rfl rfl rfl ?_ | refine JF.l1 2 rfl rfl rfl rfl ?_ | refine JF.ln 2 rfl rfl rfl rfl ?_ | refine JF.l1 3 rfl rfl rfl rfl ?_ | refine JF.ln 3 rfl rfl rfl rfl ?_ | refine JF.l1 4 rfl rfl rfl rfl ?_ | refine JF.ln 4 rfl rfl rfl rfl ?_ | refine JF.l1 5 rfl rfl rfl rfl ?_ | refine JF.ln 5 rfl rfl rfl rfl ?_ | refine JF.l1 6 rfl rfl rfl rfl ?_ | refine JF.ln 6 rfl rfl rfl rfl ?_ | refine JF.l1 7 rfl rfl rfl rfl ?_ | refine JF.ln 7 rfl rfl rfl rfl ?_) <;> (first | (exact absurd h Bool.false_ne_true) | (exact absurd h.symm Bool.false_ne_true) | (exfalso; omega) | (exfalso; simp only [IntKind.wrap_i64, IntKind.wrap_i32, IntKind.wrap_u32, IntKind.wrap_u16, IntKind.wrap_u8] at *; omega) | refine J.go [] 900 rfl ?_))))
    all_goals refine JF.ret rfl fun w' hst => ⟨hst.ext, rfl⟩
end Go.HM
