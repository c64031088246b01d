/- What the memory's functions that write compute: contracts. -/
import Derived.Test.YtobdcokhmpaooaaDoorKmem
import Derived.Test.YtobdcokhmpaooaaDoorC1
namespace Go.HM
open Go Go.Proofs
set_option linter.unusedSimpArgs false
set_option linter.unusedVariables false

/-- Bytes put over others. -/
def wrB (B : List Int) (a : Nat) (l : List Int) : List Int := B.take a ++ l ++ B.drop (a + l.length)

/-- Tags where bytes are put. -/
def clT (T : List Bool) (a n : Nat) : List Bool := T.mapIdx fun i t => t && !(decide (0 < n ∧ a / 16 ≤ i ∧ i ≤ (a + n - 1) / 16))

theorem wrB_len {B : List Int} {a : Nat} {l : List Int} (h : a + l.length ≤ B.length) : (wrB B a l).length = B.length := by simp [wrB]; omega

theorem clT_len (T : List Bool) (a n : Nat) : (clT T a n).length = T.length := by simp [clT]

theorem putL_wrB {B : List Int} {a : Nat} {l : List Int} (h : a + l.length ≤ B.length) : putL a (byC l) (byC B) = some (byC (wrB B a l)) := by
  rw [putL_of _ _ _ (by simpa [byC_len] using h)]
  simp [byC, wrB, List.map_take, List.map_drop]

theorem putL_clT {T : List Bool} {a n : Nat} (hn : 0 < n) (h : a + n ≤ 16 * T.length) : putL (a / 16) (List.replicate ((a + n - 1) / 16 + 1 - a / 16) (.bool false)) (T.map .bool) = some ((clT T a n).map .bool) := by
  have h1 : (a + n - 1) / 16 + 1 ≤ T.length := by omega
  have h2 : a / 16 ≤ (a + n - 1) / 16 := by omega
  rw [putL_of _ _ _ (by simp; omega)]
  congr 1
  apply List.ext_getElem
  · simp [clT]; omega
  · intro i hi1 hi2
    simp only [List.length_map, clT_len] at hi2
    simp only [List.getElem_map, clT, List.getElem_mapIdx]
    by_cases c1 : i < a / 16
    · rw [List.getElem_append_left (by simp; omega), List.getElem_append_left (by simp; omega)]
      simp; omega
    · by_cases c2 : i < (a + n - 1) / 16 + 1
      · rw [List.getElem_append_left (by simp; omega), List.getElem_append_right (by simp; omega)]
        simp; omega
      · rw [List.getElem_append_right (by simp; omega)]
        simp only [List.getElem_drop, List.length_append, List.length_take, List.length_replicate, List.length_map, List.getElem_map]
        have e1 : a / 16 + ((a + n - 1) / 16 + 1 - a / 16) + (i - (min (a / 16) T.length + ((a + n - 1) / 16 + 1 - a / 16))) = i := by omega
        simp only [e1, Value.bool.injEq]
        simp; omega

theorem clT_zero (T : List Bool) (a : Nat) : clT T a 0 = T := by
  unfold clT
  apply List.ext_getElem
  · simp
  · intro i h1 h2
    simp

theorem clT_succ (T : List Bool) (a n : Nat) (h : (a + n) / 16 < T.length) : (clT T a n).set ((a + n) / 16) false = clT T a (n + 1) := by
  apply List.ext_getElem
  · simp [clT]
  · intro i h1 h2
    simp only [clT, List.getElem_set, List.getElem_mapIdx]
    simp only [List.length_set, clT_len] at h1
    split
    · simp; omega
    · congr 2
      simp only [decide_eq_decide]
      constructor <;> intro h <;> omega

theorem wrB_zero (B l : List Int) (a : Nat) : wrB B a (l.take 0) = B := by simp [wrB]

theorem wrB_succ (B l : List Int) (a i : Nat) (h : i < l.length) (h2 : a + l.length ≤ B.length) : (wrB B a (l.take i)).set (a + i) (l.getD i 0) = wrB B a (l.take (i + 1)) := by
  have hx : l.take (i + 1) = l.take i ++ [l.getD i 0] := by rw [List.take_add_one]; simp [List.getD, h]
  have hl : (l.take i).length = i := by simp; omega
  have hX : (B.take a ++ l.take i).length = a + i := by simp; omega
  have hd : B.drop (a + i) = B[a + i]'(by omega) :: B.drop (a + i + 1) := List.drop_eq_getElem_cons (by omega)
  unfold wrB
  rw [hx, List.length_append, hl, List.length_singleton, hd, List.set_append_right _ _ (by omega), hX, Nat.sub_self, List.set_cons_zero]
  simp [Nat.add_assoc]

theorem putL_set : ∀ (o : Nat) (v : Value) (cs : List Value), o < cs.length → putL o [v] cs = some (cs.set o v) := by
  intro o v cs h
  rw [putL_of _ _ _ (by simp; omega), List.set_eq_take_append_cons_drop, if_pos h]
  simp

theorem putL_by {X Y : List Int} {o k : Nat} {v : Int} (h : o = k) (hk : k < X.length) (hX : X.set k v = Y) : putL o [.int .u8 v] (byC X) = some (byC Y) := by
  subst h
  rw [putL_set _ _ _ (by simpa [byC] using hk), ← hX]
  simp [byC, List.map_set]

theorem putL_bo {X Y : List Bool} {o k : Nat} {v : Bool} (h : o = k) (hk : k < X.length) (hX : X.set k v = Y) : putL o [.bool v] (X.map .bool) = some (Y.map .bool) := by
  subst h
  rw [putL_set _ _ _ (by simpa using hk), ← hX]
  simp [List.map_set]

theorem nth_byC {l : List Int} {o i : Nat} (h : o = i) (hi : i < l.length) : nthL (byC l) o = some (.int .u8 (l.getD i 0)) := by
  subst h
  rw [nthL_eq]
  simp [byC, List.getD, hi]

theorem nth_bool {l : List Bool} {o i : Nat} (h : o = i) (hi : i < l.length) : nthL (l.map .bool) o = some (.bool (l.getD i false)) := by
  subst h
  rw [nthL_eq]
  simp [List.getD, hi]

theorem store_ok {t : TypeId} {M : MB} {B : List Int} {T : List Bool} (a0 : Int) {a : Option Addr} {n c : Nat} {l : List Int} (w : World) (hw : Here w (memL t M true B T)) (hM : okM M B T) (ha : isI64 a0)
    (hr : RdS w 1 (.slice a n c) (byC l) n) (hap : ∀ b o, a = some ⟨b, o, none⟩ → n ≠ 0 → b ≠ M.bb ∧ b ≠ M.bt) (hn63 : n < 9223372036854775808) :
    Rets Pg n_mem_Mem_Store [.pointer (some ⟨M.bm, 0, none⟩), .int .i64 a0, .slice a n c] w fun v w' =>
      Ext (fun x => x = M.bb ∨ x = M.bt) w w' ∧
      ((okR B.length a0 n ∧ v = .nilIface ∧ Here w' (memL t M true (wrB B a0.toNat l) (clT T a0.toNat n))) ∨
       (¬ okR B.length a0 n ∧ FaultAt w w' ⟨#[109, 101, 109]⟩ a0 6 v ∧ Here w' (memL t M true B T))) := by
  have hM' := hM
  obtain ⟨k1, k2, k3, k4, k5⟩ := hM'
  refine rets_of m_mem_Mem_Store rfl rfl (hw.start (S := fun x => x = M.bb ∨ x = M.bt) (by simp)) ?_
  refine J.go [] 900 rfl ?_
  refine JF.callV _ rfl (fun w1 hst => span_ok a0 n w1 (hst.here (List.Sublist.refl _)) hM ha (by constructor <;> omega)) fun w1 r w2 hst hq => ?_
  obtain ⟨hx, ⟨hok, o, rfl, ho⟩ | ⟨hok, f, rfl, hf⟩⟩ := hq
  · have hok' := hok
    obtain ⟨h1, h2, h3⟩ := hok'
    have hlen : l.length = n := by have := hr.length; simpa [byC] using this
    refine ⟨_, Tr.same hst hx (fun x hx => nomatch hx), ?_⟩
    refine J.go [] 900 rfl ?_
    (repeat' (first | ((first | ((first | refine JF.condD rfl ?_ ?_ | refine JF.condE rfl ?_ ?_ | refine JF.condN rfl ?_ ?_ | refine JF.guardD rfl ?_ ?_ | refine JF.guardE rfl ?_ ?_ | refine JF.guardN rfl ?_ ?_ | refine JF.cond rfl ?_ ?_ | refine JF.guard rfl ?_ ?_) <;> intro h) | refine JF.l1 0 rfl rfl rfl rfl ?_ | refine JF.ln 0 rfl rfl rfl rfl ?_ | refine JF.l1 1 rfl rfl rfl rfl ?_ | refine JF.ln 1 rfl rfl rfl rfl ?_ | refine JF.l1 2 rfl rfl rfl rfl ?_ | refine JF.ln 2 rfl rfl rfl rfl ?_ | refine JF.l1 3 rfl rfl rfl rfl ?_ | refine JF.ln 3 rfl rfl rfl rfl ?_ | refine JF.l1 4 rfl rfl rfl rfl ?_ | refine JF.ln 4 rfl rfl rfl rfl ?_ | refine JF.l1 5 rfl rfl rfl rfl ?_ | refine JF.ln 5 rfl rfl rfl rfl ?_ | refine JF.l1 6 rfl rfl rfl rfl ?_ | refine JF.ln 6 rfl rfl rfl rfl ?_ | refine JF.l1 7 rfl rfl rfl rfl ?_ | refine JF.ln 7 rfl rfl rfl rfl ?_) <;> (first | (exact absurd h Bool.false_ne_true) | (exact absurd h.symm Bool.false_ne_true) | (exfalso; omega) | (exfalso; simp only [IntKind.wrap_i64, IntKind.wrap_i32, IntKind.wrap_u32, IntKind.wrap_u16, IntKind.wrap_u8] at *; omega) | refine J.go [] 900 rfl ?_))))
    refine JF.copy 1 (o := a0.toNat) (k' := n) (size := 1) (ys := byC l) (m := n) (b := M.bb) (cs := byC (wrB B a0.toNat l) ++ M.sb) rfl u_bytes y_byte (fun w' hst => hr.keep hst.ext (fun b o c hb hne hb' => ?_)) (by simp [Nat.min_def]) (by by_cases h0 : n = 0; exact .inl h0; right; rw [ho (by omega)]) (isOne_byC l) rfl rfl rfl (Nat.le_refl _) ?_ rfl (fun x hx => nomatch hx) rfl ?_
    · simp only [Value.slice.injEq] at hb
      have := hap b o hb.1 (fun h0 => hne (by subst h0; simpa [byC] using hlen))
      omega
    · rw [show (byC l).take (n * 1) = byC l from List.take_of_length_le (by simp [byC, hlen])]
      exact putL_app (putL_wrB (by omega))
    refine J.go [] 900 rfl ?_
    (repeat' (first | ((first | ((first | refine JF.condD rfl ?_ ?_ | refine JF.condE rfl ?_ ?_ | refine JF.condN rfl ?_ ?_ | refine JF.guardD rfl ?_ ?_ | refine JF.guardE rfl ?_ ?_ | refine JF.guardN rfl ?_ ?_ | refine JF.cond rfl ?_ ?_ | refine JF.guard rfl ?_ ?_) <;> intro h) | refine JF.l1 0 rfl rfl rfl rfl ?_ | refine JF.ln 0 rfl rfl rfl rfl ?_ | refine JF.l1 1 rfl rfl rfl rfl ?_ | refine JF.ln 1 rfl rfl rfl rfl ?_ | refine JF.l1 2 rfl rfl rfl rfl ?_ | refine JF.ln 2 rfl rfl rfl rfl ?_ | refine JF.l1 3 rfl rfl rfl rfl ?_ | refine JF.ln 3 rfl rfl rfl rfl ?_ | refine JF.l1 4 rfl rfl rfl rfl ?_ | refine JF.ln 4 rfl rfl rfl rfl ?_ | refine JF.l1 5 rfl rfl rfl rfl ?_ | refine JF.ln 5 rfl rfl rfl rfl ?_ | refine JF.l1 6 rfl rfl rfl rfl ?_ | refine JF.ln 6 rfl rfl rfl rfl ?_ | refine JF.l1 7 rfl rfl rfl rfl ?_ | refine JF.ln 7 rfl rfl rfl rfl ?_) <;> (first | (exact absurd h Bool.false_ne_true) | (exact absurd h.symm Bool.false_ne_true) | (exfalso; omega) | (exfalso; simp only [IntKind.wrap_i64, IntKind.wrap_i32, IntKind.wrap_u32, IntKind.wrap_u16, IntKind.wrap_u8] at *; omega) | refine J.go [] 900 rfl ?_))))
    · have e1 : IntKind.i64.wrap (a0 + n) = a0 + n := by rw [IntKind.wrap_i64]; omega
      have e2 : IntKind.i64.wrap (a0 + n - 1) = a0 + n - 1 := by rw [IntKind.wrap_i64]; omega
      have e3 : IntKind.i64.wrap (a0.tdiv 16) = ((a0.toNat / 16 : Nat) : Int) := by rw [IntKind.wrap_i64, Int.tdiv_eq_ediv_of_nonneg h1]; omega
      have e4 : IntKind.i64.wrap ((a0 + n - 1).tdiv 16) = (((a0.toNat + n - 1) / 16 : Nat) : Int) := by rw [IntKind.wrap_i64, Int.tdiv_eq_ediv_of_nonneg (by omega)]; omega
      have e5 : IntKind.i64.wrap ((((a0.toNat + n - 1) / 16 : Nat) : Int) + 1) = (((a0.toNat + n - 1) / 16 + 1 : Nat) : Int) := by rw [IntKind.wrap_i64]; omega
      rw [e1, e2, e3, e4, e5]
      (refine JF.chk rfl ?_ ?_; (focus ((repeat' (apply And.intro)) <;> (first | exact True.intro | (first | omega | (simp only [IntKind.wrap_i64, IntKind.wrap_i32, IntKind.wrap_u64, IntKind.wrap_u32, IntKind.wrap_u16, IntKind.wrap_u8] at *; omega))))))
      rw [Int.toNat_natCast, Int.toNat_natCast]
      refine JF.clear 2 (o := a0.toNat / 16) (b := M.bt) (cs := (clT T a0.toNat n).map .bool ++ M.st) rfl u_bools y_bool rfl rfl (by have := @slA_at M.bt 0 M.ct (a0.toNat / 16) 1 ((a0.toNat + n - 1) / 16 + 1 - a0.toNat / 16) (by omega); simpa using this) rfl rfl rfl (Nat.le_refl _) (putL_app (putL_clT (by omega) (by omega))) rfl (fun x hx => nomatch hx) rfl ?_
      refine J.go [] 900 rfl ?_
      refine JF.ret rfl fun w' hst => ⟨hst.ext, .inl ⟨hok, rfl, ?_⟩⟩
      have := hst.here (List.Sublist.refl _)
      rw [memL, wrB_len (by omega), clT_len]
      exact this
    · refine JF.ret rfl fun w' hst => ⟨hst.ext, .inl ⟨hok, rfl, ?_⟩⟩
      have h0 : n = 0 := by omega
      subst h0
      rw [clT_zero]
      have := hst.here (List.Sublist.refl _)
      rw [memL, wrB_len (by omega)]
      exact this
  · obtain ⟨b, h1, rfl, h2⟩ := hf.tr hst hx
    refine ⟨_, h2, ?_⟩
    refine J.go [] 900 rfl ?_
    (repeat' (first | ((first | ((first | refine JF.condD rfl ?_ ?_ | refine JF.condE rfl ?_ ?_ | refine JF.condN rfl ?_ ?_ | refine JF.guardD rfl ?_ ?_ | refine JF.guardE rfl ?_ ?_ | refine JF.guardN rfl ?_ ?_ | refine JF.cond rfl ?_ ?_ | refine JF.guard rfl ?_ ?_) <;> intro h) | refine JF.l1 0 rfl rfl rfl rfl ?_ | refine JF.ln 0 rfl rfl rfl rfl ?_ | refine JF.l1 1 rfl rfl rfl rfl ?_ | refine JF.ln 1 rfl rfl rfl rfl ?_ | refine JF.l1 2 rfl rfl rfl rfl ?_ | refine JF.ln 2 rfl rfl rfl rfl ?_ | refine JF.l1 3 rfl rfl rfl rfl ?_ | refine JF.ln 3 rfl rfl rfl rfl ?_ | refine JF.l1 4 rfl rfl rfl rfl ?_ | refine JF.ln 4 rfl rfl rfl rfl ?_ | refine JF.l1 5 rfl rfl rfl rfl ?_ | refine JF.ln 5 rfl rfl rfl rfl ?_ | refine JF.l1 6 rfl rfl rfl rfl ?_ | refine JF.ln 6 rfl rfl rfl rfl ?_ | refine JF.l1 7 rfl rfl rfl rfl ?_ | refine JF.ln 7 rfl rfl rfl rfl ?_) <;> (first | (exact absurd h Bool.false_ne_true) | (exact absurd h.symm Bool.false_ne_true) | (exfalso; omega) | (exfalso; simp only [IntKind.wrap_i64, IntKind.wrap_i32, IntKind.wrap_u32, IntKind.wrap_u16, IntKind.wrap_u8] at *; omega) | refine J.go [] 900 rfl ?_))))
    refine JF.ret rfl fun w' hst => ⟨hst.ext, .inr ⟨hok, ⟨b, h1, rfl, hst.blk _ (List.Mem.head _)⟩, hst.here (List.sublist_cons_self _ _)⟩⟩
end Go.HM
