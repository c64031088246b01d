/- The document's memory of capabilities: contracts. -/
import Derived.Test.YtobdcokhmpaooaaDoorKhaspref11
import Derived.Test.YtobdcokhmpaooaaDoorC9
namespace Go.HM
open Go Go.Proofs
set_option linter.unusedSimpArgs false
set_option linter.unusedVariables false

/-- May a capability be at a place? -/
def okC (m : Nat) (a : Int) : Prop := okR m a 16 ∧ a % 16 = 0
def capNo (m : Nat) (a : Int) : Int := if 0 ≤ a ∧ a + 16 ≤ m then 5 else 6
theorem capNo_ne (m : Nat) (a : Int) : capNo m a ≠ 0 := by unfold capNo; split <;> decide
def cap0 : CapV := ⟨false, 0, 0, 0, 0, 0⟩

/-- The capability at a place. -/
def capAt (B : List Int) (T : List Bool) (a : Int) : CapV := bCap (subB B a 16) (T.getD (a.toNat / 16) false)

theorem isB_subB {B : List Int} (h : isB B) (a n : Int) : isB (subB B a n) := isB_take (isB_drop h _) _

theorem rloadCap_ok {t : TypeId} {M : MB} {r : Bool} {B : List Int} {T : List Bool} (a : Int) (w : World) (hw : Here w (memL t M r B T)) (hM : okM M B T) (ha : isI64 a) (hB : isB B) :
    Rets Pg n_haspref11_Mem_LoadCap [.pointer (some ⟨M.bm, 0, none⟩), .int .i64 a] w fun v w' => Ext NoB w w' ∧
      ((okC B.length a ∧ v = .tuple #[(capAt B T a).val, wr0]) ∨ (¬ okC B.length a ∧ v = .tuple #[cap0.val, wrV ⟨#[109, 101, 109]⟩ a (capNo B.length a)])) := by
  
  have hM' := hM
  obtain ⟨k1, k2, k3, k4, k5⟩ := hM'
  refine rets_of m_haspref11_Mem_LoadCap rfl rfl ((show Here w (memL t M false B T) from hw.ro).start (S := NoB) (by simp)) ?_
  refine J.go [4,5,7] 900 rfl ?_
  refine JF.callV _ rfl (fun w1 hst => rload_ok a 16 w1 (hst.here (List.Sublist.refl _)) hM ha (by decide)) fun w1 r w2 hst hq => ?_
  obtain ⟨hx, ⟨hok, x, E, rfl, hos, hnew⟩ | ⟨hok, rfl⟩⟩ := hq
  · have hok' := hok
    obtain ⟨h1, h2, h3⟩ := hok'
    have hl := subB_len hok
    have e1 : a.tmod 16 = a % 16 := Int.tmod_eq_emod_of_nonneg h1
    refine ⟨_, Tr.news hst hx hnew (fun x hx => nomatch hx), ?_⟩
    by_cases hal : a % 16 = 0
    · have e2 : IntKind.i64.wrap (a.tdiv 16) = ((a.toNat / 16 : Nat) : Int) := by rw [IntKind.wrap_i64, Int.tdiv_eq_ediv_of_nonneg (by omega)]; omega
      obtain ⟨a', n', c', rfl, hn, hc⟩ := hos.slice
      rw [byC_len, hl, Nat.mul_one] at hn
      have hn : n' = 16 := hn.symm
      subst hn
      rcases hos.inv with ⟨_, h0, _⟩ | ⟨b, sp, rfl, rfl, hl1, hl2, hl3⟩
      · omega
      rw [hal] at e1
      refine J.go [4,5,7] 900 rfl ?_
      (repeat' (first | ((first | ((first | refine JF.condD rfl ?_ ?_ | refine JF.condE rfl ?_ ?_ | refine JF.condN rfl ?_ ?_ | refine JF.guardD rfl ?_ ?_ | refine JF.guardE rfl ?_ ?_ | refine JF.guardN rfl ?_ ?_ | refine JF.cond rfl ?_ ?_ | refine JF.guard rfl ?_ ?_) <;> intro h) | refine JF.l1 0 rfl rfl rfl rfl ?_ | refine JF.ln 0 rfl rfl rfl rfl ?_ | refine JF.l1 1 rfl rfl rfl rfl ?_ | refine JF.ln 1 rfl rfl rfl rfl ?_ | refine JF.l1 2 rfl rfl rfl rfl ?_ | refine JF.ln 2 rfl rfl rfl rfl ?_ | refine JF.l1 3 rfl rfl rfl rfl ?_ | refine JF.ln 3 rfl rfl rfl rfl ?_ | refine JF.l1 4 rfl rfl rfl rfl ?_ | refine JF.ln 4 rfl rfl rfl rfl ?_ | refine JF.l1 5 rfl rfl rfl rfl ?_ | refine JF.ln 5 rfl rfl rfl rfl ?_ | refine JF.l1 6 rfl rfl rfl rfl ?_ | refine JF.ln 6 rfl rfl rfl rfl ?_ | refine JF.l1 7 rfl rfl rfl rfl ?_ | refine JF.ln 7 rfl rfl rfl rfl ?_) <;> (first | (exact absurd h Bool.false_ne_true) | (exact absurd h.symm Bool.false_ne_true) | (exfalso; omega) | (exfalso; simp only [IntKind.wrap_i64, IntKind.wrap_i32, IntKind.wrap_u32, IntKind.wrap_u16, IntKind.wrap_u8] at *; omega) | refine J.go [4,5,7] 900 rfl ?_))))
      rw [e2]
      (refine JF.chk rfl ?_ ?_; (focus ((repeat' (apply And.intro)) <;> (first | exact True.intro | (first | omega | (simp only [IntKind.wrap_i64, IntKind.wrap_i32, IntKind.wrap_u64, IntKind.wrap_u32, IntKind.wrap_u16, IntKind.wrap_u8] at *; omega))))))
      refine J.go [4,5,7] 900 rfl ?_
      refine JF.ld1 (v := .bool (T.getD (a.toNat / 16) false)) rfl (.tail _ (.tail _ (.tail _ (.head _)))) rfl (nthL_app (nth_bool (by omega) (by omega))) ?_
      refine J.go [4,5,7] 900 rfl ?_
      refine JF.callF _ rfl (fun w1 hst => rget_ok (l := subB B a 16) w1 (hst.here (List.Sublist.refl _)) (.head _) rfl (isB_subB hB _ _) hl hc (fun i hi => nthL_app (nth_byC rfl (by omega)))) (fun x hx => nomatch hx) ?_
      refine J.go [4,5,7] 900 rfl ?_
      refine JF.ret rfl fun w' hst => ⟨hst.ext, .inl ⟨⟨hok, hal⟩, rfl⟩⟩
    · rw [← e1] at hal
      refine J.go [4,5,7] 900 rfl ?_
      (repeat' (first | ((first | ((first | refine JF.condD rfl ?_ ?_ | refine JF.condE rfl ?_ ?_ | refine JF.condN rfl ?_ ?_ | refine JF.guardD rfl ?_ ?_ | refine JF.guardE rfl ?_ ?_ | refine JF.guardN rfl ?_ ?_ | refine JF.cond rfl ?_ ?_ | refine JF.guard rfl ?_ ?_) <;> intro h) | refine JF.l1 0 rfl rfl rfl rfl ?_ | refine JF.ln 0 rfl rfl rfl rfl ?_ | refine JF.l1 1 rfl rfl rfl rfl ?_ | refine JF.ln 1 rfl rfl rfl rfl ?_ | refine JF.l1 2 rfl rfl rfl rfl ?_ | refine JF.ln 2 rfl rfl rfl rfl ?_ | refine JF.l1 3 rfl rfl rfl rfl ?_ | refine JF.ln 3 rfl rfl rfl rfl ?_ | refine JF.l1 4 rfl rfl rfl rfl ?_ | refine JF.ln 4 rfl rfl rfl rfl ?_ | refine JF.l1 5 rfl rfl rfl rfl ?_ | refine JF.ln 5 rfl rfl rfl rfl ?_ | refine JF.l1 6 rfl rfl rfl rfl ?_ | refine JF.ln 6 rfl rfl rfl rfl ?_ | refine JF.l1 7 rfl rfl rfl rfl ?_ | refine JF.ln 7 rfl rfl rfl rfl ?_) <;> (first | (exact absurd h Bool.false_ne_true) | (exact absurd h.symm Bool.false_ne_true) | (exfalso; omega) | (exfalso; simp only [IntKind.wrap_i64, IntKind.wrap_i32, IntKind.wrap_u32, IntKind.wrap_u16, IntKind.wrap_u8] at *; omega) | refine J.go [4,5,7] 900 rfl ?_))))
      refine JF.draw [7] [] rfl (fun x hx => nomatch hx) ?_
      refine J.go [4,5,7] 900 rfl ?_
      refine JF.ret rfl fun w' hst => ⟨hst.ext, .inr ⟨fun h => hal (by rw [e1]; exact h.2), ?_⟩⟩
      unfold capNo
      rw [if_pos ⟨h1, h3⟩]
      rfl
  · refine ⟨_, Tr.same hst hx (fun x hx => nomatch hx), ?_⟩
    refine J.go [4,5,7] 900 rfl ?_
    (repeat' (first | ((first | ((first | refine JF.condD rfl ?_ ?_ | refine JF.condE rfl ?_ ?_ | refine JF.condN rfl ?_ ?_ | refine JF.guardD rfl ?_ ?_ | refine JF.guardE rfl ?_ ?_ | refine JF.guardN rfl ?_ ?_ | refine JF.cond rfl ?_ ?_ | refine JF.guard rfl ?_ ?_) <;> intro h) | refine JF.l1 0 rfl rfl rfl rfl ?_ | refine JF.ln 0 rfl rfl rfl rfl ?_ | refine JF.l1 1 rfl rfl rfl rfl ?_ | refine JF.ln 1 rfl rfl rfl rfl ?_ | refine JF.l1 2 rfl rfl rfl rfl ?_ | refine JF.ln 2 rfl rfl rfl rfl ?_ | refine JF.l1 3 rfl rfl rfl rfl ?_ | refine JF.ln 3 rfl rfl rfl rfl ?_ | refine JF.l1 4 rfl rfl rfl rfl ?_ | refine JF.ln 4 rfl rfl rfl rfl ?_ | refine JF.l1 5 rfl rfl rfl rfl ?_ | refine JF.ln 5 rfl rfl rfl rfl ?_ | refine JF.l1 6 rfl rfl rfl rfl ?_ | refine JF.ln 6 rfl rfl rfl rfl ?_ | refine JF.l1 7 rfl rfl rfl rfl ?_ | refine JF.ln 7 rfl rfl rfl rfl ?_) <;> (first | (exact absurd h Bool.false_ne_true) | (exact absurd h.symm Bool.false_ne_true) | (exfalso; omega) | (exfalso; simp only [IntKind.wrap_i64, IntKind.wrap_i32, IntKind.wrap_u32, IntKind.wrap_u16, IntKind.wrap_u8] at *; omega) | refine J.go [4,5,7] 900 rfl ?_))))
    refine JF.draw [7] [] rfl (fun x hx => nomatch hx) ?_
    refine J.go [4,5,7] 900 rfl ?_
    refine JF.ret rfl fun w' hst => ⟨hst.ext, .inr ⟨fun h => hok h.1, ?_⟩⟩
    unfold capNo
    rw [if_neg (fun h => hok ⟨h.1, by decide, h.2⟩)]
    rfl

theorem Tr.memN {w₀ w w' : World} {S : Nat → Prop} {t : TypeId} {M : MB} {B B' : List Int} {T T' : List Bool} {A C N : List Ent} {md : Option LM} {Lh : List Ent} (hst : St w₀ S w (A ++ (memL t M true B T ++ C))) (hx : Ext (fun x => x = M.bb ∨ x = M.bt) w w') (hh : Here w' (memL t M true B' T')) (hN : News w w' N) (hl : ∀ x ∈ mdL md Lh, x ∈ A ++ (memL t M true B' T' ++ C)) :
    Tr w₀ S md Lh (A ++ (memL t M true B T ++ C)) w w' (N ++ (A ++ (memL t M true B' T' ++ C))) :=
  Tr.wroteN hst hx (fun b hb => by
    rcases hb with rfl | rfl
    · exact ⟨_, .tail _ (.head _), rfl, rfl⟩
    · exact ⟨_, .tail _ (.tail _ (.head _)), rfl, rfl⟩) hh (by simp) hN hl

theorem News.nil (w w' : World) : News w w' [] := ⟨⟨by simp, by simp⟩, by simp⟩

/-- A capability put over memory. -/
def wrC (B : List Int) (a : Int) (c : CapV) : List Int := wrB B a.toNat (capB c)
def tgC (T : List Bool) (a : Int) (t : Bool) : List Bool := T.set (a.toNat / 16) t

theorem clT_gran {T : List Bool} {a : Nat} (h : a % 16 = 0) (hT : a / 16 < T.length) : ∀ t, (clT T a 16).set (a / 16) t = T.set (a / 16) t := by
  intro t
  apply List.ext_getElem
  · simp [clT]
  · intro i h1 h2
    simp only [List.getElem_set, clT, List.getElem_mapIdx]
    split
    · rfl
    · simp; omega

theorem rstoreCap_ok {t : TypeId} {M : MB} {B : List Int} {T : List Bool} (a : Int) (c : CapV) (hc : c.ok) (w : World) (hw : Here w (memL t M true B T)) (hM : okM M B T) (ha : isI64 a) (hB : isB B) :
    Rets Pg n_haspref11_Mem_StoreCap [.pointer (some ⟨M.bm, 0, none⟩), .int .i64 a, c.val] w fun v w' => Ext (fun x => x = M.bb ∨ x = M.bt) w w' ∧
      ((okC B.length a ∧ v = wr0 ∧ Here w' (memL t M true (wrC B a c) (tgC T a c.tag))) ∨ (¬ okC B.length a ∧ v = wrV ⟨#[109, 101, 109]⟩ a (capNo B.length a) ∧ Here w' (memL t M true B T))) := by
  
  have hM' := hM
  obtain ⟨k1, k2, k3, k4, k5⟩ := hM'
  refine rets_of m_haspref11_Mem_StoreCap rfl rfl (hw.start (S := fun x => x = M.bb ∨ x = M.bt) (by simp)) ?_
  refine J.go [5,6,7,8] 900 rfl ?_
  refine JF.callV _ rfl (fun w1 hst => rloadCap_ok a w1 (hst.here (List.Sublist.refl _)) hM ha hB) fun w1 r w2 hst hq => ?_
  obtain ⟨hx, ⟨hok, rfl⟩ | ⟨hok, rfl⟩⟩ := hq
  · have hok' := hok
    obtain ⟨⟨h1, h2, h3⟩, h4⟩ := hok'
    refine ⟨_, Tr.same hst hx (fun x hx => nomatch hx), ?_⟩
    refine J.go [5,6,7,8] 900 rfl ?_
    (repeat' (first | ((first | ((first | refine JF.condD rfl ?_ ?_ | refine JF.condE rfl ?_ ?_ | refine JF.condN rfl ?_ ?_ | refine JF.guardD rfl ?_ ?_ | refine JF.guardE rfl ?_ ?_ | refine JF.guardN rfl ?_ ?_ | refine JF.cond rfl ?_ ?_ | refine JF.guard rfl ?_ ?_) <;> intro h) | refine JF.l1 0 rfl rfl rfl rfl ?_ | refine JF.ln 0 rfl rfl rfl rfl ?_ | refine JF.l1 1 rfl rfl rfl rfl ?_ | refine JF.ln 1 rfl rfl rfl rfl ?_ | refine JF.l1 2 rfl rfl rfl rfl ?_ | refine JF.ln 2 rfl rfl rfl rfl ?_ | refine JF.l1 3 rfl rfl rfl rfl ?_ | refine JF.ln 3 rfl rfl rfl rfl ?_ | refine JF.l1 4 rfl rfl rfl rfl ?_ | refine JF.ln 4 rfl rfl rfl rfl ?_ | refine JF.l1 5 rfl rfl rfl rfl ?_ | refine JF.ln 5 rfl rfl rfl rfl ?_ | refine JF.l1 6 rfl rfl rfl rfl ?_ | refine JF.ln 6 rfl rfl rfl rfl ?_ | refine JF.l1 7 rfl rfl rfl rfl ?_ | refine JF.ln 7 rfl rfl rfl rfl ?_) <;> (first | (exact absurd h Bool.false_ne_true) | (exact absurd h.symm Bool.false_ne_true) | (exfalso; omega) | (exfalso; simp only [IntKind.wrap_i64, IntKind.wrap_i32, IntKind.wrap_u32, IntKind.wrap_u16, IntKind.wrap_u8] at *; omega) | refine J.go [5,6,7,8] 900 rfl ?_))))
    refine JF.callV _ rfl (fun w1 hst => rput_ok c hc w1) fun w1 r w2 hst hq => ?_
    obtain ⟨hx, E, hos, hnew⟩ := hq
    obtain ⟨a', n', c', rfl, hn, hc'⟩ := hos.slice
    rw [byC_len, capB_len, Nat.mul_one] at hn
    have hn : n' = 16 := hn.symm
    subst hn
    rcases hos.inv with ⟨_, h0, _⟩ | ⟨b, sp, rfl, rfl, hl1, hl2, hl3⟩
    · omega
    refine ⟨_, Tr.news hst hx hnew (fun x hx => nomatch hx), ?_⟩
    refine J.go [5,6,7,8] 900 rfl ?_
    refine JF.callV _ rfl (fun w1 hst => rstore_ok (l := capB c) a w1 (hst.here (List.sublist_cons_self _ _)) hM ha (rd_fst hst (.head _) rfl rfl (by rw [byC_len, capB_len])) (fun b' o hb _ => by
      cases hb
      have h3 := List.pairwise_cons.1 hst.dis
      exact ⟨h3.1 _ (.head _), h3.1 _ (.tail _ (.head _)), h3.1 _ (.tail _ (.tail _ (.head _)))⟩) (by decide)) fun w1 r w2 hst hq => ?_
    obtain ⟨hx, ⟨_, rfl, hh⟩ | ⟨hno, _⟩⟩ := hq
    · refine ⟨_, Tr.memN (A := [_]) (C := []) (N := []) hst hx hh (News.nil _ _) (fun x hx => nomatch hx), ?_⟩
      have e2 : IntKind.i64.wrap (a.tdiv 16) = ((a.toNat / 16 : Nat) : Int) := by rw [IntKind.wrap_i64, Int.tdiv_eq_ediv_of_nonneg (by omega)]; omega
      have hTl := clT_len T a.toNat 16
      have hTs : (tgC T a c.tag).length = T.length := by simp [tgC]
      have hBl : (wrC B a c).length = B.length := wrB_len (by rw [capB_len]; omega)
      refine J.go [5,6,7,8] 900 rfl ?_
      refine JF.draw [5] [⟨M.bm, t, 0, 0, [.slice (some ⟨M.bb, 0, none⟩) (wrB B a.toNat (capB c)).length M.cb, .slice (some ⟨M.bt, 0, none⟩) (clT T a.toNat 16).length M.ct], false⟩] rfl (fun x hx => by rw [List.mem_singleton.1 hx]; exact .tail _ (.head _)) ?_
      refine J.go [5,6,7,8] 900 rfl ?_
      (repeat' (first | ((first | ((first | refine JF.condD rfl ?_ ?_ | refine JF.condE rfl ?_ ?_ | refine JF.condN rfl ?_ ?_ | refine JF.guardD rfl ?_ ?_ | refine JF.guardE rfl ?_ ?_ | refine JF.guardN rfl ?_ ?_ | refine JF.cond rfl ?_ ?_ | refine JF.guard rfl ?_ ?_) <;> intro h) | refine JF.l1 0 rfl rfl rfl rfl ?_ | refine JF.ln 0 rfl rfl rfl rfl ?_ | refine JF.l1 1 rfl rfl rfl rfl ?_ | refine JF.ln 1 rfl rfl rfl rfl ?_ | refine JF.l1 2 rfl rfl rfl rfl ?_ | refine JF.ln 2 rfl rfl rfl rfl ?_ | refine JF.l1 3 rfl rfl rfl rfl ?_ | refine JF.ln 3 rfl rfl rfl rfl ?_ | refine JF.l1 4 rfl rfl rfl rfl ?_ | refine JF.ln 4 rfl rfl rfl rfl ?_ | refine JF.l1 5 rfl rfl rfl rfl ?_ | refine JF.ln 5 rfl rfl rfl rfl ?_ | refine JF.l1 6 rfl rfl rfl rfl ?_ | refine JF.ln 6 rfl rfl rfl rfl ?_ | refine JF.l1 7 rfl rfl rfl rfl ?_ | refine JF.ln 7 rfl rfl rfl rfl ?_) <;> (first | (exact absurd h Bool.false_ne_true) | (exact absurd h.symm Bool.false_ne_true) | (exfalso; omega) | (exfalso; simp only [IntKind.wrap_i64, IntKind.wrap_i32, IntKind.wrap_u32, IntKind.wrap_u16, IntKind.wrap_u8] at *; omega) | refine J.go [5,6,7,8] 900 rfl ?_))))
      rw [e2]
      (refine JF.chk rfl ?_ ?_; (focus ((repeat' (apply And.intro)) <;> (first | exact True.intro | (first | omega | (simp only [IntKind.wrap_i64, IntKind.wrap_i32, IntKind.wrap_u64, IntKind.wrap_u32, IntKind.wrap_u16, IntKind.wrap_u8] at *; omega))))))
      refine J.go [5,6,7,8] 900 rfl ?_
      refine JF.st1 3 rfl rfl rfl rfl rfl rfl (.inr (.inr (Nat.le_refl _))) (putL_app (putL_bo (k := a.toNat / 16) (by omega) (by omega) (clT_gran (by omega) (by omega) c.tag))) rfl (fun x hx => by rw [List.mem_singleton.1 hx]; exact .tail _ (.head _)) ?_
      refine J.go [5,6,7,8] 900 rfl ?_
      refine JF.ret rfl fun w' hst => ⟨hst.ext, .inl ⟨hok, rfl, ?_⟩⟩
      have := hst.here (List.sublist_cons_self _ _)
      rw [memL, hTs, ← hTl]
      exact this
    · exact absurd ⟨h1, by decide, h3⟩ hno
  · refine ⟨_, Tr.same hst hx (fun x hx => nomatch hx), ?_⟩
    have hne : ¬ capNo B.length a = 0 := by unfold capNo; split <;> decide
    refine J.go [5,6,7,8] 900 rfl ?_
    (repeat' (first | ((first | ((first | refine JF.condD rfl ?_ ?_ | refine JF.condE rfl ?_ ?_ | refine JF.condN rfl ?_ ?_ | refine JF.guardD rfl ?_ ?_ | refine JF.guardE rfl ?_ ?_ | refine JF.guardN rfl ?_ ?_ | refine JF.cond rfl ?_ ?_ | refine JF.guard rfl ?_ ?_) <;> intro h) | refine JF.l1 0 rfl rfl rfl rfl ?_ | refine JF.ln 0 rfl rfl rfl rfl ?_ | refine JF.l1 1 rfl rfl rfl rfl ?_ | refine JF.ln 1 rfl rfl rfl rfl ?_ | refine JF.l1 2 rfl rfl rfl rfl ?_ | refine JF.ln 2 rfl rfl rfl rfl ?_ | refine JF.l1 3 rfl rfl rfl rfl ?_ | refine JF.ln 3 rfl rfl rfl rfl ?_ | refine JF.l1 4 rfl rfl rfl rfl ?_ | refine JF.ln 4 rfl rfl rfl rfl ?_ | refine JF.l1 5 rfl rfl rfl rfl ?_ | refine JF.ln 5 rfl rfl rfl rfl ?_ | refine JF.l1 6 rfl rfl rfl rfl ?_ | refine JF.ln 6 rfl rfl rfl rfl ?_ | refine JF.l1 7 rfl rfl rfl rfl ?_ | refine JF.ln 7 rfl rfl rfl rfl ?_) <;> (first | (exact absurd h Bool.false_ne_true) | (exact absurd h.symm Bool.false_ne_true) | (exfalso; omega) | (exfalso; simp only [IntKind.wrap_i64, IntKind.wrap_i32, IntKind.wrap_u32, IntKind.wrap_u16, IntKind.wrap_u8] at *; omega) | refine J.go [5,6,7,8] 900 rfl ?_))))
    refine JF.ret rfl fun w' hst => ⟨hst.ext, .inr ⟨hok, rfl, hst.here (List.Sublist.refl _)⟩⟩
end Go.HM
