/- What the document's memory computes: contracts. -/
import Derived.Test.YtobdcokhmpaooaaDoorKhaspref11
import Derived.Test.YtobdcokhmpaooaaDoorC2
namespace Go.HM
open Go Go.Proofs
set_option linter.unusedSimpArgs false
set_option linter.unusedVariables false

/-- The document's error, as a value. -/
def wrV (part : ByteArray) (at_ no : Int) : Value := .agg #[.string part, .int .i64 at_, .int .i64 no]
def wr0 : Value := wrV ⟨#[]⟩ 0 0

theorem reach_ok {t : TypeId} {M : MB} {r : Bool} {B : List Int} {T : List Bool} (a n : Int) (w : World) (hw : Here w (memL t M r B T)) (hM : okM M B T) (ha : isI64 a) (hn : isI64 n) :
    Rets Pg n_haspref11_Mem_reach [.pointer (some ⟨M.bm, 0, none⟩), .int .i64 a, .int .i64 n] w fun v w' => Ext NoB w w' ∧
      ((okR B.length a n ∧ v = wr0) ∨ (¬ okR B.length a n ∧ v = wrV ⟨#[109, 101, 109]⟩ a 6)) := by
  
  have hM' := hM
  obtain ⟨k1, k2, k3, k4, k5⟩ := hM'
  by_cases hok : okR B.length a n
  · have hok' := hok
    obtain ⟨h1, h2, h3⟩ := hok'
    refine rets_of m_haspref11_Mem_reach rfl rfl ((show Here w (memL t M false B T) from hw.ro).start (S := NoB) (by simp)) ?_
    refine J.go [6] 900 rfl ?_
    (repeat' (first | ((first | ((first | refine JF.condD rfl ?_ ?_ | refine JF.condE rfl ?_ ?_ | refine JF.condN rfl ?_ ?_ | refine JF.guardD rfl ?_ ?_ | refine JF.guardE rfl ?_ ?_ | refine JF.guardN rfl ?_ ?_ | refine JF.cond rfl ?_ ?_ | refine JF.guard rfl ?_ ?_) <;> intro h) | refine JF.l1 0 rfl rfl rfl rfl ?_ | refine JF.ln 0 rfl rfl rfl rfl ?_ | refine JF.l1 1 rfl rfl rfl rfl ?_ | refine JF.ln 1 rfl rfl rfl rfl ?_ | refine JF.l1 2 rfl rfl rfl rfl ?_ | refine JF.ln 2 rfl rfl rfl rfl ?_ | refine JF.l1 3 rfl rfl rfl rfl ?_ | refine JF.ln 3 rfl rfl rfl rfl ?_ | refine JF.l1 4 rfl rfl rfl rfl ?_ | refine JF.ln 4 rfl rfl rfl rfl ?_ | refine JF.l1 5 rfl rfl rfl rfl ?_ | refine JF.ln 5 rfl rfl rfl rfl ?_ | refine JF.l1 6 rfl rfl rfl rfl ?_ | refine JF.ln 6 rfl rfl rfl rfl ?_ | refine JF.l1 7 rfl rfl rfl rfl ?_ | refine JF.ln 7 rfl rfl rfl rfl ?_) <;> (first | (exact absurd h Bool.false_ne_true) | (exact absurd h.symm Bool.false_ne_true) | (exfalso; omega) | (exfalso; simp only [IntKind.wrap_i64, IntKind.wrap_i32, IntKind.wrap_u32, IntKind.wrap_u16, IntKind.wrap_u8] at *; omega) | refine J.go [6] 900 rfl ?_))))
    refine JF.ret rfl fun w' hst => ⟨hst.ext, .inl ⟨hok, rfl⟩⟩
  · have hok' := hok
    unfold okR at hok'
    refine rets_of m_haspref11_Mem_reach rfl rfl ((show Here w (memL t M false B T) from hw.ro).start (S := NoB) (by simp)) ?_
    refine J.go [6] 900 rfl ?_
    (repeat' (first | ((first | ((first | refine JF.condD rfl ?_ ?_ | refine JF.condE rfl ?_ ?_ | refine JF.condN rfl ?_ ?_ | refine JF.guardD rfl ?_ ?_ | refine JF.guardE rfl ?_ ?_ | refine JF.guardN rfl ?_ ?_ | refine JF.cond rfl ?_ ?_ | refine JF.guard rfl ?_ ?_) <;> intro h) | refine JF.l1 0 rfl rfl rfl rfl ?_ | refine JF.ln 0 rfl rfl rfl rfl ?_ | refine JF.l1 1 rfl rfl rfl rfl ?_ | refine JF.ln 1 rfl rfl rfl rfl ?_ | refine JF.l1 2 rfl rfl rfl rfl ?_ | refine JF.ln 2 rfl rfl rfl rfl ?_ | refine JF.l1 3 rfl rfl rfl rfl ?_ | refine JF.ln 3 rfl rfl rfl rfl ?_ | refine JF.l1 4 rfl rfl rfl rfl ?_ | refine JF.ln 4 rfl rfl rfl rfl ?_ | refine JF.l1 5 rfl rfl rfl rfl ?_ | refine JF.ln 5 rfl rfl rfl rfl ?_ | refine JF.l1 6 rfl rfl rfl rfl ?_ | refine JF.ln 6 rfl rfl rfl rfl ?_ | refine JF.l1 7 rfl rfl rfl rfl ?_ | refine JF.ln 7 rfl rfl rfl rfl ?_) <;> (first | (exact absurd h Bool.false_ne_true) | (exact absurd h.symm Bool.false_ne_true) | (exfalso; omega) | (exfalso; simp only [IntKind.wrap_i64, IntKind.wrap_i32, IntKind.wrap_u32, IntKind.wrap_u16, IntKind.wrap_u8] at *; omega) | refine J.go [6] 900 rfl ?_))))
    all_goals refine JF.ret rfl fun w' hst => ⟨hst.ext, .inr ⟨hok, rfl⟩⟩

theorem rload_ok {t : TypeId} {M : MB} {r : Bool} {B : List Int} {T : List Bool} (a n : Int) (w : World) (hw : Here w (memL t M r B T)) (hM : okM M B T) (ha : isI64 a) (hn : isI64 n) :
    Rets Pg n_haspref11_Mem_Load [.pointer (some ⟨M.bm, 0, none⟩), .int .i64 a, .int .i64 n] w fun v w' => Ext NoB w w' ∧
      ((okR B.length a n ∧ ∃ x E, v = .tuple #[x, wr0] ∧ OS 5 1 (byC (subB B a n)) x E ∧ News w w' E) ∨
       (¬ okR B.length a n ∧ v = .tuple #[.slice none 0 0, wrV ⟨#[109, 101, 109]⟩ a 6])) := by
  
  have hM' := hM
  obtain ⟨k1, k2, k3, k4, k5⟩ := hM'
  refine rets_of m_haspref11_Mem_Load rfl rfl ((show Here w (memL t M false B T) from hw.ro).start (S := NoB) (by simp)) ?_
  refine J.go [7,8] 900 rfl ?_
  refine JF.callV _ rfl (fun w1 hst => reach_ok a n w1 (hst.here (List.Sublist.refl _)) hM ha hn) fun w1 r w2 hst hq => ?_
  obtain ⟨hx, ⟨hok, rfl⟩ | ⟨hok, rfl⟩⟩ := hq
  · have hok' := hok
    obtain ⟨h1, h2, h3⟩ := hok'
    have e1 : IntKind.i64.wrap (a + n) = a + n := by rw [IntKind.wrap_i64]; omega
    refine ⟨_, Tr.same hst hx (fun x hx => nomatch hx), ?_⟩
    refine J.go [7,8] 900 rfl ?_
    (repeat' (first | ((first | ((first | refine JF.condD rfl ?_ ?_ | refine JF.condE rfl ?_ ?_ | refine JF.condN rfl ?_ ?_ | refine JF.guardD rfl ?_ ?_ | refine JF.guardE rfl ?_ ?_ | refine JF.guardN rfl ?_ ?_ | refine JF.cond rfl ?_ ?_ | refine JF.guard rfl ?_ ?_) <;> intro h) | refine JF.l1 0 rfl rfl rfl rfl ?_ | refine JF.ln 0 rfl rfl rfl rfl ?_ | refine JF.l1 1 rfl rfl rfl rfl ?_ | refine JF.ln 1 rfl rfl rfl rfl ?_ | refine JF.l1 2 rfl rfl rfl rfl ?_ | refine JF.ln 2 rfl rfl rfl rfl ?_ | refine JF.l1 3 rfl rfl rfl rfl ?_ | refine JF.ln 3 rfl rfl rfl rfl ?_ | refine JF.l1 4 rfl rfl rfl rfl ?_ | refine JF.ln 4 rfl rfl rfl rfl ?_ | refine JF.l1 5 rfl rfl rfl rfl ?_ | refine JF.ln 5 rfl rfl rfl rfl ?_ | refine JF.l1 6 rfl rfl rfl rfl ?_ | refine JF.ln 6 rfl rfl rfl rfl ?_ | refine JF.l1 7 rfl rfl rfl rfl ?_ | refine JF.ln 7 rfl rfl rfl rfl ?_) <;> (first | (exact absurd h Bool.false_ne_true) | (exact absurd h.symm Bool.false_ne_true) | (exfalso; omega) | (exfalso; simp only [IntKind.wrap_i64, IntKind.wrap_i32, IntKind.wrap_u32, IntKind.wrap_u16, IntKind.wrap_u8] at *; omega) | refine J.go [7,8] 900 rfl ?_))))
    refine JF.bldS rfl rfl (fun x hx => nomatch hx) fun b hb => ?_
    refine J.go [7,8] 900 rfl ?_
    (repeat' (first | ((first | ((first | refine JF.condD rfl ?_ ?_ | refine JF.condE rfl ?_ ?_ | refine JF.condN rfl ?_ ?_ | refine JF.guardD rfl ?_ ?_ | refine JF.guardE rfl ?_ ?_ | refine JF.guardN rfl ?_ ?_ | refine JF.cond rfl ?_ ?_ | refine JF.guard rfl ?_ ?_) <;> intro h) | refine JF.l1 0 rfl rfl rfl rfl ?_ | refine JF.ln 0 rfl rfl rfl rfl ?_ | refine JF.l1 1 rfl rfl rfl rfl ?_ | refine JF.ln 1 rfl rfl rfl rfl ?_ | refine JF.l1 2 rfl rfl rfl rfl ?_ | refine JF.ln 2 rfl rfl rfl rfl ?_ | refine JF.l1 3 rfl rfl rfl rfl ?_ | refine JF.ln 3 rfl rfl rfl rfl ?_ | refine JF.l1 4 rfl rfl rfl rfl ?_ | refine JF.ln 4 rfl rfl rfl rfl ?_ | refine JF.l1 5 rfl rfl rfl rfl ?_ | refine JF.ln 5 rfl rfl rfl rfl ?_ | refine JF.l1 6 rfl rfl rfl rfl ?_ | refine JF.ln 6 rfl rfl rfl rfl ?_ | refine JF.l1 7 rfl rfl rfl rfl ?_ | refine JF.ln 7 rfl rfl rfl rfl ?_) <;> (first | (exact absurd h Bool.false_ne_true) | (exact absurd h.symm Bool.false_ne_true) | (exfalso; omega) | (exfalso; simp only [IntKind.wrap_i64, IntKind.wrap_i32, IntKind.wrap_u32, IntKind.wrap_u16, IntKind.wrap_u8] at *; omega) | refine J.go [7,8] 900 rfl ?_))))
    (refine JF.chk rfl ?_ ?_; (focus ((repeat' (apply And.intro)) <;> (first | exact True.intro | (first | omega | (simp only [IntKind.wrap_i64, IntKind.wrap_i32, IntKind.wrap_u64, IntKind.wrap_u32, IntKind.wrap_u16, IntKind.wrap_u8] at *; omega))))))
    rw [e1, show (a + n).toNat - a.toNat = n.toNat by omega]
    obtain ⟨o, e2, h4⟩ := slA_ex M.bb 0 M.cb a.toNat 1
    rw [e2]
    refine J.go [7,8] 900 rfl ?_
    refine JF.append (A := []) (E := [⟨b, _, 0, 0, [], true⟩]) (size := 1) (ys := byC (subB B a n)) (m := n.toNat) rfl u_bytes u_bytes y_byte rfl (.own b 0 0 [] [] rfl (by decide) (by decide)) (fun w' hst => rd_sub hst (.tail _ (.tail _ (.head _))) rfl rfl hok (fun h => by rw [h4 (by omega)]; omega)) (isOne_byC _) (fun n1 h => by simp at h; omega) (fun x hx => nomatch hx) fun v' E' hos => ?_
    refine J.go [7,8] 900 rfl ?_
    refine JF.ret rfl fun w' hst => ⟨hst.ext, .inl ⟨hok, _, E', rfl, hos, hst.news (by simp) hos.rw⟩⟩
  · refine ⟨_, Tr.same hst hx (fun x hx => nomatch hx), ?_⟩
    refine J.go [7,8] 900 rfl ?_
    (repeat' (first | ((first | ((first | refine JF.condD rfl ?_ ?_ | refine JF.condE rfl ?_ ?_ | refine JF.condN rfl ?_ ?_ | refine JF.guardD rfl ?_ ?_ | refine JF.guardE rfl ?_ ?_ | refine JF.guardN rfl ?_ ?_ | refine JF.cond rfl ?_ ?_ | refine JF.guard rfl ?_ ?_) <;> intro h) | refine JF.l1 0 rfl rfl rfl rfl ?_ | refine JF.ln 0 rfl rfl rfl rfl ?_ | refine JF.l1 1 rfl rfl rfl rfl ?_ | refine JF.ln 1 rfl rfl rfl rfl ?_ | refine JF.l1 2 rfl rfl rfl rfl ?_ | refine JF.ln 2 rfl rfl rfl rfl ?_ | refine JF.l1 3 rfl rfl rfl rfl ?_ | refine JF.ln 3 rfl rfl rfl rfl ?_ | refine JF.l1 4 rfl rfl rfl rfl ?_ | refine JF.ln 4 rfl rfl rfl rfl ?_ | refine JF.l1 5 rfl rfl rfl rfl ?_ | refine JF.ln 5 rfl rfl rfl rfl ?_ | refine JF.l1 6 rfl rfl rfl rfl ?_ | refine JF.ln 6 rfl rfl rfl rfl ?_ | refine JF.l1 7 rfl rfl rfl rfl ?_ | refine JF.ln 7 rfl rfl rfl rfl ?_) <;> (first | (exact absurd h Bool.false_ne_true) | (exact absurd h.symm Bool.false_ne_true) | (exfalso; omega) | (exfalso; simp only [IntKind.wrap_i64, IntKind.wrap_i32, IntKind.wrap_u32, IntKind.wrap_u16, IntKind.wrap_u8] at *; omega) | refine J.go [7,8] 900 rfl ?_))))
    refine JF.draw [8] [] rfl (by simp) ?_
    refine J.go [7,8] 900 rfl ?_
    refine JF.ret rfl fun w' hst => ⟨hst.ext, .inr ⟨hok, rfl⟩⟩

/-- The cells that a source of bytes stands in, beside other known blocks. -/
theorem RdS.src {w : World} {L : List Ent} {a : Option Addr} {n c : Nat} {l : List Int} (h : RdS w 1 (.slice a n c) (byC l) n) (hw : Here w L) (hap : ∀ b o, a = some ⟨b, o, none⟩ → n ≠ 0 → ∀ x ∈ L, x.b ≠ b) :
    ∃ Es, Here w (L ++ Es) ∧ (∀ x ∈ Es, x.rw = false) ∧ (n = 0 ∨ ∃ b o ent, a = some ⟨b, o, none⟩ ∧ Es = [ent] ∧ ent.b = b ∧ ∀ i, i < n → nthL ent.cs (o + i) = some (.int .u8 (l.getD i 0))) := by
  have hl : l.length = n := by have := h.length; simpa [byC] using this
  by_cases h0 : n = 0
  · exact ⟨[], by simpa using hw, by simp, .inl h0⟩
  · have hne : byC l ≠ [] := by intro h'; apply h0; rw [← hl]; simpa [byC] using congrArg List.length h'
    cases a with
    | none =>
      exfalso
      generalize byC l = cs at h hne
      cases h
      exact hne rfl
    | some a =>
      obtain ⟨b, o, sp⟩ := a
      have hsp : sp = none := by generalize byC l = cs at h; cases h <;> first | rfl | exact absurd rfl h0
      subst hsp
      obtain ⟨t, fr, all, hb, hs⟩ := h.ent hne
      obtain ⟨e1, e2⟩ := subL_some _ _ _ _ hs
      refine ⟨[⟨b, t, fr.1, fr.2, all, false⟩], ⟨fun x hx => ?_, ?_⟩, by simp, .inr ⟨b, o, _, rfl, rfl, rfl, fun i hi => ?_⟩⟩
      · rcases List.mem_append.1 hx with h | h
        · exact hw.1 x h
        · rw [List.mem_singleton.1 h]; exact hb
      · refine List.pairwise_append.2 ⟨hw.2, by simp, fun x hx y hy => ?_⟩
        rw [List.mem_singleton.1 hy]
        exact hap b o rfl h0 x hx
      · have h1 := nth_byC (l := l) (o := i) rfl (by omega)
        rw [← h1, nthL_eq, nthL_eq, e1, List.getElem?_take, if_pos (by omega), List.getElem?_drop]

theorem rstore_ok {t : TypeId} {M : MB} {B : List Int} {T : List Bool} (a0 : Int) {a : Option Addr} {n c : Nat} {l : List Int} (w : World) (hw : Here w (memL t M true B T)) (hM : okM M B T) (ha : isI64 a0)
    (hr : RdS w 1 (.slice a n c) (byC l) n) (hap : ∀ b o, a = some ⟨b, o, none⟩ → n ≠ 0 → b ≠ M.bm ∧ b ≠ M.bb ∧ b ≠ M.bt) (hn63 : n < 9223372036854775808) :
    Rets Pg n_haspref11_Mem_Store [.pointer (some ⟨M.bm, 0, none⟩), .int .i64 a0, .slice a n c] w fun v w' =>
      Ext (fun x => x = M.bb ∨ x = M.bt) w w' ∧
      ((okR B.length a0 n ∧ v = wr0 ∧ Here w' (memL t M true (wrB B a0.toNat l) (clT T a0.toNat n))) ∨
       (¬ okR B.length a0 n ∧ v = wrV ⟨#[109, 101, 109]⟩ a0 6 ∧ Here w' (memL t M true B T))) := by
  
  have hM' := hM
  obtain ⟨k1, k2, k3, k4, k5⟩ := hM'
  have hlen : l.length = n := by have := hr.length; simpa [byC] using this
  obtain ⟨Es, hw', hrw, hEs⟩ := hr.src hw (fun b o hb hn0 x hx => by
    have := hap b o hb hn0
    simp only [List.mem_cons, List.not_mem_nil, or_false] at hx
    rcases hx with rfl | rfl | rfl <;> simp only <;> omega)
  refine rets_of m_haspref11_Mem_Store rfl rfl (hw'.start (S := fun x => x = M.bb ∨ x = M.bt) (fun x hx hr => by
    rcases List.mem_append.1 hx with h | h
    · simp only [List.mem_cons, List.not_mem_nil, or_false] at h
      rcases h with rfl | rfl | rfl
      · cases hr
      · exact .inl rfl
      · exact .inr rfl
    · rw [hrw x h] at hr; cases hr)) ?_
  refine J.go [6,7] 900 rfl ?_
  refine JF.callV _ rfl (fun w1 hst => reach_ok a0 n w1 (hst.here (List.sublist_append_left _ _)) hM ha (by constructor <;> omega)) fun w1 r w2 hst hq => ?_
  obtain ⟨hx, ⟨hok, rfl⟩ | ⟨hok, rfl⟩⟩ := hq
  · have hok' := hok
    obtain ⟨h1, h2, h3⟩ := hok'
    refine ⟨_, Tr.same hst hx (fun x hx => nomatch hx), ?_⟩
    refine J.go [6,7] 900 rfl ?_
    (repeat' (first | ((first | ((first | refine JF.condD rfl ?_ ?_ | refine JF.condE rfl ?_ ?_ | refine JF.condN rfl ?_ ?_ | refine JF.guardD rfl ?_ ?_ | refine JF.guardE rfl ?_ ?_ | refine JF.guardN rfl ?_ ?_ | refine JF.cond rfl ?_ ?_ | refine JF.guard rfl ?_ ?_) <;> intro h) | refine JF.l1 0 rfl rfl rfl rfl ?_ | refine JF.ln 0 rfl rfl rfl rfl ?_ | refine JF.l1 1 rfl rfl rfl rfl ?_ | refine JF.ln 1 rfl rfl rfl rfl ?_ | refine JF.l1 2 rfl rfl rfl rfl ?_ | refine JF.ln 2 rfl rfl rfl rfl ?_ | refine JF.l1 3 rfl rfl rfl rfl ?_ | refine JF.ln 3 rfl rfl rfl rfl ?_ | refine JF.l1 4 rfl rfl rfl rfl ?_ | refine JF.ln 4 rfl rfl rfl rfl ?_ | refine JF.l1 5 rfl rfl rfl rfl ?_ | refine JF.ln 5 rfl rfl rfl rfl ?_ | refine JF.l1 6 rfl rfl rfl rfl ?_ | refine JF.ln 6 rfl rfl rfl rfl ?_ | refine JF.l1 7 rfl rfl rfl rfl ?_ | refine JF.ln 7 rfl rfl rfl rfl ?_) <;> (first | (exact absurd h Bool.false_ne_true) | (exact absurd h.symm Bool.false_ne_true) | (exfalso; omega) | (exfalso; simp only [IntKind.wrap_i64, IntKind.wrap_i32, IntKind.wrap_u32, IntKind.wrap_u16, IntKind.wrap_u8] at *; omega) | refine J.go [6,7] 900 rfl ?_))))
    refine JF.loop (σ := Nat) (fun i => [(8, .v (.int .i64 (i : Int))), (0, .v (.pointer (some ⟨M.bm, 0, none⟩))), (1, .v (.int .i64 a0)), (2, .v (.slice a n c)), (6, .box 6 0)]) (fun i => [(6, [.string ⟨#[]⟩, .int .i64 0, .int .i64 0])])
      (fun i => memL t M true (wrB B a0.toNat (l.take i)) (clT T a0.toNat i) ++ Es) (fun i => i ≤ n) (fun i => n - i) 0 (Nat.zero_le _) ⟨rfl, rfl, rfl, rfl, rfl, trivial⟩ ⟨rfl, trivial⟩ (by rw [wrB_zero, clT_zero]; exact List.Sublist.refl _) fun i hi => ?_
    have hB : (wrB B a0.toNat (l.take i)).length = B.length := wrB_len (by simp; omega)
    rcases Nat.lt_or_ge i n with hlt | hge
    · rcases hEs with h0 | ⟨b, o, ent, rfl, rfl, hb, hnth⟩
      · omega
      refine J.go [6,7] 900 rfl ?_
      (repeat' (first | ((first | ((first | refine JF.condD rfl ?_ ?_ | refine JF.condE rfl ?_ ?_ | refine JF.condN rfl ?_ ?_ | refine JF.guardD rfl ?_ ?_ | refine JF.guardE rfl ?_ ?_ | refine JF.guardN rfl ?_ ?_ | refine JF.cond rfl ?_ ?_ | refine JF.guard rfl ?_ ?_) <;> intro h) | refine JF.l1 0 rfl rfl rfl rfl ?_ | refine JF.ln 0 rfl rfl rfl rfl ?_ | refine JF.l1 1 rfl rfl rfl rfl ?_ | refine JF.ln 1 rfl rfl rfl rfl ?_ | refine JF.l1 2 rfl rfl rfl rfl ?_ | refine JF.ln 2 rfl rfl rfl rfl ?_ | refine JF.l1 3 rfl rfl rfl rfl ?_ | refine JF.ln 3 rfl rfl rfl rfl ?_ | refine JF.l1 4 rfl rfl rfl rfl ?_ | refine JF.ln 4 rfl rfl rfl rfl ?_ | refine JF.l1 5 rfl rfl rfl rfl ?_ | refine JF.ln 5 rfl rfl rfl rfl ?_ | refine JF.l1 6 rfl rfl rfl rfl ?_ | refine JF.ln 6 rfl rfl rfl rfl ?_ | refine JF.l1 7 rfl rfl rfl rfl ?_ | refine JF.ln 7 rfl rfl rfl rfl ?_) <;> (first | (exact absurd h Bool.false_ne_true) | (exact absurd h.symm Bool.false_ne_true) | (exfalso; omega) | (exfalso; simp only [IntKind.wrap_i64, IntKind.wrap_i32, IntKind.wrap_u32, IntKind.wrap_u16, IntKind.wrap_u8] at *; omega) | refine J.go [6,7] 900 rfl ?_))))
      refine JF.draw [] [⟨M.bm, t, 0, 0, [.slice (some ⟨M.bb, 0, none⟩) (wrB B a0.toNat (l.take i)).length M.cb, .slice (some ⟨M.bt, 0, none⟩) (clT T a0.toNat i).length M.ct], false⟩, ent] rfl (by simp) ?_
      refine J.go [6,7] 900 rfl ?_
      (repeat' (first | ((first | ((first | refine JF.condD rfl ?_ ?_ | refine JF.condE rfl ?_ ?_ | refine JF.condN rfl ?_ ?_ | refine JF.guardD rfl ?_ ?_ | refine JF.guardE rfl ?_ ?_ | refine JF.guardN rfl ?_ ?_ | refine JF.cond rfl ?_ ?_ | refine JF.guard rfl ?_ ?_) <;> intro h) | refine JF.l1 0 rfl rfl rfl rfl ?_ | refine JF.ln 0 rfl rfl rfl rfl ?_ | refine JF.l1 1 rfl rfl rfl rfl ?_ | refine JF.ln 1 rfl rfl rfl rfl ?_ | refine JF.l1 2 rfl rfl rfl rfl ?_ | refine JF.ln 2 rfl rfl rfl rfl ?_ | refine JF.l1 3 rfl rfl rfl rfl ?_ | refine JF.ln 3 rfl rfl rfl rfl ?_ | refine JF.l1 4 rfl rfl rfl rfl ?_ | refine JF.ln 4 rfl rfl rfl rfl ?_ | refine JF.l1 5 rfl rfl rfl rfl ?_ | refine JF.ln 5 rfl rfl rfl rfl ?_ | refine JF.l1 6 rfl rfl rfl rfl ?_ | refine JF.ln 6 rfl rfl rfl rfl ?_ | refine JF.l1 7 rfl rfl rfl rfl ?_ | refine JF.ln 7 rfl rfl rfl rfl ?_) <;> (first | (exact absurd h Bool.false_ne_true) | (exact absurd h.symm Bool.false_ne_true) | (exfalso; omega) | (exfalso; simp only [IntKind.wrap_i64, IntKind.wrap_i32, IntKind.wrap_u32, IntKind.wrap_u16, IntKind.wrap_u8] at *; omega) | refine J.go [6,7] 900 rfl ?_))))
      (refine JF.chk rfl ?_ ?_; (focus ((repeat' (apply And.intro)) <;> (first | exact True.intro | (first | omega | (simp only [IntKind.wrap_i64, IntKind.wrap_i32, IntKind.wrap_u64, IntKind.wrap_u32, IntKind.wrap_u16, IntKind.wrap_u8] at *; omega))))))
      refine J.go [6,7] 900 rfl ?_
      refine JF.ld1 (v := .int .u8 (l.getD i 0)) rfl (.tail _ (.head _)) hb (by simpa using hnth i hlt) ?_
      refine J.go [6,7] 900 rfl ?_
      have e2 : IntKind.i64.wrap (a0 + i) = ((a0.toNat + i : Nat) : Int) := by rw [IntKind.wrap_i64]; omega
      rw [e2]
      (refine JF.chk rfl ?_ ?_; (focus ((repeat' (apply And.intro)) <;> (first | exact True.intro | (first | omega | (simp only [IntKind.wrap_i64, IntKind.wrap_i32, IntKind.wrap_u64, IntKind.wrap_u32, IntKind.wrap_u16, IntKind.wrap_u8] at *; omega))))))
      refine J.go [6,7] 900 rfl ?_
      refine JF.st1 1 rfl rfl rfl rfl rfl rfl (by simp) (putL_app (putL_by (k := a0.toNat + i) (by omega) (by omega) (wrB_succ B l a0.toNat i (by omega) (by omega)))) rfl (by simp [mdL]) ?_
      refine J.go [6,7] 900 rfl ?_
      (repeat' (first | ((first | ((first | refine JF.condD rfl ?_ ?_ | refine JF.condE rfl ?_ ?_ | refine JF.condN rfl ?_ ?_ | refine JF.guardD rfl ?_ ?_ | refine JF.guardE rfl ?_ ?_ | refine JF.guardN rfl ?_ ?_ | refine JF.cond rfl ?_ ?_ | refine JF.guard rfl ?_ ?_) <;> intro h) | refine JF.l1 0 rfl rfl rfl rfl ?_ | refine JF.ln 0 rfl rfl rfl rfl ?_ | refine JF.l1 1 rfl rfl rfl rfl ?_ | refine JF.ln 1 rfl rfl rfl rfl ?_ | refine JF.l1 2 rfl rfl rfl rfl ?_ | refine JF.ln 2 rfl rfl rfl rfl ?_ | refine JF.l1 3 rfl rfl rfl rfl ?_ | refine JF.ln 3 rfl rfl rfl rfl ?_ | refine JF.l1 4 rfl rfl rfl rfl ?_ | refine JF.ln 4 rfl rfl rfl rfl ?_ | refine JF.l1 5 rfl rfl rfl rfl ?_ | refine JF.ln 5 rfl rfl rfl rfl ?_ | refine JF.l1 6 rfl rfl rfl rfl ?_ | refine JF.ln 6 rfl rfl rfl rfl ?_ | refine JF.l1 7 rfl rfl rfl rfl ?_ | refine JF.ln 7 rfl rfl rfl rfl ?_) <;> (first | (exact absurd h Bool.false_ne_true) | (exact absurd h.symm Bool.false_ne_true) | (exfalso; omega) | (exfalso; simp only [IntKind.wrap_i64, IntKind.wrap_i32, IntKind.wrap_u32, IntKind.wrap_u16, IntKind.wrap_u8] at *; omega) | refine J.go [6,7] 900 rfl ?_))))
      have e3 : IntKind.i64.wrap (((a0.toNat + i : Nat) : Int).tdiv 16) = (((a0.toNat + i) / 16 : Nat) : Int) := by rw [IntKind.wrap_i64, Int.tdiv_eq_ediv_of_nonneg (by omega)]; omega
      rw [e2, e3]
      have hTl := clT_len T a0.toNat i
      (refine JF.chk rfl ?_ ?_; (focus ((repeat' (apply And.intro)) <;> (first | exact True.intro | (first | omega | (simp only [IntKind.wrap_i64, IntKind.wrap_i32, IntKind.wrap_u64, IntKind.wrap_u32, IntKind.wrap_u16, IntKind.wrap_u8] at *; omega))))))
      refine J.go [6,7] 900 rfl ?_
      refine JF.st1 2 rfl rfl rfl rfl rfl rfl (by simp) (putL_app (putL_bo (k := (a0.toNat + i) / 16) (by omega) (by omega) (clT_succ T a0.toNat i (by omega)))) rfl (fun x hx => nomatch hx) ?_
      refine J.go [6,7] 900 rfl ?_
      have e4 : IntKind.i64.wrap ((i : Int) + 1) = ((i + 1 : Nat) : Int) := by rw [IntKind.wrap_i64]; omega
      rw [e4]
      refine JF.round (i + 1) hlt (by omega) ⟨rfl, rfl, rfl, rfl, rfl, trivial⟩ ⟨rfl, trivial⟩ ?_
      have hB' : (wrB B a0.toNat (l.take (i + 1))).length = B.length := wrB_len (by simp; omega)
      rw [hB, hTl, ← hB', ← clT_len T a0.toNat (i + 1)]
      exact List.Sublist.refl _
    · have hin : i = n := by omega
      subst hin
      refine J.go [6,7] 900 rfl ?_
      (repeat' (first | ((first | ((first | refine JF.condD rfl ?_ ?_ | refine JF.condE rfl ?_ ?_ | refine JF.condN rfl ?_ ?_ | refine JF.guardD rfl ?_ ?_ | refine JF.guardE rfl ?_ ?_ | refine JF.guardN rfl ?_ ?_ | refine JF.cond rfl ?_ ?_ | refine JF.guard rfl ?_ ?_) <;> intro h) | refine JF.l1 0 rfl rfl rfl rfl ?_ | refine JF.ln 0 rfl rfl rfl rfl ?_ | refine JF.l1 1 rfl rfl rfl rfl ?_ | refine JF.ln 1 rfl rfl rfl rfl ?_ | refine JF.l1 2 rfl rfl rfl rfl ?_ | refine JF.ln 2 rfl rfl rfl rfl ?_ | refine JF.l1 3 rfl rfl rfl rfl ?_ | refine JF.ln 3 rfl rfl rfl rfl ?_ | refine JF.l1 4 rfl rfl rfl rfl ?_ | refine JF.ln 4 rfl rfl rfl rfl ?_ | refine JF.l1 5 rfl rfl rfl rfl ?_ | refine JF.ln 5 rfl rfl rfl rfl ?_ | refine JF.l1 6 rfl rfl rfl rfl ?_ | refine JF.ln 6 rfl rfl rfl rfl ?_ | refine JF.l1 7 rfl rfl rfl rfl ?_ | refine JF.ln 7 rfl rfl rfl rfl ?_) <;> (first | (exact absurd h Bool.false_ne_true) | (exact absurd h.symm Bool.false_ne_true) | (exfalso; omega) | (exfalso; simp only [IntKind.wrap_i64, IntKind.wrap_i32, IntKind.wrap_u32, IntKind.wrap_u16, IntKind.wrap_u8] at *; omega) | refine J.go [6,7] 900 rfl ?_))))
      refine JF.ret rfl fun w' hst => ⟨hst.ext, .inl ⟨hok, rfl, ?_⟩⟩
      have := hst.here (List.sublist_append_left _ _)
      rw [List.take_of_length_le (by omega)] at this
      exact this
  · refine ⟨_, Tr.same hst hx (fun x hx => nomatch hx), ?_⟩
    refine J.go [6,7] 900 rfl ?_
    (repeat' (first | ((first | ((first | refine JF.condD rfl ?_ ?_ | refine JF.condE rfl ?_ ?_ | refine JF.condN rfl ?_ ?_ | refine JF.guardD rfl ?_ ?_ | refine JF.guardE rfl ?_ ?_ | refine JF.guardN rfl ?_ ?_ | refine JF.cond rfl ?_ ?_ | refine JF.guard rfl ?_ ?_) <;> intro h) | refine JF.l1 0 rfl rfl rfl rfl ?_ | refine JF.ln 0 rfl rfl rfl rfl ?_ | refine JF.l1 1 rfl rfl rfl rfl ?_ | refine JF.ln 1 rfl rfl rfl rfl ?_ | refine JF.l1 2 rfl rfl rfl rfl ?_ | refine JF.ln 2 rfl rfl rfl rfl ?_ | refine JF.l1 3 rfl rfl rfl rfl ?_ | refine JF.ln 3 rfl rfl rfl rfl ?_ | refine JF.l1 4 rfl rfl rfl rfl ?_ | refine JF.ln 4 rfl rfl rfl rfl ?_ | refine JF.l1 5 rfl rfl rfl rfl ?_ | refine JF.ln 5 rfl rfl rfl rfl ?_ | refine JF.l1 6 rfl rfl rfl rfl ?_ | refine JF.ln 6 rfl rfl rfl rfl ?_ | refine JF.l1 7 rfl rfl rfl rfl ?_ | refine JF.ln 7 rfl rfl rfl rfl ?_) <;> (first | (exact absurd h Bool.false_ne_true) | (exact absurd h.symm Bool.false_ne_true) | (exfalso; omega) | (exfalso; simp only [IntKind.wrap_i64, IntKind.wrap_i32, IntKind.wrap_u32, IntKind.wrap_u16, IntKind.wrap_u8] at *; omega) | refine J.go [6,7] 900 rfl ?_))))
    refine JF.ret rfl fun w' hst => ⟨hst.ext, .inr ⟨hok, rfl, hst.here (List.sublist_append_left _ _)⟩⟩
end Go.HM
