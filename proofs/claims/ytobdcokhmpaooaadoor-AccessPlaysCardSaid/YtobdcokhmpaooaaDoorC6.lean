/- Memories are compared: contracts. -/
import Derived.Test.YtobdcokhmpaooaaDoorKbytes
import Derived.Test.YtobdcokhmpaooaaDoorKmem
import Derived.Test.YtobdcokhmpaooaaDoorKslices
import Derived.Test.YtobdcokhmpaooaaDoorC5
namespace Go.HM
open Go Go.Proofs
set_option linter.unusedSimpArgs false
set_option linter.unusedVariables false

theorem bytesEqual_ok {a b : Option Addr} {n m c d : Nat} {l k : List Int} (w : World) (hl : isB l) (hk : isB k) (h1 : RdS w 1 (.slice a n c) (byC l) n) (h2 : RdS w 1 (.slice b m d) (byC k) m) :
    Rets Pg n_bytes_Equal [.slice a n c, .slice b m d] w fun v w' => Ext NoB w w' ∧ v = .bool (decide (l = k)) := by
  refine rets_of m_bytes_Equal rfl rfl (St.nil w) ?_
  
  refine J.go [] 900 rfl ?_
  refine JF.str rfl (fun w' hst => h1.keep hst.ext (fun _ _ _ _ _ h => h)) (fun x hx => nomatch hx) ?_
  refine J.go [] 900 rfl ?_
  refine JF.str rfl (fun w' hst => h2.keep hst.ext (fun _ _ _ _ _ h => h)) (fun x hx => nomatch hx) ?_
  refine J.go [] 900 rfl ?_
  refine JF.ret rfl fun w' hst => ⟨hst.ext, ?_⟩
  rw [← byS_eq hl hk]
  rfl

theorem Here.ro_start {w : World} {L : List Ent} (h : Here w L) : St w NoB w (L.map fun x => { x with rw := false }) := h.ro.start (S := NoB) (fun x hx hr => by
  obtain ⟨y, _, rfl⟩ := List.mem_map.1 hx
  cases hr)

theorem boolsEqual_ok {b1 b2 c d : Nat} {l k : List Bool} {L : List Ent} {e1 e2 : Ent} (w : World) (hw : Here w L) (m1 : e1 ∈ L) (m2 : e2 ∈ L) (hb1 : e1.b = b1) (hb2 : e2.b = b2) {s1 s2 : List Value} (hc1 : e1.cs = l.map Value.bool ++ s1) (hc2 : e2.cs = k.map Value.bool ++ s2) (hlen : l.length < 1000000) (hklen : k.length < 1000000) :
    Rets Pg n_slices_Equal_boolbool [.slice (some ⟨b1, 0, none⟩) l.length c, .slice (some ⟨b2, 0, none⟩) k.length d] w fun v w' => Ext NoB w w' ∧ v = .bool (decide (l = k)) := by
  refine rets_of m_slices_Equal_boolbool rfl rfl hw.ro_start ?_
  
  have m1' : ({ e1 with rw := false } : Ent) ∈ L.map fun x => { x with rw := false } := List.mem_map.2 ⟨e1, m1, rfl⟩
  have m2' : ({ e2 with rw := false } : Ent) ∈ L.map fun x => { x with rw := false } := List.mem_map.2 ⟨e2, m2, rfl⟩
  by_cases hl : l.length = k.length
  · refine J.go [] 900 rfl ?_
    (repeat' (first | ((first | ((first | refine JF.condD rfl ?_ ?_ | refine JF.condE rfl ?_ ?_ | refine JF.condN rfl ?_ ?_ | refine JF.guardD rfl ?_ ?_ | refine JF.guardE rfl ?_ ?_ | refine JF.guardN rfl ?_ ?_ | refine JF.cond rfl ?_ ?_ | refine JF.guard rfl ?_ ?_) <;> intro h) | refine JF.l1 0 rfl rfl rfl rfl ?_ | refine JF.ln 0 rfl rfl rfl rfl ?_ | refine JF.l1 1 rfl rfl rfl rfl ?_ | refine JF.ln 1 rfl rfl rfl rfl ?_ | refine JF.l1 2 rfl rfl rfl rfl ?_ | refine JF.ln 2 rfl rfl rfl rfl ?_ | refine JF.l1 3 rfl rfl rfl rfl ?_ | refine JF.ln 3 rfl rfl rfl rfl ?_ | refine JF.l1 4 rfl rfl rfl rfl ?_ | refine JF.ln 4 rfl rfl rfl rfl ?_ | refine JF.l1 5 rfl rfl rfl rfl ?_ | refine JF.ln 5 rfl rfl rfl rfl ?_ | refine JF.l1 6 rfl rfl rfl rfl ?_ | refine JF.ln 6 rfl rfl rfl rfl ?_ | refine JF.l1 7 rfl rfl rfl rfl ?_ | refine JF.ln 7 rfl rfl rfl rfl ?_) <;> (first | (exact absurd h Bool.false_ne_true) | (exact absurd h.symm Bool.false_ne_true) | (exfalso; omega) | (exfalso; simp only [IntKind.wrap_i64, IntKind.wrap_i32, IntKind.wrap_u32, IntKind.wrap_u16, IntKind.wrap_u8] at *; omega) | refine J.go [] 900 rfl ?_))))
    refine JF.loop (σ := Nat) (fun i => [(13, .v (.int .i64 (i : Int))), (12, .v (.int .i64 (l.length : Int))), (0, .v (.slice (some ⟨b1, 0, none⟩) l.length c)), (1, .v (.slice (some ⟨b2, 0, none⟩) k.length d))]) (fun _ => [])
      (fun _ => L.map fun x => { x with rw := false }) (fun i => i ≤ l.length ∧ ∀ j, j < i → l.getD j false = k.getD j false) (fun i => l.length - i) 0 ⟨Nat.zero_le _, fun j hj => by omega⟩ ⟨rfl, rfl, rfl, rfl, trivial⟩ trivial (List.Sublist.refl _) ?_
    rintro i ⟨hi, heq⟩
    rcases Nat.lt_or_ge i l.length with hlt | hge
    · have e1' : IntKind.i64.wrap ((i : Int) + 1) = ((i + 1 : Nat) : Int) := by rw [IntKind.wrap_i64]; omega
      refine J.go [] 900 rfl ?_
      (repeat' (first | ((first | ((first | refine JF.condD rfl ?_ ?_ | refine JF.condE rfl ?_ ?_ | refine JF.condN rfl ?_ ?_ | refine JF.guardD rfl ?_ ?_ | refine JF.guardE rfl ?_ ?_ | refine JF.guardN rfl ?_ ?_ | refine JF.cond rfl ?_ ?_ | refine JF.guard rfl ?_ ?_) <;> intro h) | refine JF.l1 0 rfl rfl rfl rfl ?_ | refine JF.ln 0 rfl rfl rfl rfl ?_ | refine JF.l1 1 rfl rfl rfl rfl ?_ | refine JF.ln 1 rfl rfl rfl rfl ?_ | refine JF.l1 2 rfl rfl rfl rfl ?_ | refine JF.ln 2 rfl rfl rfl rfl ?_ | refine JF.l1 3 rfl rfl rfl rfl ?_ | refine JF.ln 3 rfl rfl rfl rfl ?_ | refine JF.l1 4 rfl rfl rfl rfl ?_ | refine JF.ln 4 rfl rfl rfl rfl ?_ | refine JF.l1 5 rfl rfl rfl rfl ?_ | refine JF.ln 5 rfl rfl rfl rfl ?_ | refine JF.l1 6 rfl rfl rfl rfl ?_ | refine JF.ln 6 rfl rfl rfl rfl ?_ | refine JF.l1 7 rfl rfl rfl rfl ?_ | refine JF.ln 7 rfl rfl rfl rfl ?_) <;> (first | (exact absurd h Bool.false_ne_true) | (exact absurd h.symm Bool.false_ne_true) | (exfalso; omega) | (exfalso; simp only [IntKind.wrap_i64, IntKind.wrap_i32, IntKind.wrap_u32, IntKind.wrap_u16, IntKind.wrap_u8] at *; omega) | refine J.go [] 900 rfl ?_))))
      refine JF.draw [] [{ e1 with rw := false }, { e2 with rw := false }] rfl (by simp only [List.mem_cons, List.not_mem_nil, or_false]; rintro x (rfl | rfl); exact m1'; exact m2') ?_
      refine J.go [] 900 rfl ?_
      (refine JF.chk rfl ?_ ?_; (focus ((repeat' (apply And.intro)) <;> (first | exact True.intro | (first | omega | (simp only [IntKind.wrap_i64, IntKind.wrap_i32, IntKind.wrap_u64, IntKind.wrap_u32, IntKind.wrap_u16, IntKind.wrap_u8] at *; omega))))))
      refine J.go [] 900 rfl ?_
      refine JF.ld1 (v := .bool (l.getD i false)) rfl (.head _) hb1 (by rw [hc1]; exact nthL_app (nth_bool (by omega) hlt)) ?_
      refine J.go [] 900 rfl ?_
      (refine JF.chk rfl ?_ ?_; (focus ((repeat' (apply And.intro)) <;> (first | exact True.intro | (first | omega | (simp only [IntKind.wrap_i64, IntKind.wrap_i32, IntKind.wrap_u64, IntKind.wrap_u32, IntKind.wrap_u16, IntKind.wrap_u8] at *; omega))))))
      refine J.go [] 900 rfl ?_
      refine JF.ld1 (v := .bool (k.getD i false)) rfl (.tail _ (.head _)) hb2 (by rw [hc2]; exact nthL_app (nth_bool (by omega) (by omega))) ?_
      refine J.go [] 900 rfl ?_
      refine JF.cond rfl (fun h => ?_) (fun h => ?_)
      · refine J.go [] 900 rfl ?_
        refine JF.ret rfl fun w' hst => ⟨hst.ext, ?_⟩
        have hne : l ≠ k := by
          rintro rfl
          simp at h
        rw [decide_eq_false hne]; rfl
      · refine J.go [] 900 rfl ?_
        rw [e1']
        refine JF.round (i + 1) ⟨hlt, fun j hj => ?_⟩ (by omega) ⟨rfl, rfl, rfl, rfl, trivial⟩ trivial (List.Sublist.refl _)
        rcases Nat.lt_or_ge j i with h2 | h2
        · exact heq j h2
        · have : j = i := by omega
          subst this
          simpa using h
    · have hin : i = l.length := by omega
      subst hin
      refine J.go [] 900 rfl ?_
      (repeat' (first | ((first | ((first | refine JF.condD rfl ?_ ?_ | refine JF.condE rfl ?_ ?_ | refine JF.condN rfl ?_ ?_ | refine JF.guardD rfl ?_ ?_ | refine JF.guardE rfl ?_ ?_ | refine JF.guardN rfl ?_ ?_ | refine JF.cond rfl ?_ ?_ | refine JF.guard rfl ?_ ?_) <;> intro h) | refine JF.l1 0 rfl rfl rfl rfl ?_ | refine JF.ln 0 rfl rfl rfl rfl ?_ | refine JF.l1 1 rfl rfl rfl rfl ?_ | refine JF.ln 1 rfl rfl rfl rfl ?_ | refine JF.l1 2 rfl rfl rfl rfl ?_ | refine JF.ln 2 rfl rfl rfl rfl ?_ | refine JF.l1 3 rfl rfl rfl rfl ?_ | refine JF.ln 3 rfl rfl rfl rfl ?_ | refine JF.l1 4 rfl rfl rfl rfl ?_ | refine JF.ln 4 rfl rfl rfl rfl ?_ | refine JF.l1 5 rfl rfl rfl rfl ?_ | refine JF.ln 5 rfl rfl rfl rfl ?_ | refine JF.l1 6 rfl rfl rfl rfl ?_ | refine JF.ln 6 rfl rfl rfl rfl ?_ | refine JF.l1 7 rfl rfl rfl rfl ?_ | refine JF.ln 7 rfl rfl rfl rfl ?_) <;> (first | (exact absurd h Bool.false_ne_true) | (exact absurd h.symm Bool.false_ne_true) | (exfalso; omega) | (exfalso; simp only [IntKind.wrap_i64, IntKind.wrap_i32, IntKind.wrap_u32, IntKind.wrap_u16, IntKind.wrap_u8] at *; omega) | refine J.go [] 900 rfl ?_))))
      refine JF.ret rfl fun w' hst => ⟨hst.ext, ?_⟩
      have : l = k := List.ext_getElem hl fun j h1 h2 => by
        have := heq j h1
        simpa [List.getD, h1, h2] using this
      rw [decide_eq_true this]; rfl
  · have hne : l ≠ k := fun h => hl (by rw [h])
    rw [decide_eq_false hne]
    refine J.go [] 900 rfl ?_
    (repeat' (first | ((first | ((first | refine JF.condD rfl ?_ ?_ | refine JF.condE rfl ?_ ?_ | refine JF.condN rfl ?_ ?_ | refine JF.guardD rfl ?_ ?_ | refine JF.guardE rfl ?_ ?_ | refine JF.guardN rfl ?_ ?_ | refine JF.cond rfl ?_ ?_ | refine JF.guard rfl ?_ ?_) <;> intro h) | refine JF.l1 0 rfl rfl rfl rfl ?_ | refine JF.ln 0 rfl rfl rfl rfl ?_ | refine JF.l1 1 rfl rfl rfl rfl ?_ | refine JF.ln 1 rfl rfl rfl rfl ?_ | refine JF.l1 2 rfl rfl rfl rfl ?_ | refine JF.ln 2 rfl rfl rfl rfl ?_ | refine JF.l1 3 rfl rfl rfl rfl ?_ | refine JF.ln 3 rfl rfl rfl rfl ?_ | refine JF.l1 4 rfl rfl rfl rfl ?_ | refine JF.ln 4 rfl rfl rfl rfl ?_ | refine JF.l1 5 rfl rfl rfl rfl ?_ | refine JF.ln 5 rfl rfl rfl rfl ?_ | refine JF.l1 6 rfl rfl rfl rfl ?_ | refine JF.ln 6 rfl rfl rfl rfl ?_ | refine JF.l1 7 rfl rfl rfl rfl ?_ | refine JF.ln 7 rfl rfl rfl rfl ?_) <;> (first | (exact absurd h Bool.false_ne_true) | (exact absurd h.symm Bool.false_ne_true) | (exfalso; omega) | (exfalso; simp only [IntKind.wrap_i64, IntKind.wrap_i32, IntKind.wrap_u32, IntKind.wrap_u16, IntKind.wrap_u8] at *; omega) | refine J.go [] 900 rfl ?_))))
    refine JF.ret rfl fun w' hst => ⟨hst.ext, rfl⟩

theorem same_ok {t t2 : TypeId} {M N : MB} {r s : Bool} {B D : List Int} {T U : List Bool} {L : List Ent} (w : World) (hw : Here w L) (m1 : ∀ x ∈ memL t M r B T, x ∈ L) (m2 : ∀ x ∈ memL t2 N s D U, x ∈ L) (hM : okM M B T) (hN : okM N D U) (hB : isB B) (hD : isB D) :
    Rets Pg n_mem_Mem_Same [.pointer (some ⟨M.bm, 0, none⟩), .pointer (some ⟨N.bm, 0, none⟩)] w fun v w' => Ext NoB w w' ∧ v = .bool (decide (B = D ∧ T = U)) := by
  refine rets_of m_mem_Mem_Same rfl rfl hw.ro_start ?_
  
  obtain ⟨k1, k2, k3, k4, k5⟩ := hM
  obtain ⟨j1, j2, j3, j4, j5⟩ := hN
  have m1' : ∀ x ∈ memL t M false B T, x ∈ L.map fun x => ({ x with rw := false } : Ent) := fun x hx => List.mem_map.2 (by
    simp only [List.mem_cons, List.not_mem_nil, or_false] at hx
    rcases hx with rfl | rfl | rfl
    · exact ⟨_, m1 _ (.head _), rfl⟩
    · exact ⟨_, m1 _ (.tail _ (.head _)), rfl⟩
    · exact ⟨_, m1 _ (.tail _ (.tail _ (.head _))), rfl⟩)
  have m2' : ∀ x ∈ memL t2 N false D U, x ∈ L.map fun x => ({ x with rw := false } : Ent) := fun x hx => List.mem_map.2 (by
    simp only [List.mem_cons, List.not_mem_nil, or_false] at hx
    rcases hx with rfl | rfl | rfl
    · exact ⟨_, m2 _ (.head _), rfl⟩
    · exact ⟨_, m2 _ (.tail _ (.head _)), rfl⟩
    · exact ⟨_, m2 _ (.tail _ (.tail _ (.head _))), rfl⟩)
  have q1 : ∀ x ∈ memL t M false B T, x ∈ memL t M false B T ++ memL t2 N false D U := fun x hx => List.mem_append.2 (.inl hx)
  have q2 : ∀ x ∈ memL t2 N false D U, x ∈ memL t M false B T ++ memL t2 N false D U := fun x hx => List.mem_append.2 (.inr hx)
  refine J.go [] 900 rfl ?_
  refine JF.draw [] (memL t M false B T ++ memL t2 N false D U) rfl (fun x hx => (List.mem_append.1 hx).elim (m1' x) (m2' x)) ?_
  refine J.go [] 900 rfl ?_
  refine JF.ld1 (md := some []) rfl (q1 _ (.head _)) rfl rfl ?_
  refine J.go [] 900 rfl ?_
  refine JF.ld1 (md := some []) rfl (q2 _ (.head _)) rfl rfl ?_
  refine J.go [] 900 rfl ?_
  have hh : ∀ x ∈ mdL (some []) (memL t M false B T ++ memL t2 N false D U), x ∈ L.map fun x => ({ x with rw := false } : Ent) := fun x hx => (List.mem_append.1 hx).elim (m1' x) (m2' x)
  refine JF.callF _ rfl (fun w1 hst => bytesEqual_ok w1 hB hD (rd_fst hst (m1' _ (.tail _ (.head _))) rfl rfl (byC_len _)) (rd_fst hst (m2' _ (.tail _ (.head _))) rfl rfl (byC_len _))) hh ?_
  refine J.go [] 900 rfl ?_
  by_cases hBD : B = D
  · rw [decide_eq_true hBD]
    refine J.go [] 900 rfl ?_
    (repeat' (first | ((first | ((first | refine JF.condD rfl ?_ ?_ | refine JF.condE rfl ?_ ?_ | refine JF.condN rfl ?_ ?_ | refine JF.guardD rfl ?_ ?_ | refine JF.guardE rfl ?_ ?_ | refine JF.guardN rfl ?_ ?_ | refine JF.cond rfl ?_ ?_ | refine JF.guard rfl ?_ ?_) <;> intro h) | refine JF.l1 0 rfl rfl rfl rfl ?_ | refine JF.ln 0 rfl rfl rfl rfl ?_ | refine JF.l1 1 rfl rfl rfl rfl ?_ | refine JF.ln 1 rfl rfl rfl rfl ?_ | refine JF.l1 2 rfl rfl rfl rfl ?_ | refine JF.ln 2 rfl rfl rfl rfl ?_ | refine JF.l1 3 rfl rfl rfl rfl ?_ | refine JF.ln 3 rfl rfl rfl rfl ?_ | refine JF.l1 4 rfl rfl rfl rfl ?_ | refine JF.ln 4 rfl rfl rfl rfl ?_ | refine JF.l1 5 rfl rfl rfl rfl ?_ | refine JF.ln 5 rfl rfl rfl rfl ?_ | refine JF.l1 6 rfl rfl rfl rfl ?_ | refine JF.ln 6 rfl rfl rfl rfl ?_ | refine JF.l1 7 rfl rfl rfl rfl ?_ | refine JF.ln 7 rfl rfl rfl rfl ?_) <;> (first | (exact absurd h Bool.false_ne_true) | (exact absurd h.symm Bool.false_ne_true) | (exfalso; omega) | (exfalso; simp only [IntKind.wrap_i64, IntKind.wrap_i32, IntKind.wrap_u32, IntKind.wrap_u16, IntKind.wrap_u8] at *; omega) | refine J.go [] 900 rfl ?_))))
    refine JF.callF _ rfl (fun w1 hst => boolsEqual_ok w1 (hst.here (List.Sublist.refl _)) (m1' _ (.tail _ (.tail _ (.head _)))) (m2' _ (.tail _ (.tail _ (.head _)))) rfl rfl rfl rfl (by omega) (by omega)) hh ?_
    refine J.go [] 900 rfl ?_
    refine JF.ret rfl fun w' hst => ⟨hst.ext, ?_⟩
    have e9 : decide (B = D ∧ T = U) = decide (T = U) := by simp [hBD]
    rw [e9]
    rfl
  · rw [decide_eq_false hBD]
    refine J.go [] 900 rfl ?_
    (repeat' (first | ((first | ((first | refine JF.condD rfl ?_ ?_ | refine JF.condE rfl ?_ ?_ | refine JF.condN rfl ?_ ?_ | refine JF.guardD rfl ?_ ?_ | refine JF.guardE rfl ?_ ?_ | refine JF.guardN rfl ?_ ?_ | refine JF.cond rfl ?_ ?_ | refine JF.guard rfl ?_ ?_) <;> intro h) | refine JF.l1 0 rfl rfl rfl rfl ?_ | refine JF.ln 0 rfl rfl rfl rfl ?_ | refine JF.l1 1 rfl rfl rfl rfl ?_ | refine JF.ln 1 rfl rfl rfl rfl ?_ | refine JF.l1 2 rfl rfl rfl rfl ?_ | refine JF.ln 2 rfl rfl rfl rfl ?_ | refine JF.l1 3 rfl rfl rfl rfl ?_ | refine JF.ln 3 rfl rfl rfl rfl ?_ | refine JF.l1 4 rfl rfl rfl rfl ?_ | refine JF.ln 4 rfl rfl rfl rfl ?_ | refine JF.l1 5 rfl rfl rfl rfl ?_ | refine JF.ln 5 rfl rfl rfl rfl ?_ | refine JF.l1 6 rfl rfl rfl rfl ?_ | refine JF.ln 6 rfl rfl rfl rfl ?_ | refine JF.l1 7 rfl rfl rfl rfl ?_ | refine JF.ln 7 rfl rfl rfl rfl ?_) <;> (first | (exact absurd h Bool.false_ne_true) | (exact absurd h.symm Bool.false_ne_true) | (exfalso; omega) | (exfalso; simp only [IntKind.wrap_i64, IntKind.wrap_i32, IntKind.wrap_u32, IntKind.wrap_u16, IntKind.wrap_u8] at *; omega) | refine J.go [] 900 rfl ?_))))
    refine JF.ret rfl fun w' hst => ⟨hst.ext, ?_⟩
    rw [decide_eq_false (fun h => hBD h.1)]
    rfl
end Go.HM
