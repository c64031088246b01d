/- Tags are listed, memories are compared: contracts. -/
import Derived.Test.YtobdcokhmpaooaaDoorKhaspref11
import Derived.Test.YtobdcokhmpaooaaDoorKmem
import Derived.Test.YtobdcokhmpaooaaDoorC4
namespace Go.HM
open Go Go.Proofs
set_option linter.unusedSimpArgs false
set_option linter.unusedVariables false

/-- Where the granules with tags begin, of the first so many. -/
def tagsTo (T : List Bool) : Nat → List Int
  | 0 => []
  | i + 1 => tagsTo T i ++ (if T.getD i false then [16 * (i : Int)] else [])

def inC (l : List Int) : List Value := l.map (.int .i64 ·)

theorem tagsTo_len (T : List Bool) : ∀ i, (tagsTo T i).length ≤ i
  | 0 => by simp [tagsTo]
  | i + 1 => by
    have := tagsTo_len T i
    simp only [tagsTo, List.length_append]
    split <;> simp <;> omega

theorem isOne_inC (l : List Int) : ∀ y ∈ inC l, isOne y = true := fun y hy => by
  simp only [inC, List.mem_map] at hy
  obtain ⟨x, _, rfl⟩ := hy
  rfl

theorem tags_ok {t : TypeId} {M : MB} {r : Bool} {B : List Int} {T : List Bool} (w : World) (hw : Here w (memL t M r B T)) (hM : okM M B T) :
    Rets Pg n_mem_Mem_Tags [.pointer (some ⟨M.bm, 0, none⟩)] w fun v w' => Ext NoB w w' ∧ ∃ E, OS 3 1 (inC (tagsTo T T.length)) v E ∧ News w w' E := by
  
  have hM' := hM
  obtain ⟨k1, k2, k3, k4, k5⟩ := hM'
  refine rets_of m_mem_Mem_Tags rfl rfl ((show Here w (memL t M false B T) from hw.ro).start (S := NoB) (by simp)) ?_
  refine J.go [] 900 rfl ?_
  (repeat' (first | ((first | ((first | refine JF.condD rfl ?_ ?_ | refine JF.condE rfl ?_ ?_ | refine JF.condN rfl ?_ ?_ | refine JF.guardD rfl ?_ ?_ | refine JF.guardE rfl ?_ ?_ | refine JF.guardN rfl ?_ ?_ | refine JF.cond rfl ?_ ?_ | refine JF.guard rfl ?_ ?_) <;> intro h) | refine JF.l1 0 rfl rfl rfl rfl ?_ | refine JF.ln 0 rfl rfl rfl rfl ?_ | refine JF.l1 1 rfl rfl rfl rfl ?_ | refine JF.ln 1 rfl rfl rfl rfl ?_ | refine JF.l1 2 rfl rfl rfl rfl ?_ | refine JF.ln 2 rfl rfl rfl rfl ?_ | refine JF.l1 3 rfl rfl rfl rfl ?_ | refine JF.ln 3 rfl rfl rfl rfl ?_ | refine JF.l1 4 rfl rfl rfl rfl ?_ | refine JF.ln 4 rfl rfl rfl rfl ?_ | refine JF.l1 5 rfl rfl rfl rfl ?_ | refine JF.ln 5 rfl rfl rfl rfl ?_ | refine JF.l1 6 rfl rfl rfl rfl ?_ | refine JF.ln 6 rfl rfl rfl rfl ?_ | refine JF.l1 7 rfl rfl rfl rfl ?_ | refine JF.ln 7 rfl rfl rfl rfl ?_) <;> (first | (exact absurd h Bool.false_ne_true) | (exact absurd h.symm Bool.false_ne_true) | (exfalso; omega) | (exfalso; simp only [IntKind.wrap_i64, IntKind.wrap_i32, IntKind.wrap_u32, IntKind.wrap_u16, IntKind.wrap_u8] at *; omega) | refine J.go [] 900 rfl ?_))))
  refine JF.loop (σ := Nat × Value × List Ent) (fun s => [(11, .v (.int .i64 (s.1 : Int))), (3, .v s.2.1), (9, .v (.slice (some ⟨M.bt, 0, none⟩) T.length M.ct)), (10, .v (.int .i64 (T.length : Int)))]) (fun _ => [])
    (fun s => s.2.2 ++ memL t M false B T) (fun s => s.1 ≤ T.length ∧ OS 3 1 (inC (tagsTo T s.1)) s.2.1 s.2.2) (fun s => T.length - s.1) (0, _, []) ⟨Nat.zero_le _, .emp none (fun x hx => nomatch hx)⟩ ⟨rfl, rfl, rfl, rfl, trivial⟩ trivial (List.Sublist.refl _) ?_
  rintro ⟨i, v, E⟩ ⟨hi, hos⟩
  simp only at hi hos
  dsimp only
  rcases Nat.lt_or_ge i T.length with hlt | hge
  · have e1 : IntKind.i64.wrap ((i : Int) + 1) = ((i + 1 : Nat) : Int) := by rw [IntKind.wrap_i64]; omega
    refine J.go [] 900 rfl ?_
    (repeat' (first | ((first | ((first | refine JF.condD rfl ?_ ?_ | refine JF.condE rfl ?_ ?_ | refine JF.condN rfl ?_ ?_ | refine JF.guardD rfl ?_ ?_ | refine JF.guardE rfl ?_ ?_ | refine JF.guardN rfl ?_ ?_ | refine JF.cond rfl ?_ ?_ | refine JF.guard rfl ?_ ?_) <;> intro h) | refine JF.l1 0 rfl rfl rfl rfl ?_ | refine JF.ln 0 rfl rfl rfl rfl ?_ | refine JF.l1 1 rfl rfl rfl rfl ?_ | refine JF.ln 1 rfl rfl rfl rfl ?_ | refine JF.l1 2 rfl rfl rfl rfl ?_ | refine JF.ln 2 rfl rfl rfl rfl ?_ | refine JF.l1 3 rfl rfl rfl rfl ?_ | refine JF.ln 3 rfl rfl rfl rfl ?_ | refine JF.l1 4 rfl rfl rfl rfl ?_ | refine JF.ln 4 rfl rfl rfl rfl ?_ | refine JF.l1 5 rfl rfl rfl rfl ?_ | refine JF.ln 5 rfl rfl rfl rfl ?_ | refine JF.l1 6 rfl rfl rfl rfl ?_ | refine JF.ln 6 rfl rfl rfl rfl ?_ | refine JF.l1 7 rfl rfl rfl rfl ?_ | refine JF.ln 7 rfl rfl rfl rfl ?_) <;> (first | (exact absurd h Bool.false_ne_true) | (exact absurd h.symm Bool.false_ne_true) | (exfalso; omega) | (exfalso; simp only [IntKind.wrap_i64, IntKind.wrap_i32, IntKind.wrap_u32, IntKind.wrap_u16, IntKind.wrap_u8] at *; omega) | refine J.go [] 900 rfl ?_))))
    (refine JF.chk rfl ?_ ?_; (focus ((repeat' (apply And.intro)) <;> (first | exact True.intro | (first | omega | (simp only [IntKind.wrap_i64, IntKind.wrap_i32, IntKind.wrap_u64, IntKind.wrap_u32, IntKind.wrap_u16, IntKind.wrap_u8] at *; omega))))))
    refine J.go [] 900 rfl ?_
    refine JF.ld1 (v := .bool (T.getD i false)) rfl (List.mem_append.2 (.inr (.tail _ (.tail _ (.head _))))) rfl (nthL_app (nth_bool (by omega) hlt)) ?_
    cases hT : T.getD i false
    · refine J.go [] 900 rfl ?_
      (repeat' (first | ((first | ((first | refine JF.condD rfl ?_ ?_ | refine JF.condE rfl ?_ ?_ | refine JF.condN rfl ?_ ?_ | refine JF.guardD rfl ?_ ?_ | refine JF.guardE rfl ?_ ?_ | refine JF.guardN rfl ?_ ?_ | refine JF.cond rfl ?_ ?_ | refine JF.guard rfl ?_ ?_) <;> intro h) | refine JF.l1 0 rfl rfl rfl rfl ?_ | refine JF.ln 0 rfl rfl rfl rfl ?_ | refine JF.l1 1 rfl rfl rfl rfl ?_ | refine JF.ln 1 rfl rfl rfl rfl ?_ | refine JF.l1 2 rfl rfl rfl rfl ?_ | refine JF.ln 2 rfl rfl rfl rfl ?_ | refine JF.l1 3 rfl rfl rfl rfl ?_ | refine JF.ln 3 rfl rfl rfl rfl ?_ | refine JF.l1 4 rfl rfl rfl rfl ?_ | refine JF.ln 4 rfl rfl rfl rfl ?_ | refine JF.l1 5 rfl rfl rfl rfl ?_ | refine JF.ln 5 rfl rfl rfl rfl ?_ | refine JF.l1 6 rfl rfl rfl rfl ?_ | refine JF.ln 6 rfl rfl rfl rfl ?_ | refine JF.l1 7 rfl rfl rfl rfl ?_ | refine JF.ln 7 rfl rfl rfl rfl ?_) <;> (first | (exact absurd h Bool.false_ne_true) | (exact absurd h.symm Bool.false_ne_true) | (exfalso; omega) | (exfalso; simp only [IntKind.wrap_i64, IntKind.wrap_i32, IntKind.wrap_u32, IntKind.wrap_u16, IntKind.wrap_u8] at *; omega) | refine J.go [] 900 rfl ?_))))
      rw [e1]
      refine JF.round (i + 1, v, E) ⟨hlt, by simpa [tagsTo, ← List.getD_eq_getElem?_getD, hT] using hos⟩ (by simp only; omega) ⟨rfl, rfl, rfl, rfl, trivial⟩ trivial (List.Sublist.refl _)
    · refine J.go [] 900 rfl ?_
      (repeat' (first | ((first | ((first | refine JF.condD rfl ?_ ?_ | refine JF.condE rfl ?_ ?_ | refine JF.condN rfl ?_ ?_ | refine JF.guardD rfl ?_ ?_ | refine JF.guardE rfl ?_ ?_ | refine JF.guardN rfl ?_ ?_ | refine JF.cond rfl ?_ ?_ | refine JF.guard rfl ?_ ?_) <;> intro h) | refine JF.l1 0 rfl rfl rfl rfl ?_ | refine JF.ln 0 rfl rfl rfl rfl ?_ | refine JF.l1 1 rfl rfl rfl rfl ?_ | refine JF.ln 1 rfl rfl rfl rfl ?_ | refine JF.l1 2 rfl rfl rfl rfl ?_ | refine JF.ln 2 rfl rfl rfl rfl ?_ | refine JF.l1 3 rfl rfl rfl rfl ?_ | refine JF.ln 3 rfl rfl rfl rfl ?_ | refine JF.l1 4 rfl rfl rfl rfl ?_ | refine JF.ln 4 rfl rfl rfl rfl ?_ | refine JF.l1 5 rfl rfl rfl rfl ?_ | refine JF.ln 5 rfl rfl rfl rfl ?_ | refine JF.l1 6 rfl rfl rfl rfl ?_ | refine JF.ln 6 rfl rfl rfl rfl ?_ | refine JF.l1 7 rfl rfl rfl rfl ?_ | refine JF.ln 7 rfl rfl rfl rfl ?_) <;> (first | (exact absurd h Bool.false_ne_true) | (exact absurd h.symm Bool.false_ne_true) | (exfalso; omega) | (exfalso; simp only [IntKind.wrap_i64, IntKind.wrap_i32, IntKind.wrap_u32, IntKind.wrap_u16, IntKind.wrap_u8] at *; omega) | refine J.go [] 900 rfl ?_))))
      have e2 : IntKind.i64.wrap ((i : Int) * 16) = 16 * (i : Int) := by rw [IntKind.wrap_i64]; omega
      rw [e2]
      refine JF.bldS rfl rfl (fun x hx => nomatch hx) fun b hb => ?_
      refine J.go [] 900 rfl ?_
      refine JF.append (A := [⟨b, _, 0, 0, [.int .i64 (16 * (i : Int))], true⟩]) (E := E) (B := memL t M false B T) (size := 1) (ys := inC [16 * (i : Int)]) (m := 1) rfl u_ints u_ints y_int rfl hos (fun w' hst => RdS.of hst (.head _) rfl rfl) (isOne_inC _) (fun n1 h => ?_) (fun x hx => nomatch hx) fun v' E' hos' => ?_
      · have := tagsTo_len T i
        simp [inC] at h
        omega
      refine J.go [] 900 rfl ?_
      rw [e1]
      refine JF.round (i + 1, v', E') ⟨hlt, ?_⟩ (by simp only; omega) ⟨rfl, rfl, rfl, rfl, trivial⟩ trivial (List.sublist_cons_self _ _)
      simp only [tagsTo, hT, if_true]
      simpa [inC] using hos'
  · have hin : i = T.length := by omega
    subst hin
    refine J.go [] 900 rfl ?_
    (repeat' (first | ((first | ((first | refine JF.condD rfl ?_ ?_ | refine JF.condE rfl ?_ ?_ | refine JF.condN rfl ?_ ?_ | refine JF.guardD rfl ?_ ?_ | refine JF.guardE rfl ?_ ?_ | refine JF.guardN rfl ?_ ?_ | refine JF.cond rfl ?_ ?_ | refine JF.guard rfl ?_ ?_) <;> intro h) | refine JF.l1 0 rfl rfl rfl rfl ?_ | refine JF.ln 0 rfl rfl rfl rfl ?_ | refine JF.l1 1 rfl rfl rfl rfl ?_ | refine JF.ln 1 rfl rfl rfl rfl ?_ | refine JF.l1 2 rfl rfl rfl rfl ?_ | refine JF.ln 2 rfl rfl rfl rfl ?_ | refine JF.l1 3 rfl rfl rfl rfl ?_ | refine JF.ln 3 rfl rfl rfl rfl ?_ | refine JF.l1 4 rfl rfl rfl rfl ?_ | refine JF.ln 4 rfl rfl rfl rfl ?_ | refine JF.l1 5 rfl rfl rfl rfl ?_ | refine JF.ln 5 rfl rfl rfl rfl ?_ | refine JF.l1 6 rfl rfl rfl rfl ?_ | refine JF.ln 6 rfl rfl rfl rfl ?_ | refine JF.l1 7 rfl rfl rfl rfl ?_ | refine JF.ln 7 rfl rfl rfl rfl ?_) <;> (first | (exact absurd h Bool.false_ne_true) | (exact absurd h.symm Bool.false_ne_true) | (exfalso; omega) | (exfalso; simp only [IntKind.wrap_i64, IntKind.wrap_i32, IntKind.wrap_u32, IntKind.wrap_u16, IntKind.wrap_u8] at *; omega) | refine J.go [] 900 rfl ?_))))
    refine JF.ret rfl fun w' hst => ⟨hst.ext, E, hos, hst.news (List.sublist_append_left _ _) hos.rw⟩

theorem rtags_ok {t : TypeId} {M : MB} {r : Bool} {B : List Int} {T : List Bool} (w : World) (hw : Here w (memL t M r B T)) (hM : okM M B T) :
    Rets Pg n_haspref11_Mem_Tags [.pointer (some ⟨M.bm, 0, none⟩)] w fun v w' => Ext NoB w w' ∧ ∃ E, OS 3 1 (inC (tagsTo T T.length)) v E ∧ News w w' E := by
  
  have hM' := hM
  obtain ⟨k1, k2, k3, k4, k5⟩ := hM'
  refine rets_of m_haspref11_Mem_Tags rfl rfl ((show Here w (memL t M false B T) from hw.ro).start (S := NoB) (by simp)) ?_
  refine J.go [] 900 rfl ?_
  refine JF.loop (σ := Nat × Value × List Ent) (fun s => [(4, .v (.int .i64 (s.1 : Int))), (3, .v s.2.1), (0, .v (.pointer (some ⟨M.bm, 0, none⟩)))]) (fun _ => [])
    (fun s => s.2.2 ++ memL t M false B T) (fun s => s.1 ≤ T.length ∧ OS 3 1 (inC (tagsTo T s.1)) s.2.1 s.2.2) (fun s => T.length - s.1) (0, _, []) ⟨Nat.zero_le _, .emp none (fun x hx => nomatch hx)⟩ ⟨rfl, rfl, rfl, trivial⟩ trivial (List.Sublist.refl _) ?_
  rintro ⟨i, v, E⟩ ⟨hi, hos⟩
  simp only at hi hos
  dsimp only
  have hmem : ∀ x ∈ memL t M false B T, x ∈ E ++ memL t M false B T := fun x hx => List.mem_append.2 (.inr hx)
  refine J.go [] 900 rfl ?_
  refine JF.ld1 rfl (hmem _ (.head _)) rfl rfl ?_
  rcases Nat.lt_or_ge i T.length with hlt | hge
  · have e1 : IntKind.i64.wrap ((i : Int) + 1) = ((i + 1 : Nat) : Int) := by rw [IntKind.wrap_i64]; omega
    refine J.go [] 900 rfl ?_
    (repeat' (first | ((first | ((first | refine JF.condD rfl ?_ ?_ | refine JF.condE rfl ?_ ?_ | refine JF.condN rfl ?_ ?_ | refine JF.guardD rfl ?_ ?_ | refine JF.guardE rfl ?_ ?_ | refine JF.guardN rfl ?_ ?_ | refine JF.cond rfl ?_ ?_ | refine JF.guard rfl ?_ ?_) <;> intro h) | refine JF.l1 0 rfl rfl rfl rfl ?_ | refine JF.ln 0 rfl rfl rfl rfl ?_ | refine JF.l1 1 rfl rfl rfl rfl ?_ | refine JF.ln 1 rfl rfl rfl rfl ?_ | refine JF.l1 2 rfl rfl rfl rfl ?_ | refine JF.ln 2 rfl rfl rfl rfl ?_ | refine JF.l1 3 rfl rfl rfl rfl ?_ | refine JF.ln 3 rfl rfl rfl rfl ?_ | refine JF.l1 4 rfl rfl rfl rfl ?_ | refine JF.ln 4 rfl rfl rfl rfl ?_ | refine JF.l1 5 rfl rfl rfl rfl ?_ | refine JF.ln 5 rfl rfl rfl rfl ?_ | refine JF.l1 6 rfl rfl rfl rfl ?_ | refine JF.ln 6 rfl rfl rfl rfl ?_ | refine JF.l1 7 rfl rfl rfl rfl ?_ | refine JF.ln 7 rfl rfl rfl rfl ?_) <;> (first | (exact absurd h Bool.false_ne_true) | (exact absurd h.symm Bool.false_ne_true) | (exfalso; omega) | (exfalso; simp only [IntKind.wrap_i64, IntKind.wrap_i32, IntKind.wrap_u32, IntKind.wrap_u16, IntKind.wrap_u8] at *; omega) | refine J.go [] 900 rfl ?_))))
    refine JF.ld1 rfl (hmem _ (.head _)) rfl rfl ?_
    refine J.go [] 900 rfl ?_
    (refine JF.chk rfl ?_ ?_; (focus ((repeat' (apply And.intro)) <;> (first | exact True.intro | (first | omega | (simp only [IntKind.wrap_i64, IntKind.wrap_i32, IntKind.wrap_u64, IntKind.wrap_u32, IntKind.wrap_u16, IntKind.wrap_u8] at *; omega))))))
    refine J.go [] 900 rfl ?_
    refine JF.ld1 (v := .bool (T.getD i false)) rfl (hmem _ (.tail _ (.tail _ (.head _)))) rfl (nthL_app (nth_bool (by omega) hlt)) ?_
    cases hT : T.getD i false
    · refine J.go [] 900 rfl ?_
      (repeat' (first | ((first | ((first | refine JF.condD rfl ?_ ?_ | refine JF.condE rfl ?_ ?_ | refine JF.condN rfl ?_ ?_ | refine JF.guardD rfl ?_ ?_ | refine JF.guardE rfl ?_ ?_ | refine JF.guardN rfl ?_ ?_ | refine JF.cond rfl ?_ ?_ | refine JF.guard rfl ?_ ?_) <;> intro h) | refine JF.l1 0 rfl rfl rfl rfl ?_ | refine JF.ln 0 rfl rfl rfl rfl ?_ | refine JF.l1 1 rfl rfl rfl rfl ?_ | refine JF.ln 1 rfl rfl rfl rfl ?_ | refine JF.l1 2 rfl rfl rfl rfl ?_ | refine JF.ln 2 rfl rfl rfl rfl ?_ | refine JF.l1 3 rfl rfl rfl rfl ?_ | refine JF.ln 3 rfl rfl rfl rfl ?_ | refine JF.l1 4 rfl rfl rfl rfl ?_ | refine JF.ln 4 rfl rfl rfl rfl ?_ | refine JF.l1 5 rfl rfl rfl rfl ?_ | refine JF.ln 5 rfl rfl rfl rfl ?_ | refine JF.l1 6 rfl rfl rfl rfl ?_ | refine JF.ln 6 rfl rfl rfl rfl ?_ | refine JF.l1 7 rfl rfl rfl rfl ?_ | refine JF.ln 7 rfl rfl rfl rfl ?_) <;> (first | (exact absurd h Bool.false_ne_true) | (exact absurd h.symm Bool.false_ne_true) | (exfalso; omega) | (exfalso; simp only [IntKind.wrap_i64, IntKind.wrap_i32, IntKind.wrap_u32, IntKind.wrap_u16, IntKind.wrap_u8] at *; omega) | refine J.go [] 900 rfl ?_))))
      rw [e1]
      refine JF.round (i + 1, v, E) ⟨hlt, by simpa [tagsTo, ← List.getD_eq_getElem?_getD, hT] using hos⟩ (by simp only; omega) ⟨rfl, rfl, rfl, trivial⟩ trivial (List.Sublist.refl _)
    · refine J.go [] 900 rfl ?_
      (repeat' (first | ((first | ((first | refine JF.condD rfl ?_ ?_ | refine JF.condE rfl ?_ ?_ | refine JF.condN rfl ?_ ?_ | refine JF.guardD rfl ?_ ?_ | refine JF.guardE rfl ?_ ?_ | refine JF.guardN rfl ?_ ?_ | refine JF.cond rfl ?_ ?_ | refine JF.guard rfl ?_ ?_) <;> intro h) | refine JF.l1 0 rfl rfl rfl rfl ?_ | refine JF.ln 0 rfl rfl rfl rfl ?_ | refine JF.l1 1 rfl rfl rfl rfl ?_ | refine JF.ln 1 rfl rfl rfl rfl ?_ | refine JF.l1 2 rfl rfl rfl rfl ?_ | refine JF.ln 2 rfl rfl rfl rfl ?_ | refine JF.l1 3 rfl rfl rfl rfl ?_ | refine JF.ln 3 rfl rfl rfl rfl ?_ | refine JF.l1 4 rfl rfl rfl rfl ?_ | refine JF.ln 4 rfl rfl rfl rfl ?_ | refine JF.l1 5 rfl rfl rfl rfl ?_ | refine JF.ln 5 rfl rfl rfl rfl ?_ | refine JF.l1 6 rfl rfl rfl rfl ?_ | refine JF.ln 6 rfl rfl rfl rfl ?_ | refine JF.l1 7 rfl rfl rfl rfl ?_ | refine JF.ln 7 rfl rfl rfl rfl ?_) <;> (first | (exact absurd h Bool.false_ne_true) | (exact absurd h.symm Bool.false_ne_true) | (exfalso; omega) | (exfalso; simp only [IntKind.wrap_i64, IntKind.wrap_i32, IntKind.wrap_u32, IntKind.wrap_u16, IntKind.wrap_u8] at *; omega) | refine J.go [] 900 rfl ?_))))
      have e2 : IntKind.i64.wrap (16 * (i : Int)) = 16 * (i : Int) := by rw [IntKind.wrap_i64]; omega
      rw [e2]
      refine JF.bldS rfl rfl (fun x hx => nomatch hx) fun b hb => ?_
      refine J.go [] 900 rfl ?_
      refine JF.append (A := [⟨b, _, 0, 0, [.int .i64 (16 * (i : Int))], true⟩]) (E := E) (B := memL t M false B T) (size := 1) (ys := inC [16 * (i : Int)]) (m := 1) rfl u_ints u_ints y_int rfl hos (fun w' hst => RdS.of hst (.head _) rfl rfl) (isOne_inC _) (fun n1 h => ?_) (fun x hx => nomatch hx) fun v' E' hos' => ?_
      · have := tagsTo_len T i
        simp [inC] at h
        omega
      refine J.go [] 900 rfl ?_
      rw [e1]
      refine JF.round (i + 1, v', E') ⟨hlt, ?_⟩ (by simp only; omega) ⟨rfl, rfl, rfl, trivial⟩ trivial (List.sublist_cons_self _ _)
      simp only [tagsTo, hT, if_true]
      simpa [inC] using hos'
  · have hin : i = T.length := by omega
    subst hin
    refine J.go [] 900 rfl ?_
    (repeat' (first | ((first | ((first | refine JF.condD rfl ?_ ?_ | refine JF.condE rfl ?_ ?_ | refine JF.condN rfl ?_ ?_ | refine JF.guardD rfl ?_ ?_ | refine JF.guardE rfl ?_ ?_ | refine JF.guardN rfl ?_ ?_ | refine JF.cond rfl ?_ ?_ | refine JF.guard rfl ?_ ?_) <;> intro h) | refine JF.l1 0 rfl rfl rfl rfl ?_ | refine JF.ln 0 rfl rfl rfl rfl ?_ | refine JF.l1 1 rfl rfl rfl rfl ?_ | refine JF.ln 1 rfl rfl rfl rfl ?_ | refine JF.l1 2 rfl rfl rfl rfl ?_ | refine JF.ln 2 rfl rfl rfl rfl ?_ | refine JF.l1 3 rfl rfl rfl rfl ?_ | refine JF.ln 3 rfl rfl rfl rfl ?_ | refine JF.l1 4 rfl rfl rfl rfl ?_ | refine JF.ln 4 rfl rfl rfl rfl ?_ | refine JF.l1 5 rfl rfl rfl rfl ?_ | refine JF.ln 5 rfl rfl rfl rfl ?_ | refine JF.l1 6 rfl rfl rfl rfl ?_ | refine JF.ln 6 rfl rfl rfl rfl ?_ | refine JF.l1 7 rfl rfl rfl rfl ?_ | refine JF.ln 7 rfl rfl rfl rfl ?_) <;> (first | (exact absurd h Bool.false_ne_true) | (exact absurd h.symm Bool.false_ne_true) | (exfalso; omega) | (exfalso; simp only [IntKind.wrap_i64, IntKind.wrap_i32, IntKind.wrap_u32, IntKind.wrap_u16, IntKind.wrap_u8] at *; omega) | refine J.go [] 900 rfl ?_))))
    refine JF.ret rfl fun w' hst => ⟨hst.ext, E, hos, hst.news (List.sublist_append_left _ _) hos.rw⟩
end Go.HM
