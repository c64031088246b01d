/- The program's capabilities as bytes: contracts. -/
import Derived.Test.YtobdcokhmpaooaaDoorKpack
import Derived.Test.YtobdcokhmpaooaaDoorC8
namespace Go.HM
open Go Go.Proofs
set_option linter.unusedSimpArgs false
set_option linter.unusedVariables false

theorem Tr.put {w₀ w w' : World} {S : Nat → Prop} {md : Option LM} {Lh E E' B : List Ent} (hst : St w₀ S w (E ++ B)) (hrw : ∀ x ∈ E, x.rw = true) (hx : Ext (fun b => ∃ y ∈ E, y.b = b) w w') (hE' : Here w' E') (hfrom : ∀ y ∈ E', (∃ z ∈ E, z.b = y.b) ∨ w.heap.size ≤ y.b) (hh : ∀ x ∈ mdL md Lh, x ∈ B) : Tr w₀ S md Lh (E ++ B) w w' (E' ++ B) := by
  have hd := List.pairwise_append.1 hst.dis
  refine Tr.of hst hx (fun b _ ⟨y, hy, e⟩ => ⟨y, List.mem_append.2 (.inl hy), e, hrw y hy⟩) (fun x hx' => ?_) (List.pairwise_append.2 ⟨hE'.2, hd.2.1, fun x hx1 y hy1 => ?_⟩) (fun x hx' => List.mem_append.2 (.inr (hh x hx')))
  · rcases List.mem_append.1 hx' with h | h
    · refine .inr ⟨hE'.1 x h, ?_⟩
      rcases hfrom x h with ⟨z, hz, e⟩ | h2
      · exact .inl ⟨z, List.mem_append.2 (.inl hz), e, fun _ => hrw z hz⟩
      · exact .inr h2
    · exact .inl ⟨List.mem_append.2 (.inr h), fun ⟨z, hz, e⟩ => hd.2.2 z hz x h e⟩
  · rcases hfrom x hx1 with ⟨z, hz, e⟩ | h2
    · rw [← e]; exact hd.2.2 z hz y hy1
    · have := lt_here (hst.blk y (List.mem_append.2 (.inr hy1)))
      omega

/-- The bytes of a capability's first numbers. -/
def capA (c : CapV) : Nat → List Int
  | 0 => []
  | 1 => wdL c.base 4
  | 2 => wdL c.base 4 ++ wdL c.top 4
  | 3 => wdL c.base 4 ++ wdL c.top 4 ++ wdL c.addr 4
  | 4 => wdL c.base 4 ++ wdL c.top 4 ++ wdL c.addr 4 ++ wdL c.perm 2
  | _ => capB c

theorem capA_len (c : CapV) (i : Nat) : (capA c i).length ≤ 16 := by
  unfold capA
  split <;> simp [wdL_len, capB_len]

theorem packPut_ok (c : CapV) (hc : c.ok) (w : World) : Rets Pg n_pack_Put [c.val] w fun r w' => Ext NoB w w' ∧ r = .agg (byC (capB c)).toArray := by
  
  obtain ⟨h1, h2, h3, h4, h5⟩ := hc
  refine rets_of m_pack_Put rfl rfl (St.nil w) ?_
  refine J.go [1,2] 900 rfl ?_
  refine JF.bldS rfl rfl (fun x hx => nomatch hx) fun q hq => ?_
  refine J.go [1,2] 900 rfl ?_
  refine JF.loop (σ := Nat × Value × List Ent) (fun s => [(16, .v (.int .i64 (s.1 : Int))), (3, .v s.2.1), (15, .v (.int .i64 3)), (14, .v (.slice (some ⟨q, 0, none⟩) 3 3)), (1, .box 1 0), (2, .box 2 0)]) (fun _ => [(1, c.cells), (2, List.replicate 16 (.int .u8 0))])
    (fun s => s.2.2 ++ [⟨q, 36, 0, 0, [.int .u32 c.base, .int .u32 c.top, .int .u32 c.addr], true⟩]) (fun s => s.1 ≤ 3 ∧ OS 5 1 (byC (capA c s.1)) s.2.1 s.2.2) (fun s => 3 - s.1) (0, .slice none 0 0, []) ⟨by decide, .emp none (fun x hx => nomatch hx)⟩ ⟨rfl, rfl, rfl, rfl, rfl, rfl, trivial⟩ ⟨rfl, rfl, trivial⟩ (List.Sublist.refl _) ?_
  rintro ⟨i, v, E⟩ ⟨hi, hos⟩
  simp only at hi hos
  dsimp only
  rcases Nat.lt_or_ge i 3 with hlt | hge
  · have e1 : IntKind.i64.wrap ((i : Int) + 1) = ((i + 1 : Nat) : Int) := by rw [IntKind.wrap_i64]; omega
    have hl := capA_len c i
    obtain ⟨x, hx1, hx2, hx3⟩ : ∃ x : Int, nthL [.int .u32 c.base, .int .u32 c.top, .int .u32 c.addr] i = some (.int .u32 x) ∧ byC (capA c i) ++ byC (wdL x 4) = byC (capA c (i + 1)) ∧ True := by
      rcases (by omega : i = 0 ∨ i = 1 ∨ i = 2) with rfl | rfl | rfl
      · exact ⟨c.base, rfl, by simp [capA, byC], trivial⟩
      · exact ⟨c.top, rfl, by simp [capA, byC], trivial⟩
      · exact ⟨c.addr, rfl, by simp [capA, byC], trivial⟩
    refine J.go [1,2] 900 rfl ?_
    (repeat' (first | ((first | ((first | refine JF.condD rfl ?_ ?_ | refine JF.condE rfl ?_ ?_ | refine JF.condN rfl ?_ ?_ | refine JF.guardD rfl ?_ ?_ | refine JF.guardE rfl ?_ ?_ | refine JF.guardN rfl ?_ ?_ | refine JF.cond rfl ?_ ?_ | refine JF.guard rfl ?_ ?_) <;> intro h) | refine JF.l1 0 rfl rfl rfl rfl ?_ | refine JF.ln 0 rfl rfl rfl rfl ?_ | refine JF.l1 1 rfl rfl rfl rfl ?_ | refine JF.ln 1 rfl rfl rfl rfl ?_ | refine JF.l1 2 rfl rfl rfl rfl ?_ | refine JF.ln 2 rfl rfl rfl rfl ?_ | refine JF.l1 3 rfl rfl rfl rfl ?_ | refine JF.ln 3 rfl rfl rfl rfl ?_ | refine JF.l1 4 rfl rfl rfl rfl ?_ | refine JF.ln 4 rfl rfl rfl rfl ?_ | refine JF.l1 5 rfl rfl rfl rfl ?_ | refine JF.ln 5 rfl rfl rfl rfl ?_ | refine JF.l1 6 rfl rfl rfl rfl ?_ | refine JF.ln 6 rfl rfl rfl rfl ?_ | refine JF.l1 7 rfl rfl rfl rfl ?_ | refine JF.ln 7 rfl rfl rfl rfl ?_) <;> (first | (exact absurd h Bool.false_ne_true) | (exact absurd h.symm Bool.false_ne_true) | (exfalso; omega) | (exfalso; simp only [IntKind.wrap_i64, IntKind.wrap_i32, IntKind.wrap_u32, IntKind.wrap_u16, IntKind.wrap_u8] at *; omega) | refine J.go [1,2] 900 rfl ?_))))
    (refine JF.chk rfl ?_ ?_; (focus ((repeat' (apply And.intro)) <;> (first | exact True.intro | (first | omega | (simp only [IntKind.wrap_i64, IntKind.wrap_i32, IntKind.wrap_u64, IntKind.wrap_u32, IntKind.wrap_u16, IntKind.wrap_u8] at *; omega))))))
    refine J.go [1,2] 900 rfl ?_
    refine JF.ld1 (v := .int .u32 x) rfl (List.mem_append.2 (.inr (.head _))) rfl (by simpa using hx1) ?_
    refine J.go [1,2] 900 rfl ?_
    refine JF.callV _ rfl (fun w1 hst => put_ok (n := 4) w1 (hst.here (List.sublist_append_left _ _)) hos (by rw [byC_len]; omega) (by decide)) fun w1 r w2 hst hq => ?_
    obtain ⟨hx, E', hos', hh, hf⟩ := hq
    refine ⟨_, Tr.put hst hos.rw hx hh hf (fun x hx => nomatch hx), ?_⟩
    refine J.go [1,2] 900 rfl ?_
    rw [e1]
    refine JF.round (i + 1, r, E') ⟨hlt, by rw [← hx2]; exact hos'⟩ (by simp only; omega) ⟨rfl, rfl, rfl, rfl, rfl, rfl, trivial⟩ ⟨rfl, rfl, trivial⟩ (List.Sublist.refl _)
  · have hin : i = 3 := by omega
    subst hin
    refine J.go [1,2] 900 rfl ?_
    (repeat' (first | ((first | ((first | refine JF.condD rfl ?_ ?_ | refine JF.condE rfl ?_ ?_ | refine JF.condN rfl ?_ ?_ | refine JF.guardD rfl ?_ ?_ | refine JF.guardE rfl ?_ ?_ | refine JF.guardN rfl ?_ ?_ | refine JF.cond rfl ?_ ?_ | refine JF.guard rfl ?_ ?_) <;> intro h) | refine JF.l1 0 rfl rfl rfl rfl ?_ | refine JF.ln 0 rfl rfl rfl rfl ?_ | refine JF.l1 1 rfl rfl rfl rfl ?_ | refine JF.ln 1 rfl rfl rfl rfl ?_ | refine JF.l1 2 rfl rfl rfl rfl ?_ | refine JF.ln 2 rfl rfl rfl rfl ?_ | refine JF.l1 3 rfl rfl rfl rfl ?_ | refine JF.ln 3 rfl rfl rfl rfl ?_ | refine JF.l1 4 rfl rfl rfl rfl ?_ | refine JF.ln 4 rfl rfl rfl rfl ?_ | refine JF.l1 5 rfl rfl rfl rfl ?_ | refine JF.ln 5 rfl rfl rfl rfl ?_ | refine JF.l1 6 rfl rfl rfl rfl ?_ | refine JF.ln 6 rfl rfl rfl rfl ?_ | refine JF.l1 7 rfl rfl rfl rfl ?_ | refine JF.ln 7 rfl rfl rfl rfl ?_) <;> (first | (exact absurd h Bool.false_ne_true) | (exact absurd h.symm Bool.false_ne_true) | (exfalso; omega) | (exfalso; simp only [IntKind.wrap_i64, IntKind.wrap_i32, IntKind.wrap_u32, IntKind.wrap_u16, IntKind.wrap_u8] at *; omega) | refine J.go [1,2] 900 rfl ?_))))
    refine JF.bldS rfl rfl (fun x hx => nomatch hx) fun q2 hq2 => ?_
    refine JF.perm List.perm_middle ?_
    refine J.go [1,2] 900 rfl ?_
    refine JF.loop (σ := Nat × Value × List Ent) (fun s => [(30, .v (.int .i64 (s.1 : Int))), (3, .v s.2.1), (29, .v (.int .i64 2)), (28, .v (.slice (some ⟨q2, 0, none⟩) 2 2)), (2, .box 2 0)]) (fun _ => [(2, List.replicate 16 (.int .u8 0))])
      (fun s => s.2.2 ++ [⟨q2, 37, 0, 0, [.int .u16 c.perm, .int .u16 c.type], true⟩]) (fun s => s.1 ≤ 2 ∧ OS 5 1 (byC (capA c (3 + s.1))) s.2.1 s.2.2) (fun s => 2 - s.1) (0, v, E) ⟨Nat.zero_le _, hos⟩ ⟨rfl, rfl, rfl, rfl, rfl, trivial⟩ ⟨rfl, trivial⟩ (List.Sublist.append_left (List.Sublist.cons_cons _ (List.nil_sublist _)) _) ?_
    rintro ⟨i, v, E⟩ ⟨hi, hos⟩
    simp only at hi hos
    dsimp only
    rcases Nat.lt_or_ge i 2 with hlt | hge
    · have e1 : IntKind.i64.wrap ((i : Int) + 1) = ((i + 1 : Nat) : Int) := by rw [IntKind.wrap_i64]; omega
      have hl := capA_len c (3 + i)
      obtain ⟨x, hx1, hx2, hx3, hx4⟩ : ∃ x : Int, nthL [.int .u16 c.perm, .int .u16 c.type] i = some (.int .u16 x) ∧ byC (capA c (3 + i)) ++ byC (wdL x 2) = byC (capA c (3 + (i + 1))) ∧ 0 ≤ x ∧ x < 65536 := by
        rcases (by omega : i = 0 ∨ i = 1) with rfl | rfl
        · exact ⟨c.perm, rfl, by simp [capA, byC], h4⟩
        · exact ⟨c.type, rfl, by simp [capA, capB, byC], h5⟩
      refine J.go [1,2] 900 rfl ?_
      (repeat' (first | ((first | ((first | refine JF.condD rfl ?_ ?_ | refine JF.condE rfl ?_ ?_ | refine JF.condN rfl ?_ ?_ | refine JF.guardD rfl ?_ ?_ | refine JF.guardE rfl ?_ ?_ | refine JF.guardN rfl ?_ ?_ | refine JF.cond rfl ?_ ?_ | refine JF.guard rfl ?_ ?_) <;> intro h) | refine JF.l1 0 rfl rfl rfl rfl ?_ | refine JF.ln 0 rfl rfl rfl rfl ?_ | refine JF.l1 1 rfl rfl rfl rfl ?_ | refine JF.ln 1 rfl rfl rfl rfl ?_ | refine JF.l1 2 rfl rfl rfl rfl ?_ | refine JF.ln 2 rfl rfl rfl rfl ?_ | refine JF.l1 3 rfl rfl rfl rfl ?_ | refine JF.ln 3 rfl rfl rfl rfl ?_ | refine JF.l1 4 rfl rfl rfl rfl ?_ | refine JF.ln 4 rfl rfl rfl rfl ?_ | refine JF.l1 5 rfl rfl rfl rfl ?_ | refine JF.ln 5 rfl rfl rfl rfl ?_ | refine JF.l1 6 rfl rfl rfl rfl ?_ | refine JF.ln 6 rfl rfl rfl rfl ?_ | refine JF.l1 7 rfl rfl rfl rfl ?_ | refine JF.ln 7 rfl rfl rfl rfl ?_) <;> (first | (exact absurd h Bool.false_ne_true) | (exact absurd h.symm Bool.false_ne_true) | (exfalso; omega) | (exfalso; simp only [IntKind.wrap_i64, IntKind.wrap_i32, IntKind.wrap_u32, IntKind.wrap_u16, IntKind.wrap_u8] at *; omega) | refine J.go [1,2] 900 rfl ?_))))
      (refine JF.chk rfl ?_ ?_; (focus ((repeat' (apply And.intro)) <;> (first | exact True.intro | (first | omega | (simp only [IntKind.wrap_i64, IntKind.wrap_i32, IntKind.wrap_u64, IntKind.wrap_u32, IntKind.wrap_u16, IntKind.wrap_u8] at *; omega))))))
      refine J.go [1,2] 900 rfl ?_
      refine JF.ld1 (v := .int .u16 x) rfl (List.mem_append.2 (.inr (.head _))) rfl (by simpa using hx1) ?_
      refine J.go [1,2] 900 rfl ?_
      rw [IntKind.wrap_u32, Int.emod_eq_of_lt hx3 (by omega)]
      refine JF.callV _ rfl (fun w1 hst => put_ok (n := 2) w1 (hst.here (List.sublist_append_left _ _)) hos (by rw [byC_len]; omega) (by decide)) fun w1 r w2 hst hq => ?_
      obtain ⟨hx, E', hos', hh, hf⟩ := hq
      refine ⟨_, Tr.put hst hos.rw hx hh hf (fun x hx => nomatch hx), ?_⟩
      refine J.go [1,2] 900 rfl ?_
      rw [e1]
      refine JF.round (i + 1, r, E') ⟨hlt, by rw [← hx2]; exact hos'⟩ (by simp only; omega) ⟨rfl, rfl, rfl, rfl, rfl, trivial⟩ ⟨rfl, trivial⟩ (List.Sublist.refl _)
    · have hin : i = 2 := by omega
      subst hin
      obtain ⟨a, n, c', rfl, hn, hc'⟩ := hos.slice
      rw [byC_len, show (capA c (3 + 2)).length = 16 from capB_len c, Nat.mul_one] at hn
      subst hn
      rcases hos.inv with ⟨_, h0, _⟩ | ⟨b, sp, rfl, rfl, hl1, hl2, hl3⟩
      · omega
      refine J.go [1,2] 900 rfl ?_
      (repeat' (first | ((first | ((first | refine JF.condD rfl ?_ ?_ | refine JF.condE rfl ?_ ?_ | refine JF.condN rfl ?_ ?_ | refine JF.guardD rfl ?_ ?_ | refine JF.guardE rfl ?_ ?_ | refine JF.guardN rfl ?_ ?_ | refine JF.cond rfl ?_ ?_ | refine JF.guard rfl ?_ ?_) <;> intro h) | refine JF.l1 0 rfl rfl rfl rfl ?_ | refine JF.ln 0 rfl rfl rfl rfl ?_ | refine JF.l1 1 rfl rfl rfl rfl ?_ | refine JF.ln 1 rfl rfl rfl rfl ?_ | refine JF.l1 2 rfl rfl rfl rfl ?_ | refine JF.ln 2 rfl rfl rfl rfl ?_ | refine JF.l1 3 rfl rfl rfl rfl ?_ | refine JF.ln 3 rfl rfl rfl rfl ?_ | refine JF.l1 4 rfl rfl rfl rfl ?_ | refine JF.ln 4 rfl rfl rfl rfl ?_ | refine JF.l1 5 rfl rfl rfl rfl ?_ | refine JF.ln 5 rfl rfl rfl rfl ?_ | refine JF.l1 6 rfl rfl rfl rfl ?_ | refine JF.ln 6 rfl rfl rfl rfl ?_ | refine JF.l1 7 rfl rfl rfl rfl ?_ | refine JF.ln 7 rfl rfl rfl rfl ?_) <;> (first | (exact absurd h Bool.false_ne_true) | (exact absurd h.symm Bool.false_ne_true) | (exfalso; omega) | (exfalso; simp only [IntKind.wrap_i64, IntKind.wrap_i32, IntKind.wrap_u32, IntKind.wrap_u16, IntKind.wrap_u8] at *; omega) | refine J.go [1,2] 900 rfl ?_))))
      (refine JF.chk rfl ?_ ?_; (focus ((repeat' (apply And.intro)) <;> (first | exact True.intro | (first | omega | (simp only [IntKind.wrap_i64, IntKind.wrap_i32, IntKind.wrap_u64, IntKind.wrap_u32, IntKind.wrap_u16, IntKind.wrap_u8] at *; omega))))))
      refine J.go [1,2] 900 rfl ?_
      refine JF.ldn (vs := byC (capB c)) rfl (List.Mem.head _) rfl (subL_app (by rw [subL_take _ _ _ (by rw [byC_len]; exact Nat.le_of_eq (capB_len c).symm), List.drop_zero, List.take_of_length_le (by rw [byC_len]; exact Nat.le_of_eq (capB_len c))]; rfl)) ?_
      refine J.go [1,2] 900 rfl ?_
      refine JF.ret rfl fun w' hst => ⟨hst.ext, rfl⟩
/-- A capability's cells while they are read. -/
def gC (l : List Int) (t : Bool) (k : Nat) : List Value :=
  [.bool t, .int .u32 (if 1 ≤ k then unw (l.take 4) else 0), .int .u32 (if 2 ≤ k then unw ((l.drop 4).take 4) else 0), .int .u32 (if 3 ≤ k then unw ((l.drop 8).take 4) else 0), .int .u16 (if 4 ≤ k then unw ((l.drop 12).take 2) else 0), .int .u16 (if 5 ≤ k then unw ((l.drop 14).take 2) else 0)]

theorem packGet_ok {l : List Int} {t : Bool} (w : World) (hB : isB l) (hl : l.length = 16) : Rets Pg n_pack_Get [.agg (byC l).toArray, .bool t] w fun r w' => Ext NoB w w' ∧ r = (bCap l t).val := by
  
  have e16 : ∀ j, IntKind.u16.wrap (unw ((l.drop j).take 2)) = unw ((l.drop j).take 2) := fun j => by
    have h1 := unw_bd _ (isB_take (isB_drop hB j) 2)
    have h2 : ((l.drop j).take 2).length ≤ 2 := by simp; omega
    rcases (by omega : ((l.drop j).take 2).length = 0 ∨ ((l.drop j).take 2).length = 1 ∨ ((l.drop j).take 2).length = 2) with h | h | h <;> rw [h] at h1 <;> rw [IntKind.wrap_u16] <;> omega
  have hcell : ∀ o j, o + j < 16 → nthL (byC l) (o + j) = some (.int .u8 ((l.drop o).getD j 0)) := fun o j h => by
    rw [nth_byC rfl (by omega)]
    simp [List.getD, List.getElem?_drop]
  refine rets_of m_pack_Get rfl rfl (St.nil w) ?_
  refine J.go [4] 900 rfl ?_
  refine JF.bx rfl (fun x hx => nomatch hx) fun b hb => ?_
  refine J.go [4] 900 rfl ?_
  refine JF.al (fun x hx => nomatch hx) fun q hq => ?_
  refine J.go [4] 900 rfl ?_
  refine JF.stn 0 rfl rfl rfl rfl rfl rfl rfl (.inr (.inr (Nat.le_refl _))) rfl rfl (fun x hx => nomatch hx) ?_
  refine J.go [4] 900 rfl ?_
  (refine JF.chk rfl ?_ ?_; (focus ((repeat' (apply And.intro)) <;> (first | exact True.intro | (first | omega | (simp only [IntKind.wrap_i64, IntKind.wrap_i32, IntKind.wrap_u64, IntKind.wrap_u32, IntKind.wrap_u16, IntKind.wrap_u8] at *; omega))))))
  rw [slA_zero _ _ _ (by intro x hx; cases hx; rfl)]
  refine J.go [4] 900 rfl ?_
  refine JF.bldS rfl rfl (fun x hx => nomatch hx) fun q3 hq3 => ?_
  refine J.go [4] 900 rfl ?_
  refine JF.loop (σ := Nat) (fun i => [(20, .v (.int .i64 (i : Int))), (6, .v (.slice (some ⟨b, 4 * i, none⟩) (16 - 4 * i) (16 - 4 * i))), (19, .v (.int .i64 3)), (18, .v (.slice (some ⟨q3, 0, none⟩) 3 3)), (5, .v (.pointer (some ⟨q, 0, none⟩))), (4, .box 4 0)]) (fun _ => [(4, [.bool false, .int .u32 0, .int .u32 0, .int .u32 0, .int .u16 0, .int .u16 0])])
    (fun i => [⟨q3, 135, 0, 0, [.pointer (some ⟨q, 1, none⟩), .pointer (some ⟨q, 2, none⟩), .pointer (some ⟨q, 3, none⟩)], true⟩, ⟨q, 39, 0, 0, gC l t i, true⟩, ⟨b, 94, 0, 0, byC l, true⟩]) (fun i => i ≤ 3) (fun i => 3 - i) 0 (by decide) ⟨rfl, rfl, rfl, rfl, rfl, rfl, trivial⟩ ⟨rfl, trivial⟩ (List.Sublist.refl _) ?_
  intro i hi
  rcases Nat.lt_or_ge i 3 with hlt | hge
  · have e1 : IntKind.i64.wrap ((i : Int) + 1) = ((i + 1 : Nat) : Int) := by rw [IntKind.wrap_i64]; omega
    refine J.go [4] 900 rfl ?_
    (repeat' (first | ((first | ((first | refine JF.condD rfl ?_ ?_ | refine JF.condE rfl ?_ ?_ | refine JF.condN rfl ?_ ?_ | refine JF.guardD rfl ?_ ?_ | refine JF.guardE rfl ?_ ?_ | refine JF.guardN rfl ?_ ?_ | refine JF.cond rfl ?_ ?_ | refine JF.guard rfl ?_ ?_) <;> intro h) | refine JF.l1 0 rfl rfl rfl rfl ?_ | refine JF.ln 0 rfl rfl rfl rfl ?_ | refine JF.l1 1 rfl rfl rfl rfl ?_ | refine JF.ln 1 rfl rfl rfl rfl ?_ | refine JF.l1 2 rfl rfl rfl rfl ?_ | refine JF.ln 2 rfl rfl rfl rfl ?_ | refine JF.l1 3 rfl rfl rfl rfl ?_ | refine JF.ln 3 rfl rfl rfl rfl ?_ | refine JF.l1 4 rfl rfl rfl rfl ?_ | refine JF.ln 4 rfl rfl rfl rfl ?_ | refine JF.l1 5 rfl rfl rfl rfl ?_ | refine JF.ln 5 rfl rfl rfl rfl ?_ | refine JF.l1 6 rfl rfl rfl rfl ?_ | refine JF.ln 6 rfl rfl rfl rfl ?_ | refine JF.l1 7 rfl rfl rfl rfl ?_ | refine JF.ln 7 rfl rfl rfl rfl ?_) <;> (first | (exact absurd h Bool.false_ne_true) | (exact absurd h.symm Bool.false_ne_true) | (exfalso; omega) | (exfalso; simp only [IntKind.wrap_i64, IntKind.wrap_i32, IntKind.wrap_u32, IntKind.wrap_u16, IntKind.wrap_u8] at *; omega) | refine J.go [4] 900 rfl ?_))))
    (refine JF.chk rfl ?_ ?_; (focus ((repeat' (apply And.intro)) <;> (first | exact True.intro | (first | omega | (simp only [IntKind.wrap_i64, IntKind.wrap_i32, IntKind.wrap_u64, IntKind.wrap_u32, IntKind.wrap_u16, IntKind.wrap_u8] at *; omega))))))
    refine J.go [4] 900 rfl ?_
    refine JF.ld1 (v := .pointer (some ⟨q, i + 1, none⟩)) rfl (List.Mem.head _) rfl (by rcases (by omega : i = 0 ∨ i = 1 ∨ i = 2) with rfl | rfl | rfl <;> rfl) ?_
    refine J.go [4] 900 rfl ?_
    have hlen : (l.drop (4 * i)).length = 16 - 4 * i := by rw [List.length_drop, hl]
    refine JF.callV _ rfl (fun w1 hst => by
      have := get_ok (l := l.drop (4 * i)) (n := 4) (c := 16 - 4 * i) (b := b) (o := 4 * i) w1 (hst.here (List.Sublist.refl _)) (.tail _ (.tail _ (.head _))) rfl (isB_drop hB _) (fun j hj => hcell _ _ (by omega)) (by omega) (by decide) (by omega) (by omega)
      rw [hlen] at this
      exact this) fun w1 r w2 hst hq => ?_
    obtain ⟨hx, o', rfl, ho'⟩ := hq
    rw [ho' (by omega)]
    refine ⟨_, Tr.same hst hx (fun x hx => nomatch hx), ?_⟩
    refine J.go [4] 900 rfl ?_
    refine JF.st1 1 rfl rfl rfl rfl rfl rfl (.inr (.inr (Nat.le_refl _))) (cs := gC l t (i + 1)) ?_ rfl (fun x hx => nomatch hx) ?_
    · rcases (by omega : i = 0 ∨ i = 1 ∨ i = 2) with rfl | rfl | rfl <;> rfl
    refine J.go [4] 900 rfl ?_
    rw [e1, show 4 * i + 4 = 4 * (i + 1) by omega, show 16 - 4 * i - 4 = 16 - 4 * (i + 1) by omega]
    refine JF.round (i + 1) hlt (by omega) ⟨rfl, rfl, rfl, rfl, rfl, rfl, trivial⟩ ⟨rfl, trivial⟩ (List.Sublist.refl _)
  · have hin : i = 3 := by omega
    subst hin
    refine J.go [4] 900 rfl ?_
    (repeat' (first | ((first | ((first | refine JF.condD rfl ?_ ?_ | refine JF.condE rfl ?_ ?_ | refine JF.condN rfl ?_ ?_ | refine JF.guardD rfl ?_ ?_ | refine JF.guardE rfl ?_ ?_ | refine JF.guardN rfl ?_ ?_ | refine JF.cond rfl ?_ ?_ | refine JF.guard rfl ?_ ?_) <;> intro h) | refine JF.l1 0 rfl rfl rfl rfl ?_ | refine JF.ln 0 rfl rfl rfl rfl ?_ | refine JF.l1 1 rfl rfl rfl rfl ?_ | refine JF.ln 1 rfl rfl rfl rfl ?_ | refine JF.l1 2 rfl rfl rfl rfl ?_ | refine JF.ln 2 rfl rfl rfl rfl ?_ | refine JF.l1 3 rfl rfl rfl rfl ?_ | refine JF.ln 3 rfl rfl rfl rfl ?_ | refine JF.l1 4 rfl rfl rfl rfl ?_ | refine JF.ln 4 rfl rfl rfl rfl ?_ | refine JF.l1 5 rfl rfl rfl rfl ?_ | refine JF.ln 5 rfl rfl rfl rfl ?_ | refine JF.l1 6 rfl rfl rfl rfl ?_ | refine JF.ln 6 rfl rfl rfl rfl ?_ | refine JF.l1 7 rfl rfl rfl rfl ?_ | refine JF.ln 7 rfl rfl rfl rfl ?_) <;> (first | (exact absurd h Bool.false_ne_true) | (exact absurd h.symm Bool.false_ne_true) | (exfalso; omega) | (exfalso; simp only [IntKind.wrap_i64, IntKind.wrap_i32, IntKind.wrap_u32, IntKind.wrap_u16, IntKind.wrap_u8] at *; omega) | refine J.go [4] 900 rfl ?_))))
    refine JF.bldS rfl rfl (fun x hx => nomatch hx) fun q4 hq4 => ?_
    refine J.go [4] 900 rfl ?_
    refine JF.loop (σ := Nat × Nat) (fun s => [(36, .v (.int .i64 (s.1 : Int))), (6, .v (.slice (some ⟨b, s.2, none⟩) (4 - 2 * s.1) (4 - 2 * s.1))), (35, .v (.int .i64 2)), (34, .v (.slice (some ⟨q4, 0, none⟩) 2 2)), (5, .v (.pointer (some ⟨q, 0, none⟩))), (4, .box 4 0)]) (fun _ => [(4, [.bool false, .int .u32 0, .int .u32 0, .int .u32 0, .int .u16 0, .int .u16 0])])
      (fun s => [⟨q4, 139, 0, 0, [.pointer (some ⟨q, 4, none⟩), .pointer (some ⟨q, 5, none⟩)], true⟩, ⟨q, 39, 0, 0, gC l t (3 + s.1), true⟩, ⟨b, 94, 0, 0, byC l, true⟩]) (fun s => s.1 ≤ 2 ∧ (s.1 < 2 → s.2 = 12 + 2 * s.1)) (fun s => 2 - s.1) (0, 12) ⟨Nat.zero_le _, fun _ => rfl⟩ ⟨rfl, rfl, rfl, rfl, rfl, rfl, trivial⟩ ⟨rfl, trivial⟩ (List.Sublist.cons_cons _ (List.sublist_cons_self _ _)) ?_
    rintro ⟨i, o⟩ ⟨hi, ho⟩
    simp only at hi ho
    dsimp only
    rcases Nat.lt_or_ge i 2 with hlt | hge
    · have e1 : IntKind.i64.wrap ((i : Int) + 1) = ((i + 1 : Nat) : Int) := by rw [IntKind.wrap_i64]; omega
      have ho2 := ho hlt
      subst ho2
      refine J.go [4] 900 rfl ?_
      (repeat' (first | ((first | ((first | refine JF.condD rfl ?_ ?_ | refine JF.condE rfl ?_ ?_ | refine JF.condN rfl ?_ ?_ | refine JF.guardD rfl ?_ ?_ | refine JF.guardE rfl ?_ ?_ | refine JF.guardN rfl ?_ ?_ | refine JF.cond rfl ?_ ?_ | refine JF.guard rfl ?_ ?_) <;> intro h) | refine JF.l1 0 rfl rfl rfl rfl ?_ | refine JF.ln 0 rfl rfl rfl rfl ?_ | refine JF.l1 1 rfl rfl rfl rfl ?_ | refine JF.ln 1 rfl rfl rfl rfl ?_ | refine JF.l1 2 rfl rfl rfl rfl ?_ | refine JF.ln 2 rfl rfl rfl rfl ?_ | refine JF.l1 3 rfl rfl rfl rfl ?_ | refine JF.ln 3 rfl rfl rfl rfl ?_ | refine JF.l1 4 rfl rfl rfl rfl ?_ | refine JF.ln 4 rfl rfl rfl rfl ?_ | refine JF.l1 5 rfl rfl rfl rfl ?_ | refine JF.ln 5 rfl rfl rfl rfl ?_ | refine JF.l1 6 rfl rfl rfl rfl ?_ | refine JF.ln 6 rfl rfl rfl rfl ?_ | refine JF.l1 7 rfl rfl rfl rfl ?_ | refine JF.ln 7 rfl rfl rfl rfl ?_) <;> (first | (exact absurd h Bool.false_ne_true) | (exact absurd h.symm Bool.false_ne_true) | (exfalso; omega) | (exfalso; simp only [IntKind.wrap_i64, IntKind.wrap_i32, IntKind.wrap_u32, IntKind.wrap_u16, IntKind.wrap_u8] at *; omega) | refine J.go [4] 900 rfl ?_))))
      (refine JF.chk rfl ?_ ?_; (focus ((repeat' (apply And.intro)) <;> (first | exact True.intro | (first | omega | (simp only [IntKind.wrap_i64, IntKind.wrap_i32, IntKind.wrap_u64, IntKind.wrap_u32, IntKind.wrap_u16, IntKind.wrap_u8] at *; omega))))))
      refine J.go [4] 900 rfl ?_
      refine JF.ld1 (v := .pointer (some ⟨q, i + 4, none⟩)) rfl (List.Mem.head _) rfl (by rcases (by omega : i = 0 ∨ i = 1) with rfl | rfl <;> rfl) ?_
      refine J.go [4] 900 rfl ?_
      have hlen : (l.drop (12 + 2 * i)).length = 4 - 2 * i := by rw [List.length_drop, hl]; omega
      refine JF.callV _ rfl (fun w1 hst => by
        have := get_ok (l := l.drop (12 + 2 * i)) (n := 2) (c := 4 - 2 * i) (b := b) (o := 12 + 2 * i) w1 (hst.here (List.Sublist.refl _)) (.tail _ (.tail _ (.head _))) rfl (isB_drop hB _) (fun j hj => hcell _ _ (by omega)) (by omega) (by decide) (by omega) (by omega)
        rw [hlen] at this
        exact this) fun w1 r w2 hst hq => ?_
      obtain ⟨hx, o', rfl, ho'⟩ := hq
      refine ⟨_, Tr.same hst hx (fun x hx => nomatch hx), ?_⟩
      refine J.go [4] 900 rfl ?_
      rw [e16]
      refine JF.st1 1 rfl rfl rfl rfl rfl rfl (.inr (.inr (Nat.le_refl _))) (cs := gC l t (3 + (i + 1))) ?_ rfl (fun x hx => nomatch hx) ?_
      · rcases (by omega : i = 0 ∨ i = 1) with rfl | rfl <;> rfl
      refine J.go [4] 900 rfl ?_
      rw [e1, show 4 - 2 * i - 2 = 4 - 2 * (i + 1) by omega]
      refine JF.round (i + 1, o') ⟨hlt, fun h => ?_⟩ (by simp only; omega) ⟨rfl, rfl, rfl, rfl, rfl, rfl, trivial⟩ ⟨rfl, trivial⟩ (List.Sublist.refl _)
      simp only at h ⊢
      rw [ho' (by omega)]
      omega
    · have hin : i = 2 := by omega
      subst hin
      refine J.go [4] 900 rfl ?_
      (repeat' (first | ((first | ((first | refine JF.condD rfl ?_ ?_ | refine JF.condE rfl ?_ ?_ | refine JF.condN rfl ?_ ?_ | refine JF.guardD rfl ?_ ?_ | refine JF.guardE rfl ?_ ?_ | refine JF.guardN rfl ?_ ?_ | refine JF.cond rfl ?_ ?_ | refine JF.guard rfl ?_ ?_) <;> intro h) | refine JF.l1 0 rfl rfl rfl rfl ?_ | refine JF.ln 0 rfl rfl rfl rfl ?_ | refine JF.l1 1 rfl rfl rfl rfl ?_ | refine JF.ln 1 rfl rfl rfl rfl ?_ | refine JF.l1 2 rfl rfl rfl rfl ?_ | refine JF.ln 2 rfl rfl rfl rfl ?_ | refine JF.l1 3 rfl rfl rfl rfl ?_ | refine JF.ln 3 rfl rfl rfl rfl ?_ | refine JF.l1 4 rfl rfl rfl rfl ?_ | refine JF.ln 4 rfl rfl rfl rfl ?_ | refine JF.l1 5 rfl rfl rfl rfl ?_ | refine JF.ln 5 rfl rfl rfl rfl ?_ | refine JF.l1 6 rfl rfl rfl rfl ?_ | refine JF.ln 6 rfl rfl rfl rfl ?_ | refine JF.l1 7 rfl rfl rfl rfl ?_ | refine JF.ln 7 rfl rfl rfl rfl ?_) <;> (first | (exact absurd h Bool.false_ne_true) | (exact absurd h.symm Bool.false_ne_true) | (exfalso; omega) | (exfalso; simp only [IntKind.wrap_i64, IntKind.wrap_i32, IntKind.wrap_u32, IntKind.wrap_u16, IntKind.wrap_u8] at *; omega) | refine J.go [4] 900 rfl ?_))))
      refine JF.ret rfl fun w' hst => ⟨hst.ext, rfl⟩
end Go.HM
