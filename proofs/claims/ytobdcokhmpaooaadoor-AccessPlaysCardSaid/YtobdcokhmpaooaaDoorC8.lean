/- The document's capabilities as bytes: contracts. -/
import Derived.Test.YtobdcokhmpaooaaDoorKhaspref11
import Derived.Test.YtobdcokhmpaooaaDoorC7
namespace Go.HM
open Go Go.Proofs
set_option linter.unusedSimpArgs false
set_option linter.unusedVariables false

theorem bOr_comm (x y : Int) : bOr .u32 x y = bOr .u32 y x := by unfold bOr; rw [BitVec.or_comm]

theorem unw_drop {l : List Int} {i : Nat} (h : i < l.length) : unw (l.drop i) = l.getD i 0 + 256 * unw (l.drop (i + 1)) := by
  have : l.drop i = l.getD i 0 :: l.drop (i + 1) := by rw [List.drop_eq_getElem_cons h]; simp [List.getD, h]
  rw [this]; rfl

theorem unw_stepD {l : List Int} {i : Nat} (hB : isB l) (hi : i < l.length) (h4 : l.length ≤ 4) : bOr .u32 (shlV .u32 (unw (l.drop (i + 1))) 8) (l.getD i 0) = unw (l.drop i) := by
  have hb := unw_bd (l.drop (i + 1)) (isB_drop hB _)
  have hl : (l.drop (i + 1)).length ≤ 3 := by simp; omega
  have hg := getD_isB hB i
  rw [unw_drop hi]
  have hp : (256 : Int) ^ (l.drop (i + 1)).length ≤ 256 ^ 3 := by
    rcases (by omega : (l.drop (i + 1)).length = 0 ∨ (l.drop (i + 1)).length = 1 ∨ (l.drop (i + 1)).length = 2 ∨ (l.drop (i + 1)).length = 3) with h | h | h | h <;> rw [h] <;> decide
  have hx : unw (l.drop (i + 1)) = ((unw (l.drop (i + 1))).toNat : Int) := by omega
  have hy : l.getD i 0 = ((l.getD i 0).toNat : Int) := by omega
  generalize (unw (l.drop (i + 1))).toNat = a at hx
  generalize (l.getD i 0).toNat = b at hy
  rw [hx] at hb ⊢
  rw [hy] at hg ⊢
  have ha : a < 16777216 := by omega
  have hs : shlV .u32 (a : Int) 8 = ((a * 2 ^ 8 : Nat) : Int) := by
    unfold shlV
    rw [show min 8 IntKind.u32.bits = 8 from rfl, IntKind.wrap_u32]
    omega
  rw [hs, bOr_comm, bOr_add b a 8 (by omega) (by omega)]
  omega

theorem Word_ok {l : List Int} {c : Nat} {L : List Ent} {ent : Ent} {b o : Nat} (w : World) (hw : Here w L) (m1 : ent ∈ L) (hb : ent.b = b) (hB : isB l) (hc : ∀ i, i < l.length → nthL ent.cs (o + i) = some (.int .u8 (l.getD i 0))) (h4 : l.length ≤ 4) :
    Rets Pg n_haspref11_Word [.slice (some ⟨b, o, none⟩) l.length c] w fun r w' => Ext NoB w w' ∧ r = .int .u32 (unw l) := by
  
  refine rets_of m_haspref11_Word rfl rfl hw.ro_start ?_
  have m1' : ({ ent with rw := false } : Ent) ∈ L.map fun x => { x with rw := false } := List.mem_map.2 ⟨ent, m1, rfl⟩
  have e0 : IntKind.i64.wrap ((l.length : Int) - 1) = (l.length : Int) - 1 := by rw [IntKind.wrap_i64]; omega
  refine J.go [] 900 rfl ?_
  rw [e0]
  refine JF.loop (σ := Nat) (fun k => [(4, .v (.int .i64 ((k : Int) - 1))), (0, .v (.slice (some ⟨b, o, none⟩) l.length c)), (3, .v (.int .u32 (unw (l.drop k))))]) (fun _ => [])
    (fun _ => L.map fun x => { x with rw := false }) (fun k => k ≤ l.length) (fun k => k) l.length (Nat.le_refl _) ⟨rfl, rfl, by rw [List.drop_length]; rfl, trivial⟩ trivial (List.Sublist.refl _) ?_
  intro k hk
  rcases k with _ | i
  · refine J.go [] 900 rfl ?_
    (repeat' (first | ((first | ((first | refine JF.condD rfl ?_ ?_ | refine JF.condE rfl ?_ ?_ | refine JF.condN rfl ?_ ?_ | refine JF.guardD rfl ?_ ?_ | refine JF.guardE rfl ?_ ?_ | refine JF.guardN rfl ?_ ?_ | refine JF.cond rfl ?_ ?_ | refine JF.guard rfl ?_ ?_) <;> intro h) | refine JF.l1 0 rfl rfl rfl rfl ?_ | refine JF.ln 0 rfl rfl rfl rfl ?_ | refine JF.l1 1 rfl rfl rfl rfl ?_ | refine JF.ln 1 rfl rfl rfl rfl ?_ | refine JF.l1 2 rfl rfl rfl rfl ?_ | refine JF.ln 2 rfl rfl rfl rfl ?_ | refine JF.l1 3 rfl rfl rfl rfl ?_ | refine JF.ln 3 rfl rfl rfl rfl ?_ | refine JF.l1 4 rfl rfl rfl rfl ?_ | refine JF.ln 4 rfl rfl rfl rfl ?_ | refine JF.l1 5 rfl rfl rfl rfl ?_ | refine JF.ln 5 rfl rfl rfl rfl ?_ | refine JF.l1 6 rfl rfl rfl rfl ?_ | refine JF.ln 6 rfl rfl rfl rfl ?_ | refine JF.l1 7 rfl rfl rfl rfl ?_ | refine JF.ln 7 rfl rfl rfl rfl ?_) <;> (first | (exact absurd h Bool.false_ne_true) | (exact absurd h.symm Bool.false_ne_true) | (exfalso; omega) | (exfalso; simp only [IntKind.wrap_i64, IntKind.wrap_i32, IntKind.wrap_u32, IntKind.wrap_u16, IntKind.wrap_u8] at *; omega) | refine J.go [] 900 rfl ?_))))
    refine JF.ret rfl fun w' hst => ⟨hst.ext, by rw [List.drop_zero]; rfl⟩
  · have e1 : ((i + 1 : Nat) : Int) - 1 = (i : Int) := by omega
    have e2 : IntKind.i64.wrap ((i : Int) - 1) = (i : Int) - 1 := by rw [IntKind.wrap_i64]; omega
    rw [e1]
    refine J.go [] 900 rfl ?_
    (repeat' (first | ((first | ((first | refine JF.condD rfl ?_ ?_ | refine JF.condE rfl ?_ ?_ | refine JF.condN rfl ?_ ?_ | refine JF.guardD rfl ?_ ?_ | refine JF.guardE rfl ?_ ?_ | refine JF.guardN rfl ?_ ?_ | refine JF.cond rfl ?_ ?_ | refine JF.guard rfl ?_ ?_) <;> intro h) | refine JF.l1 0 rfl rfl rfl rfl ?_ | refine JF.ln 0 rfl rfl rfl rfl ?_ | refine JF.l1 1 rfl rfl rfl rfl ?_ | refine JF.ln 1 rfl rfl rfl rfl ?_ | refine JF.l1 2 rfl rfl rfl rfl ?_ | refine JF.ln 2 rfl rfl rfl rfl ?_ | refine JF.l1 3 rfl rfl rfl rfl ?_ | refine JF.ln 3 rfl rfl rfl rfl ?_ | refine JF.l1 4 rfl rfl rfl rfl ?_ | refine JF.ln 4 rfl rfl rfl rfl ?_ | refine JF.l1 5 rfl rfl rfl rfl ?_ | refine JF.ln 5 rfl rfl rfl rfl ?_ | refine JF.l1 6 rfl rfl rfl rfl ?_ | refine JF.ln 6 rfl rfl rfl rfl ?_ | refine JF.l1 7 rfl rfl rfl rfl ?_ | refine JF.ln 7 rfl rfl rfl rfl ?_) <;> (first | (exact absurd h Bool.false_ne_true) | (exact absurd h.symm Bool.false_ne_true) | (exfalso; omega) | (exfalso; simp only [IntKind.wrap_i64, IntKind.wrap_i32, IntKind.wrap_u32, IntKind.wrap_u16, IntKind.wrap_u8] at *; omega) | refine J.go [] 900 rfl ?_))))
    (refine JF.chk rfl ?_ ?_; (focus ((repeat' (apply And.intro)) <;> (first | exact True.intro | (first | omega | (simp only [IntKind.wrap_i64, IntKind.wrap_i32, IntKind.wrap_u64, IntKind.wrap_u32, IntKind.wrap_u16, IntKind.wrap_u8] at *; omega))))))
    refine J.go [] 900 rfl ?_
    refine JF.ld1 (v := .int .u8 (l.getD i 0)) rfl m1' hb (by simpa using hc i (by omega)) ?_
    refine J.go [] 900 rfl ?_
    have hg := getD_isB hB i
    rw [IntKind.wrap_u32, Int.emod_eq_of_lt (by omega) (by omega)]
    rw [unw_stepD hB (by omega) h4, e2]
    refine JF.round i (by omega) (by omega) ⟨rfl, rfl, rfl, trivial⟩ trivial (List.Sublist.refl _)

/-- A capability: tag, base, top, address, permissions, type. -/
structure CapV where
  tag : Bool
  base : Int
  top : Int
  addr : Int
  perm : Int
  type : Int
  deriving DecidableEq

def CapV.cells (c : CapV) : List Value := [.bool c.tag, .int .u32 c.base, .int .u32 c.top, .int .u32 c.addr, .int .u16 c.perm, .int .u16 c.type]
def CapV.val (c : CapV) : Value := .agg #[.bool c.tag, .int .u32 c.base, .int .u32 c.top, .int .u32 c.addr, .int .u16 c.perm, .int .u16 c.type]
def CapV.ok (c : CapV) : Prop := (0 ≤ c.base ∧ c.base < 4294967296) ∧ (0 ≤ c.top ∧ c.top < 4294967296) ∧ (0 ≤ c.addr ∧ c.addr < 4294967296) ∧ (0 ≤ c.perm ∧ c.perm < 65536) ∧ (0 ≤ c.type ∧ c.type < 65536)

/-- A capability's bytes. -/
def capB (c : CapV) : List Int := wdL c.base 4 ++ wdL c.top 4 ++ wdL c.addr 4 ++ wdL c.perm 2 ++ wdL c.type 2

/-- A capability out of bytes. -/
def bCap (l : List Int) (t : Bool) : CapV := ⟨t, unw (l.take 4), unw ((l.drop 4).take 4), unw ((l.drop 8).take 4), unw ((l.drop 12).take 2), unw ((l.drop 14).take 2)⟩

theorem capB_len (c : CapV) : (capB c).length = 16 := by simp [capB, wdL_len]
theorem isB_app {l r : List Int} (hl : isB l) (hr : isB r) : isB (l ++ r) := fun x hx => (List.mem_append.1 hx).elim (hl x) (hr x)
theorem isB_capB (c : CapV) : isB (capB c) := isB_app (isB_app (isB_app (isB_app (isB_wdL _ _) (isB_wdL _ _)) (isB_wdL _ _)) (isB_wdL _ _)) (isB_wdL _ _)

theorem OS.rdn {w w0 : World} {S : Nat → Prop} {L : List Ent} {el : TypeId} {xs : List Value} {v : Value} {E : List Ent} (h : OS el 1 xs v E) (hst : St w0 S w L) (hE : ∀ x ∈ E, x ∈ L) : RdS w 1 v xs xs.length := by
  obtain ⟨b, n, c, hv, h1, h2, h3⟩ := h.rd hst hE
  rw [Nat.mul_one] at h1
  rw [h1]; exact h3

theorem rput_ok (c : CapV) (hc : c.ok) (w : World) : Rets Pg n_haspref11_Put [c.val] w fun r w' => Ext NoB w w' ∧ ∃ E, OS 5 1 (byC (capB c)) r E ∧ News w w' E := by
  
  obtain ⟨h1, h2, h3, h4, h5⟩ := hc
  refine rets_of m_haspref11_Put rfl rfl (St.nil w) ?_
  refine J.go [1] 900 rfl ?_
  refine JF.draw [1] [] rfl (by simp) ?_
  refine J.go [1] 900 rfl ?_
  refine JF.callV _ rfl (fun w1 hst => word_ok w1 h1) fun w1 r w2 hst hq => ?_
  obtain ⟨hx, E1, hos1, hn1⟩ := hq
  refine ⟨_, Tr.news hst hx hn1 (fun x hx => nomatch hx), ?_⟩
  refine J.go [1] 900 rfl ?_
  refine JF.callV _ rfl (fun w1 hst => word_ok w1 h2) fun w1 r w2 hst hq => ?_
  obtain ⟨hx, E2, hos2, hn2⟩ := hq
  refine ⟨_, Tr.news hst hx hn2 (fun x hx => nomatch hx), ?_⟩
  refine J.go [1] 900 rfl ?_
  refine JF.append (A := E2) (E := E1) (B := []) (size := 1) (ys := byC (wdL c.top 4)) (m := (byC (wdL c.top 4)).length) rfl u_bytes u_bytes y_byte rfl hos1 (fun w' hst => hos2.rdn hst (fun x hx => List.mem_append.2 (.inl hx))) (isOne_byC _) (fun n1 h => ?_) (fun x hx => nomatch hx) fun v3 E3 hos3 => ?_
  · simp [byC_len, wdL_len] at h ⊢; omega
  refine J.go [1] 900 rfl ?_
  refine JF.drop (L' := E3 ++ []) (List.sublist_append_right _ _) ?_
  refine JF.callV _ rfl (fun w1 hst => word_ok w1 h3) fun w1 r w2 hst hq => ?_
  obtain ⟨hx, E4, hos4, hn4⟩ := hq
  refine ⟨_, Tr.news hst hx hn4 (fun x hx => nomatch hx), ?_⟩
  refine J.go [1] 900 rfl ?_
  refine JF.append (A := E4) (E := E3) (B := []) (size := 1) (ys := byC (wdL c.addr 4)) (m := (byC (wdL c.addr 4)).length) rfl u_bytes u_bytes y_byte rfl hos3 (fun w' hst => hos4.rdn hst (fun x hx => List.mem_append.2 (.inl hx))) (isOne_byC _) (fun n1 h => ?_) (fun x hx => nomatch hx) fun v5 E5 hos5 => ?_
  · simp [byC_len, wdL_len] at h ⊢; omega
  refine J.go [1] 900 rfl ?_
  refine JF.drop (L' := E5 ++ []) (List.sublist_append_right _ _) ?_
  refine JF.bldS rfl rfl (fun x hx => nomatch hx) fun b hb => ?_
  refine J.go [1] 900 rfl ?_
  have e1 : byC (wdL c.perm 2 ++ wdL c.type 2) = [.int .u8 (IntKind.u8.wrap c.perm), .int .u8 (IntKind.u8.wrap (shrV .u16 c.perm 8)), .int .u8 (IntKind.u8.wrap c.type), .int .u8 (IntKind.u8.wrap (shrV .u16 c.type 8))] := by
    have e2 : ∀ v : Int, shrV .u16 v 8 = v / 2 ^ 8 := fun v => by
      unfold shrV
      rw [show min 8 IntKind.u16.bits = 8 from rfl, Int.fdiv_eq_ediv_of_nonneg _ (by decide)]
    rw [e2, e2, IntKind.wrap_u8, IntKind.wrap_u8, IntKind.wrap_u8, IntKind.wrap_u8]
    simp [wdL, byC, byt, List.range_succ]
  refine JF.append (A := [⟨b, 5, 0, 0, _, true⟩]) (E := E5) (B := []) (size := 1) (ys := byC (wdL c.perm 2 ++ wdL c.type 2)) (m := 4) rfl u_bytes u_bytes y_byte rfl hos5 (fun w' hst => RdS.of hst (.head _) rfl (by rw [e1]; rfl)) (isOne_byC _) (fun n1 h => ?_) (fun x hx => nomatch hx) fun v6 E6 hos6 => ?_
  · simp [byC_len, wdL_len] at h ⊢; omega
  refine J.go [1] 900 rfl ?_
  refine JF.ret rfl fun w' hst => ⟨hst.ext, E6, ?_, hst.news ?_ hos6.rw⟩
  · show OS _ _ _ v6 E6
    simpa [capB, byC] using hos6
  · simp
theorem rget_ok {l : List Int} {c : Nat} {t : Bool} {L : List Ent} {ent : Ent} {b : Nat} (w : World) (hw : Here w L) (m1 : ent ∈ L) (hb : ent.b = b) (hB : isB l) (hl : l.length = 16) (hcap : 16 ≤ c) (hc : ∀ i, i < 16 → nthL ent.cs i = some (.int .u8 (l.getD i 0))) :
    Rets Pg n_haspref11_Get [.slice (some ⟨b, 0, none⟩) 16 c, .bool t] w fun r w' => Ext NoB w w' ∧ r = (bCap l t).val := by
  
  refine rets_of m_haspref11_Get rfl rfl hw.ro_start ?_
  have m1' : ({ ent with rw := false } : Ent) ∈ L.map fun x => { x with rw := false } := List.mem_map.2 ⟨ent, m1, rfl⟩
  have hp : ∀ j n, j + n ≤ 16 → 0 < n → n ≤ 4 → ∀ c' w1, Here w1 (L.map fun x => { x with rw := false }) → Rets Pg n_haspref11_Word [.slice (some ⟨b, j, none⟩) n c'] w1 fun r w' => Ext NoB w1 w' ∧ r = .int .u32 (unw ((l.drop j).take n)) := fun j n h1 h2 h3 c' w1 hw1 => by
    have hlen : ((l.drop j).take n).length = n := by simp; omega
    have := Word_ok (l := (l.drop j).take n) (c := c') (b := b) (o := j) w1 hw1 m1' hb (isB_take (isB_drop hB _) _) (fun i hi => by
      rw [hlen] at hi
      show nthL ent.cs (j + i) = _
      rw [hc (j + i) (by omega)]
      simp [List.getD, List.getElem?_take, hi, List.getElem?_drop]) (by omega)
    rw [hlen] at this
    exact this
  refine J.go [4] 900 rfl ?_
  refine JF.draw [] [] rfl (by simp) ?_
  refine J.go [4] 900 rfl ?_
  have sA : ∀ j, j < 16 → slA (some ⟨b, 0, none⟩) c j 1 = some ⟨b, j, none⟩ := fun j hj => by rw [slA_pos (by omega)]; simp [Addr.add_lit]
  have e16 : ∀ j, IntKind.u16.wrap (unw ((l.drop j).take 2)) = unw ((l.drop j).take 2) := fun j => by
    have h1 := unw_bd _ (isB_take (isB_drop hB j) 2)
    have h2 : ((l.drop j).take 2).length ≤ 2 := by simp; omega
    rcases (by omega : ((l.drop j).take 2).length = 0 ∨ ((l.drop j).take 2).length = 1 ∨ ((l.drop j).take 2).length = 2) with h | h | h <;> rw [h] at h1 <;> rw [IntKind.wrap_u16] <;> omega
  (refine JF.chk rfl ?_ ?_; (focus ((repeat' (apply And.intro)) <;> (first | exact True.intro | (first | omega | (simp only [IntKind.wrap_i64, IntKind.wrap_i32, IntKind.wrap_u64, IntKind.wrap_u32, IntKind.wrap_u16, IntKind.wrap_u8] at *; omega))))))
  rw [sA _ (by decide)]
  refine J.go [4] 900 rfl ?_
  (refine JF.chk rfl ?_ ?_; (focus ((repeat' (apply And.intro)) <;> (first | exact True.intro | (first | omega | (simp only [IntKind.wrap_i64, IntKind.wrap_i32, IntKind.wrap_u64, IntKind.wrap_u32, IntKind.wrap_u16, IntKind.wrap_u8] at *; omega))))))
  rw [sA _ (by decide)]
  refine J.go [4] 900 rfl ?_
  (refine JF.chk rfl ?_ ?_; (focus ((repeat' (apply And.intro)) <;> (first | exact True.intro | (first | omega | (simp only [IntKind.wrap_i64, IntKind.wrap_i32, IntKind.wrap_u64, IntKind.wrap_u32, IntKind.wrap_u16, IntKind.wrap_u8] at *; omega))))))
  rw [sA _ (by decide)]
  refine J.go [4] 900 rfl ?_
  (refine JF.chk rfl ?_ ?_; (focus ((repeat' (apply And.intro)) <;> (first | exact True.intro | (first | omega | (simp only [IntKind.wrap_i64, IntKind.wrap_i32, IntKind.wrap_u64, IntKind.wrap_u32, IntKind.wrap_u16, IntKind.wrap_u8] at *; omega))))))
  rw [sA _ (by decide)]
  refine J.go [4] 900 rfl ?_
  (refine JF.chk rfl ?_ ?_; (focus ((repeat' (apply And.intro)) <;> (first | exact True.intro | (first | omega | (simp only [IntKind.wrap_i64, IntKind.wrap_i32, IntKind.wrap_u64, IntKind.wrap_u32, IntKind.wrap_u16, IntKind.wrap_u8] at *; omega))))))
  rw [sA _ (by decide)]
  refine J.go [4] 900 rfl ?_
  refine JF.callF _ rfl (fun w1 hst => hp _ _ (by decide) (by decide) (by decide) _ w1 (hst.here (List.Sublist.refl _))) (fun x hx => nomatch hx) ?_
  refine J.go [4] 900 rfl ?_
  refine JF.callF _ rfl (fun w1 hst => hp _ _ (by decide) (by decide) (by decide) _ w1 (hst.here (List.Sublist.refl _))) (fun x hx => nomatch hx) ?_
  refine J.go [4] 900 rfl ?_
  refine JF.callF _ rfl (fun w1 hst => hp _ _ (by decide) (by decide) (by decide) _ w1 (hst.here (List.Sublist.refl _))) (fun x hx => nomatch hx) ?_
  refine J.go [4] 900 rfl ?_
  refine JF.callF _ rfl (fun w1 hst => hp _ _ (by decide) (by decide) (by decide) _ w1 (hst.here (List.Sublist.refl _))) (fun x hx => nomatch hx) ?_
  refine J.go [4] 900 rfl ?_
  refine JF.callF _ rfl (fun w1 hst => hp _ _ (by decide) (by decide) (by decide) _ w1 (hst.here (List.Sublist.refl _))) (fun x hx => nomatch hx) ?_
  refine J.go [4] 900 rfl ?_
  refine JF.ret rfl fun w' hst => ⟨hst.ext, ?_⟩
  show Value.agg #[_, _, _, _, .int .u16 (IntKind.u16.wrap (unw ((l.drop 12).take 2))), .int .u16 (IntKind.u16.wrap (unw ((l.drop 14).take 2)))] = _
  rw [e16, e16]
  rfl
end Go.HM
