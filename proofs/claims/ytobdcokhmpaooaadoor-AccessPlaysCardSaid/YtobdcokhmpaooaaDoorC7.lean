/- Numbers as bytes, bytes as numbers: contracts. -/
import Derived.Test.YtobdcokhmpaooaaDoorKhaspref11
import Derived.Test.YtobdcokhmpaooaaDoorKpack
import Derived.Test.YtobdcokhmpaooaaDoorC6
namespace Go.HM
open Go Go.Proofs
set_option linter.unusedSimpArgs false
set_option linter.unusedVariables false

/-- A number's byte. -/
def byt (v : Int) (i : Nat) : Int := v / 2 ^ (8 * i) % 256

/-- A number's first bytes, the lowest first. -/
def wdL (v : Int) (n : Nat) : List Int := (List.range n).map (byt v)

/-- Bytes as a number, the lowest first. -/
def unw : List Int → Int
  | [] => 0
  | b :: l => b + 256 * unw l

theorem isB_wdL (v : Int) (n : Nat) : isB (wdL v n) := fun x hx => by
  simp only [wdL, List.mem_map] at hx
  obtain ⟨i, _, rfl⟩ := hx
  unfold byt
  omega

theorem wdL_succ (v : Int) (n : Nat) : wdL v (n + 1) = wdL v n ++ [byt v n] := by simp [wdL, List.range_succ]

theorem wdL_len (v : Int) (n : Nat) : (wdL v n).length = n := by simp [wdL]

theorem unw_app : ∀ (l r : List Int), unw (l ++ r) = unw l + 256 ^ l.length * unw r
  | [], r => by simp [unw]
  | b :: l, r => by simp only [List.cons_append, unw, unw_app l r, List.length_cons, Int.pow_succ]; simp only [Int.mul_add, Int.add_assoc]; congr 2; rw [← Int.mul_assoc, Int.mul_comm 256]

theorem unw_bd : ∀ (l : List Int), isB l → 0 ≤ unw l ∧ unw l < 256 ^ l.length
  | [], _ => by simp [unw]
  | b :: l, h => by
    have h1 := h b (by simp)
    have h2 := unw_bd l (fun x hx => h x (by simp [hx]))
    simp only [unw, List.length_cons, Int.pow_succ]
    omega

theorem bOr_add (a b k : Nat) (ha : a < 2 ^ k) (hb : b * 2 ^ k + a < 2 ^ 32) : bOr .u32 (a : Int) ((b * 2 ^ k : Nat) : Int) = ((b * 2 ^ k + a : Nat) : Int) := by
  unfold bOr
  have h1 : (BitVec.ofInt IntKind.u32.bits (a : Int)).toNat = a := by
    show (BitVec.ofInt 32 (a : Int)).toNat = a
    rw [BitVec.ofInt_natCast, BitVec.toNat_ofNat, Nat.mod_eq_of_lt (by omega)]
  have h2 : (BitVec.ofInt IntKind.u32.bits ((b * 2 ^ k : Nat) : Int)).toNat = b * 2 ^ k := by
    show (BitVec.ofInt 32 ((b * 2 ^ k : Nat) : Int)).toNat = b * 2 ^ k
    rw [BitVec.ofInt_natCast, BitVec.toNat_ofNat, Nat.mod_eq_of_lt (by omega)]
  rw [BitVec.toNat_or, h1, h2, Nat.or_comm, ← Nat.shiftLeft_eq, ← Nat.shiftLeft_add_eq_or_of_lt ha, Nat.shiftLeft_eq, IntKind.wrap_u32]
  omega

theorem shrV_u32 {v : Int} {n : Nat} (h : n ≤ 32) : shrV .u32 v n = v / 2 ^ n := by
  unfold shrV
  rw [show min n IntKind.u32.bits = n from Nat.min_eq_left h, Int.fdiv_eq_ediv_of_nonneg _ (Int.pow_nonneg (by decide))]

theorem put_ok {v : Value} {xs : List Value} {E : List Ent} {x : Int} {n : Nat} (w : World) (hw : Here w E) (hos : OS 5 1 xs v E) (hxs : xs.length ≤ 1000) (hn : n ≤ 4) :
    Rets Pg n_pack_put [v, .int .u32 x, .int .i64 (n : Int)] w fun r w' => Ext (fun b => ∃ y ∈ E, y.b = b) w w' ∧ ∃ E', OS 5 1 (xs ++ byC (wdL x n)) r E' ∧ Here w' E' ∧ ∀ y ∈ E', (∃ z ∈ E, z.b = y.b) ∨ w.heap.size ≤ y.b := by
  
  refine rets_of m_pack_put rfl rfl (hw.start (S := fun b => ∃ y ∈ E, y.b = b) (fun x hx _ => ⟨x, hx, rfl⟩)) ?_
  refine J.go [] 900 rfl ?_
  refine JF.loop (σ := Nat × Value × List Ent) (fun s => [(9, .v (.int .i64 (s.1 : Int))), (0, .v s.2.1), (1, .v (.int .u32 x)), (8, .v (.int .i64 (n : Int)))]) (fun _ => [])
    (fun s => s.2.2) (fun s => s.1 ≤ n ∧ OS 5 1 (xs ++ byC (wdL x s.1)) s.2.1 s.2.2) (fun s => n - s.1) (0, v, E) ⟨Nat.zero_le _, by simpa [wdL, byC] using hos⟩ ⟨rfl, rfl, rfl, rfl, trivial⟩ trivial (List.Sublist.refl _) ?_
  rintro ⟨i, v', E'⟩ ⟨hi, hos'⟩
  simp only at hi hos'
  dsimp only
  rcases Nat.lt_or_ge i n with hlt | hge
  · have e1 : IntKind.i64.wrap ((i : Int) + 1) = ((i + 1 : Nat) : Int) := by rw [IntKind.wrap_i64]; omega
    have e2 : IntKind.i64.wrap (8 * (i : Int)) = ((8 * i : Nat) : Int) := by rw [IntKind.wrap_i64]; omega
    refine J.go [] 900 rfl ?_
    (repeat' (first | ((first | ((first | refine JF.condD rfl ?_ ?_ | refine JF.condE rfl ?_ ?_ | refine JF.condN rfl ?_ ?_ | refine JF.guardD rfl ?_ ?_ | refine JF.guardE rfl ?_ ?_ | refine JF.guardN rfl ?_ ?_ | refine JF.cond rfl ?_ ?_ | refine JF.guard rfl ?_ ?_) <;> intro h) | refine JF.l1 0 rfl rfl rfl rfl ?_ | refine JF.ln 0 rfl rfl rfl rfl ?_ | refine JF.l1 1 rfl rfl rfl rfl ?_ | refine JF.ln 1 rfl rfl rfl rfl ?_ | refine JF.l1 2 rfl rfl rfl rfl ?_ | refine JF.ln 2 rfl rfl rfl rfl ?_ | refine JF.l1 3 rfl rfl rfl rfl ?_ | refine JF.ln 3 rfl rfl rfl rfl ?_ | refine JF.l1 4 rfl rfl rfl rfl ?_ | refine JF.ln 4 rfl rfl rfl rfl ?_ | refine JF.l1 5 rfl rfl rfl rfl ?_ | refine JF.ln 5 rfl rfl rfl rfl ?_ | refine JF.l1 6 rfl rfl rfl rfl ?_ | refine JF.ln 6 rfl rfl rfl rfl ?_ | refine JF.l1 7 rfl rfl rfl rfl ?_ | refine JF.ln 7 rfl rfl rfl rfl ?_) <;> (first | (exact absurd h Bool.false_ne_true) | (exact absurd h.symm Bool.false_ne_true) | (exfalso; omega) | (exfalso; simp only [IntKind.wrap_i64, IntKind.wrap_i32, IntKind.wrap_u32, IntKind.wrap_u16, IntKind.wrap_u8] at *; omega) | refine J.go [] 900 rfl ?_))))
    rw [e2]
    (refine JF.chk rfl ?_ ?_; (focus ((repeat' (apply And.intro)) <;> (first | exact True.intro | (first | omega | (simp only [IntKind.wrap_i64, IntKind.wrap_i32, IntKind.wrap_u64, IntKind.wrap_u32, IntKind.wrap_u16, IntKind.wrap_u8] at *; omega))))))
    rw [Int.toNat_natCast, shrV_u32 (by omega)]
    refine J.go [] 900 rfl ?_
    rw [IntKind.wrap_u8]
    refine JF.bldS rfl rfl (fun x hx => nomatch hx) fun b hb => ?_
    refine J.go [] 900 rfl ?_
    refine JF.appendE (A := [⟨b, _, 0, 0, byC [byt x i], true⟩]) (E := E') (size := 1) (ys := byC [byt x i]) (m := 1) rfl u_bytes u_bytes y_byte rfl hos' (fun w' hst => RdS.of hst (.head _) rfl rfl) (isOne_byC _) (fun n1 h => ?_) (fun x hx => nomatch hx) fun v2 E2 hos2 => ?_
    · simp [byC, wdL_len] at h
      omega
    refine J.go [] 900 rfl ?_
    rw [e1]
    refine JF.round (i + 1, v2, E2) ⟨hlt, ?_⟩ (by simp only; omega) ⟨rfl, rfl, rfl, rfl, trivial⟩ trivial ?_
    · rw [wdL_succ]
      simpa [byC] using hos2
    · simp
  · have hin : i = n := by omega
    subst hin
    refine J.go [] 900 rfl ?_
    (repeat' (first | ((first | ((first | refine JF.condD rfl ?_ ?_ | refine JF.condE rfl ?_ ?_ | refine JF.condN rfl ?_ ?_ | refine JF.guardD rfl ?_ ?_ | refine JF.guardE rfl ?_ ?_ | refine JF.guardN rfl ?_ ?_ | refine JF.cond rfl ?_ ?_ | refine JF.guard rfl ?_ ?_) <;> intro h) | refine JF.l1 0 rfl rfl rfl rfl ?_ | refine JF.ln 0 rfl rfl rfl rfl ?_ | refine JF.l1 1 rfl rfl rfl rfl ?_ | refine JF.ln 1 rfl rfl rfl rfl ?_ | refine JF.l1 2 rfl rfl rfl rfl ?_ | refine JF.ln 2 rfl rfl rfl rfl ?_ | refine JF.l1 3 rfl rfl rfl rfl ?_ | refine JF.ln 3 rfl rfl rfl rfl ?_ | refine JF.l1 4 rfl rfl rfl rfl ?_ | refine JF.ln 4 rfl rfl rfl rfl ?_ | refine JF.l1 5 rfl rfl rfl rfl ?_ | refine JF.ln 5 rfl rfl rfl rfl ?_ | refine JF.l1 6 rfl rfl rfl rfl ?_ | refine JF.ln 6 rfl rfl rfl rfl ?_ | refine JF.l1 7 rfl rfl rfl rfl ?_ | refine JF.ln 7 rfl rfl rfl rfl ?_) <;> (first | (exact absurd h Bool.false_ne_true) | (exact absurd h.symm Bool.false_ne_true) | (exfalso; omega) | (exfalso; simp only [IntKind.wrap_i64, IntKind.wrap_i32, IntKind.wrap_u32, IntKind.wrap_u16, IntKind.wrap_u8] at *; omega) | refine J.go [] 900 rfl ?_))))
    refine JF.ret rfl fun w' hst => ⟨hst.ext, E', hos', hst.here (List.Sublist.refl _), fun y hy => ?_⟩
    rcases hst.own y hy (hos'.rw y hy) with h | h
    · exact .inr h
    · exact .inl h
theorem unw_take_succ {l : List Int} {i : Nat} (h : i < l.length) : unw (l.take (i + 1)) = unw (l.take i) + 256 ^ i * l.getD i 0 := by
  have : l.take (i + 1) = l.take i ++ [l.getD i 0] := by rw [List.take_add_one]; simp [List.getD, h]
  rw [this, unw_app]
  have hl : (l.take i).length = i := by simp; omega
  simp [unw, hl]

theorem isB_take {l : List Int} (h : isB l) (n : Nat) : isB (l.take n) := fun x hx => h x (List.mem_of_mem_take hx)
theorem isB_drop {l : List Int} (h : isB l) (n : Nat) : isB (l.drop n) := fun x hx => h x (List.mem_of_mem_drop hx)

theorem getD_isB {l : List Int} (h : isB l) (i : Nat) : 0 ≤ l.getD i 0 ∧ l.getD i 0 < 256 := by
  rcases Nat.lt_or_ge i l.length with hlt | hge
  · have := h (l.getD i 0) (by simp [List.getD, hlt])
    exact this
  · simp [List.getD, List.getElem?_eq_none hge]

theorem pow256 (i : Nat) : (256 : Int) ^ i = ((2 ^ (8 * i) : Nat) : Int) := by
  rw [Nat.pow_mul]; simp

/-- Bytes read into a number, one more. -/
theorem unw_step {l : List Int} {i : Nat} (hB : isB l) (hi : i < l.length) (h4 : i < 4) : bOr .u32 (unw (l.take i)) (shlV .u32 (l.getD i 0) (8 * i)) = unw (l.take (i + 1)) := by
  have hb := unw_bd (l.take i) (isB_take hB i)
  have hl : (l.take i).length = i := by simp; omega
  rw [hl, pow256] at hb
  have hg := getD_isB hB i
  rw [unw_take_succ hi, pow256]
  have hx : unw (l.take i) = ((unw (l.take i)).toNat : Int) := by omega
  have hy : l.getD i 0 = ((l.getD i 0).toNat : Int) := by omega
  generalize (unw (l.take i)).toNat = a at hx
  generalize (l.getD i 0).toNat = b at hy
  rw [hx] at hb ⊢
  rw [hy] at hg ⊢
  have hp : 2 ^ (8 * i) ≤ 2 ^ 24 := Nat.pow_le_pow_right (by decide) (by omega)
  have h1 : a < 2 ^ (8 * i) := by omega
  have h2 : b * 2 ^ (8 * i) + a < 2 ^ 32 := by
    have h3 : (b + 1) * 2 ^ (8 * i) ≤ 256 * 2 ^ (8 * i) := Nat.mul_le_mul_right _ (by omega)
    have h4' : 256 * 2 ^ (8 * i) ≤ 256 * 2 ^ 24 := Nat.mul_le_mul_left _ hp
    rw [Nat.add_mul] at h3
    omega
  have hs : shlV .u32 (b : Int) (8 * i) = ((b * 2 ^ (8 * i) : Nat) : Int) := by
    unfold shlV
    rw [show min (8 * i) IntKind.u32.bits = 8 * i from Nat.min_eq_left (by show 8 * i ≤ 32; omega), IntKind.wrap_u32]
    have e1 : (b : Int) * 2 ^ (8 * i) = ((b * 2 ^ (8 * i) : Nat) : Int) := by simp
    rw [e1]
    omega
  rw [hs, bOr_add a b (8 * i) h1 h2]
  rw [Int.mul_comm]
  simp [Int.add_comm]

theorem get_ok {l : List Int} {n c : Nat} {L : List Ent} {ent : Ent} {b o : Nat} (w : World) (hw : Here w L) (m1 : ent ∈ L) (hb : ent.b = b) (hB : isB l) (hc : ∀ i, i < l.length → nthL ent.cs (o + i) = some (.int .u8 (l.getD i 0))) (hn : n ≤ l.length) (h4 : n ≤ 4) (hcap : l.length ≤ c) (hl : l.length ≤ 1000) :
    Rets Pg n_pack_get [.slice (some ⟨b, o, none⟩) l.length c, .int .i64 (n : Int)] w fun r w' => Ext NoB w w' ∧ ∃ o', r = .tuple #[.int .u32 (unw (l.take n)), .slice (some ⟨b, o', none⟩) (l.length - n) (c - n)] ∧ (n < c → o' = o + n) := by
  
  refine rets_of m_pack_get rfl rfl hw.ro_start ?_
  have m1' : ({ ent with rw := false } : Ent) ∈ L.map fun x => { x with rw := false } := List.mem_map.2 ⟨ent, m1, rfl⟩
  refine J.go [] 900 rfl ?_
  refine JF.loop (σ := Nat) (fun i => [(9, .v (.int .i64 (i : Int))), (0, .v (.slice (some ⟨b, o, none⟩) l.length c)), (1, .v (.int .i64 (n : Int))), (8, .v (.int .i64 (n : Int))), (6, .v (.int .u32 (unw (l.take i))))]) (fun _ => [])
    (fun _ => L.map fun x => { x with rw := false }) (fun i => i ≤ n) (fun i => n - i) 0 (Nat.zero_le _) ⟨rfl, rfl, rfl, rfl, rfl, trivial⟩ trivial (List.Sublist.refl _) ?_
  intro i hi
  rcases Nat.lt_or_ge i n with hlt | hge
  · have e1 : IntKind.i64.wrap ((i : Int) + 1) = ((i + 1 : Nat) : Int) := by rw [IntKind.wrap_i64]; omega
    have e2 : IntKind.i64.wrap (8 * (i : Int)) = ((8 * i : Nat) : Int) := by rw [IntKind.wrap_i64]; omega
    refine J.go [] 900 rfl ?_
    (repeat' (first | ((first | ((first | refine JF.condD rfl ?_ ?_ | refine JF.condE rfl ?_ ?_ | refine JF.condN rfl ?_ ?_ | refine JF.guardD rfl ?_ ?_ | refine JF.guardE rfl ?_ ?_ | refine JF.guardN rfl ?_ ?_ | refine JF.cond rfl ?_ ?_ | refine JF.guard rfl ?_ ?_) <;> intro h) | refine JF.l1 0 rfl rfl rfl rfl ?_ | refine JF.ln 0 rfl rfl rfl rfl ?_ | refine JF.l1 1 rfl rfl rfl rfl ?_ | refine JF.ln 1 rfl rfl rfl rfl ?_ | refine JF.l1 2 rfl rfl rfl rfl ?_ | refine JF.ln 2 rfl rfl rfl rfl ?_ | refine JF.l1 3 rfl rfl rfl rfl ?_ | refine JF.ln 3 rfl rfl rfl rfl ?_ | refine JF.l1 4 rfl rfl rfl rfl ?_ | refine JF.ln 4 rfl rfl rfl rfl ?_ | refine JF.l1 5 rfl rfl rfl rfl ?_ | refine JF.ln 5 rfl rfl rfl rfl ?_ | refine JF.l1 6 rfl rfl rfl rfl ?_ | refine JF.ln 6 rfl rfl rfl rfl ?_ | refine JF.l1 7 rfl rfl rfl rfl ?_ | refine JF.ln 7 rfl rfl rfl rfl ?_) <;> (first | (exact absurd h Bool.false_ne_true) | (exact absurd h.symm Bool.false_ne_true) | (exfalso; omega) | (exfalso; simp only [IntKind.wrap_i64, IntKind.wrap_i32, IntKind.wrap_u32, IntKind.wrap_u16, IntKind.wrap_u8] at *; omega) | refine J.go [] 900 rfl ?_))))
    (refine JF.chk rfl ?_ ?_; (focus ((repeat' (apply And.intro)) <;> (first | exact True.intro | (first | omega | (simp only [IntKind.wrap_i64, IntKind.wrap_i32, IntKind.wrap_u64, IntKind.wrap_u32, IntKind.wrap_u16, IntKind.wrap_u8] at *; omega))))))
    refine J.go [] 900 rfl ?_
    refine JF.ld1 (v := .int .u8 (l.getD i 0)) rfl m1' hb (by simpa using hc i (by omega)) ?_
    refine J.go [] 900 rfl ?_
    rw [e2]
    (refine JF.chk rfl ?_ ?_; (focus ((repeat' (apply And.intro)) <;> (first | exact True.intro | (first | omega | (simp only [IntKind.wrap_i64, IntKind.wrap_i32, IntKind.wrap_u64, IntKind.wrap_u32, IntKind.wrap_u16, IntKind.wrap_u8] at *; omega))))))
    have hg := getD_isB hB i
    rw [Int.toNat_natCast, IntKind.wrap_u32, Int.emod_eq_of_lt (by omega) (by omega)]
    refine J.go [] 900 rfl ?_
    rw [unw_step hB (by omega) (by omega), e1]
    refine JF.round (i + 1) hlt (by omega) ⟨rfl, rfl, rfl, rfl, rfl, trivial⟩ trivial (List.Sublist.refl _)
  · have hin : i = n := by omega
    subst hin
    refine J.go [] 900 rfl ?_
    (repeat' (first | ((first | ((first | refine JF.condD rfl ?_ ?_ | refine JF.condE rfl ?_ ?_ | refine JF.condN rfl ?_ ?_ | refine JF.guardD rfl ?_ ?_ | refine JF.guardE rfl ?_ ?_ | refine JF.guardN rfl ?_ ?_ | refine JF.cond rfl ?_ ?_ | refine JF.guard rfl ?_ ?_) <;> intro h) | refine JF.l1 0 rfl rfl rfl rfl ?_ | refine JF.ln 0 rfl rfl rfl rfl ?_ | refine JF.l1 1 rfl rfl rfl rfl ?_ | refine JF.ln 1 rfl rfl rfl rfl ?_ | refine JF.l1 2 rfl rfl rfl rfl ?_ | refine JF.ln 2 rfl rfl rfl rfl ?_ | refine JF.l1 3 rfl rfl rfl rfl ?_ | refine JF.ln 3 rfl rfl rfl rfl ?_ | refine JF.l1 4 rfl rfl rfl rfl ?_ | refine JF.ln 4 rfl rfl rfl rfl ?_ | refine JF.l1 5 rfl rfl rfl rfl ?_ | refine JF.ln 5 rfl rfl rfl rfl ?_ | refine JF.l1 6 rfl rfl rfl rfl ?_ | refine JF.ln 6 rfl rfl rfl rfl ?_ | refine JF.l1 7 rfl rfl rfl rfl ?_ | refine JF.ln 7 rfl rfl rfl rfl ?_) <;> (first | (exact absurd h Bool.false_ne_true) | (exact absurd h.symm Bool.false_ne_true) | (exfalso; omega) | (exfalso; simp only [IntKind.wrap_i64, IntKind.wrap_i32, IntKind.wrap_u32, IntKind.wrap_u16, IntKind.wrap_u8] at *; omega) | refine J.go [] 900 rfl ?_))))
    refine JF.draw [] [] rfl (by simp) ?_
    refine J.go [] 900 rfl ?_
    (refine JF.chk rfl ?_ ?_; (focus ((repeat' (apply And.intro)) <;> (first | exact True.intro | (first | omega | (simp only [IntKind.wrap_i64, IntKind.wrap_i32, IntKind.wrap_u64, IntKind.wrap_u32, IntKind.wrap_u16, IntKind.wrap_u8] at *; omega))))))
    rw [Int.toNat_natCast]
    obtain ⟨o', e3, h5⟩ := slA_ex b o c i 1
    rw [e3]
    refine J.go [] 900 rfl ?_
    refine JF.ret rfl fun w' hst => ⟨hst.ext, o', rfl, fun h => by rw [h5 h]; omega⟩

theorem word_ok {x : Int} (w : World) (hx : 0 ≤ x ∧ x < 4294967296) : Rets Pg n_haspref11_word [.int .u32 x] w fun r w' => Ext NoB w w' ∧ ∃ E, OS 5 1 (byC (wdL x 4)) r E ∧ News w w' E := by
  
  refine rets_of m_haspref11_word rfl rfl (St.nil w) ?_
  refine J.go [] 900 rfl ?_
  refine JF.bldS rfl rfl (fun x hx => nomatch hx) fun b hb => ?_
  refine J.go [] 900 rfl ?_
  refine JF.ret rfl fun w' hst => ⟨hst.ext, [⟨b, 5, 0, 0, byC (wdL x 4) ++ [], true⟩], .own b 4 4 _ [] rfl (Nat.le_refl _) (Nat.le_refl _), ?_⟩
  have e1 : byC (wdL x 4) ++ [] = [.int .u8 (IntKind.u8.wrap x), .int .u8 (IntKind.u8.wrap (shrV .u32 x 8)), .int .u8 (IntKind.u8.wrap (shrV .u32 x 16)), .int .u8 (IntKind.u8.wrap (shrV .u32 x 24))] := by
    rw [shrV_u32 (by decide), shrV_u32 (by decide), shrV_u32 (by decide), IntKind.wrap_u8, IntKind.wrap_u8, IntKind.wrap_u8, IntKind.wrap_u8]
    simp [wdL, byC, byt, List.range_succ]
  rw [e1]
  exact hst.news (List.Sublist.refl _) (by simp)
end Go.HM
