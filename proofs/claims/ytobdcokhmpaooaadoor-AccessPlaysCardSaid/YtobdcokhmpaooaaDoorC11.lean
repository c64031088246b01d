/- The memory's capabilities: contracts. -/
import Derived.Test.YtobdcokhmpaooaaDoorKcap
import Derived.Test.YtobdcokhmpaooaaDoorKhasplaw2
import Derived.Test.YtobdcokhmpaooaaDoorKmem
import Derived.Test.YtobdcokhmpaooaaDoorA4
namespace Go.HM
open Go Go.Proofs
set_option linter.unusedSimpArgs false
set_option linter.unusedVariables false

/-- Blocks of an error, of a variable that points to one. -/
abbrev fltE (b : Nat) (part : ByteArray) (at_ no : Int) : Ent := ⟨b, 90, 0, 0, [.string part, .int .i64 at_, .iface 83 (.int .i64 no)], true⟩
abbrev varE (b p : Nat) : Ent := ⟨b, 86, 0, 0, [.pointer (some ⟨p, 0, none⟩)], true⟩

abbrev sMem : ByteArray := ⟨#[109, 101, 109]⟩

theorem granule_ok {t : TypeId} {M : MB} {r : Bool} {B : List Int} {T : List Bool} (a : Int) (w : World) (hG : GoodG w) (hw : Here w (memL t M r B T)) (hM : okM M B T) (ha : isI64 a) :
    Rets Pg n_mem_Mem_granule [.pointer (some ⟨M.bm, 0, none⟩), .int .i64 a] w fun v w' => Ext NoB w w' ∧
      ((okC B.length a ∧ v = .tuple #[.slice (some ⟨M.bb, a.toNat, none⟩) 16 (M.cb - a.toNat), .nilIface]) ∨
       (¬ okC B.length a ∧ ∃ f, v = .tuple #[.slice none 0 0, f] ∧ FaultAt w w' sMem a (capNo B.length a) f)) := by
  
  have hM' := hM
  obtain ⟨k1, k2, k3, k4, k5⟩ := hM'
  refine rets_of m_mem_Mem_granule rfl rfl ((show Here w (memL t M false B T) from hw.ro).start (S := NoB) (by simp)) ?_
  refine J.go [] 900 rfl ?_
  refine JF.callV _ rfl (fun w1 hst => span_ok a 16 w1 (hst.here (List.Sublist.refl _)) hM ha (by decide)) fun w1 r w2 hst hq => ?_
  obtain ⟨hx, ⟨hok, o, rfl, ho⟩ | ⟨hok, f, rfl, hf⟩⟩ := hq
  · refine ⟨_, Tr.same hst hx (fun x hx => nomatch hx), ?_⟩
    have ho' := ho (by decide)
    subst ho'
    refine J.go [] 900 rfl ?_
    refine JF.al (fun x hx => nomatch hx) fun b8 hb8 => ?_
    refine J.go [] 900 rfl ?_
    refine JF.callF _ rfl (fun w1 hst => asNil_ok _ w1) (fun x hx => nomatch hx) ?_
    refine J.go [] 900 rfl ?_
    have e1 : a.tmod 16 = a % 16 := Int.tmod_eq_emod_of_nonneg hok.1
    (repeat' (first | ((first | ((first | refine JF.condD rfl ?_ ?_ | refine JF.condE rfl ?_ ?_ | refine JF.condN rfl ?_ ?_ | refine JF.guardD rfl ?_ ?_ | refine JF.guardE rfl ?_ ?_ | refine JF.guardN rfl ?_ ?_ | refine JF.cond rfl ?_ ?_ | refine JF.guard rfl ?_ ?_) <;> intro h) | refine JF.l1 0 rfl rfl rfl rfl ?_ | refine JF.ln 0 rfl rfl rfl rfl ?_ | refine JF.l1 1 rfl rfl rfl rfl ?_ | refine JF.ln 1 rfl rfl rfl rfl ?_ | refine JF.l1 2 rfl rfl rfl rfl ?_ | refine JF.ln 2 rfl rfl rfl rfl ?_ | refine JF.l1 3 rfl rfl rfl rfl ?_ | refine JF.ln 3 rfl rfl rfl rfl ?_ | refine JF.l1 4 rfl rfl rfl rfl ?_ | refine JF.ln 4 rfl rfl rfl rfl ?_ | refine JF.l1 5 rfl rfl rfl rfl ?_ | refine JF.ln 5 rfl rfl rfl rfl ?_ | refine JF.l1 6 rfl rfl rfl rfl ?_ | refine JF.ln 6 rfl rfl rfl rfl ?_ | refine JF.l1 7 rfl rfl rfl rfl ?_ | refine JF.ln 7 rfl rfl rfl rfl ?_) <;> (first | (exact absurd h Bool.false_ne_true) | (exact absurd h.symm Bool.false_ne_true) | (exfalso; omega) | (exfalso; simp only [IntKind.wrap_i64, IntKind.wrap_i32, IntKind.wrap_u32, IntKind.wrap_u16, IntKind.wrap_u8] at *; omega) | refine J.go [] 900 rfl ?_))))
    · refine JF.callV _ rfl (fun w _ => fault_ok _ _ _ w) fun w r w' hst hq => ?_
      obtain ⟨b, h1, rfl, h2⟩ := hq.2.tr hst hq.1
      refine ⟨_, h2, ?_⟩
      refine J.go [] 900 rfl ?_
      refine JF.ret rfl fun w' hst => ⟨hst.ext, .inr ⟨fun hk => h (by rw [e1]; exact hk.2), _, rfl, b, h1, rfl, ?_⟩⟩
      unfold capNo
      rw [if_pos ⟨hok.1, hok.2.2⟩]
      exact hst.blk _ (.head _)
    · refine JF.ret rfl fun w' hst => ⟨hst.ext, .inl ⟨⟨hok, by rw [← e1]; exact h⟩, rfl⟩⟩
  · obtain ⟨b, h1, rfl, h2⟩ := hf.tr hst hx
    refine ⟨_, h2, ?_⟩
    refine J.go [] 900 rfl ?_
    refine JF.al (fun x hx => nomatch hx) fun b8 hb8 => ?_
    refine J.go [] 900 rfl ?_
    refine JF.callV _ rfl (fun w1 hst => asHit_ok (b := b8) ⟨b, 0, none⟩ w1 (hG.keep hst.ext (fun h => h)) (hst.blk _ (.head _)) (Nat.le_refl _)) fun w1 r w2 hst hq => ?_
    obtain ⟨hx, rfl, hb8'⟩ := hq
    refine ⟨varE b8 b :: fltE b sMem a 6 :: memL t M false B T, Tr.wrote (A := []) (M := [_]) (M' := [varE b8 b]) (B := fltE b sMem a 6 :: memL t M false B T) hst hx (fun x hx => ⟨_, .head _, hx.symm, rfl⟩) ⟨by simpa [Ent.obj] using hb8', by simp⟩ (by simp) (fun x hx => nomatch hx), ?_⟩
    refine J.go [] 900 rfl ?_
    (repeat' (first | ((first | ((first | refine JF.condD rfl ?_ ?_ | refine JF.condE rfl ?_ ?_ | refine JF.condN rfl ?_ ?_ | refine JF.guardD rfl ?_ ?_ | refine JF.guardE rfl ?_ ?_ | refine JF.guardN rfl ?_ ?_ | refine JF.cond rfl ?_ ?_ | refine JF.guard rfl ?_ ?_) <;> intro h) | refine JF.l1 0 rfl rfl rfl rfl ?_ | refine JF.ln 0 rfl rfl rfl rfl ?_ | refine JF.l1 1 rfl rfl rfl rfl ?_ | refine JF.ln 1 rfl rfl rfl rfl ?_ | refine JF.l1 2 rfl rfl rfl rfl ?_ | refine JF.ln 2 rfl rfl rfl rfl ?_ | refine JF.l1 3 rfl rfl rfl rfl ?_ | refine JF.ln 3 rfl rfl rfl rfl ?_ | refine JF.l1 4 rfl rfl rfl rfl ?_ | refine JF.ln 4 rfl rfl rfl rfl ?_ | refine JF.l1 5 rfl rfl rfl rfl ?_ | refine JF.ln 5 rfl rfl rfl rfl ?_ | refine JF.l1 6 rfl rfl rfl rfl ?_ | refine JF.ln 6 rfl rfl rfl rfl ?_ | refine JF.l1 7 rfl rfl rfl rfl ?_ | refine JF.ln 7 rfl rfl rfl rfl ?_) <;> (first | (exact absurd h Bool.false_ne_true) | (exact absurd h.symm Bool.false_ne_true) | (exfalso; omega) | (exfalso; simp only [IntKind.wrap_i64, IntKind.wrap_i32, IntKind.wrap_u32, IntKind.wrap_u16, IntKind.wrap_u8] at *; omega) | refine J.go [] 900 rfl ?_))))
    refine JF.draw [] [varE b8 b] rfl (fun x hx => by rw [List.mem_singleton.1 hx]; exact .head _) ?_
    refine J.go [] 900 rfl ?_
    (repeat' (first | ((first | ((first | refine JF.condD rfl ?_ ?_ | refine JF.condE rfl ?_ ?_ | refine JF.condN rfl ?_ ?_ | refine JF.guardD rfl ?_ ?_ | refine JF.guardE rfl ?_ ?_ | refine JF.guardN rfl ?_ ?_ | refine JF.cond rfl ?_ ?_ | refine JF.guard rfl ?_ ?_) <;> intro h) | refine JF.l1 0 rfl rfl rfl rfl ?_ | refine JF.ln 0 rfl rfl rfl rfl ?_ | refine JF.l1 1 rfl rfl rfl rfl ?_ | refine JF.ln 1 rfl rfl rfl rfl ?_ | refine JF.l1 2 rfl rfl rfl rfl ?_ | refine JF.ln 2 rfl rfl rfl rfl ?_ | refine JF.l1 3 rfl rfl rfl rfl ?_ | refine JF.ln 3 rfl rfl rfl rfl ?_ | refine JF.l1 4 rfl rfl rfl rfl ?_ | refine JF.ln 4 rfl rfl rfl rfl ?_ | refine JF.l1 5 rfl rfl rfl rfl ?_ | refine JF.ln 5 rfl rfl rfl rfl ?_ | refine JF.l1 6 rfl rfl rfl rfl ?_ | refine JF.ln 6 rfl rfl rfl rfl ?_ | refine JF.l1 7 rfl rfl rfl rfl ?_ | refine JF.ln 7 rfl rfl rfl rfl ?_) <;> (first | (exact absurd h Bool.false_ne_true) | (exact absurd h.symm Bool.false_ne_true) | (exfalso; omega) | (exfalso; simp only [IntKind.wrap_i64, IntKind.wrap_i32, IntKind.wrap_u32, IntKind.wrap_u16, IntKind.wrap_u8] at *; omega) | refine J.go [] 900 rfl ?_))))
    refine JF.ret rfl fun w' hst => ⟨hst.ext, .inr ⟨fun h => hok h.1, _, rfl, b, h1, rfl, ?_⟩⟩
    unfold capNo
    rw [if_neg (fun h => hok ⟨h.1, by decide, h.2⟩)]
    exact hst.blk _ (.tail _ (.head _))

theorem root_ok (n : Int) (w : World) (hn : 0 ≤ n ∧ n < 4294967296) : Rets Pg n_cap_Root [.int .u32 n] w fun v w' => Ext NoB w w' ∧ v = (CapV.mk true 0 n 0 127 0).val := by
  
  refine rets_of m_cap_Root rfl rfl (St.nil w) ?_
  refine J.go [2] 900 rfl ?_
  refine JF.ret rfl fun w' hst => ⟨hst.ext, rfl⟩

theorem of_ok (c : CapV) (w : World) : Rets Pg n_hasplaw2_Of [c.val] w fun v w' => Ext NoB w w' ∧ v = c.val := by
  
  refine rets_of m_hasplaw2_Of rfl rfl (St.nil w) ?_
  refine J.go [1,2] 900 rfl ?_
  refine JF.ret rfl fun w' hst => ⟨hst.ext, rfl⟩

theorem loadCap_ok {t : TypeId} {M : MB} {r : Bool} {B : List Int} {T : List Bool} (a : Int) (w : World) (hG : GoodG w) (hw : Here w (memL t M r B T)) (hM : okM M B T) (ha : isI64 a) (hB : isB B) :
    Rets Pg n_mem_Mem_LoadCap [.pointer (some ⟨M.bm, 0, none⟩), .int .i64 a] w fun v w' => Ext NoB w w' ∧
      ((okC B.length a ∧ v = .tuple #[(capAt B T a).val, .nilIface]) ∨ (¬ okC B.length a ∧ ∃ f, v = .tuple #[cap0.val, f] ∧ FaultAt w w' sMem a (capNo B.length a) f)) := by
  
  have hM' := hM
  obtain ⟨k1, k2, k3, k4, k5⟩ := hM'
  refine rets_of m_mem_Mem_LoadCap rfl rfl ((show Here w (memL t M false B T) from hw.ro).start (S := NoB) (by simp)) ?_
  refine J.go [4] 900 rfl ?_
  refine JF.callV _ rfl (fun w1 hst => granule_ok a w1 (hG.keep hst.ext (fun h => h)) (hst.here (List.Sublist.refl _)) hM ha) fun w1 r w2 hst hq => ?_
  obtain ⟨hx, ⟨hok, rfl⟩ | ⟨hok, f, rfl, hf⟩⟩ := hq
  · refine ⟨_, Tr.same hst hx (fun x hx => nomatch hx), ?_⟩
    have hok' := hok
    obtain ⟨⟨h1, h2, h3⟩, h4⟩ := hok'
    have e2 : IntKind.i64.wrap (a.tdiv 16) = ((a.toNat / 16 : Nat) : Int) := by rw [IntKind.wrap_i64, Int.tdiv_eq_ediv_of_nonneg (by omega)]; omega
    refine J.go [4] 900 rfl ?_
    (repeat' (first | ((first | ((first | refine JF.condD rfl ?_ ?_ | refine JF.condE rfl ?_ ?_ | refine JF.condN rfl ?_ ?_ | refine JF.guardD rfl ?_ ?_ | refine JF.guardE rfl ?_ ?_ | refine JF.guardN rfl ?_ ?_ | refine JF.cond rfl ?_ ?_ | refine JF.guard rfl ?_ ?_) <;> intro h) | refine JF.l1 0 rfl rfl rfl rfl ?_ | refine JF.ln 0 rfl rfl rfl rfl ?_ | refine JF.l1 1 rfl rfl rfl rfl ?_ | refine JF.ln 1 rfl rfl rfl rfl ?_ | refine JF.l1 2 rfl rfl rfl rfl ?_ | refine JF.ln 2 rfl rfl rfl rfl ?_ | refine JF.l1 3 rfl rfl rfl rfl ?_ | refine JF.ln 3 rfl rfl rfl rfl ?_ | refine JF.l1 4 rfl rfl rfl rfl ?_ | refine JF.ln 4 rfl rfl rfl rfl ?_ | refine JF.l1 5 rfl rfl rfl rfl ?_ | refine JF.ln 5 rfl rfl rfl rfl ?_ | refine JF.l1 6 rfl rfl rfl rfl ?_ | refine JF.ln 6 rfl rfl rfl rfl ?_ | refine JF.l1 7 rfl rfl rfl rfl ?_ | refine JF.ln 7 rfl rfl rfl rfl ?_) <;> (first | (exact absurd h Bool.false_ne_true) | (exact absurd h.symm Bool.false_ne_true) | (exfalso; omega) | (exfalso; simp only [IntKind.wrap_i64, IntKind.wrap_i32, IntKind.wrap_u32, IntKind.wrap_u16, IntKind.wrap_u8] at *; omega) | refine J.go [4] 900 rfl ?_))))
    refine JF.draw [] (memL t M false B T) rfl (fun x hx => hx) ?_
    refine J.go [4] 900 rfl ?_
    (refine JF.chk rfl ?_ ?_; (focus ((repeat' (apply And.intro)) <;> (first | exact True.intro | (first | omega | (simp only [IntKind.wrap_i64, IntKind.wrap_i32, IntKind.wrap_u64, IntKind.wrap_u32, IntKind.wrap_u16, IntKind.wrap_u8] at *; omega))))))
    refine J.go [4] 900 rfl ?_
    refine JF.ldn (vs := byC (subB B a 16)) rfl (.tail _ (.head _)) rfl (subL_app (subL_byC _ _ _ (by omega))) ?_
    refine J.go [4] 900 rfl ?_
    (repeat' (first | ((first | ((first | refine JF.condD rfl ?_ ?_ | refine JF.condE rfl ?_ ?_ | refine JF.condN rfl ?_ ?_ | refine JF.guardD rfl ?_ ?_ | refine JF.guardE rfl ?_ ?_ | refine JF.guardN rfl ?_ ?_ | refine JF.cond rfl ?_ ?_ | refine JF.guard rfl ?_ ?_) <;> intro h) | refine JF.l1 0 rfl rfl rfl rfl ?_ | refine JF.ln 0 rfl rfl rfl rfl ?_ | refine JF.l1 1 rfl rfl rfl rfl ?_ | refine JF.ln 1 rfl rfl rfl rfl ?_ | refine JF.l1 2 rfl rfl rfl rfl ?_ | refine JF.ln 2 rfl rfl rfl rfl ?_ | refine JF.l1 3 rfl rfl rfl rfl ?_ | refine JF.ln 3 rfl rfl rfl rfl ?_ | refine JF.l1 4 rfl rfl rfl rfl ?_ | refine JF.ln 4 rfl rfl rfl rfl ?_ | refine JF.l1 5 rfl rfl rfl rfl ?_ | refine JF.ln 5 rfl rfl rfl rfl ?_ | refine JF.l1 6 rfl rfl rfl rfl ?_ | refine JF.ln 6 rfl rfl rfl rfl ?_ | refine JF.l1 7 rfl rfl rfl rfl ?_ | refine JF.ln 7 rfl rfl rfl rfl ?_) <;> (first | (exact absurd h Bool.false_ne_true) | (exact absurd h.symm Bool.false_ne_true) | (exfalso; omega) | (exfalso; simp only [IntKind.wrap_i64, IntKind.wrap_i32, IntKind.wrap_u32, IntKind.wrap_u16, IntKind.wrap_u8] at *; omega) | refine J.go [4] 900 rfl ?_))))
    rw [e2]
    (refine JF.chk rfl ?_ ?_; (focus ((repeat' (apply And.intro)) <;> (first | exact True.intro | (first | omega | (simp only [IntKind.wrap_i64, IntKind.wrap_i32, IntKind.wrap_u64, IntKind.wrap_u32, IntKind.wrap_u16, IntKind.wrap_u8] at *; omega))))))
    refine J.go [4] 900 rfl ?_
    refine JF.ld1 (v := .bool (T.getD (a.toNat / 16) false)) rfl (.tail _ (.tail _ (.head _))) rfl (nthL_app (nth_bool (by omega) (by omega))) ?_
    refine J.go [4] 900 rfl ?_
    refine JF.callF _ rfl (fun w1 hst => packGet_ok w1 (isB_subB hB _ _) (subB_len hok.1)) (fun x hx => hx) ?_
    refine J.go [4] 900 rfl ?_
    refine JF.ret rfl fun w' hst => ⟨hst.ext, .inl ⟨hok, rfl⟩⟩
  · obtain ⟨b, h1, rfl, h2⟩ := hf.tr hst hx
    refine ⟨_, h2, ?_⟩
    refine J.go [4] 900 rfl ?_
    (repeat' (first | ((first | ((first | refine JF.condD rfl ?_ ?_ | refine JF.condE rfl ?_ ?_ | refine JF.condN rfl ?_ ?_ | refine JF.guardD rfl ?_ ?_ | refine JF.guardE rfl ?_ ?_ | refine JF.guardN rfl ?_ ?_ | refine JF.cond rfl ?_ ?_ | refine JF.guard rfl ?_ ?_) <;> intro h) | refine JF.l1 0 rfl rfl rfl rfl ?_ | refine JF.ln 0 rfl rfl rfl rfl ?_ | refine JF.l1 1 rfl rfl rfl rfl ?_ | refine JF.ln 1 rfl rfl rfl rfl ?_ | refine JF.l1 2 rfl rfl rfl rfl ?_ | refine JF.ln 2 rfl rfl rfl rfl ?_ | refine JF.l1 3 rfl rfl rfl rfl ?_ | refine JF.ln 3 rfl rfl rfl rfl ?_ | refine JF.l1 4 rfl rfl rfl rfl ?_ | refine JF.ln 4 rfl rfl rfl rfl ?_ | refine JF.l1 5 rfl rfl rfl rfl ?_ | refine JF.ln 5 rfl rfl rfl rfl ?_ | refine JF.l1 6 rfl rfl rfl rfl ?_ | refine JF.ln 6 rfl rfl rfl rfl ?_ | refine JF.l1 7 rfl rfl rfl rfl ?_ | refine JF.ln 7 rfl rfl rfl rfl ?_) <;> (first | (exact absurd h Bool.false_ne_true) | (exact absurd h.symm Bool.false_ne_true) | (exfalso; omega) | (exfalso; simp only [IntKind.wrap_i64, IntKind.wrap_i32, IntKind.wrap_u32, IntKind.wrap_u16, IntKind.wrap_u8] at *; omega) | refine J.go [4] 900 rfl ?_))))
    refine JF.ret rfl fun w' hst => ⟨hst.ext, .inr ⟨hok, _, rfl, b, h1, rfl, hst.blk _ (List.Mem.head _)⟩⟩

theorem allOne_of : ∀ {vs : List Value}, (∀ v ∈ vs, isOne v = true) → allOne vs = true
  | [], _ => rfl
  | v :: l, h => by simp only [allOne, h v (.head _), cond_true]; exact allOne_of fun u hu => h u (.tail _ hu)

theorem storeCap_ok {t : TypeId} {M : MB} {B : List Int} {T : List Bool} (a : Int) (c : CapV) (hc : c.ok) (w : World) (hG : GoodG w) (hg0 : M.bb ≠ 0 ∧ M.bt ≠ 0) (hw : Here w (memL t M true B T)) (hM : okM M B T) (ha : isI64 a) (hB : isB B) :
    Rets Pg n_mem_Mem_StoreCap [.pointer (some ⟨M.bm, 0, none⟩), .int .i64 a, c.val] w fun v w' => Ext (fun x => x = M.bb ∨ x = M.bt) w w' ∧
      ((okC B.length a ∧ v = .nilIface ∧ Here w' (memL t M true (wrC B a c) (tgC T a c.tag))) ∨ (¬ okC B.length a ∧ FaultAt w w' sMem a (capNo B.length a) v ∧ Here w' (memL t M true B T))) := by
  
  have hM' := hM
  obtain ⟨k1, k2, k3, k4, k5⟩ := hM'
  refine rets_of m_mem_Mem_StoreCap rfl rfl (hw.start (S := fun x => x = M.bb ∨ x = M.bt) (by simp)) ?_
  refine J.go [5] 900 rfl ?_
  refine JF.callV _ rfl (fun w1 hst => granule_ok a w1 (hG.keep hst.ext (fun h => h.elim (fun h => hg0.1 h.symm) (fun h => hg0.2 h.symm))) (hst.here (List.Sublist.refl _)) hM ha) fun w1 r w2 hst hq => ?_
  obtain ⟨hx, ⟨hok, rfl⟩ | ⟨hok, f, rfl, hf⟩⟩ := hq
  · refine ⟨_, Tr.same hst hx (fun x hx => nomatch hx), ?_⟩
    have hok' := hok
    obtain ⟨⟨h1, h2, h3⟩, h4⟩ := hok'
    have e2 : IntKind.i64.wrap (a.tdiv 16) = ((a.toNat / 16 : Nat) : Int) := by rw [IntKind.wrap_i64, Int.tdiv_eq_ediv_of_nonneg (by omega)]; omega
    refine J.go [5] 900 rfl ?_
    (repeat' (first | ((first | ((first | refine JF.condD rfl ?_ ?_ | refine JF.condE rfl ?_ ?_ | refine JF.condN rfl ?_ ?_ | refine JF.guardD rfl ?_ ?_ | refine JF.guardE rfl ?_ ?_ | refine JF.guardN rfl ?_ ?_ | refine JF.cond rfl ?_ ?_ | refine JF.guard rfl ?_ ?_) <;> intro h) | refine JF.l1 0 rfl rfl rfl rfl ?_ | refine JF.ln 0 rfl rfl rfl rfl ?_ | refine JF.l1 1 rfl rfl rfl rfl ?_ | refine JF.ln 1 rfl rfl rfl rfl ?_ | refine JF.l1 2 rfl rfl rfl rfl ?_ | refine JF.ln 2 rfl rfl rfl rfl ?_ | refine JF.l1 3 rfl rfl rfl rfl ?_ | refine JF.ln 3 rfl rfl rfl rfl ?_ | refine JF.l1 4 rfl rfl rfl rfl ?_ | refine JF.ln 4 rfl rfl rfl rfl ?_ | refine JF.l1 5 rfl rfl rfl rfl ?_ | refine JF.ln 5 rfl rfl rfl rfl ?_ | refine JF.l1 6 rfl rfl rfl rfl ?_ | refine JF.ln 6 rfl rfl rfl rfl ?_ | refine JF.l1 7 rfl rfl rfl rfl ?_ | refine JF.ln 7 rfl rfl rfl rfl ?_) <;> (first | (exact absurd h Bool.false_ne_true) | (exact absurd h.symm Bool.false_ne_true) | (exfalso; omega) | (exfalso; simp only [IntKind.wrap_i64, IntKind.wrap_i32, IntKind.wrap_u32, IntKind.wrap_u16, IntKind.wrap_u8] at *; omega) | refine J.go [5] 900 rfl ?_))))
    refine JF.callF _ rfl (fun w1 hst => packPut_ok c hc w1) (fun x hx => nomatch hx) ?_
    refine J.go [5] 900 rfl ?_
    refine JF.al (fun x hx => nomatch hx) fun q hq => ?_
    refine J.go [5] 900 rfl ?_
    have hl16 := capB_len c
    refine JF.stn 0 (vs := byC (capB c)) (cs := byC (capB c)) rfl rfl (by rw [byC_len, hl16]) (allOne_of (isOne_byC _)) rfl rfl rfl (.inr (.inr (Nat.le_refl _))) (by rw [putL_of _ _ _ (by simp [byC_len, hl16])]; simp [byC_len, hl16]) rfl (fun x hx => nomatch hx) ?_
    refine J.go [5] 900 rfl ?_
    (refine JF.chk rfl ?_ ?_; (focus ((repeat' (apply And.intro)) <;> (first | exact True.intro | (first | omega | (simp only [IntKind.wrap_i64, IntKind.wrap_i32, IntKind.wrap_u64, IntKind.wrap_u32, IntKind.wrap_u16, IntKind.wrap_u8] at *; omega))))))
    refine J.go [5] 900 rfl ?_
    have hBl : (wrC B a c).length = B.length := wrB_len (by rw [capB_len]; omega)
    have hTl : (tgC T a c.tag).length = T.length := by simp [tgC]
    refine JF.copy 2 (o := a.toNat) (k' := 16) (size := 1) (ys := byC (capB c)) (m := 16) (b := M.bb) (cs := byC (wrC B a c) ++ M.sb) rfl u_bytes y_byte (fun w' hst => rd_fst (sp := []) hst (.head _) rfl (by simp) (by rw [byC_len, hl16])) rfl (.inr rfl) (isOne_byC _) rfl rfl rfl (Nat.le_refl _) (by
      rw [show (byC (capB c)).take (16 * 1) = byC (capB c) from List.take_of_length_le (by simp [byC_len, hl16])]
      exact putL_app (putL_wrB (by omega))) rfl (fun x hx => nomatch hx) rfl ?_
    refine J.go [5] 900 rfl ?_
    refine JF.draw [5] [⟨M.bm, t, 0, 0, [.slice (some ⟨M.bb, 0, none⟩) B.length M.cb, .slice (some ⟨M.bt, 0, none⟩) T.length M.ct], false⟩] rfl (fun x hx => by rw [List.mem_singleton.1 hx]; exact .tail _ (.head _)) ?_
    refine J.go [5] 900 rfl ?_
    (repeat' (first | ((first | ((first | refine JF.condD rfl ?_ ?_ | refine JF.condE rfl ?_ ?_ | refine JF.condN rfl ?_ ?_ | refine JF.guardD rfl ?_ ?_ | refine JF.guardE rfl ?_ ?_ | refine JF.guardN rfl ?_ ?_ | refine JF.cond rfl ?_ ?_ | refine JF.guard rfl ?_ ?_) <;> intro h) | refine JF.l1 0 rfl rfl rfl rfl ?_ | refine JF.ln 0 rfl rfl rfl rfl ?_ | refine JF.l1 1 rfl rfl rfl rfl ?_ | refine JF.ln 1 rfl rfl rfl rfl ?_ | refine JF.l1 2 rfl rfl rfl rfl ?_ | refine JF.ln 2 rfl rfl rfl rfl ?_ | refine JF.l1 3 rfl rfl rfl rfl ?_ | refine JF.ln 3 rfl rfl rfl rfl ?_ | refine JF.l1 4 rfl rfl rfl rfl ?_ | refine JF.ln 4 rfl rfl rfl rfl ?_ | refine JF.l1 5 rfl rfl rfl rfl ?_ | refine JF.ln 5 rfl rfl rfl rfl ?_ | refine JF.l1 6 rfl rfl rfl rfl ?_ | refine JF.ln 6 rfl rfl rfl rfl ?_ | refine JF.l1 7 rfl rfl rfl rfl ?_ | refine JF.ln 7 rfl rfl rfl rfl ?_) <;> (first | (exact absurd h Bool.false_ne_true) | (exact absurd h.symm Bool.false_ne_true) | (exfalso; omega) | (exfalso; simp only [IntKind.wrap_i64, IntKind.wrap_i32, IntKind.wrap_u32, IntKind.wrap_u16, IntKind.wrap_u8] at *; omega) | refine J.go [5] 900 rfl ?_))))
    rw [e2]
    (refine JF.chk rfl ?_ ?_; (focus ((repeat' (apply And.intro)) <;> (first | exact True.intro | (first | omega | (simp only [IntKind.wrap_i64, IntKind.wrap_i32, IntKind.wrap_u64, IntKind.wrap_u32, IntKind.wrap_u16, IntKind.wrap_u8] at *; omega))))))
    refine J.go [5] 900 rfl ?_
    refine JF.st1 3 rfl rfl rfl rfl rfl rfl (.inr (.inr (Nat.le_refl _))) (putL_app (putL_bo (X := T) (Y := tgC T a c.tag) (k := a.toNat / 16) (by omega) (by omega) rfl)) rfl (fun x hx => by rw [List.mem_singleton.1 hx]; exact .tail _ (.head _)) ?_
    refine J.go [5] 900 rfl ?_
    refine JF.ret rfl fun w' hst => ⟨hst.ext, .inl ⟨hok, rfl, ?_⟩⟩
    have := hst.here (List.sublist_cons_self _ _)
    rw [memL, hTl, hBl]
    exact this
  · obtain ⟨b, h1, rfl, h2⟩ := hf.tr hst hx
    refine ⟨_, h2, ?_⟩
    refine J.go [5] 900 rfl ?_
    (repeat' (first | ((first | ((first | refine JF.condD rfl ?_ ?_ | refine JF.condE rfl ?_ ?_ | refine JF.condN rfl ?_ ?_ | refine JF.guardD rfl ?_ ?_ | refine JF.guardE rfl ?_ ?_ | refine JF.guardN rfl ?_ ?_ | refine JF.cond rfl ?_ ?_ | refine JF.guard rfl ?_ ?_) <;> intro h) | refine JF.l1 0 rfl rfl rfl rfl ?_ | refine JF.ln 0 rfl rfl rfl rfl ?_ | refine JF.l1 1 rfl rfl rfl rfl ?_ | refine JF.ln 1 rfl rfl rfl rfl ?_ | refine JF.l1 2 rfl rfl rfl rfl ?_ | refine JF.ln 2 rfl rfl rfl rfl ?_ | refine JF.l1 3 rfl rfl rfl rfl ?_ | refine JF.ln 3 rfl rfl rfl rfl ?_ | refine JF.l1 4 rfl rfl rfl rfl ?_ | refine JF.ln 4 rfl rfl rfl rfl ?_ | refine JF.l1 5 rfl rfl rfl rfl ?_ | refine JF.ln 5 rfl rfl rfl rfl ?_ | refine JF.l1 6 rfl rfl rfl rfl ?_ | refine JF.ln 6 rfl rfl rfl rfl ?_ | refine JF.l1 7 rfl rfl rfl rfl ?_ | refine JF.ln 7 rfl rfl rfl rfl ?_) <;> (first | (exact absurd h Bool.false_ne_true) | (exact absurd h.symm Bool.false_ne_true) | (exfalso; omega) | (exfalso; simp only [IntKind.wrap_i64, IntKind.wrap_i32, IntKind.wrap_u32, IntKind.wrap_u16, IntKind.wrap_u8] at *; omega) | refine J.go [5] 900 rfl ?_))))
    refine JF.ret rfl fun w' hst => ⟨hst.ext, .inr ⟨hok, ⟨b, h1, rfl, hst.blk _ (List.Mem.head _)⟩, hst.here (List.sublist_cons_self _ _)⟩⟩
end Go.HM
