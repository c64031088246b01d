/- hasplaw5.AccessPlays answers true at whatever is loaded and stored through whatever capability, and leaves its arguments as they were; the laid variable is tied to the program's text. -/
import Derived.Test.YtobdcokhmpaooaaDoorC20
import Derived.Test.YtobdcokhmpaooaaDoorR0
import Derived.Test.YtobdcokhmpaooaaDoorCards
import Derived.Test.YtobdcokhmpaooaaDoorTie
import Derived.SevenTiedAt
namespace Go.HM
open Go Go.Proofs Go.RowKit Go.ChangeShapes Go.WideShapes
theorem u_i32 : Pg.underlying 21 = some (.int .i32) := by kernel_rfl
end Go.HM

namespace Go.Proofs.YtobdcokhmpaooaaDoor
open Go Go.HM Go.RowKit Go.ChangeShapes Go.WideShapes
set_option linter.unusedSimpArgs false
set_option linter.unusedVariables false

set_option maxRecDepth 100000 in
theorem accessPlays_lifted (os : Os) (started : os.Started) (H : Type) (enc : TypeId × Value → H) :
    ReturnsInHanded {} Tryd.checked os 4 .any (fun w args => (Rows.accessPlaysSpec.pre enc Tryd.prog Tryd.f4 [] false w args ∧ laidMetH Tryd.prog [("errors.errorType", Rows.laid_errors_errorType)] w) ∧ sizedMet enc Tryd.prog Tryd.f4 (OpenSpec.ofChange Rows.accessPlaysSpec) false w args)
      (Rows.accessPlaysSpec.post enc Tryd.prog Tryd.f4 false true false false) := by
  refine law_lifted (C := Tryd.checked) (X := fun w _ => laidMetH Tryd.prog [("errors.errorType", Rows.laid_errors_errorType)] w) (tb := 4) false (fun _ _ _ hh h => h.of_heap hh) P_own started (by kernel_rfl) Tryd.func4
    (ChangeSpec.witness_at (enc := enc) (C := Tryd.checked) (os := os) (X := fun w _ => laidMetH Tryd.prog [("errors.errorType", Rows.laid_errors_errorType)] w) false (laidWorld os) #[.slice none 0 0, cap0.val, .int .i32 0, .int .i64 0, .int .u32 0, cap0.val] 8 rfl (by kernel_rfl) (by kernel_rfl) (by kernel_rfl) (by kernel_rfl) (by kernel_rfl) (laidWorld_met os _))
    rfl (fun ds hds => ?_) (by kernel_rfl) u_bool P_laid (by
      rw [Tryd.params4]
      intro t ht
      have hall : ([35, 39, 21, 3, 36, 39].all fun u => Tryd.prog.readableRec u && decide (u < Tryd.prog.types.size)) = true := by kernel_rfl
      have := List.all_eq_true.1 hall t (by simpa using ht)
      simp only [Bool.and_eq_true, decide_eq_true_eq] at this
      exact this) ?_
  · rw [Tryd.params4] at hds
    match ds, hds with
    | [d1, d2, d3, d4, d5, d6], _ => rfl
  · intro W base args ds p hval hA _ hL
    rw [Tryd.params4] at hA hval
    obtain ⟨args⟩ := args
    obtain ⟨v0, vs, d0, ds, p0, p, rfl, rfl, rfl, h0, hA⟩ := trodAll_cons hA
    obtain ⟨v1, vs, d1, ds, p1, p, rfl, rfl, rfl, h1, hA⟩ := trodAll_cons hA
    obtain ⟨v2, vs, d2, ds, p2, p, rfl, rfl, rfl, h2, hA⟩ := trodAll_cons hA
    obtain ⟨v3, vs, d3, ds, p3, p, rfl, rfl, rfl, h3, hA⟩ := trodAll_cons hA
    obtain ⟨v4, vs, d4, ds, p4, p, rfl, rfl, rfl, h4, hA⟩ := trodAll_cons hA
    obtain ⟨v5, vs, d5, ds, p5, p, rfl, rfl, rfl, h5, hA⟩ := trodAll_cons hA
    obtain ⟨rfl, rfl, rfl⟩ := trodAll_nil hA
    obtain ⟨a, n, c, bl, e0, g1, g2, g3, g4, g5⟩ := Reads.bytes (arg_slice u_bytes (hval 0 _ v0 rfl rfl) h0)
    simp only [List.cons.injEq, and_true] at e0
    subst e0
    subst g3
    obtain ⟨cs1, rfl, k1⟩ := arg_struct f_cap (hval 1 _ v1 rfl rfl) h1
    obtain ⟨c1, rfl, hc1⟩ := k1.cap
    obtain ⟨off, rfl, w2⟩ := arg_int u_i32 (hval 2 _ v2 rfl rfl) h2
    obtain ⟨n3, rfl, w3⟩ := arg_int u_int (hval 3 _ v3 rfl rfl) h3
    obtain ⟨x4, rfl, w4⟩ := arg_int u_u32 (hval 4 _ v4 rfl rfl) h4
    obtain ⟨cs5, rfl, k5⟩ := arg_struct f_cap (hval 5 _ v5 rfl rfl) h5
    obtain ⟨c5, rfl, hc5⟩ := k5.cap
    have b4 := bd_u32 w4
    exact accessPlays_ok bl c1 off n3 x4 c5 W (good_of_laid hL) (by omega) g4 g5 hc1 (bd_i64 w3) ⟨b4.1, by omega⟩ hc5

theorem accessPlays_row : Rows.AccessPlaysSaid :=
  OpenClaim.holds_of_wide 4 Tryd.f4 rfl rfl rfl rfl rfl rfl rfl ⟨rfl, rfl, rfl, rfl, rfl⟩ rfl rfl rfl rfl rfl (by kernel_rfl) Tryd.func4 (by kernel_rfl)
    (of_decide_eq_true (by kernel_rfl)) (by unfold Func.isWrapper; rw [if_neg (of_decide_eq_false (by kernel_rfl))]; exact ⟨rfl, rfl⟩)
    (fun os started H enc _ => accessPlays_lifted os started H enc)

theorem accessPlays_holds : Rows.AccessPlaysCardSaid :=
  Claim7.holds_tied_plain_at .later [] [.handle] true (true, "339851ea750ec63565624679652a107f66e5dedc20f7f0e658e45f0fdac54409") true
    accessPlays_row (fun _ h => by cases h) (by kernel_rfl) (fun _ h => by cases h) accessPlays_row_tie rfl ⟨rfl, rfl⟩ (by kernel_rfl) rfl
    (fun f fn hf hfn => by
      obtain rfl : f = 4 := Option.some.inj ((show Tryd.prog.funcNamed "hasp/hasplaw5.AccessPlays" = some 4 by kernel_rfl).symm.trans hf) |>.symm
      obtain rfl : fn = Tryd.f4 := (Option.some.inj (Tryd.func4.symm.trans hfn)).symm
      exact ⟨by kernel_rfl, fun j t ht => by
        rw [Tryd.params4] at ht
        have hm : t ∈ [35, 39, 21, 3, 36, 39] := by simpa using Array.mem_of_getElem? ht
        have hall : ([35, 39, 21, 3, 36, 39].all fun u => !Tryd.prog.wantsStandIn u) = true := by kernel_rfl
        exact (show Tryd.prog.wantsStandIn t = false by simpa using List.all_eq_true.1 hall t hm)⟩)
    (by kernel_rfl)
#print axioms accessPlays_holds
end Go.Proofs.YtobdcokhmpaooaaDoor
