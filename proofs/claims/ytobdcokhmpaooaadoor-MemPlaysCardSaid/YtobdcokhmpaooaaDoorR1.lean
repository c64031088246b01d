/- hasplaw4.MemPlays answers true at whatever is played, and leaves its arguments as they were; the laid variable is tied to the program's text. -/
import Derived.Test.YtobdcokhmpaooaaDoorC14
import Derived.Test.YtobdcokhmpaooaaDoorR0
import Derived.Test.YtobdcokhmpaooaaDoorCards
import Derived.Test.YtobdcokhmpaooaaDoorTie
import Derived.SevenTiedAt
namespace Go.HM
open Go Go.Proofs Go.RowKit Go.ChangeShapes Go.WideShapes
set_option linter.unusedSimpArgs false
set_option linter.unusedVariables false

theorem f_act : fldI Pg 41 = some [(3, 0, 1), (3, 1, 1), (3, 2, 1), (35, 3, 1), (39, 4, 6)] := by kernel_rfl
theorem n_act : Pg.cellsOf 41 = 10 := by kernel_rfl
theorem u_acts : Pg.underlying 22 = some (.slice 41) := by kernel_rfl

theorem Reads.act {H : Type} {enc : TypeId × Value → H} {w : World} {base : Nat} {spare : Nat → Bool} {held : Bool} {cs : List Value} (h : Reads enc Pg w base spare held 41 cs) : ∃ a : ActV, a.ok w ∧ cs = a.cells := by
  obtain ⟨h1, h2⟩ := h.struct f_act n_act
  obtain ⟨op, e0, w0⟩ := (h2 _ (.head _)).int u_int
  obtain ⟨at_, e1, w1⟩ := (h2 _ (.tail _ (.head _))).int u_int
  obtain ⟨n, e2, w2⟩ := (h2 _ (.tail _ (.tail _ (.head _)))).int u_int
  obtain ⟨ba, bn, bc, bl, e3, g1, g2, g3, g4, g5⟩ := (h2 _ (.tail _ (.tail _ (.tail _ (.head _))))).bytes
  obtain ⟨c, e4, hc⟩ := (h2 _ (.tail _ (.tail _ (.tail _ (.tail _ (.head _)))))).cap
  match cs, h1 with
  | [x0, x1, x2, x3, y0, y1, y2, y3, y4, y5], _ =>
    simp at e0 e1 e2 e3
    subst e0 e1 e2 e3
    have e4' : [y0, y1, y2, y3, y4, y5] = c.cells := by simpa using e4
    simp only [CapV.cells, List.cons.injEq, and_true] at e4'
    obtain ⟨rfl, rfl, rfl, rfl, rfl, rfl⟩ := e4'
    exact ⟨⟨op, at_, n, ba, bn, bc, bl, c⟩, ⟨bd_i64 w0, bd_i64 w1, bd_i64 w2, g5, g4, hc, by dsimp only; omega⟩, rfl⟩
end Go.HM

namespace Go.Proofs.YtobdcokhmpaooaaDoor
open Go Go.HM Go.RowKit Go.ChangeShapes Go.WideShapes

set_option maxRecDepth 100000 in
theorem memPlays_lifted (os : Os) (started : os.Started) (H : Type) (enc : TypeId × Value → H) :
    ReturnsInHanded {} Tryd.checked os 3 .any (fun w args => (Rows.memPlaysSpec.pre enc Tryd.prog Tryd.f3 [] false w args ∧ laidMetH Tryd.prog [("errors.errorType", Rows.laid_errors_errorType)] w) ∧ sizedMet enc Tryd.prog Tryd.f3 (OpenSpec.ofChange Rows.memPlaysSpec) false w args)
      (Rows.memPlaysSpec.post enc Tryd.prog Tryd.f3 false true false false) := by
  refine law_lifted (C := Tryd.checked) (X := fun w _ => laidMetH Tryd.prog [("errors.errorType", Rows.laid_errors_errorType)] w) (tb := 4) false (fun _ _ _ hh h => h.of_heap hh) P_own started (by kernel_rfl) Tryd.func3
    (ChangeSpec.witness_at (enc := enc) (C := Tryd.checked) (os := os) (X := fun w _ => laidMetH Tryd.prog [("errors.errorType", Rows.laid_errors_errorType)] w) false (laidWorld os) #[.int .i64 0, .slice none 0 0] 8 rfl (by kernel_rfl) (by kernel_rfl) (by kernel_rfl) (by kernel_rfl) (by kernel_rfl) (laidWorld_met os _))
    rfl (fun ds hds => ?_) (by kernel_rfl) u_bool P_laid (by
      rw [Tryd.params3]
      intro t ht
      have hall : ([3, 22].all fun u => Tryd.prog.readableRec u && decide (u < Tryd.prog.types.size)) = true := by kernel_rfl
      have := List.all_eq_true.1 hall t (by simpa using ht)
      simp only [Bool.and_eq_true, decide_eq_true_eq] at this
      exact this) ?_
  · rw [Tryd.params3] at hds
    match ds, hds with
    | [d1, d2], _ => rfl
  · intro W base args ds p hval hA _ hL
    rw [Tryd.params3] at hA hval
    obtain ⟨v0, v1, d0, d1, p0, p1, rfl, rfl, rfl, h0, h1⟩ := trodAll_two hA
    obtain ⟨n, rfl, wn⟩ := arg_int u_int (hval 0 _ v0 rfl rfl) h0
    obtain ⟨a, m, c, ces, e1, g1, g2, g3, g4, g5⟩ := (arg_slice u_acts (hval 1 _ v1 rfl rfl) h1).slice u_acts n_act (by decide)
    simp only [List.cons.injEq, and_true] at e1
    subst e1
    obtain ⟨acts, k1, k2, k3⟩ := HM.picked (f := ActV.cells) (p := fun x => x.ok W) ces fun ce hce => (g5 ce hce).2.act
    rw [k2] at g4
    have hm : acts.length = m := by omega
    subst hm
    exact memPlays_ok n acts W (good_of_laid hL) (bd_i64 wn) (by omega) g4 k3

theorem memPlays_row : Rows.MemPlaysSaid :=
  OpenClaim.holds_of_wide 3 Tryd.f3 rfl rfl rfl rfl rfl rfl rfl ⟨rfl, rfl, rfl, rfl, rfl⟩ rfl rfl rfl rfl rfl (by kernel_rfl) Tryd.func3 (by kernel_rfl)
    (of_decide_eq_true (by kernel_rfl)) (by unfold Func.isWrapper; rw [if_neg (of_decide_eq_false (by kernel_rfl))]; exact ⟨rfl, rfl⟩)
    (fun os started H enc _ => memPlays_lifted os started H enc)

theorem memPlays_holds : Rows.MemPlaysCardSaid :=
  Claim7.holds_tied_plain_at .later [] [.handle] true (true, "339851ea750ec63565624679652a107f66e5dedc20f7f0e658e45f0fdac54409") true
    memPlays_row (fun _ h => by cases h) (by kernel_rfl) (fun _ h => by cases h) memPlays_row_tie rfl ⟨rfl, rfl⟩ (by kernel_rfl) rfl
    (fun f fn hf hfn => by
      obtain rfl : f = 3 := Option.some.inj ((show Tryd.prog.funcNamed "hasp/hasplaw4.MemPlays" = some 3 by kernel_rfl).symm.trans hf) |>.symm
      obtain rfl : fn = Tryd.f3 := (Option.some.inj (Tryd.func3.symm.trans hfn)).symm
      exact ⟨by kernel_rfl, fun j t ht => by
        rw [Tryd.params3] at ht
        have hm : t ∈ [3, 22] := by simpa using Array.mem_of_getElem? ht
        have hall : ([3, 22].all fun u => !Tryd.prog.wantsStandIn u) = true := by kernel_rfl
        exact (show Tryd.prog.wantsStandIn t = false by simpa using List.all_eq_true.1 hall t hm)⟩)
    (by kernel_rfl)
#print axioms memPlays_holds
end Go.Proofs.YtobdcokhmpaooaaDoor
