/- What the rows of this seat share: how a capability, some bytes come in; the laid variable. -/
import Derived.Test.YtobdcokhmpaooaaDoorM11
import Derived.Test.YtobdcokhmpaooaaDoorA2
import Derived.Test.YtobdcokhmpaooaaDoorC8
import Derived.Test.YtobdcokhmpaooaaDoorRows
namespace Go.HM
open Go Go.Proofs Go.RowKit Go.ChangeShapes Go.WideShapes
set_option linter.unusedSimpArgs false
set_option linter.unusedVariables false

theorem P_own : ownKnob Pg.godebug = none := by kernel_rfl
theorem P_et : Pg.globalNamed "errors.errorType" = some 0 := by kernel_rfl
theorem P_rt : (Pg.cutTypes.find? (·.1 == "internal/reflectlite.rtype")).map (·.2) = some 147 := by kernel_rfl
theorem P_size : Pg.types.size = 190 := by kernel_rfl
theorem P_oneRow : ((List.range 190).filter fun t => Pg.rowNamed t [101, 114, 114, 111, 114]) = [26] := by kernel_rfl
theorem P_handle : typeHandle Pg 26 = .pointer (some ⟨1, 26, none⟩) := by kernel_rfl
theorem P_laid : laidOutB Pg = true := by kernel_rfl


theorem u_int : Pg.underlying 3 = some (.int .i64) := by kernel_rfl
theorem u_bool : Pg.underlying 4 = some .bool := by kernel_rfl
theorem u_u8 : Pg.underlying 5 = some (.int .u8) := by kernel_rfl
theorem u_u16 : Pg.underlying 37 = some (.int .u16) := by kernel_rfl
theorem u_u32 : Pg.underlying 36 = some (.int .u32) := by kernel_rfl
theorem c_u8 : Pg.cellsOf 5 = 1 := by kernel_rfl
theorem f_cap : fldI Pg 39 = some [(4, 0, 1), (36, 1, 1), (36, 2, 1), (36, 3, 1), (37, 4, 1), (37, 5, 1)] := by kernel_rfl
theorem n_cap : Pg.cellsOf 39 = 6 := by kernel_rfl

section
variable {H : Type} {enc : TypeId × Value → H} {w : World} {base : Nat} {spare : Nat → Bool} {held : Bool}

theorem list_len6 {α : Type} {l : List α} (h : l.length = 6) : ∃ a b c d e f, l = [a, b, c, d, e, f] := by
  match l, h with
  | [a, b, c, d, e, f], _ => exact ⟨a, b, c, d, e, f, rfl⟩

theorem flatMap_byC : ∀ (l : List Int), l.flatMap (fun x : Int => [Value.int .u8 x]) = byC l
  | [] => rfl
  | x :: l => by rw [List.flatMap_cons, flatMap_byC l]; rfl

/-- Bytes. -/
theorem Reads.bytes {cs : List Value} (h : Reads enc Pg w base spare held 35 cs) : ∃ a n c bl, cs = [.slice a n c] ∧ n ≤ c ∧ c ≤ 9223372036854775807 ∧ bl.length = n ∧ isB bl ∧ RdS w 1 (.slice a n c) (byC bl) n := by
  obtain ⟨a, n, c, ces, rfl, h1, h2, h3, h4, h5⟩ := h.slice u_bytes c_u8 (by decide)
  obtain ⟨l, g1, g2, g3⟩ := picked (f := fun x : Int => [.int .u8 x]) (p := fun x : Int => 0 ≤ x ∧ x < 256) ces fun ce hce => by
    obtain ⟨x, rfl, hx⟩ := (h5 ce hce).2.int u_u8
    have := bd_u8 hx
    exact ⟨x, ⟨this.1, by omega⟩, rfl⟩
  refine ⟨a, n, c, l, rfl, h1, h2, by omega, g3, ?_⟩
  rw [g2] at h4
  rwa [flatMap_byC] at h4

/-- A capability. -/
theorem Reads.cap {cs : List Value} (h : Reads enc Pg w base spare held 39 cs) : ∃ c : CapV, cs = c.cells ∧ c.ok := by
  obtain ⟨h1, h2⟩ := h.struct f_cap n_cap
  obtain ⟨x0, x1, x2, x3, x4, x5, rfl⟩ := list_len6 h1
  obtain ⟨t, e0⟩ := (h2 _ (.head _)).bool u_bool
  obtain ⟨b, e1, w1⟩ := (h2 _ (.tail _ (.head _))).int u_u32
  obtain ⟨o, e2, w2⟩ := (h2 _ (.tail _ (.tail _ (.head _)))).int u_u32
  obtain ⟨a, e3, w3⟩ := (h2 _ (.tail _ (.tail _ (.tail _ (.head _))))).int u_u32
  obtain ⟨p, e4, w4⟩ := (h2 _ (.tail _ (.tail _ (.tail _ (.tail _ (.head _)))))).int u_u16
  obtain ⟨y, e5, w5⟩ := (h2 _ (.tail _ (.tail _ (.tail _ (.tail _ (.tail _ (.head _))))))).int u_u16
  simp at e0 e1 e2 e3 e4 e5
  subst e0 e1 e2 e3 e4 e5
  refine ⟨⟨t, b, o, a, p, y⟩, rfl, ?_⟩
  have b1 := bd_u32 w1
  have b2 := bd_u32 w2
  have b3 := bd_u32 w3
  have b4 := bd_u16 w4
  have b5 := bd_u16 w5
  unfold CapV.ok
  dsimp only
  omega
end

/-- What the condition gives: the variable's one cell. -/
theorem good_of_laid {W : World} (h : laidMetH Pg [("errors.errorType", Go.Proofs.YtobdcokhmpaooaaDoor.Rows.laid_errors_errorType)] W) : GoodG W := by
  have h' : laidMet Pg [] W ∧ handlesMet Pg [("errors.errorType", Go.Proofs.YtobdcokhmpaooaaDoor.Rows.laid_errors_errorType)] W := h
  obtain ⟨name, u, ty, e1, e2, e3, e4, e5⟩ := h'.2 _ (List.mem_singleton.2 rfl)
  have en : name = [101, 114, 114, 111, 114] := (Option.some.inj e1).symm
  subst en
  obtain rfl := Option.some.inj (P_rt.symm.trans e2)
  have hm : ty ∈ (List.range 190).filter fun t => Pg.rowNamed t [101, 114, 114, 111, 114] := List.mem_filter.2 ⟨List.mem_range.2 (by rw [← P_size]; exact e3), e4⟩
  rw [P_oneRow] at hm
  obtain rfl := List.mem_singleton.1 hm
  rw [P_handle] at e5
  unfold GoodG
  simpa using World.var?_cell P_et e5 0

/-- A world that meets the condition: the settled one, the variable's cell laid. -/
noncomputable def laidWorld (os : Os) : World :=
  let w0 := World.holding Pg os ⟨#[], #[], []⟩
  { w0 with heap := w0.heap.modify 0 fun
      | .cells _ t frozen => .cells #[.iface 147 (.agg #[.pointer (some ⟨1, 26, none⟩)])] t frozen
      | o => o }
theorem laidWorld_met (os : Os) (args : Array Value) : laidMetH Pg [("errors.errorType", Go.Proofs.YtobdcokhmpaooaaDoor.Rows.laid_errors_errorType)] ((laidWorld os).forCall (fun _ _ => 0) ⟨#[], args, []⟩).memory :=
  laidMetH_of_parts ⟨[], rfl, List.nodup_nil, fun _ _ h => by cases h⟩ (by kernel_rfl)

theorem argsL (args : Array Value) {l : List Value} (h : args = l.toArray) : args.toList = l := by subst h; simp
end Go.HM
