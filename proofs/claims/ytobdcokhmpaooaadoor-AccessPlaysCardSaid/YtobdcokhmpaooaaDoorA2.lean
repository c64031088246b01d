/- errors.As, as contracts. -/
import Derived.Test.YtobdcokhmpaooaaDoorA1
import Derived.Test.YtobdcokhmpaooaaDoorC1
namespace Go.HM
open Go Go.Proofs
set_option linter.unusedSimpArgs false
set_option linter.unusedVariables false

/-- What errors.errorType holds. -/
def GoodG (w : World) : Prop := w.cell? ⟨0, 0, none⟩ = some (.iface 147 (.agg #[.pointer (some ⟨1, 26, none⟩)]))

theorem GoodG.keep {S : Nat → Prop} {w w' : World} (h : GoodG w) (hx : Ext S w w') (hs : ¬ S 0) : GoodG w' := by
  unfold GoodG at h ⊢
  have hb : 0 < w.heap.size := by
    rcases Nat.lt_or_ge 0 w.heap.size with hlt | hge
    · exact hlt
    · simp [World.cell?, Array.getElem?_eq_none hge] at h
  simpa [World.cell?, hx.blk 0 hb hs] using h

theorem asNil_ok (t : Value) (w : World) : Rets Pg 37 [.nilIface, t] w fun v w' => Ext NoB w w' ∧ v = .bool false :=
  Calls.mono (as_nil t w) fun ev w' h => by
    obtain ⟨rfl, rfl⟩ := h
    exact ⟨Ext.refl _ _, rfl⟩

theorem asHit_ok (e : Addr) {b : Nat} {old : Value} {t : TypeId} {lo hi : Nat} (w : World) (hG : GoodG w) (hb : w.heap[b]? = some (.cells #[old] t (lo, hi))) (hf : hi ≤ lo) :
    Rets Pg 37 [.iface 86 (.pointer (some e)), .iface 88 (.pointer (some ⟨b, 0, none⟩))] w fun v w' => Ext (fun x => x = b) w w' ∧ v = .bool true ∧ w'.heap[b]? = some (.cells #[.pointer (some e)] t (lo, hi)) :=
  Calls.mono (as_hit e ⟨b, 0, none⟩ old w hG (by rw [cell_of_block hb]; rfl) (by simp [World.frozen?, hb]; omega)) fun ev w' h => by
    obtain ⟨rfl, rfl⟩ := h
    have hlt : b < w.heap.size := (Array.getElem?_eq_some_iff.1 hb).1
    have x1 : ∀ (u : World) (o : Obj), Ext NoB u (u.alloc o) := fun u o => ext_alloc u o
    have x2 : ∀ (u v x : World), Ext NoB u v → Ext NoB v x → Ext NoB u x := fun u v x h1 h2 => h1.trans h2 fun _ _ h => h
    have x4 := x2 _ _ _ (x2 _ _ _ (x2 _ _ _ (x1 w (.cells #[.pointer (some ⟨b, 0, none⟩)] 88)) (x1 _ (.cells #[.pointer (some ⟨1, 88, none⟩), .pointer (some ⟨w.heap.size, 0, none⟩), .int .u64 150] 121))) (x1 _ (.cells #[.pointer (some ⟨1, 88, none⟩), .pointer (some ⟨w.heap.size, 0, none⟩), .int .u64 150] 121))) (x1 _ (.cells #[.pointer (some e)] 86))
    have hb4 := (x4.blk b hlt (fun h => h)).trans hb
    rw [setCell_eq_setRow _ b 0 _ t (lo, hi) _ hb4]
    refine ⟨?_, rfl, ?_⟩
    · exact Ext.trans (S := fun x => x = b) ⟨x4.os, x4.tape, x4.output, x4.size, fun y hy _ => x4.blk y hy (fun h => h)⟩ (ext_setRow _ b _) (fun y _ h => h)
    · exact setRow_heap _ b _ _ t (lo, hi) hb4
end Go.HM
