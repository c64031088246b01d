/- Slices: what append, copy, clear, make and the conversions do, over known blocks. -/
import Derived.Test.YtobdcokhmpaooaaDoorM8
import Derived.Laws.Append
import Derived.Laws.BytesString
namespace Go.HM
open Go
set_option linter.unusedSimpArgs false
set_option linter.unusedVariables false

section
variable {P : Program}

/-- What a slice (or a string) reads as: so many elements, these cells. -/
inductive RdS (w : World) (size : Nat) : Value → List Value → Nat → Prop
  | mem (b o n c : Nat) (cs : List Value) (h : ∀ i v, cs[i]? = some v → w.cell? ⟨b, o + i, none⟩ = some v) (hl : cs.length = n * size) : RdS w size (.slice (some ⟨b, o, none⟩) n c) cs n
  | nil (a : Option Addr) (c : Nat) : RdS w size (.slice a 0 c) [] 0
  | str (s : ByteArray) (h : size = 1) : RdS w size (.string s) (s.data.toList.map fun b => .int .u8 b.toNat) s.size

theorem RdS.length {w : World} {size : Nat} {x : Value} {ys : List Value} {m : Nat} (h : RdS w size x ys m) : ys.length = m * size := by
  cases h with
  | mem b o n c hcs h hl => exact hl
  | nil a c => simp
  | str s h => subst h; simp

theorem run_firstCells {w : World} {size m : Nat} {x : Value} {ys : List Value} (h : RdS w size x ys m) : (Builtin.firstCells size m x).run P w = .ok ys.toArray w := by
  cases h with
  | mem b o n c _ h hl =>
    have := run_loadCells (P := P) (w := w) (b := b) (o := o) ys 0 #[] (by simpa using h)
    simp only [Builtin.firstCells, loadCells]
    rw [← hl, this]; simp
  | nil a c => cases a <;> simp [Builtin.firstCells, loadCells, loadCellsFrom, pure, Sem.run]
  | str s h =>
    subst h
    have hx : (s.extract 0 s.size) = s := by
      apply ByteArray.ext
      show (s.extract 0 s.size).data = s.data
      rw [ByteArray.data_extract]
      exact Array.extract_size
    simp only [Builtin.firstCells, hx, pure, Sem.run]
    congr 1
    apply Array.toList_inj.1
    simp

theorem run_lenOf {w : World} {size m : Nat} {x : Value} {ys : List Value} (h : RdS w size x ys m) : (Builtin.lenOf x).run P w = .ok m w := by
  cases h <;> rfl

/-- A slice of one's own: its cells stand at the begin of a block that is known (or it has none, and no room). -/
inductive OS (el : TypeId) (size : Nat) : List Value → Value → List Ent → Prop
  | emp (a : Option Addr) (ha : ∀ x, a = some x → x.spot = none) : OS el size [] (.slice a 0 0) []
  | own (b n c : Nat) (xs sp : List Value) (hn : xs.length = n * size) (hc : c * size ≤ (xs ++ sp).length) (hnc : n ≤ c) : OS el size xs (.slice (some ⟨b, 0, none⟩) n c) [⟨b, el, 0, 0, xs ++ sp, true⟩]

theorem cut_appendCap (need old : Nat) (el : TypeId) (t : Nat) : need ≤ (Question.appendCap need old el).cut t := by
  simp [Question.cut]

theorem run_askRoom (n : Nat) (w : World) : (askRoom n).run P w = .ok () w := by
  unfold askRoom
  split
  · rfl
  · rfl

theorem drawn_ext (w : World) : Ext (fun _ => False) w { w with drawn := w.drawn + 1 } := ⟨rfl, rfl, rfl, Nat.le_refl _, fun _ _ _ => rfl⟩

/-- append where there is room. -/
theorem run_appendRoom {w : World} {sT xT ty el : TypeId} {ie : TypeInfo} {d : TypeDesc} {x : Value} {ys : List Value} {b n c m : Nat} {cs : List Value} {t : TypeId} (hu : P.underlying sT = some (.slice el)) (hx : P.underlying xT = some d) (hd : d = .string ∨ ∃ e, d = .slice e)
    (hi : P.info? el = some ie) (hrd : RdS w ie.size x ys m) (h1 : ∀ y ∈ ys, isOne y = true) (hblk : w.heap[b]? = some (.cells cs.toArray t (0, 0))) (hle : (n + m) * ie.size ≤ cs.length) (hroom : n + m ≤ c) :
    (builtin .append #[sT, xT] ty #[] #[.slice (some ⟨b, 0, none⟩) n c, x]).run P w = .ok (.value (.slice (some ⟨b, 0, none⟩) (n + m) c)) (w.setRow b (cs.take (n * ie.size) ++ ys ++ cs.drop (n * ie.size + ys.length)).toArray) := by
  have hs := run_storeCells (P := P) b t 0 0 (n * ie.size) ys 0 w cs.toArray hblk (by have := hrd.length; simp; rw [this, ← Nat.add_mul]; exact hle) (by omega) h1
  simp only [Nat.add_zero, List.toList_toArray] at hs
  have ha : Addr.add ⟨b, 0, none⟩ (n * ie.size) = ⟨b, n * ie.size, none⟩ := by rw [Addr.add_lit]; simp
  rcases hd with rfl | ⟨e, rfl⟩ <;> simp [builtin, Builtin.append_, run_underlying hu, run_underlying hx, sizeOf, typeInfo, hi, run_lenOf hrd, run_firstCells hrd, hroom, ha, hs]

/-- append where there is none. -/
theorem run_appendGrow {w : World} {sT xT ty el : TypeId} {ie : TypeInfo} {z : Value} {d : TypeDesc} {x : Value} {xs ys : List Value} {base : Option Addr} {n c m : Nat} (hu : P.underlying sT = some (.slice el)) (hx : P.underlying xT = some d) (hd : d = .string ∨ ∃ e, d = .slice e)
    (hi : P.info? el = some ie) (hz : ie.zero = some z) (hrd : RdS w ie.size x ys m) (hold : RdS w ie.size (.slice base n c) xs n) (hroom : c < n + m) (hb : (n + m) * ie.bytes ≤ 140737488355328) (h63 : ((n + m : Nat) : Int) ≤ 9223372036854775807) :
    ∃ cap sp, n + m ≤ cap ∧ sp.length = (cap - (n + m)) * z.cells.size ∧ (builtin .append #[sT, xT] ty #[] #[.slice base n c, x]).run P w = .ok (.value (.slice (some ⟨w.heap.size, 0, none⟩) (n + m) cap)) (w.drew.alloc (.cells (xs ++ ys ++ sp).toArray el)) := by
  have hn : ¬ (n + m ≤ c) := by omega
  have h63' : ¬ (9223372036854775807 < ((n : Int) + (m : Int))) := by omega
  have hfit := growslice_fits (need := n + m) (old := c) (bytes := ie.bytes) hroom hb
  have h48' : ¬ (281474976710656 < Builtin.nextslicecap (n + m) c * ie.bytes) := by omega
  have hd1 : RdS w.drew ie.size x ys m := by
    cases hrd with
    | mem b o n c _ h hl => exact .mem b o _ c _ (by simpa using h) hl
    | nil => exact .nil _ _
    | str s h => exact .str s h
  have hd2 : RdS w.drew ie.size (.slice base n c) xs n := by
    cases hold with
    | mem b o n c _ h hl => exact .mem b o _ c _ (by simpa using h) hl
    | nil => exact .nil _ _
  refine ⟨grownCap w (n + m) c el, (Builtin.zeroCells z.cells (grownCap w (n + m) c el - (n + m))).toList, ?_, by simp [Builtin.zeroCells], ?_⟩
  · unfold grownCap; simp [Question.cut]
  · have e1 : (xs ++ ys ++ (Builtin.zeroCells z.cells (grownCap w (n + m) c el - (n + m))).toList).toArray = xs.toArray ++ ys.toArray ++ Builtin.zeroCells z.cells (grownCap w (n + m) c el - (n + m)) := by
      apply Array.toList_inj.1; simp
    rw [e1]
    rcases hd with rfl | ⟨e, rfl⟩ <;> simp [builtin, Builtin.append_, run_underlying hu, run_underlying hx, sizeOf, typeInfo, zeroValue, hi, hz, run_lenOf hrd, run_firstCells hd1, run_firstCells hd2, hn, h63', h48', Question.forced, newRow, grownCap] <;> exact congrArg (fun z => w.drew.alloc (.cells z el)) (Array.toList_inj.1 (by simp only [Array.toList_append, List.append_assoc]))

/-! ### Rules -/
variable {w₀ : World} {S : Nat → Prop} {rs : List RV} {R : Value → World → Prop} {Lh L : List Ent} {md : Option LM} {ks : List KF} {e : EEnv} {lm : LM}

theorem takeL_of : ∀ (cs l : List Value), (∀ (i : Nat) (u : Value), cs[i]? = some u → l[i]? = some u) → takeL l cs.length = some cs
  | [], l, _ => by cases l <;> rfl
  | v :: cs, [], h => by have := h 0 v rfl; cases this
  | v :: cs, u :: l, h => by
    have h0 := h 0 v rfl
    simp only [List.getElem?_cons_zero, Option.some.injEq] at h0
    subst h0
    have := takeL_of cs l (fun i x hx => by have := h (i + 1) x (by simpa using hx); simpa using this)
    simp only [List.length_cons, takeL, this]

theorem subL_of : ∀ (l : List Value) (o : Nat) (cs : List Value), (∀ (i : Nat) (u : Value), cs[i]? = some u → l[o + i]? = some u) → o ≤ l.length → subL l o cs.length = some cs
  | l, 0, cs, h, _ => by
    have := takeL_of cs l (fun i u hu => by simpa using h i u hu)
    cases l <;> simpa [subL] using this
  | [], o + 1, cs, h, ho => by simp at ho
  | v :: l, o + 1, cs, h, ho => by
    simp only [subL]
    exact subL_of l o cs (fun i u hu => by have := h i u hu; rw [Nat.add_right_comm, List.getElem?_cons_succ] at this; exact this) (by simpa using ho)

theorem RdS.of {w : World} (hst : St w₀ S w L) {x : Ent} (hx : x ∈ L) {b o n c size : Nat} {cs : List Value} (hb : x.b = b) (hs : subL x.cs o (n * size) = some cs) : RdS w size (.slice (some ⟨b, o, none⟩) n c) cs n := by
  obtain ⟨e1, e2⟩ := subL_some _ _ _ _ hs
  subst hb
  refine .mem _ _ _ _ _ (fun i v hv => ?_) (by rw [e1]; simp; omega)
  rw [cell_of_block (hst.blk x hx)]
  rw [e1, List.getElem?_take] at hv
  split at hv
  · simpa [List.getElem?_drop] using hv
  · cases hv

theorem RdS.empty {w : World} {size c : Nat} (a : Option Addr) (hv : ∀ x, a = some x → x.spot = none) : RdS w size (.slice a 0 c) [] 0 := .nil a c

theorem slA_pos {a : Option Addr} {m l size : Nat} (h : l < m) : slA a m l size = a.map (·.add (l * size)) := by
  unfold slA; rw [if_neg (by omega)]

theorem slA_at {b o m l size n : Nat} (h : l + n ≤ m) : n = 0 ∨ slA (some ⟨b, o, none⟩) m l size = some ⟨b, o + l * size, none⟩ := by
  by_cases hn : n = 0
  · exact .inl hn
  · right; rw [slA_pos (by omega)]; simp [Addr.add_lit]

theorem spot_slA {b o m l size : Nat} : ∀ x, slA (some ⟨b, o, none⟩) m l size = some x → x.spot = none := by
  intro x hx
  unfold slA at hx
  split at hx
  · cases hx; rfl
  · simp only [Option.map_some, Option.some.injEq] at hx
    rw [← hx, Addr.add_lit]

/-- A part of a known block reads as its cells. -/
theorem RdS.sl {w : World} (hst : St w₀ S w L) {x : Ent} (hx : x ∈ L) {b m l n c size : Nat} {cs : List Value} (hb : x.b = b) (hl : l + n ≤ m) (hs : subL x.cs (l * size) (n * size) = some cs) : RdS w size (.slice (slA (some ⟨b, 0, none⟩) m l size) n c) cs n := by
  rcases slA_at (b := b) (o := 0) (size := size) hl with h | h
  · subst h
    have : cs = [] := by obtain ⟨e1, _⟩ := subL_some _ _ _ _ hs; rw [e1]; simp
    subst this
    exact RdS.empty _ spot_slA
  · rw [h, Nat.zero_add]; exact RdS.of hst hx hb hs

theorem RdS.keep {S' : Nat → Prop} {w w' : World} {size n : Nat} {x : Value} {cs : List Value} (h : RdS w size x cs n) (k : Ext S' w w') (hs : ∀ b o c, x = .slice (some ⟨b, o, none⟩) n c → cs ≠ [] → ¬ S' b) : RdS w' size x cs n := by
  cases h with
  | mem b o n c _ h hl =>
    refine .mem b o _ c _ (fun i v hv => ?_) hl
    have hne : cs ≠ [] := by intro h0; rw [h0] at hv; cases hv
    have h1 := h i v hv
    have hb : b < w.heap.size := by
      rcases Nat.lt_or_ge b w.heap.size with hlt | hge
      · exact hlt
      · simp [World.cell?, Array.getElem?_eq_none hge] at h1
    simpa [World.cell?, k.blk b hb (hs b o c rfl hne)] using h1
  | nil => exact .nil _ _
  | str s h => exact .str s h

/-- The block that a slice that is not empty lies in. -/
theorem RdS.ent {w : World} {size b o n c : Nat} {cs : List Value} (h : RdS w size (.slice (some ⟨b, o, none⟩) n c) cs n) (hn : cs ≠ []) : ∃ t fr all, w.heap[b]? = some (.cells all.toArray t fr) ∧ subL all o (n * size) = some cs := by
  cases h with
  | nil => exact absurd rfl hn
  | mem _ _ _ _ _ h hl =>
    obtain ⟨v, cs', rfl⟩ : ∃ v cs', cs = v :: cs' := by cases cs with
      | nil => exact absurd rfl hn
      | cons v cs' => exact ⟨v, cs', rfl⟩
    have h0 := h 0 v rfl
    obtain ⟨arr, t, fr, hb⟩ : ∃ arr t fr, w.heap[b]? = some (.cells arr t fr) := by
      unfold World.cell? at h0
      split at h0
      · exact ⟨_, _, _, by assumption⟩
      · cases h0
    refine ⟨t, fr, arr.toList, by simpa using hb, ?_⟩
    have hall : ∀ i u, (v :: cs')[i]? = some u → arr.toList[o + i]? = some u := fun i u hu => by
      have := h i u hu
      rw [cell_of_block hb] at this
      simpa using this
    rw [← hl]
    refine subL_of _ _ _ hall ?_
    have := hall 0 v rfl
    rcases Nat.lt_or_ge o arr.toList.length with hlt | hge
    · omega
    · rw [List.getElem?_eq_none (by omega)] at this; cases this

end
end Go.HM
