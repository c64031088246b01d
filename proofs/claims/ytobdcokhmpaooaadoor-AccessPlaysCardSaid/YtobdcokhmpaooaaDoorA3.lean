/- errors.Is of an error of the program's own and a number: after the worked example SentryIs (turned to this seat's numbers). -/
import Derived.Test.YtobdcokhmpaooaaDoorA2
import Derived.WalkKit
import Derived.LaidEql
import Derived.Stop.Asserts
import Derived.RowKitTokens
import Derived.Lib.IfaceEq
namespace Go.HM
open Go Go.Proofs Go.RowKit Go.Extern.Stop Go.Stop Go.Extern
set_option linter.unusedSimpArgs false
set_option linter.unusedVariables false

theorem Is.typeOf83 (v : Value) (w : World) : (Extern.ReflectliteType.typeOf #[.iface 83 v]).run Tryd.prog w = .ok (.iface 147 (.agg #[.pointer (some ⟨1, 83, none⟩)])) w := by kernel_rfl
theorem Is.comparable (w : World) : ((Extern.ReflectliteType.method fun t => do Extern.Rtype.noPackHeld "Comparable" t; (fun a => Value.bool a.comparable) <$> typeInfo t) #[.agg #[.pointer (some ⟨1, 83, none⟩)]]).run Tryd.prog w = .ok (.bool true) w := by kernel_rfl
theorem Is.methodComparable (v : Value) (w : World) : (Go.method 290 147 v "Comparable").run Tryd.prog w = .ok (107, v) w := by kernel_rfl
theorem Is.comp : (Tryd.prog.info? 83).map (·.comparable) = some true := by kernel_rfl
theorem Is.noIsE (v : Value) (xT : TypeId) (w : World) : (Instr.typeAssert (.iface 83 v) xT 159 true).run Tryd.prog w = .ok (.tuple #[.nilIface, .bool false]) w := run_typeAssert_lacksB Tryd.underlying159 (by kernel_rfl) (by kernel_rfl) v xT w
theorem Is.noUnwrapE (v : Value) (xT : TypeId) (w : World) : (Instr.typeAssert (.iface 83 v) xT 154 true).run Tryd.prog w = .ok (.tuple #[.nilIface, .bool false]) w := run_typeAssert_lacksB Tryd.underlying154 (by kernel_rfl) (by kernel_rfl) v xT w
theorem Is.noUnwrapsE (v : Value) (xT : TypeId) (w : World) : (Instr.typeAssert (.iface 83 v) xT 156 true).run Tryd.prog w = .ok (.tuple #[.nilIface, .bool false]) w := run_typeAssert_lacksB Tryd.underlying156 (by kernel_rfl) (by kernel_rfl) v xT w
theorem Is.noIsW (v : Value) (xT : TypeId) (w : World) : (Instr.typeAssert (.iface 86 v) xT 159 true).run Tryd.prog w = .ok (.tuple #[.nilIface, .bool false]) w := run_typeAssert_lacksB Tryd.underlying159 (by kernel_rfl) (by kernel_rfl) v xT w
theorem Is.hasUnwrapW (v : Value) (xT : TypeId) (w : World) : (Instr.typeAssert (.iface 86 v) xT 154 true).run Tryd.prog w = .ok (.tuple #[.iface 86 v, .bool true]) w := run_typeAssert_hasB Tryd.underlying154 (by kernel_rfl) v xT w
theorem Is.methodUnwrap (v : Value) (w : World) : (Go.method 290 86 v "Unwrap").run Tryd.prog w = .ok (101, v) w := by kernel_rfl

set_option maxRecDepth 1000000 in
set_option maxHeartbeats 1600000 in
theorem is_fault (pb po : Nat) (x y : Int) (w : World) (h1 : w.cell? ⟨pb, po + 2, none⟩ = some (.iface 83 (.int .i64 x))) :
    Calls Tryd.prog 38 #[.iface 86 (.pointer (some ⟨pb, po, none⟩)), .iface 83 (.int .i64 y)] w fun e w' => e = .returned (.bool (x == y)) ∧ w' = w := by
  have h8 := @run_callFunc_extern Tryd.prog 71 _ Extern.ReflectliteType.typeOf Tryd.func71 (by kernel_rfl) (by kernel_rfl) (by kernel_rfl) (by kernel_rfl)
  have h32 := @run_callFunc_extern Tryd.prog 107 _ (Extern.ReflectliteType.method fun t => do Extern.Rtype.noPackHeld "Comparable" t; pure (.bool (← typeInfo t).comparable)) Tryd.func107 (by kernel_rfl) (by kernel_rfl) (by kernel_rfl) (by kernel_rfl)
  have tT := Is.typeOf83
  have cT := Is.comparable
  have mR := Is.methodComparable
  have nE := Is.noIsE
  have uE := Is.noUnwrapE
  have vE := Is.noUnwrapsE
  have nW := Is.noIsW
  have uW := Is.hasUnwrapW
  have mU := Is.methodUnwrap
  have heq := @Lib.run_eql_iface_int Tryd.prog w 26 83 _ .i64 .i64 x y Tryd.underlying26 Is.comp Tryd.underlying83
  have hty := run_eql_iface_types (P := Tryd.prog) 86 83 (.pointer (some ⟨pb, po, none⟩)) (.int .i64 y) Tryd.underlying26 (by decide) w
  by_cases hxy : x = y
  · subst hxy
    simp only [beq_self_eq_true] at heq ⊢
    go_enter Tryd.func38, Tryd.ntmps38
    go_wp2
    refine wp_loop_rounds 2 ?_
    rw [rounds_succ]
    go_wp2
    rw [rounds_succ]
    go_wp2
    go_ret
    exact ⟨rfl, rfl⟩
  · have hb : (x == y) = false := by simpa using hxy
    rw [hb]
    rw [hb] at heq
    go_enter Tryd.func38, Tryd.ntmps38
    go_wp2
    refine wp_loop_rounds 2 ?_
    rw [rounds_succ]
    go_wp2
    rw [rounds_succ]
    go_wp2
    go_ret
    exact ⟨rfl, rfl⟩

set_option maxRecDepth 1000000 in
set_option maxHeartbeats 1600000 in
theorem is_num (x y : Int) (w : World) :
    Calls Tryd.prog 38 #[.iface 83 (.int .i64 x), .iface 83 (.int .i64 y)] w fun e w' => e = .returned (.bool (x == y)) ∧ w' = w := by
  have h8 := @run_callFunc_extern Tryd.prog 71 _ Extern.ReflectliteType.typeOf Tryd.func71 (by kernel_rfl) (by kernel_rfl) (by kernel_rfl) (by kernel_rfl)
  have h32 := @run_callFunc_extern Tryd.prog 107 _ (Extern.ReflectliteType.method fun t => do Extern.Rtype.noPackHeld "Comparable" t; pure (.bool (← typeInfo t).comparable)) Tryd.func107 (by kernel_rfl) (by kernel_rfl) (by kernel_rfl) (by kernel_rfl)
  have tT := Is.typeOf83
  have cT := Is.comparable
  have mR := Is.methodComparable
  have nE := Is.noIsE
  have uE := Is.noUnwrapE
  have vE := Is.noUnwrapsE
  have heq := @Lib.run_eql_iface_int Tryd.prog w 26 83 _ .i64 .i64 x y Tryd.underlying26 Is.comp Tryd.underlying83
  by_cases hxy : x = y
  · subst hxy
    simp only [beq_self_eq_true] at heq ⊢
    go_enter Tryd.func38, Tryd.ntmps38
    go_wp2
    refine wp_loop_rounds 1 ?_
    rw [rounds_succ]
    go_wp2
    go_ret
    exact ⟨rfl, rfl⟩
  · have hb : (x == y) = false := by simpa using hxy
    rw [hb]
    rw [hb] at heq
    go_enter Tryd.func38, Tryd.ntmps38
    go_wp2
    refine wp_loop_rounds 1 ?_
    rw [rounds_succ]
    go_wp2
    go_ret
    exact ⟨rfl, rfl⟩
end Go.HM
