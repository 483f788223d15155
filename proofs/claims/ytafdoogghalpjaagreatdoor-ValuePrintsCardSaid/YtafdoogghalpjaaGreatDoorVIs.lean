/- errors.Is(err, strconv.ErrRange) for what strconv.ParseInt hands back: nil, or a *NumError that wraps ErrRange. -/
import Derived.Test.YtafdoogghalpjaaGreatDoorVStub
import Derived.WalkKit
import Derived.LaidEql
import Derived.Stop.Asserts
import Derived.RowKitTokens
set_option linter.unusedVariables false
namespace Go.Proofs.YtafdoogghalpjaaGreatDoor.Is
open Go.RowKit Go.Extern.Stop Go.Stop Go.Extern

theorem typeOf (v : Value) (w : World) : (Extern.ReflectliteType.typeOf #[.iface 164 v]).run Tryz.prog w = .ok (.iface 124 (.agg #[.pointer (some ⟨9, 164, none⟩)])) w := by kernel_rfl
theorem comparable (w : World) : ((Extern.ReflectliteType.method fun t => do Go.Extern.Rtype.noPackHeld "Comparable" t; (fun a => Value.bool a.comparable) <$> typeInfo t) #[.agg #[.pointer (some ⟨9, 164, none⟩)]]).run Tryz.prog w = .ok (.bool true) w := by kernel_rfl
theorem methodComparable (v : Value) (w : World) : (Go.method 304 124 v "Comparable").run Tryz.prog w = .ok (177, v) w := by kernel_rfl
theorem comp : (Tryz.prog.info? 164).map (·.comparable) = some true := by kernel_rfl
theorem size : (Tryz.prog.info? 166).map (·.size) = some 1 := by kernel_rfl
theorem noIs (v : Value) (xT : TypeId) (w : World) : (Instr.typeAssert (.iface 120 v) xT 126 true).run Tryz.prog w = .ok (.tuple #[.nilIface, .bool false]) w := run_typeAssert_lacksB Tryz.underlying126 (by kernel_rfl) (by kernel_rfl) v xT w
theorem hasUnwrap (v : Value) (xT : TypeId) (w : World) : (Instr.typeAssert (.iface 120 v) xT 129 true).run Tryz.prog w = .ok (.tuple #[.iface 120 v, .bool true]) w := run_typeAssert_hasB Tryz.underlying129 (by kernel_rfl) v xT w
theorem methodUnwrap (v : Value) (w : World) : (Go.method 304 120 v "Unwrap").run Tryz.prog w = .ok (173, v) w := by kernel_rfl

set_option maxHeartbeats 2000000 in
theorem nil (b : Addr) (w : World) :
    Calls Tryz.prog 55 #[.nilIface, .iface 164 (.pointer (some b))] w fun e w' => e = .returned (.bool false) ∧ w' = w := by
  have hn := run_eql_iface_nil_left (P := Tryz.prog) w 164 (.pointer (some b)) Tryz.underlying59
  go_enter Tryz.func55, Tryz.ntmps55
  go_wp2
  go_ret
  exact ⟨rfl, rfl⟩

set_option maxHeartbeats 4000000 in
set_option maxRecDepth 100000 in
theorem range (pb : Nat) (b : Addr) (w : World) (h1 : w.cell? ⟨pb, 2, none⟩ = some (.iface 164 (.pointer (some b)))) :
    Calls Tryz.prog 55 #[.iface 120 (.pointer (some ⟨pb, 0, none⟩)), .iface 164 (.pointer (some b))] w fun e w' => e = .returned (.bool true) ∧ w' = w := by
  obtain ⟨i, hi, hcmp⟩ := Option.map_eq_some_iff.1 comp
  obtain ⟨j, hj, hjs⟩ := Option.map_eq_some_iff.1 size
  have h8 := @run_callFunc_extern Tryz.prog 92 _ Extern.ReflectliteType.typeOf Tryz.func92 (by kernel_rfl) (by kernel_rfl) (by kernel_rfl) (by kernel_rfl)
  have h32 := @run_callFunc_extern Tryz.prog 177 _ (Extern.ReflectliteType.method fun t => do Go.Extern.Rtype.noPackHeld "Comparable" t; pure (.bool (← typeInfo t).comparable)) Tryz.func177 (by kernel_rfl) (by kernel_rfl) (by kernel_rfl) (by kernel_rfl)
  have tT := typeOf
  have cT := comparable
  have mR := methodComparable
  have nW := noIs
  have uW := hasUnwrap
  have mU := methodUnwrap
  have heq := run_eql_iface_ptr_same (P := Tryz.prog) w b Tryz.underlying59 Tryz.underlying164 hi hcmp hj
  have hty := run_eql_iface_types (P := Tryz.prog) 120 164 (.pointer (some ⟨pb, 0, none⟩)) (.pointer (some b)) Tryz.underlying59 (by decide) w
  go_enter Tryz.func55, Tryz.ntmps55
  go_wp2
  refine wp_loop_rounds 2 ?_
  rw [rounds_succ]
  go_wp2
  rw [rounds_succ]
  go_wp2
  go_ret
  exact ⟨rfl, rfl⟩
end Go.Proofs.YtafdoogghalpjaaGreatDoor.Is
