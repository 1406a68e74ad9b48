/-
  errors.As at an interface target: Go's own text of errors.As and errors.as is walked (the error's own dynamic type can be assigned to the target's element type: true; the target is set; four new blocks).
-/
import Derived.Test.YthlkchahlmkpiaaGreatDoorTnO
import Derived.WalkKit
import Derived.LaidEql
import Derived.Stop.Asserts
import Derived.RowKitTokens
namespace Go.Proofs.YthlkchahlmkpiaaGreatDoor
open Go.RowKit Go.Extern.Stop Go.Stop Go.Extern

theorem As.valueOf332 (t : Addr) (w : World) : (ReflectliteValue.unpack (.iface 332 (.pointer (some t)))).run Tryz.prog w
    = .ok (.agg #[.pointer (some ⟨4, 332, none⟩), .pointer (some ⟨w.heap.size, 0, none⟩), .int .u64 150]) (w.alloc (.cells #[.pointer (some t)] 332)) := by kernel_rfl
theorem As.type332 (a : Addr) (w : World) : (ReflectliteValue.methodAny (ReflectliteValue.valueError "reflectlite.Value.Type" 0) (fun t _ _ _ => ReflectliteType.toType t) #[.agg #[.pointer (some ⟨4, 332, none⟩), .pointer (some a), .int .u64 150]]).run Tryz.prog w
    = .ok (.iface 394 (.agg #[.pointer (some ⟨4, 332, none⟩)])) w := by kernel_rfl
theorem As.methodKind (h : Value) (w : World) : (Go.method 634 394 (.agg #[h]) "Kind").run Tryz.prog w = .ok (414, h) w := by kernel_rfl
theorem As.kind332 (w : World) : ((ReflectliteType.abiMethod fun t => (fun a : Nat => Value.int IntKind.u8 (a : Int)) <$> Rtype.kind t) #[.pointer (some ⟨4, 332, none⟩)]).run Tryz.prog w = .ok (.int .u8 22) w := by kernel_rfl
theorem As.kind330 (w : World) : ((ReflectliteType.abiMethod fun t => (fun a : Nat => Value.int IntKind.u8 (a : Int)) <$> Rtype.kind t) #[.pointer (some ⟨4, 330, none⟩)]).run Tryz.prog w = .ok (.int .u8 20) w := by kernel_rfl
theorem rlm (z : Sem Value) (f : TypeId → Addr → Nat → Nat → Sem Value) (v : Value) :
    ReflectliteValue.method z f #[v] = (do match ← ReflectliteValue.parts v with | none => z | some (t, a, fl) => f t a fl (fl % 32)) := rfl
theorem As.parts332 (a : Addr) (w : World) : (ReflectliteValue.parts (.agg #[.pointer (some ⟨4, 332, none⟩), .pointer (some a), .int .u64 150])).run Tryz.prog w = .ok (some (332, a, 150)) w := by kernel_rfl
theorem As.isNil332 (a p : Addr) (W : World) (ha : W.cell? a = some (.pointer (some p))) :
    (ReflectliteValue.method (ReflectliteValue.valueError "reflectlite.Value.IsNil" 0) ReflectliteValue.isNil #[.agg #[.pointer (some ⟨4, 332, none⟩), .pointer (some a), .int .u64 150]]).run Tryz.prog W = .ok (.bool false) W := by
  rw [rlm]
  simp only [Sem.run_bind, As.parts332, Result.andThen]
  simp [ReflectliteValue.isNil, loadVar, isAgg, underlying, Tryz.underlying332, ha, Result.andThen]
theorem As.methodElem (h : Value) (w : World) : (Go.method 634 394 (.agg #[h]) "Elem").run Tryz.prog w = .ok (426, .agg #[h]) w := by kernel_rfl
theorem As.methodAssignableTo (h : Value) (w : World) : (Go.method 634 394 (.agg #[h]) "AssignableTo").run Tryz.prog w = .ok (424, .agg #[h]) w := by kernel_rfl
theorem As.elem332 (w : World) : (ReflectliteType.method ReflectliteType.elem #[.agg #[.pointer (some ⟨4, 332, none⟩)]]).run Tryz.prog w = .ok (.iface 394 (.agg #[.pointer (some ⟨4, 330, none⟩)])) w := by kernel_rfl
theorem As.typeOf446 (v : Value) (w : World) : (ReflectliteType.typeOf #[.iface 446 v]).run Tryz.prog w = .ok (.iface 394 (.agg #[.pointer (some ⟨4, 446, none⟩)])) w := by kernel_rfl
theorem As.assignable (w : World) : (ReflectliteType.relation "AssignableTo" ReflectliteType.assignableTo #[.agg #[.pointer (some ⟨4, 446, none⟩)], .iface 394 (.agg #[.pointer (some ⟨4, 330, none⟩)])]).run Tryz.prog w = .ok (.bool true) w := by kernel_rfl
theorem As.valueOf446 (e : Addr) (w : World) : (ReflectliteValue.unpack (.iface 446 (.pointer (some e)))).run Tryz.prog w
    = .ok (.agg #[.pointer (some ⟨4, 446, none⟩), .pointer (some ⟨w.heap.size, 0, none⟩), .int .u64 150]) (w.alloc (.cells #[.pointer (some e)] 446)) := by kernel_rfl
theorem As.elemOf332 (w : World) : (Rtype.elem? 332).run Tryz.prog w = .ok (some 330) w := by kernel_rfl
theorem As.mk330 (p : Addr) (w : World) : (ReflectliteValue.mk 330 p ReflectliteValue.flagAddr).run Tryz.prog w = .ok (.agg #[.pointer (some ⟨4, 330, none⟩), .pointer (some p), .int .u64 404]) w := by kernel_rfl
theorem As.elemV332 (a p : Addr) (W : World) (ha : W.cell? a = some (.pointer (some p))) :
    (ReflectliteValue.method (ReflectliteValue.valueError "reflectlite.Value.Elem" 0) ReflectliteValue.elem #[.agg #[.pointer (some ⟨4, 332, none⟩), .pointer (some a), .int .u64 150]]).run Tryz.prog W
      = .ok (.agg #[.pointer (some ⟨4, 330, none⟩), .pointer (some p), .int .u64 404]) W := by
  rw [rlm]
  simp only [Sem.run_bind, As.parts332, Result.andThen]
  simp [ReflectliteValue.elem, loadVar, isAgg, underlying, Tryz.underlying332, ha, Result.andThen, As.elemOf332, As.mk330]
theorem rls (v x : Value) : ReflectliteValue.set #[v, x] = (do
    let (some (dst, a, fl), some (src, b, _)) := (← ReflectliteValue.parts v, ← ReflectliteValue.parts x)
      | unsupported (.noEntry "extern/(internal/reflectlite.Value).Set.zeroValue")
    if fl / ReflectliteValue.flagAddr % 2 == 0 then unsupported (.noEntry "extern/(internal/reflectlite.Value).Set.unaddressable")
    let val ← loadVar src b
    if ← Rtype.directlyAssignable dst src then storeVar dst a val
    else if ← Rtype.implements dst src then
      if (← Rtype.kind src) == 20 then
        match val with
        | .nilIface => unsupported (.noEntry "extern/reflectlite: a nil value of one interface type handed on as a value of another")
        | _ => storeVar dst a val
      else storeVar dst a (.iface src val)
    else panicString ("reflectlite.Set: value of type " ++ (← Rtype.spelt src) ++ " is not assignable to type " ++ (← Rtype.spelt dst))
    pure (.tuple #[])) := rfl
theorem As.parts330 (a : Addr) (w : World) : (ReflectliteValue.parts (.agg #[.pointer (some ⟨4, 330, none⟩), .pointer (some a), .int .u64 404])).run Tryz.prog w = .ok (some (330, a, 404)) w := by kernel_rfl
theorem As.parts446 (a : Addr) (w : World) : (ReflectliteValue.parts (.agg #[.pointer (some ⟨4, 446, none⟩), .pointer (some a), .int .u64 150])).run Tryz.prog w = .ok (some (446, a, 150)) w := by kernel_rfl
theorem As.direct (w : World) : (Rtype.directlyAssignable 330 446).run Tryz.prog w = .ok false w := by kernel_rfl
theorem As.impl (w : World) : (Rtype.implements 330 446).run Tryz.prog w = .ok true w := by kernel_rfl
theorem As.kind446 (w : World) : (Rtype.kind 446).run Tryz.prog w = .ok 22 w := by kernel_rfl
theorem As.set330 (ta b e : Addr) (old : Value) (W : World) (hb : W.cell? b = some (.pointer (some e))) (ht : W.cell? ta = some old) (hf : W.frozen? ta = false) :
    (ReflectliteValue.set #[.agg #[.pointer (some ⟨4, 330, none⟩), .pointer (some ta), .int .u64 404], .agg #[.pointer (some ⟨4, 446, none⟩), .pointer (some b), .int .u64 150]]).run Tryz.prog W
      = .ok (.tuple #[]) (W.setCell ta (.iface 446 (.pointer (some e)))) := by
  rw [rls]
  simp only [Sem.run_bind, As.parts330, As.parts446, Result.andThen]
  simp [ReflectliteValue.flagAddr, loadVar, isAgg, underlying, Tryz.underlying446, hb, Result.andThen, As.direct, As.impl, As.kind446, storeVar, Value.cells, storeCells, Addr.add]
  rw [run_store Tryz.prog W ta _ _ (by rfl)]
  simp [ht, hf]
end Go.Proofs.YthlkchahlmkpiaaGreatDoor
