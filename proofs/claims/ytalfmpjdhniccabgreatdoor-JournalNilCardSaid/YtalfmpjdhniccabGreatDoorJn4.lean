/-
  Calls of the closed run, each with what it leaves in memory, part 4: printed by a program of this work's own (wip/AE/Gen.lean, emit.py).
-/
import Derived.Test.YtalfmpjdhniccabGreatDoorJn3
import Derived.Test.YtalfmpjdhniccabGreatDoorProg
import Derived.KernelRfl
open Go Go.AE
namespace Go.Proofs.YtalfmpjdhniccabGreatDoor
set_option maxRecDepth 1000000
/-- postern/posternlaw29.JournalNil -/
def h30 : Hook := ⟨3, 0, [.agg [.opq 0, .opq 1], .opq 2], [], gone 0 1509 ++ ([]), .bool true, 1509⟩
theorem h30_ok : HookOK Tryz.prog h30 := hook_of_run (hs := [h29]) (hooks_cons h29_ok hooks_nil) 100000 (by kernel_rfl)
end Go.Proofs.YtalfmpjdhniccabGreatDoor
