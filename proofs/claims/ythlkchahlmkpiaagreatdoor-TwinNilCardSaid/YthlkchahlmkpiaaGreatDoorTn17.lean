/-
  Calls of the closed run, each with what it leaves in memory, part 17: printed by a program of this work's own (wip/AE/Gen.lean, emit.py).
-/
import Derived.Test.YthlkchahlmkpiaaGreatDoorTnQ
import Derived.Test.YthlkchahlmkpiaaGreatDoorTn16
import Derived.Test.YthlkchahlmkpiaaGreatDoorProg
import Derived.KernelRfl
open Go Go.AE
namespace Go.Proofs.YthlkchahlmkpiaaGreatDoor
set_option maxRecDepth 1000000
/-- postern/posternlaw26.TwinNil -/
def h144 : Hook := ⟨3, 0, [.opq 0, .opq 1, .agg [.opq 2, .opq 3]], [], gone 0 12286 ++ ([]), .bool true, 12286⟩
theorem h144_ok : HookOK Tryz.prog h144 := hook_of_run (hs := [h135, h131, h136, h137, h133, h139, h140, h141, h134, h143, h130, h0, h1, h132, h129]) (hooks_cons h135_ok (hooks_cons h131_ok (hooks_cons h136_ok (hooks_cons h137_ok (hooks_cons h133_ok (hooks_cons h139_ok (hooks_cons h140_ok (hooks_cons h141_ok (hooks_cons h134_ok (hooks_cons h143_ok (hooks_cons h130_ok (hooks_cons h0_ok (hooks_cons h1_ok (hooks_cons h132_ok (hooks_cons h129_ok hooks_nil))))))))))))))) 100000 (by kernel_rfl)
end Go.Proofs.YthlkchahlmkpiaaGreatDoor
