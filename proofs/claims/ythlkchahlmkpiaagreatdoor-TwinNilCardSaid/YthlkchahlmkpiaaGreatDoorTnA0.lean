/-
  Calls of the closed run, each with what it leaves in memory, part 0: printed by a program of this work's own (wip/AE/Gen.lean, emit.py).
-/
import Derived.Test.YthlkchahlmkpiaaGreatDoorAEg
import Derived.Test.YthlkchahlmkpiaaGreatDoorProg
import Derived.KernelRfl
open Go Go.AE
namespace Go.Proofs.YthlkchahlmkpiaaGreatDoor.TnA
set_option maxRecDepth 1000000
/-- (*postern/pick.Play).World -/
def h0 : Hook := ⟨18, 108, [.ptr 106 0], [(85, .cells [.int .i64 (.ofNat 0)] 22 none), (87, .cells [.bool false, .bool false] 4 none), (89, .cells [.int .i64 (.ofNat 0), .int .i64 (.ofNat 0)] 3 none), (90, .map [] 0), (92, .cells [.sl 85 0 1 1 none, .sl 87 0 2 1 none, .map 90, .map 91, .int .i64 (.ofNat 0), .sl 89 0 2 1 none] 62 none), (106, .cells [.ptr 82 0, .ptr 92 0, .sl 99 0 1 4 none, .sl 105 0 1 4 none, .sl0] 30 none)], gone 108 1 ++ (gone 110 1 ++ (gone 112 1 ++ (gone 117 1 ++ ([(116, some (.cells [.sl 109 0 1 1 none, .sl 111 0 2 1 none, .map 114, .map 115, .int .i64 (.ofNat 0), .sl 113 0 2 1 none] 62 none)), (109, some (.cells [.int .i64 (.ofNat 0)] 22 none)), (111, some (.cells [.bool false, .bool false] 4 none)), (114, some (.map [] 0)), (115, some (.map [] 0)), (113, some (.cells [.int .i64 (.ofNat 0), .int .i64 (.ofNat 0)] 3 none))])))), .ptr 116 0, 118⟩
theorem h0_ok : HookOK Tryz.prog h0 := hook_of_run (hs := []) (hooks_nil) 100000 (by kernel_rfl)
/-- (*postern/pick.Play).Subjects -/
def h1 : Hook := ⟨29, 108, [.ptr 106 0], [(105, .cells [.int .i64 (.ofNat 0), .sl0, .sl0, .sl0] 52 none), (106, .cells [.ptr 82 0, .ptr 92 0, .sl 99 0 1 4 none, .sl 105 0 1 4 none, .sl0] 30 none)], gone 108 5 ++ ([(113, some (.cells [.int .i64 (.ofNat 0), .sl0, .sl0, .sl0] 52 none))]), .sl 113 0 1 4 none, 114⟩
theorem h1_ok : HookOK Tryz.prog h1 := hook_of_run (hs := []) (hooks_nil) 100000 (by kernel_rfl)
/-- postern/twin.may -/
def h2 : Hook := ⟨28, 108, [.ptr 106 0, .agg [.int .i64 (.ofNat 0), .int .i64 (.ofNat 0)]], [(105, .cells [.int .i64 (.ofNat 0), .sl0, .sl0, .sl0] 52 none), (106, .cells [.ptr 82 0, .ptr 92 0, .sl 99 0 1 4 none, .sl 105 0 1 4 none, .sl0] 30 none)], gone 108 7 ++ ([]), .bool true, 115⟩
theorem h2_ok : HookOK Tryz.prog h2 := hook_of_run (hs := []) (hooks_nil) 100000 (by kernel_rfl)
end Go.Proofs.YthlkchahlmkpiaaGreatDoor.TnA
