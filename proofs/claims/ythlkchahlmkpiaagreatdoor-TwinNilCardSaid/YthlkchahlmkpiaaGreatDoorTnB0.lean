/-
  Calls of the closed run, each with what it leaves in memory, part 0: printed by a program of this work's own (wip/AE/Gen.lean, emit.py).
-/
import Derived.Test.YthlkchahlmkpiaaGreatDoorAEg
import Derived.Test.YthlkchahlmkpiaaGreatDoorProg
import Derived.KernelRfl
open Go Go.AE
namespace Go.Proofs.YthlkchahlmkpiaaGreatDoor.TnB
set_option maxRecDepth 1000000
/-- (*postern/pick.Play).World -/
def h0 : Hook := ⟨18, 119, [.ptr 106 0], [(85, .cells [.int .i64 (.ofNat 0)] 22 none), (87, .cells [.bool false, .bool false] 4 none), (89, .cells [.int .i64 (.ofNat 0), .int .i64 (.ofNat 0)] 3 none), (90, .map [] 0), (92, .cells [.sl 85 0 1 1 none, .sl 87 0 2 1 none, .map 90, .map 91, .int .i64 (.ofNat 0), .sl 89 0 2 1 none] 62 none), (106, .cells [.ptr 82 0, .ptr 92 0, .sl 99 0 1 4 none, .sl 105 0 1 4 none, .sl0] 30 none)], gone 119 1 ++ (gone 121 1 ++ (gone 123 1 ++ (gone 128 1 ++ ([(127, some (.cells [.sl 120 0 1 1 none, .sl 122 0 2 1 none, .map 125, .map 126, .int .i64 (.ofNat 0), .sl 124 0 2 1 none] 62 none)), (120, some (.cells [.int .i64 (.ofNat 0)] 22 none)), (122, some (.cells [.bool false, .bool false] 4 none)), (125, some (.map [] 0)), (126, some (.map [] 0)), (124, some (.cells [.int .i64 (.ofNat 0), .int .i64 (.ofNat 0)] 3 none))])))), .ptr 127 0, 129⟩
theorem h0_ok : HookOK Tryz.prog h0 := hook_of_run (hs := []) (hooks_nil) 100000 (by kernel_rfl)
/-- postern/twin.Half -/
def h1 : Hook := ⟨11, 129, [.ptr 127 0, .int .i64 (.ofNat 1), .int .i64 (.ofNat 0)], [(127, .cells [.sl 120 0 1 1 none, .sl 122 0 2 1 none, .map 125, .map 126, .int .i64 (.ofNat 0), .sl 124 0 2 1 none] 62 none)], gone 129 1 ++ ([(130, some (.cells [.int .i64 (.ofNat 0)] 22 none))]), .tup [.sl 130 0 1 1 none, .int .i64 (.ofNat 0)], 131⟩
theorem h1_ok : HookOK Tryz.prog h1 := hook_of_run (hs := []) (hooks_nil) 100000 (by kernel_rfl)
/-- postern/twin.may -/
def h2 : Hook := ⟨28, 131, [.ptr 106 0, .agg [.int .i64 (.ofNat 0), .int .i64 (.ofNat 0)]], [(105, .cells [.int .i64 (.ofNat 0), .sl0, .sl0, .sl0] 52 none), (106, .cells [.ptr 82 0, .ptr 92 0, .sl 99 0 1 4 none, .sl 105 0 1 4 none, .sl0] 30 none)], gone 131 7 ++ ([]), .bool true, 138⟩
theorem h2_ok : HookOK Tryz.prog h2 := hook_of_run (hs := []) (hooks_nil) 100000 (by kernel_rfl)
/-- (*postern/pick.Play).Subjects -/
def h3 : Hook := ⟨29, 131, [.ptr 106 0], [(105, .cells [.int .i64 (.ofNat 0), .sl0, .sl0, .sl0] 52 none), (106, .cells [.ptr 82 0, .ptr 92 0, .sl 99 0 1 4 none, .sl 105 0 1 4 none, .sl0] 30 none)], gone 131 5 ++ ([(136, some (.cells [.int .i64 (.ofNat 0), .sl0, .sl0, .sl0] 52 none))]), .sl 136 0 1 4 none, 137⟩
theorem h3_ok : HookOK Tryz.prog h3 := hook_of_run (hs := []) (hooks_nil) 100000 (by kernel_rfl)
/-- slices.Contains[[]postern/api.Side,postern/api.Side] -/
def h4 : Hook := ⟨25, 137, [.sl 130 0 1 1 none, .int .i64 (.ofNat 0)], [(130, .cells [.int .i64 (.ofNat 0)] 22 none)], [], .bool true, 137⟩
theorem h4_ok : HookOK Tryz.prog h4 := hook_of_run (hs := []) (hooks_nil) 100000 (by kernel_rfl)
end Go.Proofs.YthlkchahlmkpiaaGreatDoor.TnB
