/-
  Calls of the closed run, each with what it leaves in memory, part 16: printed by a program of this work's own (wip/AE/Gen.lean, emit.py).
-/
import Derived.Test.YthlkchahlmkpiaaGreatDoorTnQ
import Derived.Test.YthlkchahlmkpiaaGreatDoorTn0
import Derived.Test.YthlkchahlmkpiaaGreatDoorTn1
import Derived.Test.YthlkchahlmkpiaaGreatDoorTn8
import Derived.Test.YthlkchahlmkpiaaGreatDoorTn14
import Derived.Test.YthlkchahlmkpiaaGreatDoorTn15
import Derived.Test.YthlkchahlmkpiaaGreatDoorProg
import Derived.KernelRfl
open Go Go.AE
namespace Go.Proofs.YthlkchahlmkpiaaGreatDoor
set_option maxRecDepth 1000000
/-- postern/posternlaw26.awake -/
def h129 : Hook := ⟨12, 164, [], [], gone 164 12122 ++ ([]), .bool true, 12286⟩
theorem h129_ok : HookOK Tryz.prog h129 := hook_of_run (hs := [h127, h122, h4, h9, h124, h72, h120, h128, h123, h121, h126]) (hooks_cons h127_ok (hooks_cons h122_ok (hooks_cons h4_ok (hooks_cons h9_ok (hooks_cons h124_ok (hooks_cons h72_ok (hooks_cons h120_ok (hooks_cons h128_ok (hooks_cons h123_ok (hooks_cons h121_ok (hooks_cons h126_ok hooks_nil))))))))))) 100000 (by kernel_rfl)
/-- postern/pick.New -/
def h130 : Hook := ⟨5, 67, [.ptr 10 0, .sl 66 0 1 4 (some 1)], [(5, .cells [.int .i64 (.ofNat 0)] 22 none), (6, .cells [.bool false, .bool false] 4 none), (7, .cells [.int .i64 (.ofNat 0), .int .i64 (.ofNat 0)] 3 none), (8, .map [] 0), (10, .cells [.sl 5 0 1 1 none, .sl 6 0 2 1 (some 2), .map 8, .map 9, .int .i64 (.ofNat 0), .sl 7 0 2 1 (some 2)] 62 none), (66, .cells [.int .i64 (.ofNat 0), .sl0, .sl0, .sl0] 52 none)], gone 67 8 ++ (gone 76 1 ++ (gone 78 1 ++ (gone 83 2 ++ (gone 86 1 ++ (gone 88 1 ++ (gone 93 6 ++ (gone 100 5 ++ ([(106, some (.cells [.ptr 82 0, .ptr 92 0, .sl 99 0 1 4 none, .sl 105 0 1 4 none, .sl0] 30 none)), (82, some (.cells [.sl 75 0 1 1 none, .sl 77 0 2 1 none, .map 80, .map 81, .int .i64 (.ofNat 0), .sl 79 0 2 1 none] 62 none)), (92, some (.cells [.sl 85 0 1 1 none, .sl 87 0 2 1 none, .map 90, .map 91, .int .i64 (.ofNat 0), .sl 89 0 2 1 none] 62 none)), (99, some (.cells [.int .i64 (.ofNat 0), .sl0, .sl0, .sl0] 52 none)), (105, some (.cells [.int .i64 (.ofNat 0), .sl0, .sl0, .sl0] 52 none)), (75, some (.cells [.int .i64 (.ofNat 0)] 22 none)), (77, some (.cells [.bool false, .bool false] 4 none)), (80, some (.map [] 0)), (81, some (.map [] 0)), (79, some (.cells [.int .i64 (.ofNat 0), .int .i64 (.ofNat 0)] 3 none)), (85, some (.cells [.int .i64 (.ofNat 0)] 22 none)), (87, some (.cells [.bool false, .bool false] 4 none)), (90, some (.map [] 0)), (91, some (.map [] 0)), (89, some (.cells [.int .i64 (.ofNat 0), .int .i64 (.ofNat 0)] 3 none))])))))))), .tup [.ptr 106 0, .int .i64 (.ofNat 0)], 107⟩
theorem h130_ok : HookOK Tryz.prog h130 := hook_of_run (hs := []) (hooks_nil) 100000 (by kernel_rfl)
/-- postern/pick.New -/
def h131 : Hook := ⟨5, 11, [.ptr 10 0, .sl0], [(5, .cells [.int .i64 (.ofNat 0)] 22 none), (6, .cells [.bool false, .bool false] 4 none), (7, .cells [.int .i64 (.ofNat 0), .int .i64 (.ofNat 0)] 3 none), (8, .map [] 0), (10, .cells [.sl 5 0 1 1 none, .sl 6 0 2 1 (some 2), .map 8, .map 9, .int .i64 (.ofNat 0), .sl 7 0 2 1 (some 2)] 62 none)], gone 11 1 ++ (gone 13 1 ++ (gone 15 1 ++ (gone 20 2 ++ (gone 23 1 ++ (gone 25 1 ++ (gone 30 1 ++ ([(31, some (.cells [.ptr 19 0, .ptr 29 0, .sl0, .sl0, .sl0] 30 none)), (19, some (.cells [.sl 12 0 1 1 none, .sl 14 0 2 1 none, .map 17, .map 18, .int .i64 (.ofNat 0), .sl 16 0 2 1 none] 62 none)), (29, some (.cells [.sl 22 0 1 1 none, .sl 24 0 2 1 none, .map 27, .map 28, .int .i64 (.ofNat 0), .sl 26 0 2 1 none] 62 none)), (12, some (.cells [.int .i64 (.ofNat 0)] 22 none)), (14, some (.cells [.bool false, .bool false] 4 none)), (17, some (.map [] 0)), (18, some (.map [] 0)), (16, some (.cells [.int .i64 (.ofNat 0), .int .i64 (.ofNat 0)] 3 none)), (22, some (.cells [.int .i64 (.ofNat 0)] 22 none)), (24, some (.cells [.bool false, .bool false] 4 none)), (27, some (.map [] 0)), (28, some (.map [] 0)), (26, some (.cells [.int .i64 (.ofNat 0), .int .i64 (.ofNat 0)] 3 none))]))))))), .tup [.ptr 31 0, .int .i64 (.ofNat 0)], 32⟩
theorem h131_ok : HookOK Tryz.prog h131 := hook_of_run (hs := []) (hooks_nil) 100000 (by kernel_rfl)
/-- postern/twin.Alike -/
def h132 : Hook := ⟨9, 138, [.ptr 106 0, .ptr 31 0, .sl0], [(22, .cells [.int .i64 (.ofNat 0)] 22 none), (24, .cells [.bool false, .bool false] 4 none), (26, .cells [.int .i64 (.ofNat 0), .int .i64 (.ofNat 0)] 3 none), (27, .map [] 0), (29, .cells [.sl 22 0 1 1 none, .sl 24 0 2 1 none, .map 27, .map 28, .int .i64 (.ofNat 0), .sl 26 0 2 1 none] 62 none), (31, .cells [.ptr 19 0, .ptr 29 0, .sl0, .sl0, .sl0] 30 none), (85, .cells [.int .i64 (.ofNat 0)] 22 none), (87, .cells [.bool false, .bool false] 4 none), (89, .cells [.int .i64 (.ofNat 0), .int .i64 (.ofNat 0)] 3 none), (90, .map [] 0), (92, .cells [.sl 85 0 1 1 none, .sl 87 0 2 1 none, .map 90, .map 91, .int .i64 (.ofNat 0), .sl 89 0 2 1 none] 62 none), (105, .cells [.int .i64 (.ofNat 0), .sl0, .sl0, .sl0] 52 none), (106, .cells [.ptr 82 0, .ptr 92 0, .sl 99 0 1 4 none, .sl 105 0 1 4 none, .sl0] 30 none)], gone 138 26 ++ ([]), .tup [.int .i64 (.ofNat 0), .int .i64 (.ofNat 0), .bool false, .int .i64 (.ofNat 2)], 164⟩
theorem h132_ok : HookOK Tryz.prog h132 := hook_of_run (hs := []) (hooks_nil) 100000 (by kernel_rfl)
/-- postern/twin.Alike -/
def h133 : Hook := ⟨9, 37, [.ptr 31 0, .ptr0, .sl 36 0 1 2 (some 1)], [(22, .cells [.int .i64 (.ofNat 0)] 22 none), (24, .cells [.bool false, .bool false] 4 none), (26, .cells [.int .i64 (.ofNat 0), .int .i64 (.ofNat 0)] 3 none), (27, .map [] 0), (29, .cells [.sl 22 0 1 1 none, .sl 24 0 2 1 none, .map 27, .map 28, .int .i64 (.ofNat 0), .sl 26 0 2 1 none] 62 none), (31, .cells [.ptr 19 0, .ptr 29 0, .sl0, .sl0, .sl0] 30 none)], gone 37 10 ++ ([]), .tup [.int .i64 (.ofNat 0), .int .i64 (.ofNat 0), .bool false, .int .i64 (.ofNat 1)], 47⟩
theorem h133_ok : HookOK Tryz.prog h133 := hook_of_run (hs := []) (hooks_nil) 100000 (by kernel_rfl)
/-- postern/twin.Alike -/
def h134 : Hook := ⟨9, 54, [.ptr 31 0, .ptr 1 0, .sl 53 0 1 2 (some 1)], [(1, .cells [.ptr0, .ptr0, .sl0, .sl0, .sl0] 30 none), (22, .cells [.int .i64 (.ofNat 0)] 22 none), (24, .cells [.bool false, .bool false] 4 none), (26, .cells [.int .i64 (.ofNat 0), .int .i64 (.ofNat 0)] 3 none), (27, .map [] 0), (29, .cells [.sl 22 0 1 1 none, .sl 24 0 2 1 none, .map 27, .map 28, .int .i64 (.ofNat 0), .sl 26 0 2 1 none] 62 none), (31, .cells [.ptr 19 0, .ptr 29 0, .sl0, .sl0, .sl0] 30 none)], gone 54 10 ++ ([]), .tup [.int .i64 (.ofNat 0), .int .i64 (.ofNat 0), .bool false, .int .i64 (.ofNat 1)], 64⟩
theorem h134_ok : HookOK Tryz.prog h134 := hook_of_run (hs := []) (hooks_nil) 100000 (by kernel_rfl)
/-- postern/world.New -/
def h135 : Hook := ⟨4, 4, [.sl 3 0 1 1 (some 1)], [(3, .cells [.int .i64 (.ofNat 0)] 22 none)], gone 4 1 ++ ([(10, some (.cells [.sl 5 0 1 1 none, .sl 6 0 2 1 (some 2), .map 8, .map 9, .int .i64 (.ofNat 0), .sl 7 0 2 1 (some 2)] 62 none)), (5, some (.cells [.int .i64 (.ofNat 0)] 22 none)), (6, some (.cells [.bool false, .bool false] 4 none)), (8, some (.map [] 0)), (9, some (.map [] 0)), (7, some (.cells [.int .i64 (.ofNat 0), .int .i64 (.ofNat 0)] 3 none))]), .tup [.ptr 10 0, .int .i64 (.ofNat 0)], 11⟩
theorem h135_ok : HookOK Tryz.prog h135 := hook_of_run (hs := []) (hooks_nil) 100000 (by kernel_rfl)
/-- postern/twin.Quiet -/
def h136 : Hook := ⟨7, 32, [.ptr0, .opq 0, .opq 1], [], gone 32 1 ++ ([]), .tup [.ptr0, .int .i64 (.ofNat 1)], 33⟩
theorem h136_ok : HookOK Tryz.prog h136 := hook_of_run (hs := []) (hooks_nil) 100000 (by kernel_rfl)
/-- postern/twin.Turns -/
def h137 : Hook := ⟨8, 34, [.ptr0, .opq 0, .opq 1, .sl 33 0 1 2 (some 1)], [], gone 34 1 ++ ([]), .tup [.sl0, .int .i64 (.ofNat 1)], 35⟩
theorem h137_ok : HookOK Tryz.prog h137 := hook_of_run (hs := []) (hooks_nil) 100000 (by kernel_rfl)
/-- postern/twin.Turns -/
def h138 : Hook := ⟨8, 48, [.ptr0, .opq 0, .opq 1, .sl 47 0 1 2 (some 1)], [], gone 48 1 ++ ([]), .tup [.sl0, .int .i64 (.ofNat 1)], 49⟩
theorem h138_ok : HookOK Tryz.prog h138 := hook_of_run (hs := []) (hooks_nil) 100000 (by kernel_rfl)
/-- postern/twin.Parted -/
def h139 : Hook := ⟨10, 48, [.ptr0, .opq 0, .opq 1, .sl 47 0 1 2 (some 1)], [], gone 48 1 ++ ([]), .tup [.int .i64 (.ofNat 0), .int .i64 (.ofNat 0), .bool false, .int .i64 (.ofNat 1)], 49⟩
theorem h139_ok : HookOK Tryz.prog h139 := hook_of_run (hs := [h138]) (hooks_cons h138_ok hooks_nil) 100000 (by kernel_rfl)
/-- postern/twin.Quiet -/
def h140 : Hook := ⟨7, 49, [.ptr 1 0, .opq 0, .opq 1], [(1, .cells [.ptr0, .ptr0, .sl0, .sl0, .sl0] 30 none)], gone 49 1 ++ ([]), .tup [.ptr0, .int .i64 (.ofNat 1)], 50⟩
theorem h140_ok : HookOK Tryz.prog h140 := hook_of_run (hs := []) (hooks_nil) 100000 (by kernel_rfl)
/-- postern/twin.Turns -/
def h141 : Hook := ⟨8, 51, [.ptr 1 0, .opq 0, .opq 1, .sl 50 0 1 2 (some 1)], [(1, .cells [.ptr0, .ptr0, .sl0, .sl0, .sl0] 30 none)], gone 51 1 ++ ([]), .tup [.sl0, .int .i64 (.ofNat 1)], 52⟩
theorem h141_ok : HookOK Tryz.prog h141 := hook_of_run (hs := []) (hooks_nil) 100000 (by kernel_rfl)
/-- postern/twin.Turns -/
def h142 : Hook := ⟨8, 65, [.ptr 1 0, .opq 0, .opq 1, .sl 64 0 1 2 (some 1)], [(1, .cells [.ptr0, .ptr0, .sl0, .sl0, .sl0] 30 none)], gone 65 1 ++ ([]), .tup [.sl0, .int .i64 (.ofNat 1)], 66⟩
theorem h142_ok : HookOK Tryz.prog h142 := hook_of_run (hs := []) (hooks_nil) 100000 (by kernel_rfl)
/-- postern/twin.Parted -/
def h143 : Hook := ⟨10, 65, [.ptr 1 0, .opq 0, .opq 1, .sl 64 0 1 2 (some 1)], [(1, .cells [.ptr0, .ptr0, .sl0, .sl0, .sl0] 30 none)], gone 65 1 ++ ([]), .tup [.int .i64 (.ofNat 0), .int .i64 (.ofNat 0), .bool false, .int .i64 (.ofNat 1)], 66⟩
theorem h143_ok : HookOK Tryz.prog h143 := hook_of_run (hs := [h142]) (hooks_cons h142_ok hooks_nil) 100000 (by kernel_rfl)
end Go.Proofs.YthlkchahlmkpiaaGreatDoor
