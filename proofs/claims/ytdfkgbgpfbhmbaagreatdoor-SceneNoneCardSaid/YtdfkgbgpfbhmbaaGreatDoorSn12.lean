/-
  Calls of the closed run, each with what it leaves in memory, part 12: printed by a program of this work's own (wip/AE/Gen.lean, emit.py).
-/
import Derived.Test.YtdfkgbgpfbhmbaaGreatDoorSn5
import Derived.Test.YtdfkgbgpfbhmbaaGreatDoorSn6
import Derived.Test.YtdfkgbgpfbhmbaaGreatDoorSn9
import Derived.Test.YtdfkgbgpfbhmbaaGreatDoorSn11
import Derived.Test.YtdfkgbgpfbhmbaaGreatDoorProg
import Derived.KernelRfl
open Go Go.AE
namespace Go.Proofs.YtdfkgbgpfbhmbaaGreatDoor
set_option maxRecDepth 1000000
/-- postern/posternlaw30.awake -/
def h96 : Hook := ⟨5, 0, [], [], gone 0 1205 ++ (gone 1431 12 ++ (gone 1687 12 ++ (gone 1943 1 ++ (gone 2456 1 ++ (gone 2712 3 ++ (gone 2969 2 ++ (gone 3225 4 ++ (gone 3481 3 ++ (gone 3738 2 ++ (gone 4250 239 ++ (gone 4716 16 ++ (gone 4972 17 ++ (gone 5228 39 ++ (gone 5494 16 ++ (gone 5750 17 ++ (gone 6006 801 ++ (gone 7033 12 ++ (gone 7289 12 ++ (gone 7545 1 ++ (gone 8058 1 ++ (gone 8314 3 ++ (gone 8571 2 ++ (gone 8827 4 ++ (gone 9083 3 ++ (gone 9340 2 ++ (gone 9852 239 ++ (gone 10318 16 ++ (gone 10574 17 ++ (gone 10830 39 ++ (gone 11096 16 ++ (gone 11352 17 ++ (gone 11608 376 ++ (gone 12210 12 ++ (gone 12466 12 ++ (gone 12722 1 ++ (gone 13235 1 ++ (gone 13491 3 ++ (gone 13748 2 ++ (gone 14004 4 ++ (gone 14260 3 ++ (gone 14517 2 ++ (gone 15029 239 ++ (gone 15495 16 ++ (gone 15751 17 ++ (gone 16007 39 ++ (gone 16273 16 ++ (gone 16529 17 ++ (gone 16785 199 ++ ([]))))))))))))))))))))))))))))))))))))))))))))))))), .bool true, 16984⟩
theorem h96_ok : HookOK Tryz.prog h96 := hook_of_run (hs := [h49, h95, h53, h54, h74, h94]) (hooks_cons h49_ok (hooks_cons h95_ok (hooks_cons h53_ok (hooks_cons h54_ok (hooks_cons h74_ok (hooks_cons h94_ok hooks_nil)))))) 100000 (by kernel_rfl)
/-- postern/posternlaw30.SceneNames -/
def h97 : Hook := ⟨3, 0, [], [], gone 0 1205 ++ (gone 1431 12 ++ (gone 1687 12 ++ (gone 1943 1 ++ (gone 2456 1 ++ (gone 2712 3 ++ (gone 2969 2 ++ (gone 3225 4 ++ (gone 3481 3 ++ (gone 3738 2 ++ (gone 4250 239 ++ (gone 4716 16 ++ (gone 4972 17 ++ (gone 5228 39 ++ (gone 5494 16 ++ (gone 5750 17 ++ (gone 6006 801 ++ (gone 7033 12 ++ (gone 7289 12 ++ (gone 7545 1 ++ (gone 8058 1 ++ (gone 8314 3 ++ (gone 8571 2 ++ (gone 8827 4 ++ (gone 9083 3 ++ (gone 9340 2 ++ (gone 9852 239 ++ (gone 10318 16 ++ (gone 10574 17 ++ (gone 10830 39 ++ (gone 11096 16 ++ (gone 11352 17 ++ (gone 11608 376 ++ (gone 12210 12 ++ (gone 12466 12 ++ (gone 12722 1 ++ (gone 13235 1 ++ (gone 13491 3 ++ (gone 13748 2 ++ (gone 14004 4 ++ (gone 14260 3 ++ (gone 14517 2 ++ (gone 15029 239 ++ (gone 15495 16 ++ (gone 15751 17 ++ (gone 16007 39 ++ (gone 16273 16 ++ (gone 16529 17 ++ (gone 16785 199 ++ ([]))))))))))))))))))))))))))))))))))))))))))))))))), .bool true, 16984⟩
theorem h97_ok : HookOK Tryz.prog h97 := hook_of_run (hs := [h96]) (hooks_cons h96_ok hooks_nil) 100000 (by kernel_rfl)
end Go.Proofs.YtdfkgbgpfbhmbaaGreatDoor
