/-
  twin.Parted over a great row of turns: too many.
-/
import Derived.Test.YthlkchahlmkpiaaGreatDoorTnY
namespace Go.Proofs.YthlkchahlmkpiaaGreatDoor
open Go Go.RowKit Go.AE

set_option maxHeartbeats 2000000 in
set_option maxRecDepth 1000000 in
theorem parted_long {B : Nat → Prop} {w0 : World} {θ : Th} {G : Hp} {pa : Addr} {lb ld : Nat} {w : World} (h : HR B w0 θ G w)
    (hW : ∀ (B1 : Nat → Prop) (w1 : World), HR B1 w1 θ G w1 → Grow B1 w1 θ G 18 #[.pointer (some pa)] (R1 B1 w1 (.pointer (some pa)) lb ld)) :
    Calls Tryz.prog 10 #[.pointer (some pa), .int .i64 1, .int .i64 0, .slice (some ⟨lb, ld, none⟩) 65537 65537] w fun e w' => e = .returned (.tuple #[.int .i64 0, .int .i64 0, .bool false, .int .i64 4]) ∧ HR B w0 θ G w' := by
  have HT := Lib.hid (turns_long h hW)
  clear h hW
  go_enter Tryz.func10, Tryz.ntmps10
  go_wp2_with fail
  refine HT.out.mono ?_
  rintro e w1 ⟨m, rfl, hr⟩
  have HR := Lib.hid hr
  clear hr
  go_wp2_with fail
  exact bodyPost_ret (v := .tuple #[.int .i64 0, .int .i64 0, .bool false, .int .i64 4]) (by simp [results, Tryz.results10, go_sem]) rfl ⟨rfl, HR.out⟩
end Go.Proofs.YthlkchahlmkpiaaGreatDoor
