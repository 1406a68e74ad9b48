/-
  No function of the translation starts a goroutine: so the law's call starts none.
-/
import Derived.Test.YthlkchahlmkpiaaGreatDoorRows
import Derived.Test.YthlkchahlmkpiaaGreatDoorTnF
import GoSem.ClaimGoes
namespace Go.Proofs.YthlkchahlmkpiaaGreatDoor.twinNil
open Go
set_option maxRecDepth 100000
theorem none_goes : Tryz.pinned.checked.prog.funcs.any Func.goes = false := by kernel_rfl
theorem goes_no (P : Program) (h : P.funcs.any Func.goes = false) (f : FuncId) : P.goes f = false := by
  unfold Program.goes
  rw [h, Bool.and_false, Bool.or_false]
  rw [List.any_eq_false]
  intro g _
  cases hg : P.funcs[g]? with
  | none => simp
  | some fn =>
    simp only [Option.any_some]
    intro hc
    have : P.funcs.any Func.goes = true := by
      rw [Array.any_eq_true]
      obtain ⟨hlt, he⟩ := Array.getElem?_eq_some_iff.1 hg
      exact ⟨g, hlt, by rw [he]; exact hc⟩
    rw [h] at this
    cases this
theorem goes_by : false = Rows.twinNilRow.goesBy Tryz.pinned.checked.prog := by
  unfold OpenClaim.goesBy Program.goesAt Program.goesFrom
  rw [named]
  simp only [Option.any_some, goes_no _ none_goes, Bool.false_or]
  rfl
end Go.Proofs.YthlkchahlmkpiaaGreatDoor.twinNil
