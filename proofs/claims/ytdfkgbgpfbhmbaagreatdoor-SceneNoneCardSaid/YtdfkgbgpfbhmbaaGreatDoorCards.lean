/-
  DERIVED. GIVEN WITH THE SEED: THE CARDS: each row of YtdfkgbgpfbhmbaaGreatDoorRows.lean that lists a variable, with what it lists TIED to the program's text (the seventh form; the later family's looks); each row that meets fmt, with fmt's text TOLD by the authors' own Lean function (tested against real Go, not proved from fmt's source: count such statements apart). THE CARD IS WHAT COUNTS. Prove the row's statement (the work); the ties are given (YtdfkgbgpfbhmbaaGreatDoorTie.lean); close each card by the builder's one call (the guide's Derived/Test/ToyasCard.lean, 'card_holds'). Laid BY PROGRAM, IN A SANDBOX (cutbox-door.mjs). By AI agents, Wed Nov 11 2026. No macro, syntax, notation, axiom, sorry.
-/
import Derived.Test.YtdfkgbgpfbhmbaaGreatDoorRows
import GoSem.ClaimSeven
namespace Go.Proofs.YtdfkgbgpfbhmbaaGreatDoor
namespace Rows

/-- THE TIED CARD OF 'posternlaw30.SceneNames'. -/
def sceneNamesCard : Claim7 := { stood := { row := sceneNamesRow, standIns := [], harness := (true, "1d704503b7cc65e5e7c7e1f1bd37a430c38098b7b61cdf5efa4a99ea4687f462"), looks := true }, kinds := [], alts := [], laidByText := true, laidKinds := [.data, .data, .data, .sentinel, .sentinel], laidTests := true, laidLooks := .later }
def SceneNamesCardSaid : Prop := Claim7.holds Tryz.pinned (.plain (OpenSpec.ofChange sceneNamesSpec)) sceneNamesCard

/-- THE TIED CARD OF 'posternlaw30.SceneNone'. -/
def sceneNoneCard : Claim7 := { stood := { row := sceneNoneRow, standIns := [], harness := (true, "1d704503b7cc65e5e7c7e1f1bd37a430c38098b7b61cdf5efa4a99ea4687f462"), looks := true }, kinds := [], alts := [], laidByText := true, laidKinds := [.data, .data, .data, .sentinel, .sentinel], laidTests := true, laidLooks := .later }
def SceneNoneCardSaid : Prop := Claim7.holds Tryz.pinned (.plain (OpenSpec.ofChange sceneNoneSpec)) sceneNoneCard

/-- THE SECOND FORM's CARD OF 'posternlaw30.SceneNames'. -/
def sceneNamesUptoCard : Claim7 := { stood := { row := sceneNamesUptoRow, standIns := [], harness := (true, "1d704503b7cc65e5e7c7e1f1bd37a430c38098b7b61cdf5efa4a99ea4687f462"), looks := true }, kinds := [], alts := [], laidByText := true, laidKinds := [.data, .data, .data, .sentinel, .sentinel], laidTests := true, laidLooks := .later }
def SceneNamesUptoCardSaid : Prop := Claim7.holds Tryz.pinned (.plain (OpenSpec.upto sceneNamesSpec)) sceneNamesUptoCard

/-- THE SECOND FORM's CARD OF 'posternlaw30.SceneNone'. -/
def sceneNoneUptoCard : Claim7 := { stood := { row := sceneNoneUptoRow, standIns := [], harness := (true, "1d704503b7cc65e5e7c7e1f1bd37a430c38098b7b61cdf5efa4a99ea4687f462"), looks := true }, kinds := [], alts := [], laidByText := true, laidKinds := [.data, .data, .data, .sentinel, .sentinel], laidTests := true, laidLooks := .later }
def SceneNoneUptoCardSaid : Prop := Claim7.holds Tryz.pinned (.plain (OpenSpec.upto sceneNoneSpec)) sceneNoneUptoCard
end Rows
end Go.Proofs.YtdfkgbgpfbhmbaaGreatDoor
