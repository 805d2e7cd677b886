/-
  DERIVED. GIVEN WITH THE SEED: THE CARDS: each row of YtpnbhoeghncnnaaGreatDoorRows.lean that lists a variable, with what it lists TIED to the program's text (the seventh form; the later family's looks); each row that meets fmt, with fmt's text TOLD by the authors' own Lean function (tested against real Go, not proved from fmt's source: count such statements apart). THE CARD IS WHAT COUNTS. Prove the row's statement (the work); the ties are given (YtpnbhoeghncnnaaGreatDoorTie.lean); close each card by the builder's one call (the guide's Derived/Test/ToyasCard.lean, 'card_holds'). Laid BY PROGRAM, IN A SANDBOX (cutbox-door.mjs). By AI agents, Wed Nov 11 2026. No macro, syntax, notation, axiom, sorry.
-/
import Derived.Test.YtpnbhoeghncnnaaGreatDoorRows
import GoSem.ClaimSeven
namespace Go.Proofs.YtpnbhoeghncnnaaGreatDoor
namespace Rows

/-- THE TIED CARD OF 'cosignerlaw26.BaseModels'. -/
def baseModelsCard : Claim7 := { stood := { row := baseModelsRow, standIns := [], harness := (true, "5a0e36318e40b89b96e49423fe0cc19f0459800bb25cd33c947a9583d90536c3"), looks := true }, kinds := [], alts := [], laidByText := true, laidKinds := [.data, .data, .data], laidTests := true, laidLooks := .later }
def BaseModelsCardSaid : Prop := Claim7.holds Tryz.pinned (.plain (OpenSpec.ofChange baseModelsSpec)) baseModelsCard

/-- THE SECOND FORM's CARD OF 'cosignerlaw26.BaseModels'. -/
def baseModelsUptoCard : Claim7 := { stood := { row := baseModelsUptoRow, standIns := [], harness := (true, "5a0e36318e40b89b96e49423fe0cc19f0459800bb25cd33c947a9583d90536c3"), looks := true }, kinds := [], alts := [], laidByText := true, laidKinds := [.data, .data, .data], laidTests := true, laidLooks := .later }
def BaseModelsUptoCardSaid : Prop := Claim7.holds Tryz.pinned (.plain (OpenSpec.upto baseModelsSpec)) baseModelsUptoCard
end Rows
end Go.Proofs.YtpnbhoeghncnnaaGreatDoor
