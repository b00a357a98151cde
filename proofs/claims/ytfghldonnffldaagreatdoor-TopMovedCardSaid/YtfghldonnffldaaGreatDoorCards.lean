/-
  DERIVED. GIVEN WITH THE SEED: THE CARDS: each row of YtfghldonnffldaaGreatDoorRows.lean that lists a variable, with what it lists TIED to the program's text (the seventh form; the later family's looks); each row that meets fmt, with fmt's text TOLD by the authors' own Lean function (tested against real Go, not proved from fmt's source: count such statements apart). THE CARD IS WHAT COUNTS. Prove the row's statement (the work); the ties are given (YtfghldonnffldaaGreatDoorTie.lean); close each card by the builder's one call (the guide's Derived/Test/ToyasCard.lean, 'card_holds'). Laid BY PROGRAM, IN A SANDBOX (cutbox-door.mjs). By AI agents, Wed Nov 11 2026. No macro, syntax, notation, axiom, sorry.
-/
import Derived.Test.YtfghldonnffldaaGreatDoorRows
import GoSem.ClaimSeven
namespace Go.Proofs.YtfghldonnffldaaGreatDoor
namespace Rows

/-- THE TIED CARD OF 'descanttop.TopSilence'. -/
def topSilenceCard : Claim7 := { stood := { row := topSilenceRow, standIns := [], harness := (true, "786649d07c45105ec9ba32fe67f89b827a9788c5be187a29e5d2e83318be0651"), looks := false }, kinds := [], alts := [], laidByText := true, laidKinds := [.data, .data, .data], laidTests := true, laidLooks := .later }
def TopSilenceCardSaid : Prop := Claim7.holds Tryz.pinned (.plain (OpenSpec.ofChange topSilenceSpec)) topSilenceCard

/-- THE TIED CARD OF 'descanttop.TopMono'. -/
def topMonoCard : Claim7 := { stood := { row := topMonoRow, standIns := [], harness := (true, "786649d07c45105ec9ba32fe67f89b827a9788c5be187a29e5d2e83318be0651"), looks := false }, kinds := [], alts := [], laidByText := true, laidKinds := [.data, .data, .data], laidTests := true, laidLooks := .later }
def TopMonoCardSaid : Prop := Claim7.holds Tryz.pinned (.plain (OpenSpec.ofChange topMonoSpec)) topMonoCard

/-- THE TIED CARD OF 'descanttop.TopSizes'. -/
def topSizesCard : Claim7 := { stood := { row := topSizesRow, standIns := [], harness := (true, "786649d07c45105ec9ba32fe67f89b827a9788c5be187a29e5d2e83318be0651"), looks := false }, kinds := [], alts := [], laidByText := true, laidKinds := [.data, .data, .data], laidTests := true, laidLooks := .later }
def TopSizesCardSaid : Prop := Claim7.holds Tryz.pinned (.plain (OpenSpec.ofChange topSizesSpec)) topSizesCard

/-- THE TIED CARD OF 'descanttop.TopMoved'. -/
def topMovedCard : Claim7 := { stood := { row := topMovedRow, standIns := [], harness := (true, "786649d07c45105ec9ba32fe67f89b827a9788c5be187a29e5d2e83318be0651"), looks := false }, kinds := [], alts := [], laidByText := true, laidKinds := [.data, .data, .data], laidTests := true, laidLooks := .later }
def TopMovedCardSaid : Prop := Claim7.holds Tryz.pinned (.plain (OpenSpec.ofChange topMovedSpec)) topMovedCard

/-- THE TIED CARD OF 'descanttop.TopFrames'. -/
def topFramesCard : Claim7 := { stood := { row := topFramesRow, standIns := [], harness := (true, "786649d07c45105ec9ba32fe67f89b827a9788c5be187a29e5d2e83318be0651"), looks := false }, kinds := [], alts := [], laidByText := true, laidKinds := [.data, .data, .data], laidTests := true, laidLooks := .later }
def TopFramesCardSaid : Prop := Claim7.holds Tryz.pinned (.plain (OpenSpec.ofChange topFramesSpec)) topFramesCard

/-- THE SECOND FORM's CARD OF 'descanttop.TopSilence'. -/
def topSilenceUptoCard : Claim7 := { stood := { row := topSilenceUptoRow, standIns := [], harness := (true, "786649d07c45105ec9ba32fe67f89b827a9788c5be187a29e5d2e83318be0651"), looks := false }, kinds := [], alts := [], laidByText := true, laidKinds := [.data, .data, .data], laidTests := true, laidLooks := .later }
def TopSilenceUptoCardSaid : Prop := Claim7.holds Tryz.pinned (.plain (OpenSpec.upto topSilenceSpec)) topSilenceUptoCard

/-- THE SECOND FORM's CARD OF 'descanttop.TopMono'. -/
def topMonoUptoCard : Claim7 := { stood := { row := topMonoUptoRow, standIns := [], harness := (true, "786649d07c45105ec9ba32fe67f89b827a9788c5be187a29e5d2e83318be0651"), looks := false }, kinds := [], alts := [], laidByText := true, laidKinds := [.data, .data, .data], laidTests := true, laidLooks := .later }
def TopMonoUptoCardSaid : Prop := Claim7.holds Tryz.pinned (.plain (OpenSpec.upto topMonoSpec)) topMonoUptoCard

/-- THE SECOND FORM's CARD OF 'descanttop.TopSizes'. -/
def topSizesUptoCard : Claim7 := { stood := { row := topSizesUptoRow, standIns := [], harness := (true, "786649d07c45105ec9ba32fe67f89b827a9788c5be187a29e5d2e83318be0651"), looks := false }, kinds := [], alts := [], laidByText := true, laidKinds := [.data, .data, .data], laidTests := true, laidLooks := .later }
def TopSizesUptoCardSaid : Prop := Claim7.holds Tryz.pinned (.plain (OpenSpec.upto topSizesSpec)) topSizesUptoCard

/-- THE SECOND FORM's CARD OF 'descanttop.TopMoved'. -/
def topMovedUptoCard : Claim7 := { stood := { row := topMovedUptoRow, standIns := [], harness := (true, "786649d07c45105ec9ba32fe67f89b827a9788c5be187a29e5d2e83318be0651"), looks := false }, kinds := [], alts := [], laidByText := true, laidKinds := [.data, .data, .data], laidTests := true, laidLooks := .later }
def TopMovedUptoCardSaid : Prop := Claim7.holds Tryz.pinned (.plain (OpenSpec.upto topMovedSpec)) topMovedUptoCard

/-- THE SECOND FORM's CARD OF 'descanttop.TopFrames'. -/
def topFramesUptoCard : Claim7 := { stood := { row := topFramesUptoRow, standIns := [], harness := (true, "786649d07c45105ec9ba32fe67f89b827a9788c5be187a29e5d2e83318be0651"), looks := false }, kinds := [], alts := [], laidByText := true, laidKinds := [.data, .data, .data], laidTests := true, laidLooks := .later }
def TopFramesUptoCardSaid : Prop := Claim7.holds Tryz.pinned (.plain (OpenSpec.upto topFramesSpec)) topFramesUptoCard
end Rows
end Go.Proofs.YtfghldonnffldaaGreatDoor
