/-
  DERIVED. GIVEN WITH THE SEED: THE CARDS: each row of YtccaodehgaaheaaDoorRows.lean that lists a variable, with what it lists TIED to the program's text (the seventh form; the later family's looks); each row that meets fmt, with fmt's text TOLD by the authors' own Lean function (tested against real Go, not proved from fmt's source: count such statements apart). THE CARD IS WHAT COUNTS. Prove the row's statement (the work); the ties are given (YtccaodehgaaheaaDoorTie.lean); close each card by the builder's one call (the guide's Derived/Test/ToyasCard.lean, 'card_holds'). Laid BY PROGRAM, IN A SANDBOX (cutbox-door.mjs). By AI agents, Wed Nov 11 2026. No macro, syntax, notation, axiom, sorry.
-/
import Derived.Test.YtccaodehgaaheaaDoorRows
import GoSem.ClaimSeven
namespace Go.Proofs.YtccaodehgaaheaaDoor
namespace Rows

/-- THE TIED CARD OF 'marshallinglaw07.ExprTells'. -/
def exprTellsCard : Claim7 := { stood := { row := exprTellsRow, standIns := [], harness := (true, "d379eb37deea124f7b8a91f9a447bd7043525d9fa53276af7253c5881950b32a"), looks := false }, kinds := [], alts := [], laidByText := true, laidKinds := [.data, .data, .data], laidTests := true, laidLooks := .later }
def ExprTellsCardSaid : Prop := Claim7.holds Tryd.pinned (.plain (OpenSpec.ofChange exprTellsSpec)) exprTellsCard

/-- THE TIED CARD OF 'marshallinglaw07.ExprPuts'. -/
def exprPutsCard : Claim7 := { stood := { row := exprPutsRow, standIns := [], harness := (true, "d379eb37deea124f7b8a91f9a447bd7043525d9fa53276af7253c5881950b32a"), looks := false }, kinds := [], alts := [], laidByText := true, laidKinds := [.data, .data, .data], laidTests := true, laidLooks := .later }
def ExprPutsCardSaid : Prop := Claim7.holds Tryd.pinned (.plain (OpenSpec.ofChange exprPutsSpec)) exprPutsCard

/-- THE TIED CARD OF 'marshallinglaw07.ExprSizes'. -/
def exprSizesCard : Claim7 := { stood := { row := exprSizesRow, standIns := [], harness := (true, "d379eb37deea124f7b8a91f9a447bd7043525d9fa53276af7253c5881950b32a"), looks := false }, kinds := [], alts := [], laidByText := true, laidKinds := [.data, .data, .data], laidTests := true, laidLooks := .later }
def ExprSizesCardSaid : Prop := Claim7.holds Tryd.pinned (.plain (OpenSpec.ofChange exprSizesSpec)) exprSizesCard

/-- THE TIED CARD OF 'marshallinglaw07.ExprRight'. -/
def exprRightCard : Claim7 := { stood := { row := exprRightRow, standIns := [], harness := (true, "d379eb37deea124f7b8a91f9a447bd7043525d9fa53276af7253c5881950b32a"), looks := false }, kinds := [], alts := [], laidByText := true, laidKinds := [.data, .data, .data], laidTests := true, laidLooks := .later }
def ExprRightCardSaid : Prop := Claim7.holds Tryd.pinned (.plain (OpenSpec.ofChange exprRightSpec)) exprRightCard

/-- THE TIED CARD OF 'marshallinglaw07.ExprLevels'. -/
def exprLevelsCard : Claim7 := { stood := { row := exprLevelsRow, standIns := [], harness := (true, "d379eb37deea124f7b8a91f9a447bd7043525d9fa53276af7253c5881950b32a"), looks := false }, kinds := [], alts := [], laidByText := true, laidKinds := [.data, .data, .data], laidTests := true, laidLooks := .later }
def ExprLevelsCardSaid : Prop := Claim7.holds Tryd.pinned (.plain (OpenSpec.ofChange exprLevelsSpec)) exprLevelsCard

/-- THE TIED CARD OF 'marshallinglaw07.ExprNames'. -/
def exprNamesCard : Claim7 := { stood := { row := exprNamesRow, standIns := [], harness := (true, "d379eb37deea124f7b8a91f9a447bd7043525d9fa53276af7253c5881950b32a"), looks := false }, kinds := [], alts := [], laidByText := true, laidKinds := [.data, .data, .data], laidTests := true, laidLooks := .later }
def ExprNamesCardSaid : Prop := Claim7.holds Tryd.pinned (.plain (OpenSpec.ofChange exprNamesSpec)) exprNamesCard

/-- THE SECOND FORM's CARD OF 'marshallinglaw07.ExprTells'. -/
def exprTellsUptoCard : Claim7 := { stood := { row := exprTellsUptoRow, standIns := [], harness := (true, "d379eb37deea124f7b8a91f9a447bd7043525d9fa53276af7253c5881950b32a"), looks := false }, kinds := [], alts := [], laidByText := true, laidKinds := [.data, .data, .data], laidTests := true, laidLooks := .later }
def ExprTellsUptoCardSaid : Prop := Claim7.holds Tryd.pinned (.plain (OpenSpec.upto exprTellsSpec)) exprTellsUptoCard

/-- THE SECOND FORM's CARD OF 'marshallinglaw07.ExprPuts'. -/
def exprPutsUptoCard : Claim7 := { stood := { row := exprPutsUptoRow, standIns := [], harness := (true, "d379eb37deea124f7b8a91f9a447bd7043525d9fa53276af7253c5881950b32a"), looks := false }, kinds := [], alts := [], laidByText := true, laidKinds := [.data, .data, .data], laidTests := true, laidLooks := .later }
def ExprPutsUptoCardSaid : Prop := Claim7.holds Tryd.pinned (.plain (OpenSpec.upto exprPutsSpec)) exprPutsUptoCard

/-- THE SECOND FORM's CARD OF 'marshallinglaw07.ExprSizes'. -/
def exprSizesUptoCard : Claim7 := { stood := { row := exprSizesUptoRow, standIns := [], harness := (true, "d379eb37deea124f7b8a91f9a447bd7043525d9fa53276af7253c5881950b32a"), looks := false }, kinds := [], alts := [], laidByText := true, laidKinds := [.data, .data, .data], laidTests := true, laidLooks := .later }
def ExprSizesUptoCardSaid : Prop := Claim7.holds Tryd.pinned (.plain (OpenSpec.upto exprSizesSpec)) exprSizesUptoCard

/-- THE SECOND FORM's CARD OF 'marshallinglaw07.ExprRight'. -/
def exprRightUptoCard : Claim7 := { stood := { row := exprRightUptoRow, standIns := [], harness := (true, "d379eb37deea124f7b8a91f9a447bd7043525d9fa53276af7253c5881950b32a"), looks := false }, kinds := [], alts := [], laidByText := true, laidKinds := [.data, .data, .data], laidTests := true, laidLooks := .later }
def ExprRightUptoCardSaid : Prop := Claim7.holds Tryd.pinned (.plain (OpenSpec.upto exprRightSpec)) exprRightUptoCard

/-- THE SECOND FORM's CARD OF 'marshallinglaw07.ExprLevels'. -/
def exprLevelsUptoCard : Claim7 := { stood := { row := exprLevelsUptoRow, standIns := [], harness := (true, "d379eb37deea124f7b8a91f9a447bd7043525d9fa53276af7253c5881950b32a"), looks := false }, kinds := [], alts := [], laidByText := true, laidKinds := [.data, .data, .data], laidTests := true, laidLooks := .later }
def ExprLevelsUptoCardSaid : Prop := Claim7.holds Tryd.pinned (.plain (OpenSpec.upto exprLevelsSpec)) exprLevelsUptoCard

/-- THE SECOND FORM's CARD OF 'marshallinglaw07.ExprNames'. -/
def exprNamesUptoCard : Claim7 := { stood := { row := exprNamesUptoRow, standIns := [], harness := (true, "d379eb37deea124f7b8a91f9a447bd7043525d9fa53276af7253c5881950b32a"), looks := false }, kinds := [], alts := [], laidByText := true, laidKinds := [.data, .data, .data], laidTests := true, laidLooks := .later }
def ExprNamesUptoCardSaid : Prop := Claim7.holds Tryd.pinned (.plain (OpenSpec.upto exprNamesSpec)) exprNamesUptoCard
end Rows
end Go.Proofs.YtccaodehgaaheaaDoor
