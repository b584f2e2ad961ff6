/-
  DERIVED. GIVEN WITH THE SEED: THE CARDS: each row of YtcfdnicnjhilkaaDoorRows.lean that lists a variable, with what it lists TIED to the program's text (the seventh form; the later family's looks); each row that meets fmt, with fmt's text TOLD by the authors' own Lean function (tested against real Go, not proved from fmt's source: count such statements apart). THE CARD IS WHAT COUNTS. Prove the row's statement (the work); the ties are given (YtcfdnicnjhilkaaDoorTie.lean); close each card by the builder's one call (the guide's Derived/Test/ToyasCard.lean, 'card_holds'). Laid BY PROGRAM, IN A SANDBOX (cutbox-door.mjs). By AI agents, Wed Nov 11 2026. No macro, syntax, notation, axiom, sorry.
-/
import Derived.Test.YtcfdnicnjhilkaaDoorRows
import GoSem.ClaimSeven
namespace Go.Proofs.YtcfdnicnjhilkaaDoor
namespace Rows

/-- THE TIED CARD OF 'marshallinglaw03.StreamTells'. -/
def streamTellsCard : Claim7 := { stood := { row := streamTellsRow, standIns := [], harness := (true, "33dcab2b61df2a30f14ce7c19e5c32cca72a986a02b61e67a984ea3fb6816807"), looks := false }, kinds := [], alts := [], laidByText := true, laidKinds := [.data, .pinned], laidTests := true, laidLooks := .later }
def StreamTellsCardSaid : Prop := Claim7.holds Tryd.pinned (.plain (OpenSpec.ofChange streamTellsSpec)) streamTellsCard

/-- THE TIED CARD OF 'marshallinglaw03.StreamNames'. -/
def streamNamesCard : Claim7 := { stood := { row := streamNamesRow, standIns := [], harness := (true, "33dcab2b61df2a30f14ce7c19e5c32cca72a986a02b61e67a984ea3fb6816807"), looks := false }, kinds := [], alts := [], laidByText := true, laidKinds := [.data, .pinned], laidTests := true, laidLooks := .later }
def StreamNamesCardSaid : Prop := Claim7.holds Tryd.pinned (.plain (OpenSpec.ofChange streamNamesSpec)) streamNamesCard

/-- THE TIED CARD OF 'marshallinglaw03.StreamBack'. -/
def streamBackCard : Claim7 := { stood := { row := streamBackRow, standIns := [], harness := (true, "33dcab2b61df2a30f14ce7c19e5c32cca72a986a02b61e67a984ea3fb6816807"), looks := false }, kinds := [], alts := [], laidByText := true, laidKinds := [.data, .pinned], laidTests := true, laidLooks := .later }
def StreamBackCardSaid : Prop := Claim7.holds Tryd.pinned (.plain (OpenSpec.ofChange streamBackSpec)) streamBackCard

/-- THE TIED CARD OF 'marshallinglaw03.StreamOnce'. -/
def streamOnceCard : Claim7 := { stood := { row := streamOnceRow, standIns := [], harness := (true, "33dcab2b61df2a30f14ce7c19e5c32cca72a986a02b61e67a984ea3fb6816807"), looks := false }, kinds := [], alts := [], laidByText := true, laidKinds := [.data, .pinned], laidTests := true, laidLooks := .later }
def StreamOnceCardSaid : Prop := Claim7.holds Tryd.pinned (.plain (OpenSpec.ofChange streamOnceSpec)) streamOnceCard

/-- THE TIED CARD OF 'marshallinglaw03.StreamFields'. -/
def streamFieldsCard : Claim7 := { stood := { row := streamFieldsRow, standIns := [], harness := (true, "33dcab2b61df2a30f14ce7c19e5c32cca72a986a02b61e67a984ea3fb6816807"), looks := false }, kinds := [], alts := [], laidByText := true, laidKinds := [.data, .pinned], laidTests := true, laidLooks := .later }
def StreamFieldsCardSaid : Prop := Claim7.holds Tryd.pinned (.plain (OpenSpec.ofChange streamFieldsSpec)) streamFieldsCard

/-- THE TIED CARD OF 'marshallinglaw03.StreamAll'. -/
def streamAllCard : Claim7 := { stood := { row := streamAllRow, standIns := [], harness := (true, "33dcab2b61df2a30f14ce7c19e5c32cca72a986a02b61e67a984ea3fb6816807"), looks := false }, kinds := [], alts := [], laidByText := true, laidKinds := [.data, .pinned], laidTests := true, laidLooks := .later }
def StreamAllCardSaid : Prop := Claim7.holds Tryd.pinned (.plain (OpenSpec.ofChange streamAllSpec)) streamAllCard

/-- THE SECOND FORM's CARD OF 'marshallinglaw03.StreamTells'. -/
def streamTellsUptoCard : Claim7 := { stood := { row := streamTellsUptoRow, standIns := [], harness := (true, "33dcab2b61df2a30f14ce7c19e5c32cca72a986a02b61e67a984ea3fb6816807"), looks := false }, kinds := [], alts := [], laidByText := true, laidKinds := [.data, .pinned], laidTests := true, laidLooks := .later }
def StreamTellsUptoCardSaid : Prop := Claim7.holds Tryd.pinned (.plain (OpenSpec.upto streamTellsSpec)) streamTellsUptoCard

/-- THE SECOND FORM's CARD OF 'marshallinglaw03.StreamNames'. -/
def streamNamesUptoCard : Claim7 := { stood := { row := streamNamesUptoRow, standIns := [], harness := (true, "33dcab2b61df2a30f14ce7c19e5c32cca72a986a02b61e67a984ea3fb6816807"), looks := false }, kinds := [], alts := [], laidByText := true, laidKinds := [.data, .pinned], laidTests := true, laidLooks := .later }
def StreamNamesUptoCardSaid : Prop := Claim7.holds Tryd.pinned (.plain (OpenSpec.upto streamNamesSpec)) streamNamesUptoCard

/-- THE SECOND FORM's CARD OF 'marshallinglaw03.StreamBack'. -/
def streamBackUptoCard : Claim7 := { stood := { row := streamBackUptoRow, standIns := [], harness := (true, "33dcab2b61df2a30f14ce7c19e5c32cca72a986a02b61e67a984ea3fb6816807"), looks := false }, kinds := [], alts := [], laidByText := true, laidKinds := [.data, .pinned], laidTests := true, laidLooks := .later }
def StreamBackUptoCardSaid : Prop := Claim7.holds Tryd.pinned (.plain (OpenSpec.upto streamBackSpec)) streamBackUptoCard

/-- THE SECOND FORM's CARD OF 'marshallinglaw03.StreamOnce'. -/
def streamOnceUptoCard : Claim7 := { stood := { row := streamOnceUptoRow, standIns := [], harness := (true, "33dcab2b61df2a30f14ce7c19e5c32cca72a986a02b61e67a984ea3fb6816807"), looks := false }, kinds := [], alts := [], laidByText := true, laidKinds := [.data, .pinned], laidTests := true, laidLooks := .later }
def StreamOnceUptoCardSaid : Prop := Claim7.holds Tryd.pinned (.plain (OpenSpec.upto streamOnceSpec)) streamOnceUptoCard

/-- THE SECOND FORM's CARD OF 'marshallinglaw03.StreamFields'. -/
def streamFieldsUptoCard : Claim7 := { stood := { row := streamFieldsUptoRow, standIns := [], harness := (true, "33dcab2b61df2a30f14ce7c19e5c32cca72a986a02b61e67a984ea3fb6816807"), looks := false }, kinds := [], alts := [], laidByText := true, laidKinds := [.data, .pinned], laidTests := true, laidLooks := .later }
def StreamFieldsUptoCardSaid : Prop := Claim7.holds Tryd.pinned (.plain (OpenSpec.upto streamFieldsSpec)) streamFieldsUptoCard

/-- THE SECOND FORM's CARD OF 'marshallinglaw03.StreamAll'. -/
def streamAllUptoCard : Claim7 := { stood := { row := streamAllUptoRow, standIns := [], harness := (true, "33dcab2b61df2a30f14ce7c19e5c32cca72a986a02b61e67a984ea3fb6816807"), looks := false }, kinds := [], alts := [], laidByText := true, laidKinds := [.data, .pinned], laidTests := true, laidLooks := .later }
def StreamAllUptoCardSaid : Prop := Claim7.holds Tryd.pinned (.plain (OpenSpec.upto streamAllSpec)) streamAllUptoCard
end Rows
end Go.Proofs.YtcfdnicnjhilkaaDoor
