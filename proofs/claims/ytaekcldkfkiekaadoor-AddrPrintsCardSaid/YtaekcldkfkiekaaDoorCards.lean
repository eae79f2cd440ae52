/-
  DERIVED. GIVEN WITH THE SEED: THE CARDS: each row of YtaekcldkfkiekaaDoorRows.lean that lists a variable, with what it lists TIED to the program's text (the seventh form; the later family's looks); each row that meets fmt, with fmt's text TOLD by the authors' own Lean function (tested against real Go, not proved from fmt's source: count such statements apart). THE CARD IS WHAT COUNTS. Prove the row's statement (the work); the ties are given (YtaekcldkfkiekaaDoorTie.lean); close each card by the builder's one call (the guide's Derived/Test/ToyasCard.lean, 'card_holds'). Laid BY PROGRAM, IN A SANDBOX (cutbox-door.mjs). By AI agents, Wed Nov 11 2026. No macro, syntax, notation, axiom, sorry.
-/
import Derived.Test.YtaekcldkfkiekaaDoorRows
import GoSem.ClaimSeven
namespace Go.Proofs.YtaekcldkfkiekaaDoor
namespace Rows

/-- THE TIED CARD OF 'crosswaylaw03.AddrParses'. -/
def addrParsesCard : Claim7 := { stood := { row := addrParsesRow, standIns := [], harness := (true, "c93ebde9351cadd70240bd9cb1d3c0fd0a1c943145c7cca455b2dd7a3a0aa2ed"), looks := true }, kinds := [], alts := [], laidByText := true, laidKinds := [.data, .data, .data, .data, .sentinel, .sentinel, .pinned], laidTests := true, laidLooks := .later }
def AddrParsesCardSaid : Prop := Claim7.holds Tryd.pinned (.plain (OpenSpec.ofChange addrParsesSpec)) addrParsesCard

/-- THE TIED CARD OF 'crosswaylaw03.AddrPrints'. -/
def addrPrintsCard : Claim7 := { stood := { row := addrPrintsRow, standIns := [], harness := (true, "c93ebde9351cadd70240bd9cb1d3c0fd0a1c943145c7cca455b2dd7a3a0aa2ed"), looks := true }, kinds := [], alts := [], laidByText := true, laidKinds := [.data, .data, .data, .data, .sentinel, .sentinel, .pinned], laidTests := true, laidLooks := .later }
def AddrPrintsCardSaid : Prop := Claim7.holds Tryd.pinned (.plain (OpenSpec.ofChange addrPrintsSpec)) addrPrintsCard

/-- THE TIED CARD OF 'crosswaylaw03.AddrBack'. -/
def addrBackCard : Claim7 := { stood := { row := addrBackRow, standIns := [], harness := (true, "c93ebde9351cadd70240bd9cb1d3c0fd0a1c943145c7cca455b2dd7a3a0aa2ed"), looks := true }, kinds := [], alts := [], laidByText := true, laidKinds := [.data, .data, .data, .data, .sentinel, .sentinel, .pinned], laidTests := true, laidLooks := .later }
def AddrBackCardSaid : Prop := Claim7.holds Tryd.pinned (.plain (OpenSpec.ofChange addrBackSpec)) addrBackCard

/-- THE TIED CARD OF 'crosswaylaw03.AddrShort'. -/
def addrShortCard : Claim7 := { stood := { row := addrShortRow, standIns := [], harness := (true, "c93ebde9351cadd70240bd9cb1d3c0fd0a1c943145c7cca455b2dd7a3a0aa2ed"), looks := true }, kinds := [], alts := [], laidByText := true, laidKinds := [.data, .data, .data, .data, .sentinel, .sentinel, .pinned], laidTests := true, laidLooks := .later }
def AddrShortCardSaid : Prop := Claim7.holds Tryd.pinned (.plain (OpenSpec.ofChange addrShortSpec)) addrShortCard

/-- THE TIED CARD OF 'crosswaylaw03.AddrSpelt'. -/
def addrSpeltCard : Claim7 := { stood := { row := addrSpeltRow, standIns := [], harness := (true, "c93ebde9351cadd70240bd9cb1d3c0fd0a1c943145c7cca455b2dd7a3a0aa2ed"), looks := true }, kinds := [], alts := [], laidByText := true, laidKinds := [.data, .data, .data, .data, .sentinel, .sentinel, .pinned], laidTests := true, laidLooks := .later }
def AddrSpeltCardSaid : Prop := Claim7.holds Tryd.pinned (.plain (OpenSpec.ofChange addrSpeltSpec)) addrSpeltCard

/-- THE SECOND FORM's CARD OF 'crosswaylaw03.AddrParses'. -/
def addrParsesUptoCard : Claim7 := { stood := { row := addrParsesUptoRow, standIns := [], harness := (true, "c93ebde9351cadd70240bd9cb1d3c0fd0a1c943145c7cca455b2dd7a3a0aa2ed"), looks := true }, kinds := [], alts := [], laidByText := true, laidKinds := [.data, .data, .data, .data, .sentinel, .sentinel, .pinned], laidTests := true, laidLooks := .later }
def AddrParsesUptoCardSaid : Prop := Claim7.holds Tryd.pinned (.plain (OpenSpec.upto addrParsesSpec)) addrParsesUptoCard

/-- THE SECOND FORM's CARD OF 'crosswaylaw03.AddrPrints'. -/
def addrPrintsUptoCard : Claim7 := { stood := { row := addrPrintsUptoRow, standIns := [], harness := (true, "c93ebde9351cadd70240bd9cb1d3c0fd0a1c943145c7cca455b2dd7a3a0aa2ed"), looks := true }, kinds := [], alts := [], laidByText := true, laidKinds := [.data, .data, .data, .data, .sentinel, .sentinel, .pinned], laidTests := true, laidLooks := .later }
def AddrPrintsUptoCardSaid : Prop := Claim7.holds Tryd.pinned (.plain (OpenSpec.upto addrPrintsSpec)) addrPrintsUptoCard

/-- THE SECOND FORM's CARD OF 'crosswaylaw03.AddrBack'. -/
def addrBackUptoCard : Claim7 := { stood := { row := addrBackUptoRow, standIns := [], harness := (true, "c93ebde9351cadd70240bd9cb1d3c0fd0a1c943145c7cca455b2dd7a3a0aa2ed"), looks := true }, kinds := [], alts := [], laidByText := true, laidKinds := [.data, .data, .data, .data, .sentinel, .sentinel, .pinned], laidTests := true, laidLooks := .later }
def AddrBackUptoCardSaid : Prop := Claim7.holds Tryd.pinned (.plain (OpenSpec.upto addrBackSpec)) addrBackUptoCard

/-- THE SECOND FORM's CARD OF 'crosswaylaw03.AddrShort'. -/
def addrShortUptoCard : Claim7 := { stood := { row := addrShortUptoRow, standIns := [], harness := (true, "c93ebde9351cadd70240bd9cb1d3c0fd0a1c943145c7cca455b2dd7a3a0aa2ed"), looks := true }, kinds := [], alts := [], laidByText := true, laidKinds := [.data, .data, .data, .data, .sentinel, .sentinel, .pinned], laidTests := true, laidLooks := .later }
def AddrShortUptoCardSaid : Prop := Claim7.holds Tryd.pinned (.plain (OpenSpec.upto addrShortSpec)) addrShortUptoCard

/-- THE SECOND FORM's CARD OF 'crosswaylaw03.AddrSpelt'. -/
def addrSpeltUptoCard : Claim7 := { stood := { row := addrSpeltUptoRow, standIns := [], harness := (true, "c93ebde9351cadd70240bd9cb1d3c0fd0a1c943145c7cca455b2dd7a3a0aa2ed"), looks := true }, kinds := [], alts := [], laidByText := true, laidKinds := [.data, .data, .data, .data, .sentinel, .sentinel, .pinned], laidTests := true, laidLooks := .later }
def AddrSpeltUptoCardSaid : Prop := Claim7.holds Tryd.pinned (.plain (OpenSpec.upto addrSpeltSpec)) addrSpeltUptoCard
end Rows
end Go.Proofs.YtaekcldkfkiekaaDoor
