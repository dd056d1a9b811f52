/-
  DERIVED. GIVEN WITH THE SEED: THE CARDS: each row of YthnhboimcidhgaaGreatDoorRows.lean that lists a variable, with what it lists TIED to the program's text (the seventh form; the later family's looks); each row that meets fmt, with fmt's text TOLD by the authors' own Lean function (tested against real Go, not proved from fmt's source: count such statements apart). THE CARD IS WHAT COUNTS. Prove the row's statement (the work); the ties are given (YthnhboimcidhgaaGreatDoorTie.lean); close each card by the builder's one call (the guide's Derived/Test/ToyasCard.lean, 'card_holds'). Laid BY PROGRAM, IN A SANDBOX (cutbox-door.mjs). By AI agents, Wed Nov 11 2026. No macro, syntax, notation, axiom, sorry.
-/
import Derived.Test.YthnhboimcidhgaaGreatDoorRows
import GoSem.ClaimSeven
namespace Go.Proofs.YthnhboimcidhgaaGreatDoor
namespace Rows

/-- THE TIED CARD OF 'augurylaw18.ScriStops'. -/
def scriStopsCard : Claim7 := { stood := { row := scriStopsRow, standIns := [], harness := (true, "1ddb3e752903a35b7ee1f87734437ebab2b88b416ee54838242fee55440ae2b1"), looks := false }, kinds := [], alts := [], laidByText := true, laidKinds := [.data, .data, .data], laidTests := true, laidLooks := .later }
def ScriStopsCardSaid : Prop := Claim7.holds Tryz.pinned (.plain (OpenSpec.ofChange scriStopsSpec)) scriStopsCard

/-- THE TIED CARD OF 'augurylaw18.ScriOwn'. -/
def scriOwnCard : Claim7 := { stood := { row := scriOwnRow, standIns := [], harness := (true, "1ddb3e752903a35b7ee1f87734437ebab2b88b416ee54838242fee55440ae2b1"), looks := false }, kinds := [], alts := [], laidByText := true, laidKinds := [.data, .data, .data], laidTests := true, laidLooks := .later }
def ScriOwnCardSaid : Prop := Claim7.holds Tryz.pinned (.plain (OpenSpec.ofChange scriOwnSpec)) scriOwnCard

/-- THE TIED CARD OF 'augurylaw18.ScriTells'. -/
def scriTellsCard : Claim7 := { stood := { row := scriTellsRow, standIns := [], harness := (true, "1ddb3e752903a35b7ee1f87734437ebab2b88b416ee54838242fee55440ae2b1"), looks := false }, kinds := [], alts := [], laidByText := true, laidKinds := [.data, .data, .data], laidTests := true, laidLooks := .later }
def ScriTellsCardSaid : Prop := Claim7.holds Tryz.pinned (.plain (OpenSpec.ofChange scriTellsSpec)) scriTellsCard

/-- THE TIED CARD OF 'augurylaw18.ScriBack'. -/
def scriBackCard : Claim7 := { stood := { row := scriBackRow, standIns := [], harness := (true, "1ddb3e752903a35b7ee1f87734437ebab2b88b416ee54838242fee55440ae2b1"), looks := false }, kinds := [], alts := [], laidByText := true, laidKinds := [.data, .data, .data], laidTests := true, laidLooks := .later }
def ScriBackCardSaid : Prop := Claim7.holds Tryz.pinned (.plain (OpenSpec.ofChange scriBackSpec)) scriBackCard

/-- THE TIED CARD OF 'augurylaw6.ProgForms'. -/
def progFormsCard : Claim7 := { stood := { row := progFormsRow, standIns := [], harness := (true, "1ddb3e752903a35b7ee1f87734437ebab2b88b416ee54838242fee55440ae2b1"), looks := false }, kinds := [], alts := [], laidByText := true, laidKinds := [.data, .data, .data, .data, .pinned], laidTests := true, laidLooks := .later }
def ProgFormsCardSaid : Prop := Claim7.holds Tryz.pinned (.plain (OpenSpec.ofChange progFormsSpec)) progFormsCard

/-- THE TIED CARD OF 'augurylaw6.ProgLabels'. -/
def progLabelsCard : Claim7 := { stood := { row := progLabelsRow, standIns := [], harness := (true, "1ddb3e752903a35b7ee1f87734437ebab2b88b416ee54838242fee55440ae2b1"), looks := false }, kinds := [], alts := [], laidByText := true, laidKinds := [.data, .data, .data, .data, .pinned], laidTests := true, laidLooks := .later }
def ProgLabelsCardSaid : Prop := Claim7.holds Tryz.pinned (.plain (OpenSpec.ofChange progLabelsSpec)) progLabelsCard

/-- THE TIED CARD OF 'augurylaw6.ProgNone'. -/
def progNoneCard : Claim7 := { stood := { row := progNoneRow, standIns := [], harness := (true, "1ddb3e752903a35b7ee1f87734437ebab2b88b416ee54838242fee55440ae2b1"), looks := false }, kinds := [], alts := [], laidByText := true, laidKinds := [.data, .data, .data, .data, .pinned], laidTests := true, laidLooks := .later }
def ProgNoneCardSaid : Prop := Claim7.holds Tryz.pinned (.plain (OpenSpec.ofChange progNoneSpec)) progNoneCard

/-- THE TIED CARD OF 'augurylaw6.ProgBack'. -/
def progBackCard : Claim7 := { stood := { row := progBackRow, standIns := [], harness := (true, "1ddb3e752903a35b7ee1f87734437ebab2b88b416ee54838242fee55440ae2b1"), looks := false }, kinds := [], alts := [], laidByText := true, laidKinds := [.data, .data, .data, .data, .pinned], laidTests := true, laidLooks := .later }
def ProgBackCardSaid : Prop := Claim7.holds Tryz.pinned (.plain (OpenSpec.ofChange progBackSpec)) progBackCard

/-- THE TIED CARD OF 'augurylaw6.ProgTells'. -/
def progTellsCard : Claim7 := { stood := { row := progTellsRow, standIns := [], harness := (true, "1ddb3e752903a35b7ee1f87734437ebab2b88b416ee54838242fee55440ae2b1"), looks := false }, kinds := [], alts := [], laidByText := true, laidKinds := [.data, .data, .data, .data, .pinned], laidTests := true, laidLooks := .later }
def ProgTellsCardSaid : Prop := Claim7.holds Tryz.pinned (.plain (OpenSpec.ofChange progTellsSpec)) progTellsCard

/-- THE SECOND FORM's CARD OF 'augurylaw18.ScriStops'. -/
def scriStopsUptoCard : Claim7 := { stood := { row := scriStopsUptoRow, standIns := [], harness := (true, "1ddb3e752903a35b7ee1f87734437ebab2b88b416ee54838242fee55440ae2b1"), looks := false }, kinds := [], alts := [], laidByText := true, laidKinds := [.data, .data, .data], laidTests := true, laidLooks := .later }
def ScriStopsUptoCardSaid : Prop := Claim7.holds Tryz.pinned (.plain (OpenSpec.upto scriStopsSpec)) scriStopsUptoCard

/-- THE SECOND FORM's CARD OF 'augurylaw18.ScriOwn'. -/
def scriOwnUptoCard : Claim7 := { stood := { row := scriOwnUptoRow, standIns := [], harness := (true, "1ddb3e752903a35b7ee1f87734437ebab2b88b416ee54838242fee55440ae2b1"), looks := false }, kinds := [], alts := [], laidByText := true, laidKinds := [.data, .data, .data], laidTests := true, laidLooks := .later }
def ScriOwnUptoCardSaid : Prop := Claim7.holds Tryz.pinned (.plain (OpenSpec.upto scriOwnSpec)) scriOwnUptoCard

/-- THE SECOND FORM's CARD OF 'augurylaw18.ScriTells'. -/
def scriTellsUptoCard : Claim7 := { stood := { row := scriTellsUptoRow, standIns := [], harness := (true, "1ddb3e752903a35b7ee1f87734437ebab2b88b416ee54838242fee55440ae2b1"), looks := false }, kinds := [], alts := [], laidByText := true, laidKinds := [.data, .data, .data], laidTests := true, laidLooks := .later }
def ScriTellsUptoCardSaid : Prop := Claim7.holds Tryz.pinned (.plain (OpenSpec.upto scriTellsSpec)) scriTellsUptoCard

/-- THE SECOND FORM's CARD OF 'augurylaw18.ScriBack'. -/
def scriBackUptoCard : Claim7 := { stood := { row := scriBackUptoRow, standIns := [], harness := (true, "1ddb3e752903a35b7ee1f87734437ebab2b88b416ee54838242fee55440ae2b1"), looks := false }, kinds := [], alts := [], laidByText := true, laidKinds := [.data, .data, .data], laidTests := true, laidLooks := .later }
def ScriBackUptoCardSaid : Prop := Claim7.holds Tryz.pinned (.plain (OpenSpec.upto scriBackSpec)) scriBackUptoCard

/-- THE SECOND FORM's CARD OF 'augurylaw6.ProgForms'. -/
def progFormsUptoCard : Claim7 := { stood := { row := progFormsUptoRow, standIns := [], harness := (true, "1ddb3e752903a35b7ee1f87734437ebab2b88b416ee54838242fee55440ae2b1"), looks := false }, kinds := [], alts := [], laidByText := true, laidKinds := [.data, .data, .data, .data, .pinned], laidTests := true, laidLooks := .later }
def ProgFormsUptoCardSaid : Prop := Claim7.holds Tryz.pinned (.plain (OpenSpec.upto progFormsSpec)) progFormsUptoCard

/-- THE SECOND FORM's CARD OF 'augurylaw6.ProgLabels'. -/
def progLabelsUptoCard : Claim7 := { stood := { row := progLabelsUptoRow, standIns := [], harness := (true, "1ddb3e752903a35b7ee1f87734437ebab2b88b416ee54838242fee55440ae2b1"), looks := false }, kinds := [], alts := [], laidByText := true, laidKinds := [.data, .data, .data, .data, .pinned], laidTests := true, laidLooks := .later }
def ProgLabelsUptoCardSaid : Prop := Claim7.holds Tryz.pinned (.plain (OpenSpec.upto progLabelsSpec)) progLabelsUptoCard

/-- THE SECOND FORM's CARD OF 'augurylaw6.ProgNone'. -/
def progNoneUptoCard : Claim7 := { stood := { row := progNoneUptoRow, standIns := [], harness := (true, "1ddb3e752903a35b7ee1f87734437ebab2b88b416ee54838242fee55440ae2b1"), looks := false }, kinds := [], alts := [], laidByText := true, laidKinds := [.data, .data, .data, .data, .pinned], laidTests := true, laidLooks := .later }
def ProgNoneUptoCardSaid : Prop := Claim7.holds Tryz.pinned (.plain (OpenSpec.upto progNoneSpec)) progNoneUptoCard

/-- THE SECOND FORM's CARD OF 'augurylaw6.ProgBack'. -/
def progBackUptoCard : Claim7 := { stood := { row := progBackUptoRow, standIns := [], harness := (true, "1ddb3e752903a35b7ee1f87734437ebab2b88b416ee54838242fee55440ae2b1"), looks := false }, kinds := [], alts := [], laidByText := true, laidKinds := [.data, .data, .data, .data, .pinned], laidTests := true, laidLooks := .later }
def ProgBackUptoCardSaid : Prop := Claim7.holds Tryz.pinned (.plain (OpenSpec.upto progBackSpec)) progBackUptoCard

/-- THE SECOND FORM's CARD OF 'augurylaw6.ProgTells'. -/
def progTellsUptoCard : Claim7 := { stood := { row := progTellsUptoRow, standIns := [], harness := (true, "1ddb3e752903a35b7ee1f87734437ebab2b88b416ee54838242fee55440ae2b1"), looks := false }, kinds := [], alts := [], laidByText := true, laidKinds := [.data, .data, .data, .data, .pinned], laidTests := true, laidLooks := .later }
def ProgTellsUptoCardSaid : Prop := Claim7.holds Tryz.pinned (.plain (OpenSpec.upto progTellsSpec)) progTellsUptoCard
end Rows
end Go.Proofs.YthnhboimcidhgaaGreatDoor
