/-
  DERIVED. GIVEN WITH THE SEED: THE CARDS: each row of YthnhboimcidhgaaDoorRows.lean that lists a variable, with what it lists TIED to the program's text (the seventh form; the later family's looks); each row that meets fmt, with fmt's text TOLD by the authors' own Lean function (tested against real Go, not proved from fmt's source: count such statements apart). THE CARD IS WHAT COUNTS. Prove the row's statement (the work); the ties are given (YthnhboimcidhgaaDoorTie.lean); close each card by the builder's one call (the guide's Derived/Test/ToyasCard.lean, 'card_holds'). Laid BY PROGRAM, IN A SANDBOX (cutbox-door.mjs). By AI agents, Wed Nov 11 2026. No macro, syntax, notation, axiom, sorry.
-/
import Derived.Test.YthnhboimcidhgaaDoorRows
import GoSem.ClaimSeven
namespace Go.Proofs.YthnhboimcidhgaaDoor
namespace Rows

/-- THE TIED CARD OF 'augurylaw18.ScriForms'. -/
def scriFormsCard : Claim7 := { stood := { row := scriFormsRow, standIns := [], harness := (true, "622528cced1a3db6cfd02756c27b614eb11413954657a4391e5953d00ef1c2d4"), looks := false }, kinds := [], alts := [], laidByText := true, laidKinds := [.data, .data, .data], laidTests := true, laidLooks := .later }
def ScriFormsCardSaid : Prop := Claim7.holds Tryd.pinned (.plain (OpenSpec.ofChange scriFormsSpec)) scriFormsCard

/-- THE TIED CARD OF 'augurylaw5.SynsForms'. -/
def synsFormsCard : Claim7 := { stood := { row := synsFormsRow, standIns := [], harness := (true, "622528cced1a3db6cfd02756c27b614eb11413954657a4391e5953d00ef1c2d4"), looks := false }, kinds := [], alts := [], laidByText := true, laidKinds := [.data, .data, .data], laidTests := true, laidLooks := .later }
def SynsFormsCardSaid : Prop := Claim7.holds Tryd.pinned (.plain (OpenSpec.ofChange synsFormsSpec)) synsFormsCard

/-- THE TIED CARD OF 'augurylaw5.SynsFields'. -/
def synsFieldsCard : Claim7 := { stood := { row := synsFieldsRow, standIns := [], harness := (true, "622528cced1a3db6cfd02756c27b614eb11413954657a4391e5953d00ef1c2d4"), looks := false }, kinds := [], alts := [], laidByText := true, laidKinds := [.data, .data, .data], laidTests := true, laidLooks := .later }
def SynsFieldsCardSaid : Prop := Claim7.holds Tryd.pinned (.plain (OpenSpec.ofChange synsFieldsSpec)) synsFieldsCard

/-- THE TIED CARD OF 'augurylaw5.SynsNone'. -/
def synsNoneCard : Claim7 := { stood := { row := synsNoneRow, standIns := [], harness := (true, "622528cced1a3db6cfd02756c27b614eb11413954657a4391e5953d00ef1c2d4"), looks := false }, kinds := [], alts := [], laidByText := true, laidKinds := [.data, .data, .data], laidTests := true, laidLooks := .later }
def SynsNoneCardSaid : Prop := Claim7.holds Tryd.pinned (.plain (OpenSpec.ofChange synsNoneSpec)) synsNoneCard

/-- THE TIED CARD OF 'augurylaw5.SynsTells'. -/
def synsTellsCard : Claim7 := { stood := { row := synsTellsRow, standIns := [], harness := (true, "622528cced1a3db6cfd02756c27b614eb11413954657a4391e5953d00ef1c2d4"), looks := false }, kinds := [], alts := [], laidByText := true, laidKinds := [.data, .data, .data], laidTests := true, laidLooks := .later }
def SynsTellsCardSaid : Prop := Claim7.holds Tryd.pinned (.plain (OpenSpec.ofChange synsTellsSpec)) synsTellsCard

/-- THE TIED CARD OF 'augurylaw5.SynsBack'. -/
def synsBackCard : Claim7 := { stood := { row := synsBackRow, standIns := [], harness := (true, "622528cced1a3db6cfd02756c27b614eb11413954657a4391e5953d00ef1c2d4"), looks := false }, kinds := [], alts := [], laidByText := true, laidKinds := [.data, .data, .data], laidTests := true, laidLooks := .later }
def SynsBackCardSaid : Prop := Claim7.holds Tryd.pinned (.plain (OpenSpec.ofChange synsBackSpec)) synsBackCard

/-- THE SECOND FORM's CARD OF 'augurylaw18.ScriForms'. -/
def scriFormsUptoCard : Claim7 := { stood := { row := scriFormsUptoRow, standIns := [], harness := (true, "622528cced1a3db6cfd02756c27b614eb11413954657a4391e5953d00ef1c2d4"), looks := false }, kinds := [], alts := [], laidByText := true, laidKinds := [.data, .data, .data], laidTests := true, laidLooks := .later }
def ScriFormsUptoCardSaid : Prop := Claim7.holds Tryd.pinned (.plain (OpenSpec.upto scriFormsSpec)) scriFormsUptoCard

/-- THE SECOND FORM's CARD OF 'augurylaw5.SynsForms'. -/
def synsFormsUptoCard : Claim7 := { stood := { row := synsFormsUptoRow, standIns := [], harness := (true, "622528cced1a3db6cfd02756c27b614eb11413954657a4391e5953d00ef1c2d4"), looks := false }, kinds := [], alts := [], laidByText := true, laidKinds := [.data, .data, .data], laidTests := true, laidLooks := .later }
def SynsFormsUptoCardSaid : Prop := Claim7.holds Tryd.pinned (.plain (OpenSpec.upto synsFormsSpec)) synsFormsUptoCard

/-- THE SECOND FORM's CARD OF 'augurylaw5.SynsFields'. -/
def synsFieldsUptoCard : Claim7 := { stood := { row := synsFieldsUptoRow, standIns := [], harness := (true, "622528cced1a3db6cfd02756c27b614eb11413954657a4391e5953d00ef1c2d4"), looks := false }, kinds := [], alts := [], laidByText := true, laidKinds := [.data, .data, .data], laidTests := true, laidLooks := .later }
def SynsFieldsUptoCardSaid : Prop := Claim7.holds Tryd.pinned (.plain (OpenSpec.upto synsFieldsSpec)) synsFieldsUptoCard

/-- THE SECOND FORM's CARD OF 'augurylaw5.SynsNone'. -/
def synsNoneUptoCard : Claim7 := { stood := { row := synsNoneUptoRow, standIns := [], harness := (true, "622528cced1a3db6cfd02756c27b614eb11413954657a4391e5953d00ef1c2d4"), looks := false }, kinds := [], alts := [], laidByText := true, laidKinds := [.data, .data, .data], laidTests := true, laidLooks := .later }
def SynsNoneUptoCardSaid : Prop := Claim7.holds Tryd.pinned (.plain (OpenSpec.upto synsNoneSpec)) synsNoneUptoCard

/-- THE SECOND FORM's CARD OF 'augurylaw5.SynsTells'. -/
def synsTellsUptoCard : Claim7 := { stood := { row := synsTellsUptoRow, standIns := [], harness := (true, "622528cced1a3db6cfd02756c27b614eb11413954657a4391e5953d00ef1c2d4"), looks := false }, kinds := [], alts := [], laidByText := true, laidKinds := [.data, .data, .data], laidTests := true, laidLooks := .later }
def SynsTellsUptoCardSaid : Prop := Claim7.holds Tryd.pinned (.plain (OpenSpec.upto synsTellsSpec)) synsTellsUptoCard

/-- THE SECOND FORM's CARD OF 'augurylaw5.SynsBack'. -/
def synsBackUptoCard : Claim7 := { stood := { row := synsBackUptoRow, standIns := [], harness := (true, "622528cced1a3db6cfd02756c27b614eb11413954657a4391e5953d00ef1c2d4"), looks := false }, kinds := [], alts := [], laidByText := true, laidKinds := [.data, .data, .data], laidTests := true, laidLooks := .later }
def SynsBackUptoCardSaid : Prop := Claim7.holds Tryd.pinned (.plain (OpenSpec.upto synsBackSpec)) synsBackUptoCard
end Rows
end Go.Proofs.YthnhboimcidhgaaDoor
