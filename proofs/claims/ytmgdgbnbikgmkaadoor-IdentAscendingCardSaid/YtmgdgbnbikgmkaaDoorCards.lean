/-
  DERIVED. GIVEN WITH THE SEED: THE CARDS: each row of YtmgdgbnbikgmkaaDoorRows.lean that lists a variable, with what it lists TIED to the program's text (the seventh form; the later family's looks); each row that meets fmt, with fmt's text TOLD by the authors' own Lean function (tested against real Go, not proved from fmt's source: count such statements apart). THE CARD IS WHAT COUNTS. Prove the row's statement (the work); the ties are given (YtmgdgbnbikgmkaaDoorTie.lean); close each card by the builder's one call (the guide's Derived/Test/ToyasCard.lean, 'card_holds'). Laid BY PROGRAM, IN A SANDBOX (cutbox-door.mjs). By AI agents, Wed Nov 11 2026. No macro, syntax, notation, axiom, sorry.
-/
import Derived.Test.YtmgdgbnbikgmkaaDoorRows
import GoSem.ClaimSeven
namespace Go.Proofs.YtmgdgbnbikgmkaaDoor
namespace Rows

/-- THE TIED CARD OF 'docstorelaw06.IdentNew'. -/
def identNewCard : Claim7 := { stood := { row := identNewRow, standIns := [], harness := (true, "90089b2d6786123f9ba053125fb7f3fc837d87f706fc7c1b988c1f247aa361e4"), looks := false }, kinds := [], alts := [], laidByText := true, laidKinds := [.data, .pinned], laidTests := true, laidLooks := .later }
def IdentNewCardSaid : Prop := Claim7.holds Tryd.pinned (.plain (OpenSpec.ofChange identNewSpec)) identNewCard

/-- THE TIED CARD OF 'docstorelaw06.IdentText'. -/
def identTextCard : Claim7 := { stood := { row := identTextRow, standIns := [], harness := (true, "90089b2d6786123f9ba053125fb7f3fc837d87f706fc7c1b988c1f247aa361e4"), looks := false }, kinds := [], alts := [], laidByText := true, laidKinds := [.data, .pinned], laidTests := true, laidLooks := .later }
def IdentTextCardSaid : Prop := Claim7.holds Tryd.pinned (.plain (OpenSpec.ofChange identTextSpec)) identTextCard

/-- THE TIED CARD OF 'docstorelaw06.IdentSource'. -/
def identSourceCard : Claim7 := { stood := { row := identSourceRow, standIns := [], harness := (true, "90089b2d6786123f9ba053125fb7f3fc837d87f706fc7c1b988c1f247aa361e4"), looks := false }, kinds := [], alts := [], laidByText := true, laidKinds := [.data, .pinned], laidTests := true, laidLooks := .later }
def IdentSourceCardSaid : Prop := Claim7.holds Tryd.pinned (.plain (OpenSpec.ofChange identSourceSpec)) identSourceCard

/-- THE TIED CARD OF 'docstorelaw06.IdentBack'. -/
def identBackCard : Claim7 := { stood := { row := identBackRow, standIns := [], harness := (true, "90089b2d6786123f9ba053125fb7f3fc837d87f706fc7c1b988c1f247aa361e4"), looks := false }, kinds := [], alts := [], laidByText := true, laidKinds := [.data, .pinned], laidTests := true, laidLooks := .later }
def IdentBackCardSaid : Prop := Claim7.holds Tryd.pinned (.plain (OpenSpec.ofChange identBackSpec)) identBackCard

/-- THE TIED CARD OF 'docstorelaw06.IdentOrder'. -/
def identOrderCard : Claim7 := { stood := { row := identOrderRow, standIns := [], harness := (true, "90089b2d6786123f9ba053125fb7f3fc837d87f706fc7c1b988c1f247aa361e4"), looks := false }, kinds := [], alts := [], laidByText := true, laidKinds := [.data, .pinned], laidTests := true, laidLooks := .later }
def IdentOrderCardSaid : Prop := Claim7.holds Tryd.pinned (.plain (OpenSpec.ofChange identOrderSpec)) identOrderCard

/-- THE TIED CARD OF 'docstorelaw06.IdentAscending'. -/
def identAscendingCard : Claim7 := { stood := { row := identAscendingRow, standIns := [], harness := (true, "90089b2d6786123f9ba053125fb7f3fc837d87f706fc7c1b988c1f247aa361e4"), looks := false }, kinds := [], alts := [], laidByText := true, laidKinds := [.data, .pinned], laidTests := true, laidLooks := .later }
def IdentAscendingCardSaid : Prop := Claim7.holds Tryd.pinned (.plain (OpenSpec.ofChange identAscendingSpec)) identAscendingCard

/-- THE SECOND FORM's CARD OF 'docstorelaw06.IdentNew'. -/
def identNewUptoCard : Claim7 := { stood := { row := identNewUptoRow, standIns := [], harness := (true, "90089b2d6786123f9ba053125fb7f3fc837d87f706fc7c1b988c1f247aa361e4"), looks := false }, kinds := [], alts := [], laidByText := true, laidKinds := [.data, .pinned], laidTests := true, laidLooks := .later }
def IdentNewUptoCardSaid : Prop := Claim7.holds Tryd.pinned (.plain (OpenSpec.upto identNewSpec)) identNewUptoCard

/-- THE SECOND FORM's CARD OF 'docstorelaw06.IdentText'. -/
def identTextUptoCard : Claim7 := { stood := { row := identTextUptoRow, standIns := [], harness := (true, "90089b2d6786123f9ba053125fb7f3fc837d87f706fc7c1b988c1f247aa361e4"), looks := false }, kinds := [], alts := [], laidByText := true, laidKinds := [.data, .pinned], laidTests := true, laidLooks := .later }
def IdentTextUptoCardSaid : Prop := Claim7.holds Tryd.pinned (.plain (OpenSpec.upto identTextSpec)) identTextUptoCard

/-- THE SECOND FORM's CARD OF 'docstorelaw06.IdentSource'. -/
def identSourceUptoCard : Claim7 := { stood := { row := identSourceUptoRow, standIns := [], harness := (true, "90089b2d6786123f9ba053125fb7f3fc837d87f706fc7c1b988c1f247aa361e4"), looks := false }, kinds := [], alts := [], laidByText := true, laidKinds := [.data, .pinned], laidTests := true, laidLooks := .later }
def IdentSourceUptoCardSaid : Prop := Claim7.holds Tryd.pinned (.plain (OpenSpec.upto identSourceSpec)) identSourceUptoCard

/-- THE SECOND FORM's CARD OF 'docstorelaw06.IdentBack'. -/
def identBackUptoCard : Claim7 := { stood := { row := identBackUptoRow, standIns := [], harness := (true, "90089b2d6786123f9ba053125fb7f3fc837d87f706fc7c1b988c1f247aa361e4"), looks := false }, kinds := [], alts := [], laidByText := true, laidKinds := [.data, .pinned], laidTests := true, laidLooks := .later }
def IdentBackUptoCardSaid : Prop := Claim7.holds Tryd.pinned (.plain (OpenSpec.upto identBackSpec)) identBackUptoCard

/-- THE SECOND FORM's CARD OF 'docstorelaw06.IdentOrder'. -/
def identOrderUptoCard : Claim7 := { stood := { row := identOrderUptoRow, standIns := [], harness := (true, "90089b2d6786123f9ba053125fb7f3fc837d87f706fc7c1b988c1f247aa361e4"), looks := false }, kinds := [], alts := [], laidByText := true, laidKinds := [.data, .pinned], laidTests := true, laidLooks := .later }
def IdentOrderUptoCardSaid : Prop := Claim7.holds Tryd.pinned (.plain (OpenSpec.upto identOrderSpec)) identOrderUptoCard

/-- THE SECOND FORM's CARD OF 'docstorelaw06.IdentAscending'. -/
def identAscendingUptoCard : Claim7 := { stood := { row := identAscendingUptoRow, standIns := [], harness := (true, "90089b2d6786123f9ba053125fb7f3fc837d87f706fc7c1b988c1f247aa361e4"), looks := false }, kinds := [], alts := [], laidByText := true, laidKinds := [.data, .pinned], laidTests := true, laidLooks := .later }
def IdentAscendingUptoCardSaid : Prop := Claim7.holds Tryd.pinned (.plain (OpenSpec.upto identAscendingSpec)) identAscendingUptoCard
end Rows
end Go.Proofs.YtmgdgbnbikgmkaaDoor
