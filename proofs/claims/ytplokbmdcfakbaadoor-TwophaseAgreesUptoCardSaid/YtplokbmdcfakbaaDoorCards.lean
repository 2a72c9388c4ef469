/-
  DERIVED. GIVEN WITH THE SEED: THE CARDS: each row of YtplokbmdcfakbaaDoorRows.lean that lists a variable, with what it lists TIED to the program's text (the seventh form; the later family's looks); each row that meets fmt, with fmt's text TOLD by the authors' own Lean function (tested against real Go, not proved from fmt's source: count such statements apart). THE CARD IS WHAT COUNTS. Prove the row's statement (the work); the ties are given (YtplokbmdcfakbaaDoorTie.lean); close each card by the builder's one call (the guide's Derived/Test/ToyasCard.lean, 'card_holds'). Laid BY PROGRAM, IN A SANDBOX (cutbox-door.mjs). By AI agents, Wed Nov 11 2026. No macro, syntax, notation, axiom, sorry.
-/
import Derived.Test.YtplokbmdcfakbaaDoorRows
import GoSem.ClaimSeven
namespace Go.Proofs.YtplokbmdcfakbaaDoor
namespace Rows

/-- THE TIED CARD OF 'docstorelaw54.TwophaseAgrees'. -/
def twophaseAgreesCard : Claim7 := { stood := { row := twophaseAgreesRow, standIns := [], harness := (true, "d2eed8b91b7f01cef860eb11e6841282ecbdc69906ca6d0c65b949d119cb2395"), looks := false }, kinds := [], alts := [], laidByText := true, laidKinds := [.data, .pinned], laidTests := true, laidLooks := .later }
def TwophaseAgreesCardSaid : Prop := Claim7.holds Tryd.pinned (.plain (OpenSpec.ofChange twophaseAgreesSpec)) twophaseAgreesCard

/-- THE TIED CARD OF 'docstorelaw54.TwophaseRuns'. -/
def twophaseRunsCard : Claim7 := { stood := { row := twophaseRunsRow, standIns := [], harness := (true, "d2eed8b91b7f01cef860eb11e6841282ecbdc69906ca6d0c65b949d119cb2395"), looks := false }, kinds := [], alts := [], laidByText := true, laidKinds := [.data, .pinned], laidTests := true, laidLooks := .later }
def TwophaseRunsCardSaid : Prop := Claim7.holds Tryd.pinned (.plain (OpenSpec.ofChange twophaseRunsSpec)) twophaseRunsCard

/-- THE TIED CARD OF 'docstorelaw54.TwophaseOver'. -/
def twophaseOverCard : Claim7 := { stood := { row := twophaseOverRow, standIns := [], harness := (true, "d2eed8b91b7f01cef860eb11e6841282ecbdc69906ca6d0c65b949d119cb2395"), looks := false }, kinds := [], alts := [], laidByText := true, laidKinds := [.data, .pinned], laidTests := true, laidLooks := .later }
def TwophaseOverCardSaid : Prop := Claim7.holds Tryd.pinned (.plain (OpenSpec.ofChange twophaseOverSpec)) twophaseOverCard

/-- THE SECOND FORM's CARD OF 'docstorelaw54.TwophaseAgrees'. -/
def twophaseAgreesUptoCard : Claim7 := { stood := { row := twophaseAgreesUptoRow, standIns := [], harness := (true, "d2eed8b91b7f01cef860eb11e6841282ecbdc69906ca6d0c65b949d119cb2395"), looks := false }, kinds := [], alts := [], laidByText := true, laidKinds := [.data, .pinned], laidTests := true, laidLooks := .later }
def TwophaseAgreesUptoCardSaid : Prop := Claim7.holds Tryd.pinned (.plain (OpenSpec.upto twophaseAgreesSpec)) twophaseAgreesUptoCard

/-- THE SECOND FORM's CARD OF 'docstorelaw54.TwophaseRuns'. -/
def twophaseRunsUptoCard : Claim7 := { stood := { row := twophaseRunsUptoRow, standIns := [], harness := (true, "d2eed8b91b7f01cef860eb11e6841282ecbdc69906ca6d0c65b949d119cb2395"), looks := false }, kinds := [], alts := [], laidByText := true, laidKinds := [.data, .pinned], laidTests := true, laidLooks := .later }
def TwophaseRunsUptoCardSaid : Prop := Claim7.holds Tryd.pinned (.plain (OpenSpec.upto twophaseRunsSpec)) twophaseRunsUptoCard

/-- THE SECOND FORM's CARD OF 'docstorelaw54.TwophaseOver'. -/
def twophaseOverUptoCard : Claim7 := { stood := { row := twophaseOverUptoRow, standIns := [], harness := (true, "d2eed8b91b7f01cef860eb11e6841282ecbdc69906ca6d0c65b949d119cb2395"), looks := false }, kinds := [], alts := [], laidByText := true, laidKinds := [.data, .pinned], laidTests := true, laidLooks := .later }
def TwophaseOverUptoCardSaid : Prop := Claim7.holds Tryd.pinned (.plain (OpenSpec.upto twophaseOverSpec)) twophaseOverUptoCard
end Rows
end Go.Proofs.YtplokbmdcfakbaaDoor
