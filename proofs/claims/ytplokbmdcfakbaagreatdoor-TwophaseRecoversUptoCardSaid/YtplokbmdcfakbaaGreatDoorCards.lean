/-
  DERIVED. GIVEN WITH THE SEED: THE CARDS: each row of YtplokbmdcfakbaaGreatDoorRows.lean that lists a variable, with what it lists TIED to the program's text (the seventh form; the later family's looks); each row that meets fmt, with fmt's text TOLD by the authors' own Lean function (tested against real Go, not proved from fmt's source: count such statements apart). THE CARD IS WHAT COUNTS. Prove the row's statement (the work); the ties are given (YtplokbmdcfakbaaGreatDoorTie.lean); close each card by the builder's one call (the guide's Derived/Test/ToyasCard.lean, 'card_holds'). Laid BY PROGRAM, IN A SANDBOX (cutbox-door.mjs). By AI agents, Wed Nov 11 2026. No macro, syntax, notation, axiom, sorry.
-/
import Derived.Test.YtplokbmdcfakbaaGreatDoorRows
import GoSem.ClaimSeven
namespace Go.Proofs.YtplokbmdcfakbaaGreatDoor
namespace Rows

/-- THE TIED CARD OF 'docstorelaw54.TwophaseRecovers'. -/
def twophaseRecoversCard : Claim7 := { stood := { row := twophaseRecoversRow, standIns := [], harness := (true, "cbc94779e0618b0f8e53cad7629ef5077fc7bc77bbabfbf30f39c8044a8e2ebf"), looks := false }, kinds := [], alts := [], laidByText := true, laidKinds := [.data, .pinned], laidTests := true, laidLooks := .later }
def TwophaseRecoversCardSaid : Prop := Claim7.holds Tryz.pinned (.plain (OpenSpec.ofChange twophaseRecoversSpec)) twophaseRecoversCard

/-- THE SECOND FORM's CARD OF 'docstorelaw54.TwophaseRecovers'. -/
def twophaseRecoversUptoCard : Claim7 := { stood := { row := twophaseRecoversUptoRow, standIns := [], harness := (true, "cbc94779e0618b0f8e53cad7629ef5077fc7bc77bbabfbf30f39c8044a8e2ebf"), looks := false }, kinds := [], alts := [], laidByText := true, laidKinds := [.data, .pinned], laidTests := true, laidLooks := .later }
def TwophaseRecoversUptoCardSaid : Prop := Claim7.holds Tryz.pinned (.plain (OpenSpec.upto twophaseRecoversSpec)) twophaseRecoversUptoCard
end Rows
end Go.Proofs.YtplokbmdcfakbaaGreatDoor
