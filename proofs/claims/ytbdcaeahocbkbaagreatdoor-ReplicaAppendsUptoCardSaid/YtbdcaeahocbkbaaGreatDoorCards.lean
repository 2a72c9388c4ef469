/-
  DERIVED. GIVEN WITH THE SEED: THE CARDS: each row of YtbdcaeahocbkbaaGreatDoorRows.lean that lists a variable, with what it lists TIED to the program's text (the seventh form; the later family's looks); each row that meets fmt, with fmt's text TOLD by the authors' own Lean function (tested against real Go, not proved from fmt's source: count such statements apart). THE CARD IS WHAT COUNTS. Prove the row's statement (the work); the ties are given (YtbdcaeahocbkbaaGreatDoorTie.lean); close each card by the builder's one call (the guide's Derived/Test/ToyasCard.lean, 'card_holds'). Laid BY PROGRAM, IN A SANDBOX (cutbox-door.mjs). By AI agents, Wed Nov 11 2026. No macro, syntax, notation, axiom, sorry.
-/
import Derived.Test.YtbdcaeahocbkbaaGreatDoorRows
import GoSem.ClaimSeven
namespace Go.Proofs.YtbdcaeahocbkbaaGreatDoor
namespace Rows

/-- THE TIED CARD OF 'docstorelaw44.ReplicaAppends'. -/
def replicaAppendsCard : Claim7 := { stood := { row := replicaAppendsRow, standIns := [], harness := (true, "380ebf4a8095479ef5eaf6f95ca99929005ef92cdaabe4863a82118302421852"), looks := false }, kinds := [], alts := [], laidByText := true, laidKinds := [.data, .pinned], laidTests := true, laidLooks := .later }
def ReplicaAppendsCardSaid : Prop := Claim7.holds Tryz.pinned (.plain (OpenSpec.ofChange replicaAppendsSpec)) replicaAppendsCard

/-- THE SECOND FORM's CARD OF 'docstorelaw44.ReplicaAppends'. -/
def replicaAppendsUptoCard : Claim7 := { stood := { row := replicaAppendsUptoRow, standIns := [], harness := (true, "380ebf4a8095479ef5eaf6f95ca99929005ef92cdaabe4863a82118302421852"), looks := false }, kinds := [], alts := [], laidByText := true, laidKinds := [.data, .pinned], laidTests := true, laidLooks := .later }
def ReplicaAppendsUptoCardSaid : Prop := Claim7.holds Tryz.pinned (.plain (OpenSpec.upto replicaAppendsSpec)) replicaAppendsUptoCard
end Rows
end Go.Proofs.YtbdcaeahocbkbaaGreatDoor
