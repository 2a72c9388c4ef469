/-
  DERIVED. GIVEN WITH THE SEED: THE CARDS: each row of YtdnafbfmaphhhaaGreatDoorRows.lean that lists a variable, with what it lists TIED to the program's text (the seventh form; the later family's looks); each row that meets fmt, with fmt's text TOLD by the authors' own Lean function (tested against real Go, not proved from fmt's source: count such statements apart). THE CARD IS WHAT COUNTS. Prove the row's statement (the work); the ties are given (YtdnafbfmaphhhaaGreatDoorTie.lean); close each card by the builder's one call (the guide's Derived/Test/ToyasCard.lean, 'card_holds'). Laid BY PROGRAM, IN A SANDBOX (cutbox-door.mjs). By AI agents, Wed Nov 11 2026. No macro, syntax, notation, axiom, sorry.
-/
import Derived.Test.YtdnafbfmaphhhaaGreatDoorRows
import GoSem.ClaimSeven
namespace Go.Proofs.YtdnafbfmaphhhaaGreatDoor
namespace Rows

/-- THE TIED CARD OF 'docstorelaw44.ReplicaAppends'. -/
def replicaAppendsCard : Claim7 := { stood := { row := replicaAppendsRow, standIns := [], harness := (true, "834bf1fe71528ac6c7fa4cf9cf5df0dba5e403b0d464269ec2b7d23d5405098f"), looks := false }, kinds := [], alts := [], laidByText := true, laidKinds := [.data, .pinned], laidTests := true, laidLooks := .later }
def ReplicaAppendsCardSaid : Prop := Claim7.holds Tryz.pinned (.plain (OpenSpec.ofChange replicaAppendsSpec)) replicaAppendsCard

/-- THE TIED CARD OF 'docstorelaw44.ReplicaReceives'. -/
def replicaReceivesCard : Claim7 := { stood := { row := replicaReceivesRow, standIns := [], harness := (true, "834bf1fe71528ac6c7fa4cf9cf5df0dba5e403b0d464269ec2b7d23d5405098f"), looks := false }, kinds := [], alts := [], laidByText := true, laidKinds := [.data, .pinned], laidTests := true, laidLooks := .later }
def ReplicaReceivesCardSaid : Prop := Claim7.holds Tryz.pinned (.plain (OpenSpec.ofChange replicaReceivesSpec)) replicaReceivesCard

/-- THE TIED CARD OF 'docstorelaw44.ReplicaTicks'. -/
def replicaTicksCard : Claim7 := { stood := { row := replicaTicksRow, standIns := [], harness := (true, "834bf1fe71528ac6c7fa4cf9cf5df0dba5e403b0d464269ec2b7d23d5405098f"), looks := false }, kinds := [], alts := [], laidByText := true, laidKinds := [.data, .pinned], laidTests := true, laidLooks := .later }
def ReplicaTicksCardSaid : Prop := Claim7.holds Tryz.pinned (.plain (OpenSpec.ofChange replicaTicksSpec)) replicaTicksCard

/-- THE TIED CARD OF 'docstorelaw44.ReplicaBeats'. -/
def replicaBeatsCard : Claim7 := { stood := { row := replicaBeatsRow, standIns := [], harness := (true, "834bf1fe71528ac6c7fa4cf9cf5df0dba5e403b0d464269ec2b7d23d5405098f"), looks := false }, kinds := [], alts := [], laidByText := true, laidKinds := [.data, .pinned], laidTests := true, laidLooks := .later }
def ReplicaBeatsCardSaid : Prop := Claim7.holds Tryz.pinned (.plain (OpenSpec.ofChange replicaBeatsSpec)) replicaBeatsCard

/-- THE TIED CARD OF 'docstorelaw44.ReplicaEntries'. -/
def replicaEntriesCard : Claim7 := { stood := { row := replicaEntriesRow, standIns := [], harness := (true, "834bf1fe71528ac6c7fa4cf9cf5df0dba5e403b0d464269ec2b7d23d5405098f"), looks := false }, kinds := [], alts := [], laidByText := true, laidKinds := [.data, .pinned], laidTests := true, laidLooks := .later }
def ReplicaEntriesCardSaid : Prop := Claim7.holds Tryz.pinned (.plain (OpenSpec.ofChange replicaEntriesSpec)) replicaEntriesCard

/-- THE TIED CARD OF 'docstorelaw44.ReplicaKeeps'. -/
def replicaKeepsCard : Claim7 := { stood := { row := replicaKeepsRow, standIns := [], harness := (true, "834bf1fe71528ac6c7fa4cf9cf5df0dba5e403b0d464269ec2b7d23d5405098f"), looks := false }, kinds := [], alts := [], laidByText := true, laidKinds := [.data, .pinned], laidTests := true, laidLooks := .later }
def ReplicaKeepsCardSaid : Prop := Claim7.holds Tryz.pinned (.plain (OpenSpec.ofChange replicaKeepsSpec)) replicaKeepsCard

/-- THE TIED CARD OF 'docstorelaw44.ReplicaSafe'. -/
def replicaSafeCard : Claim7 := { stood := { row := replicaSafeRow, standIns := [], harness := (true, "834bf1fe71528ac6c7fa4cf9cf5df0dba5e403b0d464269ec2b7d23d5405098f"), looks := false }, kinds := [], alts := [], laidByText := true, laidKinds := [.data, .pinned], laidTests := true, laidLooks := .later }
def ReplicaSafeCardSaid : Prop := Claim7.holds Tryz.pinned (.plain (OpenSpec.ofChange replicaSafeSpec)) replicaSafeCard

/-- THE SECOND FORM's CARD OF 'docstorelaw44.ReplicaAppends'. -/
def replicaAppendsUptoCard : Claim7 := { stood := { row := replicaAppendsUptoRow, standIns := [], harness := (true, "834bf1fe71528ac6c7fa4cf9cf5df0dba5e403b0d464269ec2b7d23d5405098f"), looks := false }, kinds := [], alts := [], laidByText := true, laidKinds := [.data, .pinned], laidTests := true, laidLooks := .later }
def ReplicaAppendsUptoCardSaid : Prop := Claim7.holds Tryz.pinned (.plain (OpenSpec.upto replicaAppendsSpec)) replicaAppendsUptoCard

/-- THE SECOND FORM's CARD OF 'docstorelaw44.ReplicaReceives'. -/
def replicaReceivesUptoCard : Claim7 := { stood := { row := replicaReceivesUptoRow, standIns := [], harness := (true, "834bf1fe71528ac6c7fa4cf9cf5df0dba5e403b0d464269ec2b7d23d5405098f"), looks := false }, kinds := [], alts := [], laidByText := true, laidKinds := [.data, .pinned], laidTests := true, laidLooks := .later }
def ReplicaReceivesUptoCardSaid : Prop := Claim7.holds Tryz.pinned (.plain (OpenSpec.upto replicaReceivesSpec)) replicaReceivesUptoCard

/-- THE SECOND FORM's CARD OF 'docstorelaw44.ReplicaTicks'. -/
def replicaTicksUptoCard : Claim7 := { stood := { row := replicaTicksUptoRow, standIns := [], harness := (true, "834bf1fe71528ac6c7fa4cf9cf5df0dba5e403b0d464269ec2b7d23d5405098f"), looks := false }, kinds := [], alts := [], laidByText := true, laidKinds := [.data, .pinned], laidTests := true, laidLooks := .later }
def ReplicaTicksUptoCardSaid : Prop := Claim7.holds Tryz.pinned (.plain (OpenSpec.upto replicaTicksSpec)) replicaTicksUptoCard

/-- THE SECOND FORM's CARD OF 'docstorelaw44.ReplicaBeats'. -/
def replicaBeatsUptoCard : Claim7 := { stood := { row := replicaBeatsUptoRow, standIns := [], harness := (true, "834bf1fe71528ac6c7fa4cf9cf5df0dba5e403b0d464269ec2b7d23d5405098f"), looks := false }, kinds := [], alts := [], laidByText := true, laidKinds := [.data, .pinned], laidTests := true, laidLooks := .later }
def ReplicaBeatsUptoCardSaid : Prop := Claim7.holds Tryz.pinned (.plain (OpenSpec.upto replicaBeatsSpec)) replicaBeatsUptoCard

/-- THE SECOND FORM's CARD OF 'docstorelaw44.ReplicaEntries'. -/
def replicaEntriesUptoCard : Claim7 := { stood := { row := replicaEntriesUptoRow, standIns := [], harness := (true, "834bf1fe71528ac6c7fa4cf9cf5df0dba5e403b0d464269ec2b7d23d5405098f"), looks := false }, kinds := [], alts := [], laidByText := true, laidKinds := [.data, .pinned], laidTests := true, laidLooks := .later }
def ReplicaEntriesUptoCardSaid : Prop := Claim7.holds Tryz.pinned (.plain (OpenSpec.upto replicaEntriesSpec)) replicaEntriesUptoCard

/-- THE SECOND FORM's CARD OF 'docstorelaw44.ReplicaKeeps'. -/
def replicaKeepsUptoCard : Claim7 := { stood := { row := replicaKeepsUptoRow, standIns := [], harness := (true, "834bf1fe71528ac6c7fa4cf9cf5df0dba5e403b0d464269ec2b7d23d5405098f"), looks := false }, kinds := [], alts := [], laidByText := true, laidKinds := [.data, .pinned], laidTests := true, laidLooks := .later }
def ReplicaKeepsUptoCardSaid : Prop := Claim7.holds Tryz.pinned (.plain (OpenSpec.upto replicaKeepsSpec)) replicaKeepsUptoCard

/-- THE SECOND FORM's CARD OF 'docstorelaw44.ReplicaSafe'. -/
def replicaSafeUptoCard : Claim7 := { stood := { row := replicaSafeUptoRow, standIns := [], harness := (true, "834bf1fe71528ac6c7fa4cf9cf5df0dba5e403b0d464269ec2b7d23d5405098f"), looks := false }, kinds := [], alts := [], laidByText := true, laidKinds := [.data, .pinned], laidTests := true, laidLooks := .later }
def ReplicaSafeUptoCardSaid : Prop := Claim7.holds Tryz.pinned (.plain (OpenSpec.upto replicaSafeSpec)) replicaSafeUptoCard
end Rows
end Go.Proofs.YtdnafbfmaphhhaaGreatDoor
