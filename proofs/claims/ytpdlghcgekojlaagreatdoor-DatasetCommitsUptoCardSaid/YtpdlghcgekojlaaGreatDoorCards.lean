/-
  DERIVED. GIVEN WITH THE SEED: THE CARDS: each row of YtpdlghcgekojlaaGreatDoorRows.lean that lists a variable, with what it lists TIED to the program's text (the seventh form; the later family's looks); each row that meets fmt, with fmt's text TOLD by the authors' own Lean function (tested against real Go, not proved from fmt's source: count such statements apart). THE CARD IS WHAT COUNTS. Prove the row's statement (the work); the ties are given (YtpdlghcgekojlaaGreatDoorTie.lean); close each card by the builder's one call (the guide's Derived/Test/ToyasCard.lean, 'card_holds'). Laid BY PROGRAM, IN A SANDBOX (cutbox-door.mjs). By AI agents, Wed Nov 11 2026. No macro, syntax, notation, axiom, sorry.
-/
import Derived.Test.YtpdlghcgekojlaaGreatDoorRows
import GoSem.ClaimSeven
namespace Go.Proofs.YtpdlghcgekojlaaGreatDoor
namespace Rows

/-- THE TIED CARD OF 'docstorelaw41.DatasetRuns'. -/
def datasetRunsCard : Claim7 := { stood := { row := datasetRunsRow, standIns := [], harness := (true, "1d460a53404f26f6d2df0974de723fa39ab46bdf67e5b23bb407e2062c4084da"), looks := false }, kinds := [], alts := [], laidByText := true, laidKinds := [.data, .pinned], laidTests := true, laidLooks := .later }
def DatasetRunsCardSaid : Prop := Claim7.holds Tryz.pinned (.plain (OpenSpec.ofChange datasetRunsSpec)) datasetRunsCard

/-- THE TIED CARD OF 'docstorelaw41.DatasetRefuses'. -/
def datasetRefusesCard : Claim7 := { stood := { row := datasetRefusesRow, standIns := [], harness := (true, "1d460a53404f26f6d2df0974de723fa39ab46bdf67e5b23bb407e2062c4084da"), looks := false }, kinds := [], alts := [], laidByText := true, laidKinds := [.data, .pinned], laidTests := true, laidLooks := .later }
def DatasetRefusesCardSaid : Prop := Claim7.holds Tryz.pinned (.plain (OpenSpec.ofChange datasetRefusesSpec)) datasetRefusesCard

/-- THE TIED CARD OF 'docstorelaw41.DatasetSnapshots'. -/
def datasetSnapshotsCard : Claim7 := { stood := { row := datasetSnapshotsRow, standIns := [], harness := (true, "1d460a53404f26f6d2df0974de723fa39ab46bdf67e5b23bb407e2062c4084da"), looks := false }, kinds := [], alts := [], laidByText := true, laidKinds := [.data, .pinned], laidTests := true, laidLooks := .later }
def DatasetSnapshotsCardSaid : Prop := Claim7.holds Tryz.pinned (.plain (OpenSpec.ofChange datasetSnapshotsSpec)) datasetSnapshotsCard

/-- THE TIED CARD OF 'docstorelaw41.DatasetCommits'. -/
def datasetCommitsCard : Claim7 := { stood := { row := datasetCommitsRow, standIns := [], harness := (true, "1d460a53404f26f6d2df0974de723fa39ab46bdf67e5b23bb407e2062c4084da"), looks := false }, kinds := [], alts := [], laidByText := true, laidKinds := [.data, .pinned], laidTests := true, laidLooks := .later }
def DatasetCommitsCardSaid : Prop := Claim7.holds Tryz.pinned (.plain (OpenSpec.ofChange datasetCommitsSpec)) datasetCommitsCard

/-- THE TIED CARD OF 'docstorelaw41.DatasetNil'. -/
def datasetNilCard : Claim7 := { stood := { row := datasetNilRow, standIns := [], harness := (true, "1d460a53404f26f6d2df0974de723fa39ab46bdf67e5b23bb407e2062c4084da"), looks := false }, kinds := [], alts := [], laidByText := true, laidKinds := [.data, .pinned], laidTests := true, laidLooks := .later }
def DatasetNilCardSaid : Prop := Claim7.holds Tryz.pinned (.plain (OpenSpec.ofChange datasetNilSpec)) datasetNilCard

/-- THE TIED CARD OF 'docstorelaw41.DatasetLoads'. -/
def datasetLoadsCard : Claim7 := { stood := { row := datasetLoadsRow, standIns := [], harness := (true, "1d460a53404f26f6d2df0974de723fa39ab46bdf67e5b23bb407e2062c4084da"), looks := false }, kinds := [], alts := [], laidByText := true, laidKinds := [.data, .pinned], laidTests := true, laidLooks := .later }
def DatasetLoadsCardSaid : Prop := Claim7.holds Tryz.pinned (.plain (OpenSpec.ofChange datasetLoadsSpec)) datasetLoadsCard

/-- THE SECOND FORM's CARD OF 'docstorelaw41.DatasetRuns'. -/
def datasetRunsUptoCard : Claim7 := { stood := { row := datasetRunsUptoRow, standIns := [], harness := (true, "1d460a53404f26f6d2df0974de723fa39ab46bdf67e5b23bb407e2062c4084da"), looks := false }, kinds := [], alts := [], laidByText := true, laidKinds := [.data, .pinned], laidTests := true, laidLooks := .later }
def DatasetRunsUptoCardSaid : Prop := Claim7.holds Tryz.pinned (.plain (OpenSpec.upto datasetRunsSpec)) datasetRunsUptoCard

/-- THE SECOND FORM's CARD OF 'docstorelaw41.DatasetRefuses'. -/
def datasetRefusesUptoCard : Claim7 := { stood := { row := datasetRefusesUptoRow, standIns := [], harness := (true, "1d460a53404f26f6d2df0974de723fa39ab46bdf67e5b23bb407e2062c4084da"), looks := false }, kinds := [], alts := [], laidByText := true, laidKinds := [.data, .pinned], laidTests := true, laidLooks := .later }
def DatasetRefusesUptoCardSaid : Prop := Claim7.holds Tryz.pinned (.plain (OpenSpec.upto datasetRefusesSpec)) datasetRefusesUptoCard

/-- THE SECOND FORM's CARD OF 'docstorelaw41.DatasetSnapshots'. -/
def datasetSnapshotsUptoCard : Claim7 := { stood := { row := datasetSnapshotsUptoRow, standIns := [], harness := (true, "1d460a53404f26f6d2df0974de723fa39ab46bdf67e5b23bb407e2062c4084da"), looks := false }, kinds := [], alts := [], laidByText := true, laidKinds := [.data, .pinned], laidTests := true, laidLooks := .later }
def DatasetSnapshotsUptoCardSaid : Prop := Claim7.holds Tryz.pinned (.plain (OpenSpec.upto datasetSnapshotsSpec)) datasetSnapshotsUptoCard

/-- THE SECOND FORM's CARD OF 'docstorelaw41.DatasetCommits'. -/
def datasetCommitsUptoCard : Claim7 := { stood := { row := datasetCommitsUptoRow, standIns := [], harness := (true, "1d460a53404f26f6d2df0974de723fa39ab46bdf67e5b23bb407e2062c4084da"), looks := false }, kinds := [], alts := [], laidByText := true, laidKinds := [.data, .pinned], laidTests := true, laidLooks := .later }
def DatasetCommitsUptoCardSaid : Prop := Claim7.holds Tryz.pinned (.plain (OpenSpec.upto datasetCommitsSpec)) datasetCommitsUptoCard

/-- THE SECOND FORM's CARD OF 'docstorelaw41.DatasetNil'. -/
def datasetNilUptoCard : Claim7 := { stood := { row := datasetNilUptoRow, standIns := [], harness := (true, "1d460a53404f26f6d2df0974de723fa39ab46bdf67e5b23bb407e2062c4084da"), looks := false }, kinds := [], alts := [], laidByText := true, laidKinds := [.data, .pinned], laidTests := true, laidLooks := .later }
def DatasetNilUptoCardSaid : Prop := Claim7.holds Tryz.pinned (.plain (OpenSpec.upto datasetNilSpec)) datasetNilUptoCard

/-- THE SECOND FORM's CARD OF 'docstorelaw41.DatasetLoads'. -/
def datasetLoadsUptoCard : Claim7 := { stood := { row := datasetLoadsUptoRow, standIns := [], harness := (true, "1d460a53404f26f6d2df0974de723fa39ab46bdf67e5b23bb407e2062c4084da"), looks := false }, kinds := [], alts := [], laidByText := true, laidKinds := [.data, .pinned], laidTests := true, laidLooks := .later }
def DatasetLoadsUptoCardSaid : Prop := Claim7.holds Tryz.pinned (.plain (OpenSpec.upto datasetLoadsSpec)) datasetLoadsUptoCard
end Rows
end Go.Proofs.YtpdlghcgekojlaaGreatDoor
