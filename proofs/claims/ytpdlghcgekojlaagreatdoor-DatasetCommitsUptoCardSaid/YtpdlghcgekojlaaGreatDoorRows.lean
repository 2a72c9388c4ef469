/-
  NARROWER THAN 'FOR EVERY INPUT', by the rows' own cells (each row's printed sentence says how): DatasetRuns: loops, laid · DatasetRefuses: loops, laid · DatasetSnapshots: loops, laid · DatasetCommits: loops, laid · DatasetNil: loops, laid · DatasetLoads: loops, laid.
  DERIVED. THE GIVEN ROWS OF THIS SEAT. 6 by the template 'for every input the law returns true; each argument reads behind the call as it read before'; 0 by the template 'total and deterministic' (their statements: YtpdlghcgekojlaaGreatDoorTotals.lean).
  GIVEN WITH THE SEED: the statements are not yours to turn. If you find one false, say at which input.
  Laid BY PROGRAM, IN A SANDBOX (cutbox-rows.mjs): the forced cells as the released guide's own fill.sh prints them over the translation 57c5e0400c88e77b… (all of the seat's roots in one cut). By AI agents, Wed Nov 11 2026. No macro, syntax, notation, axiom, sorry.
-/
import Derived.Test.YtpdlghcgekojlaaGreatDoorChecked
import GoSem.PinnedTables
import GoSem.Claim
import GoSem.ClaimJoined
import GoSem.ClaimMapViews
import Derived.JoinedTies
import Derived.KernelRfl
namespace Go.Proofs.YtpdlghcgekojlaaGreatDoor
/- THE CELL 'sum', in the pinned program and in every row, IS THE sha256 OF THE DUMP (.gsa) THAT YtpdlghcgekojlaaGreatDoorProg.lean LOADS. Nothing in Lean hashes anything: it is a label: what it is worth is what the hold of that sum in a sandbox is worth. -/
noncomputable def Tryz.pinned : Pinned := { name := "ytpdlghcgekojlaagreatdoor", sum := "57c5e0400c88e77b381657674c180c63c7a05397282c587a01fc3b2f58bb4d35", checked := Tryz.checked }
namespace Rows
def none {H : Type} : Left H := { results := [], args := [] }

/- WHAT THE LISTED PACKAGE-LEVEL VARIABLES READ AS WHEN THE CALL BEGINS. Each datum BY PROGRAM (the guide's laid-datum.mjs) off the statement by which the dump's own 'gosem.cut.vars' lays the variable. In a bare row this is a premise. The card (YtpdlghcgekojlaaGreatDoorCards.lean) ties it to the program's text. -/
def laid_unicode_utf8_acceptRanges {H : Type} : DataW H := .agg [.agg [.lit (.int .u8 128), .lit (.int .u8 191)], .agg [.lit (.int .u8 160), .lit (.int .u8 191)], .agg [.lit (.int .u8 128), .lit (.int .u8 159)], .agg [.lit (.int .u8 144), .lit (.int .u8 191)], .agg [.lit (.int .u8 128), .lit (.int .u8 143)], .agg [.lit (.int .u8 0), .lit (.int .u8 0)], .agg [.lit (.int .u8 0), .lit (.int .u8 0)], .agg [.lit (.int .u8 0), .lit (.int .u8 0)], .agg [.lit (.int .u8 0), .lit (.int .u8 0)], .agg [.lit (.int .u8 0), .lit (.int .u8 0)], .agg [.lit (.int .u8 0), .lit (.int .u8 0)], .agg [.lit (.int .u8 0), .lit (.int .u8 0)], .agg [.lit (.int .u8 0), .lit (.int .u8 0)], .agg [.lit (.int .u8 0), .lit (.int .u8 0)], .agg [.lit (.int .u8 0), .lit (.int .u8 0)], .agg [.lit (.int .u8 0), .lit (.int .u8 0)]]
/-- One of Go's own tables, pinned by name: the form's constant. -/
def laid_unicode_utf8_first : DataW Unit := Go.Pinned.utf8First

/-- 'docstorelaw41.DatasetRuns': WHATEVER THE INPUT: true; the input reads as it did. -/
def datasetRunsSpec : ChangeSpec := { name := "datasetRuns", fn := fun _ => fun
  | [d1, d2] => { results := [.lit (.bool true)], args := [d1, d2] }
  | _ => none }
def datasetRunsRow : OpenClaim := { program := "ytpdlghcgekojlaagreatdoor", sum := "57c5e0400c88e77b381657674c180c63c7a05397282c587a01fc3b2f58bb4d35", func := "docstore/docstorelaw41.DatasetRuns", spec := "datasetRuns", inPlace := ["internal/bytealg.abigen_runtime_cmpstring", "slices.overlaps[docstore/api.Space]"], unfollowed := true, recurses := true, named := ["unicode/utf8.first", "unicode/utf8.acceptRanges"], loops := true, apart := false, laid := [("unicode/utf8.acceptRanges", laid_unicode_utf8_acceptRanges), ("unicode/utf8.first", laid_unicode_utf8_first)] }
def DatasetRunsSaid : Prop := datasetRunsRow.holds Tryz.pinned (OpenSpec.ofChange datasetRunsSpec)

/-- ITS FALSE NEIGHBOUR: 'it returns false'. Refute it at one input. -/
def datasetRunsWrong : ChangeSpec := { name := "datasetRuns", fn := fun _ => fun
  | [d1, d2] => { results := [.lit (.bool false)], args := [d1, d2] }
  | _ => none }
def DatasetRunsWrongFalsely : Prop := datasetRunsRow.holds Tryz.pinned (OpenSpec.ofChange datasetRunsWrong)

/-- 'docstorelaw41.DatasetRefuses': WHATEVER THE INPUT: true; the input reads as it did. -/
def datasetRefusesSpec : ChangeSpec := { name := "datasetRefuses", fn := fun _ => fun
  | [d1, d2] => { results := [.lit (.bool true)], args := [d1, d2] }
  | _ => none }
def datasetRefusesRow : OpenClaim := { program := "ytpdlghcgekojlaagreatdoor", sum := "57c5e0400c88e77b381657674c180c63c7a05397282c587a01fc3b2f58bb4d35", func := "docstore/docstorelaw41.DatasetRefuses", spec := "datasetRefuses", inPlace := ["internal/bytealg.abigen_runtime_cmpstring", "slices.overlaps[docstore/api.Space]"], unfollowed := true, recurses := true, named := ["unicode/utf8.first", "unicode/utf8.acceptRanges"], loops := true, apart := false, laid := [("unicode/utf8.acceptRanges", laid_unicode_utf8_acceptRanges), ("unicode/utf8.first", laid_unicode_utf8_first)] }
def DatasetRefusesSaid : Prop := datasetRefusesRow.holds Tryz.pinned (OpenSpec.ofChange datasetRefusesSpec)

/-- ITS FALSE NEIGHBOUR: 'it returns false'. Refute it at one input. -/
def datasetRefusesWrong : ChangeSpec := { name := "datasetRefuses", fn := fun _ => fun
  | [d1, d2] => { results := [.lit (.bool false)], args := [d1, d2] }
  | _ => none }
def DatasetRefusesWrongFalsely : Prop := datasetRefusesRow.holds Tryz.pinned (OpenSpec.ofChange datasetRefusesWrong)

/-- 'docstorelaw41.DatasetSnapshots': WHATEVER THE INPUT: true; the input reads as it did. -/
def datasetSnapshotsSpec : ChangeSpec := { name := "datasetSnapshots", fn := fun _ => fun
  | [d1, d2] => { results := [.lit (.bool true)], args := [d1, d2] }
  | _ => none }
def datasetSnapshotsRow : OpenClaim := { program := "ytpdlghcgekojlaagreatdoor", sum := "57c5e0400c88e77b381657674c180c63c7a05397282c587a01fc3b2f58bb4d35", func := "docstore/docstorelaw41.DatasetSnapshots", spec := "datasetSnapshots", inPlace := ["internal/bytealg.abigen_runtime_cmpstring", "slices.overlaps[docstore/api.Space]"], unfollowed := true, recurses := true, named := ["unicode/utf8.first", "unicode/utf8.acceptRanges"], loops := true, apart := false, laid := [("unicode/utf8.acceptRanges", laid_unicode_utf8_acceptRanges), ("unicode/utf8.first", laid_unicode_utf8_first)] }
def DatasetSnapshotsSaid : Prop := datasetSnapshotsRow.holds Tryz.pinned (OpenSpec.ofChange datasetSnapshotsSpec)

/-- ITS FALSE NEIGHBOUR: 'it returns false'. Refute it at one input. -/
def datasetSnapshotsWrong : ChangeSpec := { name := "datasetSnapshots", fn := fun _ => fun
  | [d1, d2] => { results := [.lit (.bool false)], args := [d1, d2] }
  | _ => none }
def DatasetSnapshotsWrongFalsely : Prop := datasetSnapshotsRow.holds Tryz.pinned (OpenSpec.ofChange datasetSnapshotsWrong)

/-- 'docstorelaw41.DatasetCommits': WHATEVER THE INPUT: true; the input reads as it did. -/
def datasetCommitsSpec : ChangeSpec := { name := "datasetCommits", fn := fun _ => fun
  | [d] => { results := [.lit (.bool true)], args := [d] }
  | _ => none }
def datasetCommitsRow : OpenClaim := { program := "ytpdlghcgekojlaagreatdoor", sum := "57c5e0400c88e77b381657674c180c63c7a05397282c587a01fc3b2f58bb4d35", func := "docstore/docstorelaw41.DatasetCommits", spec := "datasetCommits", inPlace := ["internal/bytealg.abigen_runtime_cmpstring", "slices.overlaps[docstore/api.Space]"], unfollowed := true, recurses := true, named := ["unicode/utf8.first", "unicode/utf8.acceptRanges"], loops := true, apart := false, laid := [("unicode/utf8.acceptRanges", laid_unicode_utf8_acceptRanges), ("unicode/utf8.first", laid_unicode_utf8_first)] }
def DatasetCommitsSaid : Prop := datasetCommitsRow.holds Tryz.pinned (OpenSpec.ofChange datasetCommitsSpec)

/-- ITS FALSE NEIGHBOUR: 'it returns false'. Refute it at one input. -/
def datasetCommitsWrong : ChangeSpec := { name := "datasetCommits", fn := fun _ => fun
  | [d] => { results := [.lit (.bool false)], args := [d] }
  | _ => none }
def DatasetCommitsWrongFalsely : Prop := datasetCommitsRow.holds Tryz.pinned (OpenSpec.ofChange datasetCommitsWrong)

/-- 'docstorelaw41.DatasetNil': WHATEVER THE INPUT: true; the input reads as it did. -/
def datasetNilSpec : ChangeSpec := { name := "datasetNil", fn := fun _ => fun
  | [d1, d2] => { results := [.lit (.bool true)], args := [d1, d2] }
  | _ => none }
def datasetNilRow : OpenClaim := { program := "ytpdlghcgekojlaagreatdoor", sum := "57c5e0400c88e77b381657674c180c63c7a05397282c587a01fc3b2f58bb4d35", func := "docstore/docstorelaw41.DatasetNil", spec := "datasetNil", inPlace := ["internal/bytealg.abigen_runtime_cmpstring", "slices.overlaps[docstore/api.Space]"], unfollowed := true, recurses := true, named := ["unicode/utf8.first", "unicode/utf8.acceptRanges"], loops := true, apart := false, laid := [("unicode/utf8.acceptRanges", laid_unicode_utf8_acceptRanges), ("unicode/utf8.first", laid_unicode_utf8_first)] }
def DatasetNilSaid : Prop := datasetNilRow.holds Tryz.pinned (OpenSpec.ofChange datasetNilSpec)

/-- ITS FALSE NEIGHBOUR: 'it returns false'. Refute it at one input. -/
def datasetNilWrong : ChangeSpec := { name := "datasetNil", fn := fun _ => fun
  | [d1, d2] => { results := [.lit (.bool false)], args := [d1, d2] }
  | _ => none }
def DatasetNilWrongFalsely : Prop := datasetNilRow.holds Tryz.pinned (OpenSpec.ofChange datasetNilWrong)

/-- 'docstorelaw41.DatasetLoads': WHATEVER THE INPUT: true; the input reads as it did. -/
def datasetLoadsSpec : ChangeSpec := { name := "datasetLoads", fn := fun _ => fun
  | [d] => { results := [.lit (.bool true)], args := [d] }
  | _ => none }
def datasetLoadsRow : OpenClaim := { program := "ytpdlghcgekojlaagreatdoor", sum := "57c5e0400c88e77b381657674c180c63c7a05397282c587a01fc3b2f58bb4d35", func := "docstore/docstorelaw41.DatasetLoads", spec := "datasetLoads", inPlace := ["internal/bytealg.abigen_runtime_cmpstring", "slices.overlaps[docstore/api.Space]"], unfollowed := true, recurses := true, named := ["unicode/utf8.first", "unicode/utf8.acceptRanges"], loops := true, apart := false, laid := [("unicode/utf8.acceptRanges", laid_unicode_utf8_acceptRanges), ("unicode/utf8.first", laid_unicode_utf8_first)] }
def DatasetLoadsSaid : Prop := datasetLoadsRow.holds Tryz.pinned (OpenSpec.ofChange datasetLoadsSpec)

/-- ITS FALSE NEIGHBOUR: 'it returns false'. Refute it at one input. -/
def datasetLoadsWrong : ChangeSpec := { name := "datasetLoads", fn := fun _ => fun
  | [d] => { results := [.lit (.bool false)], args := [d] }
  | _ => none }
def DatasetLoadsWrongFalsely : Prop := datasetLoadsRow.holds Tryz.pinned (OpenSpec.ofChange datasetLoadsWrong)

/- THE SECOND FORM. 'bulk': how many values and letters a reading holds, each counted each time it is reached (what is shared counts as often as it is met; a slice's spare places count too). A statement '..UptoSaid' is the law's where the arguments, and the package variables that the reading takes, are together of bulk at most 1048576: NARROWER than '..Said'. Prove '..Said' where nothing that the law and all that it calls make is longer than what came in: it says more and counts as full. Else prove '..UptoSaid'. A law counts once. -/
mutual
def uptoBulk {H : Type} : DataW H → Nat
  | .lit (.string bytes) => bytes.length + 1
  | .lit _ => 1
  | .nil => 1
  | .ptr d => uptoBulk d + 1
  | .slice elems spare => uptoBulkAll elems + uptoBulkAll spare + 1
  | .agg parts => uptoBulkAll parts + 1
  | .iface _ d => uptoBulk d + 1
  | .map entries => uptoBulkEntries entries + 1
  | .held _ => 1
def uptoBulkAll {H : Type} : List (DataW H) → Nat
  | [] => 0
  | d :: r => uptoBulk d + uptoBulkAll r
def uptoBulkEntries {H : Type} : List (Lit × DataW H) → Nat
  | [] => 0
  | x :: r => uptoBulkEntry x + uptoBulkEntries r
def uptoBulkEntry {H : Type} : Lit × DataW H → Nat
  | (.string bytes, d) => bytes.length + uptoBulk d + 1
  | (_, d) => uptoBulk d + 1
 end
def uptoSmall : (H : Type) → List (DataW H) → Bool := fun _ ds => decide (uptoBulkAll ds ≤ 1048576)
def OpenSpec.upto (s : _root_.Go.ChangeSpec) : _root_.Go.OpenSpec := { _root_.Go.OpenSpec.ofChange s with cond := some uptoSmall }

/-- 'docstorelaw41.DatasetRuns', WHERE WHAT IT READS IS OF BULK AT MOST 1048576: true; the input reads as it did. -/
def datasetRunsUptoRow : OpenClaim := { program := "ytpdlghcgekojlaagreatdoor", sum := "57c5e0400c88e77b381657674c180c63c7a05397282c587a01fc3b2f58bb4d35", func := "docstore/docstorelaw41.DatasetRuns", spec := "datasetRuns", inPlace := ["internal/bytealg.abigen_runtime_cmpstring", "slices.overlaps[docstore/api.Space]"], unfollowed := true, recurses := true, named := ["unicode/utf8.first", "unicode/utf8.acceptRanges"], loops := true, apart := false, laid := [("unicode/utf8.acceptRanges", laid_unicode_utf8_acceptRanges), ("unicode/utf8.first", laid_unicode_utf8_first)], narrowed := true }
def DatasetRunsUptoSaid : Prop := datasetRunsUptoRow.holds Tryz.pinned (OpenSpec.upto datasetRunsSpec)

/-- 'docstorelaw41.DatasetRefuses', WHERE WHAT IT READS IS OF BULK AT MOST 1048576: true; the input reads as it did. -/
def datasetRefusesUptoRow : OpenClaim := { program := "ytpdlghcgekojlaagreatdoor", sum := "57c5e0400c88e77b381657674c180c63c7a05397282c587a01fc3b2f58bb4d35", func := "docstore/docstorelaw41.DatasetRefuses", spec := "datasetRefuses", inPlace := ["internal/bytealg.abigen_runtime_cmpstring", "slices.overlaps[docstore/api.Space]"], unfollowed := true, recurses := true, named := ["unicode/utf8.first", "unicode/utf8.acceptRanges"], loops := true, apart := false, laid := [("unicode/utf8.acceptRanges", laid_unicode_utf8_acceptRanges), ("unicode/utf8.first", laid_unicode_utf8_first)], narrowed := true }
def DatasetRefusesUptoSaid : Prop := datasetRefusesUptoRow.holds Tryz.pinned (OpenSpec.upto datasetRefusesSpec)

/-- 'docstorelaw41.DatasetSnapshots', WHERE WHAT IT READS IS OF BULK AT MOST 1048576: true; the input reads as it did. -/
def datasetSnapshotsUptoRow : OpenClaim := { program := "ytpdlghcgekojlaagreatdoor", sum := "57c5e0400c88e77b381657674c180c63c7a05397282c587a01fc3b2f58bb4d35", func := "docstore/docstorelaw41.DatasetSnapshots", spec := "datasetSnapshots", inPlace := ["internal/bytealg.abigen_runtime_cmpstring", "slices.overlaps[docstore/api.Space]"], unfollowed := true, recurses := true, named := ["unicode/utf8.first", "unicode/utf8.acceptRanges"], loops := true, apart := false, laid := [("unicode/utf8.acceptRanges", laid_unicode_utf8_acceptRanges), ("unicode/utf8.first", laid_unicode_utf8_first)], narrowed := true }
def DatasetSnapshotsUptoSaid : Prop := datasetSnapshotsUptoRow.holds Tryz.pinned (OpenSpec.upto datasetSnapshotsSpec)

/-- 'docstorelaw41.DatasetCommits', WHERE WHAT IT READS IS OF BULK AT MOST 1048576: true; the input reads as it did. -/
def datasetCommitsUptoRow : OpenClaim := { program := "ytpdlghcgekojlaagreatdoor", sum := "57c5e0400c88e77b381657674c180c63c7a05397282c587a01fc3b2f58bb4d35", func := "docstore/docstorelaw41.DatasetCommits", spec := "datasetCommits", inPlace := ["internal/bytealg.abigen_runtime_cmpstring", "slices.overlaps[docstore/api.Space]"], unfollowed := true, recurses := true, named := ["unicode/utf8.first", "unicode/utf8.acceptRanges"], loops := true, apart := false, laid := [("unicode/utf8.acceptRanges", laid_unicode_utf8_acceptRanges), ("unicode/utf8.first", laid_unicode_utf8_first)], narrowed := true }
def DatasetCommitsUptoSaid : Prop := datasetCommitsUptoRow.holds Tryz.pinned (OpenSpec.upto datasetCommitsSpec)

/-- 'docstorelaw41.DatasetNil', WHERE WHAT IT READS IS OF BULK AT MOST 1048576: true; the input reads as it did. -/
def datasetNilUptoRow : OpenClaim := { program := "ytpdlghcgekojlaagreatdoor", sum := "57c5e0400c88e77b381657674c180c63c7a05397282c587a01fc3b2f58bb4d35", func := "docstore/docstorelaw41.DatasetNil", spec := "datasetNil", inPlace := ["internal/bytealg.abigen_runtime_cmpstring", "slices.overlaps[docstore/api.Space]"], unfollowed := true, recurses := true, named := ["unicode/utf8.first", "unicode/utf8.acceptRanges"], loops := true, apart := false, laid := [("unicode/utf8.acceptRanges", laid_unicode_utf8_acceptRanges), ("unicode/utf8.first", laid_unicode_utf8_first)], narrowed := true }
def DatasetNilUptoSaid : Prop := datasetNilUptoRow.holds Tryz.pinned (OpenSpec.upto datasetNilSpec)

/-- 'docstorelaw41.DatasetLoads', WHERE WHAT IT READS IS OF BULK AT MOST 1048576: true; the input reads as it did. -/
def datasetLoadsUptoRow : OpenClaim := { program := "ytpdlghcgekojlaagreatdoor", sum := "57c5e0400c88e77b381657674c180c63c7a05397282c587a01fc3b2f58bb4d35", func := "docstore/docstorelaw41.DatasetLoads", spec := "datasetLoads", inPlace := ["internal/bytealg.abigen_runtime_cmpstring", "slices.overlaps[docstore/api.Space]"], unfollowed := true, recurses := true, named := ["unicode/utf8.first", "unicode/utf8.acceptRanges"], loops := true, apart := false, laid := [("unicode/utf8.acceptRanges", laid_unicode_utf8_acceptRanges), ("unicode/utf8.first", laid_unicode_utf8_first)], narrowed := true }
def DatasetLoadsUptoSaid : Prop := datasetLoadsUptoRow.holds Tryz.pinned (OpenSpec.upto datasetLoadsSpec)

end Rows
end Go.Proofs.YtpdlghcgekojlaaGreatDoor
