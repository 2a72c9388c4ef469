/-
  NARROWER THAN 'FOR EVERY INPUT', by the rows' own cells (each row's printed sentence says how): ReplicaAppends: loops, laid · ReplicaReceives: loops, laid · ReplicaTicks: loops, laid · ReplicaBeats: loops, laid · ReplicaEntries: loops, laid · ReplicaKeeps: loops, laid · ReplicaSafe: laid.
  DERIVED. THE GIVEN ROWS OF THIS SEAT. 7 by the template 'for every input the law returns true; each argument reads behind the call as it read before'; 0 by the template 'total and deterministic' (their statements: YtdnafbfmaphhhaaGreatDoorTotals.lean).
  GIVEN WITH THE SEED: the statements are not yours to turn. If you find one false, say at which input.
  Laid BY PROGRAM, IN A SANDBOX (cutbox-rows.mjs): the forced cells as the released guide's own fill.sh prints them over the translation 6a857182c98fb917… (all of the seat's roots in one cut). By AI agents, Wed Nov 11 2026. No macro, syntax, notation, axiom, sorry.
-/
import Derived.Test.YtdnafbfmaphhhaaGreatDoorChecked
import GoSem.PinnedTables
import GoSem.Claim
import GoSem.ClaimJoined
import GoSem.ClaimMapViews
import Derived.JoinedTies
import Derived.KernelRfl
namespace Go.Proofs.YtdnafbfmaphhhaaGreatDoor
/- THE CELL 'sum', in the pinned program and in every row, IS THE sha256 OF THE DUMP (.gsa) THAT YtdnafbfmaphhhaaGreatDoorProg.lean LOADS. Nothing in Lean hashes anything: it is a label: what it is worth is what the hold of that sum in a sandbox is worth. -/
noncomputable def Tryz.pinned : Pinned := { name := "ytdnafbfmaphhhaagreatdoor", sum := "6a857182c98fb91726aaf89421d50c129a5252dec24d148213aeb96443e54531", checked := Tryz.checked }
namespace Rows
def none {H : Type} : Left H := { results := [], args := [] }

/- WHAT THE LISTED PACKAGE-LEVEL VARIABLES READ AS WHEN THE CALL BEGINS. Each datum BY PROGRAM (the guide's laid-datum.mjs) off the statement by which the dump's own 'gosem.cut.vars' lays the variable. In a bare row this is a premise. The card (YtdnafbfmaphhhaaGreatDoorCards.lean) ties it to the program's text. -/
def laid_unicode_utf8_acceptRanges {H : Type} : DataW H := .agg [.agg [.lit (.int .u8 128), .lit (.int .u8 191)], .agg [.lit (.int .u8 160), .lit (.int .u8 191)], .agg [.lit (.int .u8 128), .lit (.int .u8 159)], .agg [.lit (.int .u8 144), .lit (.int .u8 191)], .agg [.lit (.int .u8 128), .lit (.int .u8 143)], .agg [.lit (.int .u8 0), .lit (.int .u8 0)], .agg [.lit (.int .u8 0), .lit (.int .u8 0)], .agg [.lit (.int .u8 0), .lit (.int .u8 0)], .agg [.lit (.int .u8 0), .lit (.int .u8 0)], .agg [.lit (.int .u8 0), .lit (.int .u8 0)], .agg [.lit (.int .u8 0), .lit (.int .u8 0)], .agg [.lit (.int .u8 0), .lit (.int .u8 0)], .agg [.lit (.int .u8 0), .lit (.int .u8 0)], .agg [.lit (.int .u8 0), .lit (.int .u8 0)], .agg [.lit (.int .u8 0), .lit (.int .u8 0)], .agg [.lit (.int .u8 0), .lit (.int .u8 0)]]
/-- One of Go's own tables, pinned by name: the form's constant. -/
def laid_unicode_utf8_first : DataW Unit := Go.Pinned.utf8First

/-- 'docstorelaw44.ReplicaAppends': WHATEVER THE INPUT: true; the input reads as it did. -/
def replicaAppendsSpec : ChangeSpec := { name := "replicaAppends", fn := fun _ => fun
  | [d1, d2] => { results := [.lit (.bool true)], args := [d1, d2] }
  | _ => none }
def replicaAppendsRow : OpenClaim := { program := "ytdnafbfmaphhhaagreatdoor", sum := "6a857182c98fb91726aaf89421d50c129a5252dec24d148213aeb96443e54531", func := "docstore/docstorelaw44.ReplicaAppends", spec := "replicaAppends", inPlace := ["internal/bytealg.abigen_runtime_cmpstring"], unfollowed := true, recurses := true, named := ["unicode/utf8.first", "unicode/utf8.acceptRanges"], loops := true, apart := false, laid := [("unicode/utf8.acceptRanges", laid_unicode_utf8_acceptRanges), ("unicode/utf8.first", laid_unicode_utf8_first)] }
def ReplicaAppendsSaid : Prop := replicaAppendsRow.holds Tryz.pinned (OpenSpec.ofChange replicaAppendsSpec)

/-- ITS FALSE NEIGHBOUR: 'it returns false'. Refute it at one input. -/
def replicaAppendsWrong : ChangeSpec := { name := "replicaAppends", fn := fun _ => fun
  | [d1, d2] => { results := [.lit (.bool false)], args := [d1, d2] }
  | _ => none }
def ReplicaAppendsWrongFalsely : Prop := replicaAppendsRow.holds Tryz.pinned (OpenSpec.ofChange replicaAppendsWrong)

/-- 'docstorelaw44.ReplicaReceives': WHATEVER THE INPUT: true; the input reads as it did. -/
def replicaReceivesSpec : ChangeSpec := { name := "replicaReceives", fn := fun _ => fun
  | [d1, d2] => { results := [.lit (.bool true)], args := [d1, d2] }
  | _ => none }
def replicaReceivesRow : OpenClaim := { program := "ytdnafbfmaphhhaagreatdoor", sum := "6a857182c98fb91726aaf89421d50c129a5252dec24d148213aeb96443e54531", func := "docstore/docstorelaw44.ReplicaReceives", spec := "replicaReceives", inPlace := ["internal/bytealg.abigen_runtime_cmpstring"], unfollowed := true, recurses := true, named := ["unicode/utf8.first", "unicode/utf8.acceptRanges"], loops := true, apart := false, laid := [("unicode/utf8.acceptRanges", laid_unicode_utf8_acceptRanges), ("unicode/utf8.first", laid_unicode_utf8_first)] }
def ReplicaReceivesSaid : Prop := replicaReceivesRow.holds Tryz.pinned (OpenSpec.ofChange replicaReceivesSpec)

/-- ITS FALSE NEIGHBOUR: 'it returns false'. Refute it at one input. -/
def replicaReceivesWrong : ChangeSpec := { name := "replicaReceives", fn := fun _ => fun
  | [d1, d2] => { results := [.lit (.bool false)], args := [d1, d2] }
  | _ => none }
def ReplicaReceivesWrongFalsely : Prop := replicaReceivesRow.holds Tryz.pinned (OpenSpec.ofChange replicaReceivesWrong)

/-- 'docstorelaw44.ReplicaTicks': WHATEVER THE INPUT: true; the input reads as it did. -/
def replicaTicksSpec : ChangeSpec := { name := "replicaTicks", fn := fun _ => fun
  | [d] => { results := [.lit (.bool true)], args := [d] }
  | _ => none }
def replicaTicksRow : OpenClaim := { program := "ytdnafbfmaphhhaagreatdoor", sum := "6a857182c98fb91726aaf89421d50c129a5252dec24d148213aeb96443e54531", func := "docstore/docstorelaw44.ReplicaTicks", spec := "replicaTicks", inPlace := ["internal/bytealg.abigen_runtime_cmpstring"], unfollowed := true, recurses := true, named := ["unicode/utf8.first", "unicode/utf8.acceptRanges"], loops := true, apart := false, laid := [("unicode/utf8.acceptRanges", laid_unicode_utf8_acceptRanges), ("unicode/utf8.first", laid_unicode_utf8_first)] }
def ReplicaTicksSaid : Prop := replicaTicksRow.holds Tryz.pinned (OpenSpec.ofChange replicaTicksSpec)

/-- ITS FALSE NEIGHBOUR: 'it returns false'. Refute it at one input. -/
def replicaTicksWrong : ChangeSpec := { name := "replicaTicks", fn := fun _ => fun
  | [d] => { results := [.lit (.bool false)], args := [d] }
  | _ => none }
def ReplicaTicksWrongFalsely : Prop := replicaTicksRow.holds Tryz.pinned (OpenSpec.ofChange replicaTicksWrong)

/-- 'docstorelaw44.ReplicaBeats': WHATEVER THE INPUT: true; the input reads as it did. -/
def replicaBeatsSpec : ChangeSpec := { name := "replicaBeats", fn := fun _ => fun
  | [d] => { results := [.lit (.bool true)], args := [d] }
  | _ => none }
def replicaBeatsRow : OpenClaim := { program := "ytdnafbfmaphhhaagreatdoor", sum := "6a857182c98fb91726aaf89421d50c129a5252dec24d148213aeb96443e54531", func := "docstore/docstorelaw44.ReplicaBeats", spec := "replicaBeats", inPlace := ["internal/bytealg.abigen_runtime_cmpstring"], unfollowed := true, recurses := true, named := ["unicode/utf8.first", "unicode/utf8.acceptRanges"], loops := true, apart := false, laid := [("unicode/utf8.acceptRanges", laid_unicode_utf8_acceptRanges), ("unicode/utf8.first", laid_unicode_utf8_first)] }
def ReplicaBeatsSaid : Prop := replicaBeatsRow.holds Tryz.pinned (OpenSpec.ofChange replicaBeatsSpec)

/-- ITS FALSE NEIGHBOUR: 'it returns false'. Refute it at one input. -/
def replicaBeatsWrong : ChangeSpec := { name := "replicaBeats", fn := fun _ => fun
  | [d] => { results := [.lit (.bool false)], args := [d] }
  | _ => none }
def ReplicaBeatsWrongFalsely : Prop := replicaBeatsRow.holds Tryz.pinned (OpenSpec.ofChange replicaBeatsWrong)

/-- 'docstorelaw44.ReplicaEntries': WHATEVER THE INPUT: true; the input reads as it did. -/
def replicaEntriesSpec : ChangeSpec := { name := "replicaEntries", fn := fun _ => fun
  | [d1, d2] => { results := [.lit (.bool true)], args := [d1, d2] }
  | _ => none }
def replicaEntriesRow : OpenClaim := { program := "ytdnafbfmaphhhaagreatdoor", sum := "6a857182c98fb91726aaf89421d50c129a5252dec24d148213aeb96443e54531", func := "docstore/docstorelaw44.ReplicaEntries", spec := "replicaEntries", inPlace := ["internal/bytealg.abigen_runtime_cmpstring"], unfollowed := true, recurses := true, named := ["unicode/utf8.first", "unicode/utf8.acceptRanges"], loops := true, apart := false, laid := [("unicode/utf8.acceptRanges", laid_unicode_utf8_acceptRanges), ("unicode/utf8.first", laid_unicode_utf8_first)] }
def ReplicaEntriesSaid : Prop := replicaEntriesRow.holds Tryz.pinned (OpenSpec.ofChange replicaEntriesSpec)

/-- ITS FALSE NEIGHBOUR: 'it returns false'. Refute it at one input. -/
def replicaEntriesWrong : ChangeSpec := { name := "replicaEntries", fn := fun _ => fun
  | [d1, d2] => { results := [.lit (.bool false)], args := [d1, d2] }
  | _ => none }
def ReplicaEntriesWrongFalsely : Prop := replicaEntriesRow.holds Tryz.pinned (OpenSpec.ofChange replicaEntriesWrong)

/-- 'docstorelaw44.ReplicaKeeps': WHATEVER THE INPUT: true; the input reads as it did. -/
def replicaKeepsSpec : ChangeSpec := { name := "replicaKeeps", fn := fun _ => fun
  | [d1, d2] => { results := [.lit (.bool true)], args := [d1, d2] }
  | _ => none }
def replicaKeepsRow : OpenClaim := { program := "ytdnafbfmaphhhaagreatdoor", sum := "6a857182c98fb91726aaf89421d50c129a5252dec24d148213aeb96443e54531", func := "docstore/docstorelaw44.ReplicaKeeps", spec := "replicaKeeps", inPlace := ["internal/bytealg.abigen_runtime_cmpstring"], unfollowed := true, recurses := true, named := ["unicode/utf8.first", "unicode/utf8.acceptRanges"], loops := true, apart := false, laid := [("unicode/utf8.acceptRanges", laid_unicode_utf8_acceptRanges), ("unicode/utf8.first", laid_unicode_utf8_first)] }
def ReplicaKeepsSaid : Prop := replicaKeepsRow.holds Tryz.pinned (OpenSpec.ofChange replicaKeepsSpec)

/-- ITS FALSE NEIGHBOUR: 'it returns false'. Refute it at one input. -/
def replicaKeepsWrong : ChangeSpec := { name := "replicaKeeps", fn := fun _ => fun
  | [d1, d2] => { results := [.lit (.bool false)], args := [d1, d2] }
  | _ => none }
def ReplicaKeepsWrongFalsely : Prop := replicaKeepsRow.holds Tryz.pinned (OpenSpec.ofChange replicaKeepsWrong)

/-- 'docstorelaw44.ReplicaSafe': WHATEVER THE INPUT: true; the input reads as it did. -/
def replicaSafeSpec : ChangeSpec := { name := "replicaSafe", fn := fun _ => fun
  | [d1, d2] => { results := [.lit (.bool true)], args := [d1, d2] }
  | _ => none }
def replicaSafeRow : OpenClaim := { program := "ytdnafbfmaphhhaagreatdoor", sum := "6a857182c98fb91726aaf89421d50c129a5252dec24d148213aeb96443e54531", func := "docstore/docstorelaw44.ReplicaSafe", spec := "replicaSafe", inPlace := ["internal/bytealg.abigen_runtime_cmpstring"], unfollowed := true, recurses := true, named := ["unicode/utf8.first", "unicode/utf8.acceptRanges"], apart := false, laid := [("unicode/utf8.acceptRanges", laid_unicode_utf8_acceptRanges), ("unicode/utf8.first", laid_unicode_utf8_first)] }
def ReplicaSafeSaid : Prop := replicaSafeRow.holds Tryz.pinned (OpenSpec.ofChange replicaSafeSpec)

/-- ITS FALSE NEIGHBOUR: 'it returns false'. Refute it at one input. -/
def replicaSafeWrong : ChangeSpec := { name := "replicaSafe", fn := fun _ => fun
  | [d1, d2] => { results := [.lit (.bool false)], args := [d1, d2] }
  | _ => none }
def ReplicaSafeWrongFalsely : Prop := replicaSafeRow.holds Tryz.pinned (OpenSpec.ofChange replicaSafeWrong)

/- THE SECOND FORM. 'bulk': how many values and letters a reading holds, each counted each time it is reached (what is shared counts as often as it is met; a slice's spare places count too). A statement '..UptoSaid' is the law's where the arguments, and the package variables that the reading takes, are together of bulk at most 1048576: NARROWER than '..Said'. Prove '..Said' where nothing that the law and all that it calls make is longer than what came in: it says more and counts as full. Else prove '..UptoSaid'. A law counts once. -/
mutual
def uptoBulk {H : Type} : DataW H → Nat
  | .lit (.string bytes) => bytes.length + 1
  | .lit _ => 1
  | .nil => 1
  | .ptr d => uptoBulk d + 1
  | .slice elems spare => uptoBulkAll elems + uptoBulkAll spare + 1
  | .agg parts => uptoBulkAll parts + 1
  | .iface _ d => uptoBulk d + 1
  | .map entries => uptoBulkEntries entries + 1
  | .held _ => 1
def uptoBulkAll {H : Type} : List (DataW H) → Nat
  | [] => 0
  | d :: r => uptoBulk d + uptoBulkAll r
def uptoBulkEntries {H : Type} : List (Lit × DataW H) → Nat
  | [] => 0
  | x :: r => uptoBulkEntry x + uptoBulkEntries r
def uptoBulkEntry {H : Type} : Lit × DataW H → Nat
  | (.string bytes, d) => bytes.length + uptoBulk d + 1
  | (_, d) => uptoBulk d + 1
 end
def uptoSmall : (H : Type) → List (DataW H) → Bool := fun _ ds => decide (uptoBulkAll ds ≤ 1048576)
def OpenSpec.upto (s : _root_.Go.ChangeSpec) : _root_.Go.OpenSpec := { _root_.Go.OpenSpec.ofChange s with cond := some uptoSmall }

/-- 'docstorelaw44.ReplicaAppends', WHERE WHAT IT READS IS OF BULK AT MOST 1048576: true; the input reads as it did. -/
def replicaAppendsUptoRow : OpenClaim := { program := "ytdnafbfmaphhhaagreatdoor", sum := "6a857182c98fb91726aaf89421d50c129a5252dec24d148213aeb96443e54531", func := "docstore/docstorelaw44.ReplicaAppends", spec := "replicaAppends", inPlace := ["internal/bytealg.abigen_runtime_cmpstring"], unfollowed := true, recurses := true, named := ["unicode/utf8.first", "unicode/utf8.acceptRanges"], loops := true, apart := false, laid := [("unicode/utf8.acceptRanges", laid_unicode_utf8_acceptRanges), ("unicode/utf8.first", laid_unicode_utf8_first)], narrowed := true }
def ReplicaAppendsUptoSaid : Prop := replicaAppendsUptoRow.holds Tryz.pinned (OpenSpec.upto replicaAppendsSpec)

/-- 'docstorelaw44.ReplicaReceives', WHERE WHAT IT READS IS OF BULK AT MOST 1048576: true; the input reads as it did. -/
def replicaReceivesUptoRow : OpenClaim := { program := "ytdnafbfmaphhhaagreatdoor", sum := "6a857182c98fb91726aaf89421d50c129a5252dec24d148213aeb96443e54531", func := "docstore/docstorelaw44.ReplicaReceives", spec := "replicaReceives", inPlace := ["internal/bytealg.abigen_runtime_cmpstring"], unfollowed := true, recurses := true, named := ["unicode/utf8.first", "unicode/utf8.acceptRanges"], loops := true, apart := false, laid := [("unicode/utf8.acceptRanges", laid_unicode_utf8_acceptRanges), ("unicode/utf8.first", laid_unicode_utf8_first)], narrowed := true }
def ReplicaReceivesUptoSaid : Prop := replicaReceivesUptoRow.holds Tryz.pinned (OpenSpec.upto replicaReceivesSpec)

/-- 'docstorelaw44.ReplicaTicks', WHERE WHAT IT READS IS OF BULK AT MOST 1048576: true; the input reads as it did. -/
def replicaTicksUptoRow : OpenClaim := { program := "ytdnafbfmaphhhaagreatdoor", sum := "6a857182c98fb91726aaf89421d50c129a5252dec24d148213aeb96443e54531", func := "docstore/docstorelaw44.ReplicaTicks", spec := "replicaTicks", inPlace := ["internal/bytealg.abigen_runtime_cmpstring"], unfollowed := true, recurses := true, named := ["unicode/utf8.first", "unicode/utf8.acceptRanges"], loops := true, apart := false, laid := [("unicode/utf8.acceptRanges", laid_unicode_utf8_acceptRanges), ("unicode/utf8.first", laid_unicode_utf8_first)], narrowed := true }
def ReplicaTicksUptoSaid : Prop := replicaTicksUptoRow.holds Tryz.pinned (OpenSpec.upto replicaTicksSpec)

/-- 'docstorelaw44.ReplicaBeats', WHERE WHAT IT READS IS OF BULK AT MOST 1048576: true; the input reads as it did. -/
def replicaBeatsUptoRow : OpenClaim := { program := "ytdnafbfmaphhhaagreatdoor", sum := "6a857182c98fb91726aaf89421d50c129a5252dec24d148213aeb96443e54531", func := "docstore/docstorelaw44.ReplicaBeats", spec := "replicaBeats", inPlace := ["internal/bytealg.abigen_runtime_cmpstring"], unfollowed := true, recurses := true, named := ["unicode/utf8.first", "unicode/utf8.acceptRanges"], loops := true, apart := false, laid := [("unicode/utf8.acceptRanges", laid_unicode_utf8_acceptRanges), ("unicode/utf8.first", laid_unicode_utf8_first)], narrowed := true }
def ReplicaBeatsUptoSaid : Prop := replicaBeatsUptoRow.holds Tryz.pinned (OpenSpec.upto replicaBeatsSpec)

/-- 'docstorelaw44.ReplicaEntries', WHERE WHAT IT READS IS OF BULK AT MOST 1048576: true; the input reads as it did. -/
def replicaEntriesUptoRow : OpenClaim := { program := "ytdnafbfmaphhhaagreatdoor", sum := "6a857182c98fb91726aaf89421d50c129a5252dec24d148213aeb96443e54531", func := "docstore/docstorelaw44.ReplicaEntries", spec := "replicaEntries", inPlace := ["internal/bytealg.abigen_runtime_cmpstring"], unfollowed := true, recurses := true, named := ["unicode/utf8.first", "unicode/utf8.acceptRanges"], loops := true, apart := false, laid := [("unicode/utf8.acceptRanges", laid_unicode_utf8_acceptRanges), ("unicode/utf8.first", laid_unicode_utf8_first)], narrowed := true }
def ReplicaEntriesUptoSaid : Prop := replicaEntriesUptoRow.holds Tryz.pinned (OpenSpec.upto replicaEntriesSpec)

/-- 'docstorelaw44.ReplicaKeeps', WHERE WHAT IT READS IS OF BULK AT MOST 1048576: true; the input reads as it did. -/
def replicaKeepsUptoRow : OpenClaim := { program := "ytdnafbfmaphhhaagreatdoor", sum := "6a857182c98fb91726aaf89421d50c129a5252dec24d148213aeb96443e54531", func := "docstore/docstorelaw44.ReplicaKeeps", spec := "replicaKeeps", inPlace := ["internal/bytealg.abigen_runtime_cmpstring"], unfollowed := true, recurses := true, named := ["unicode/utf8.first", "unicode/utf8.acceptRanges"], loops := true, apart := false, laid := [("unicode/utf8.acceptRanges", laid_unicode_utf8_acceptRanges), ("unicode/utf8.first", laid_unicode_utf8_first)], narrowed := true }
def ReplicaKeepsUptoSaid : Prop := replicaKeepsUptoRow.holds Tryz.pinned (OpenSpec.upto replicaKeepsSpec)

/-- 'docstorelaw44.ReplicaSafe', WHERE WHAT IT READS IS OF BULK AT MOST 1048576: true; the input reads as it did. -/
def replicaSafeUptoRow : OpenClaim := { program := "ytdnafbfmaphhhaagreatdoor", sum := "6a857182c98fb91726aaf89421d50c129a5252dec24d148213aeb96443e54531", func := "docstore/docstorelaw44.ReplicaSafe", spec := "replicaSafe", inPlace := ["internal/bytealg.abigen_runtime_cmpstring"], unfollowed := true, recurses := true, named := ["unicode/utf8.first", "unicode/utf8.acceptRanges"], apart := false, laid := [("unicode/utf8.acceptRanges", laid_unicode_utf8_acceptRanges), ("unicode/utf8.first", laid_unicode_utf8_first)], narrowed := true }
def ReplicaSafeUptoSaid : Prop := replicaSafeUptoRow.holds Tryz.pinned (OpenSpec.upto replicaSafeSpec)

end Rows
end Go.Proofs.YtdnafbfmaphhhaaGreatDoor
