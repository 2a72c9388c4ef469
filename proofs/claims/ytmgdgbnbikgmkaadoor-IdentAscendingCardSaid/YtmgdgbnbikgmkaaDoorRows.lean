/-
  NARROWER THAN 'FOR EVERY INPUT', by the rows' own cells (each row's printed sentence says how): IdentNew: laid · IdentText: loops, laid · IdentSource: laid · IdentBack: laid · IdentOrder: laid · IdentAscending: laid.
  DERIVED. THE GIVEN ROWS OF THIS SEAT. 6 by the template 'for every input the law returns true; each argument reads behind the call as it read before'; 0 by the template 'total and deterministic' (their statements: YtmgdgbnbikgmkaaDoorTotals.lean).
  GIVEN WITH THE SEED: the statements are not yours to turn. If you find one false, say at which input.
  Laid BY PROGRAM, IN A SANDBOX (cutbox-rows.mjs): the forced cells as the released guide's own fill.sh prints them over the translation f1ef2e872cd04925… (all of the seat's roots in one cut). By AI agents, Wed Nov 11 2026. No macro, syntax, notation, axiom, sorry.
-/
import Derived.Test.YtmgdgbnbikgmkaaDoorChecked
import GoSem.PinnedTables
import GoSem.Claim
import GoSem.ClaimJoined
import GoSem.ClaimMapViews
import Derived.JoinedTies
import Derived.KernelRfl
namespace Go.Proofs.YtmgdgbnbikgmkaaDoor
/- THE CELL 'sum', in the pinned program and in every row, IS THE sha256 OF THE DUMP (.gsa) THAT YtmgdgbnbikgmkaaDoorProg.lean LOADS. Nothing in Lean hashes anything: it is a label: what it is worth is what the hold of that sum in a sandbox is worth. -/
noncomputable def Tryd.pinned : Pinned := { name := "ytmgdgbnbikgmkaadoor", sum := "f1ef2e872cd049257b656336974a5cc617a55fa4d7bd284c7fd8d8572cc9d3b1", checked := Tryd.checked }
namespace Rows
def none {H : Type} : Left H := { results := [], args := [] }

/- WHAT THE LISTED PACKAGE-LEVEL VARIABLES READ AS WHEN THE CALL BEGINS. Each datum BY PROGRAM (the guide's laid-datum.mjs) off the statement by which the dump's own 'gosem.cut.vars' lays the variable. In a bare row this is a premise. The card (YtmgdgbnbikgmkaaDoorCards.lean) ties it to the program's text. -/
def laid_unicode_utf8_acceptRanges {H : Type} : DataW H := .agg [.agg [.lit (.int .u8 128), .lit (.int .u8 191)], .agg [.lit (.int .u8 160), .lit (.int .u8 191)], .agg [.lit (.int .u8 128), .lit (.int .u8 159)], .agg [.lit (.int .u8 144), .lit (.int .u8 191)], .agg [.lit (.int .u8 128), .lit (.int .u8 143)], .agg [.lit (.int .u8 0), .lit (.int .u8 0)], .agg [.lit (.int .u8 0), .lit (.int .u8 0)], .agg [.lit (.int .u8 0), .lit (.int .u8 0)], .agg [.lit (.int .u8 0), .lit (.int .u8 0)], .agg [.lit (.int .u8 0), .lit (.int .u8 0)], .agg [.lit (.int .u8 0), .lit (.int .u8 0)], .agg [.lit (.int .u8 0), .lit (.int .u8 0)], .agg [.lit (.int .u8 0), .lit (.int .u8 0)], .agg [.lit (.int .u8 0), .lit (.int .u8 0)], .agg [.lit (.int .u8 0), .lit (.int .u8 0)], .agg [.lit (.int .u8 0), .lit (.int .u8 0)]]
/-- One of Go's own tables, pinned by name: the form's constant. -/
def laid_unicode_utf8_first : DataW Unit := Go.Pinned.utf8First

/-- 'docstorelaw06.IdentNew': WHATEVER THE INPUT: true; the input reads as it did. -/
def identNewSpec : ChangeSpec := { name := "identNew", fn := fun _ => fun
  | [d1, d2, d3] => { results := [.lit (.bool true)], args := [d1, d2, d3] }
  | _ => none }
def identNewRow : OpenClaim := { program := "ytmgdgbnbikgmkaadoor", sum := "f1ef2e872cd049257b656336974a5cc617a55fa4d7bd284c7fd8d8572cc9d3b1", func := "docstore/docstorelaw06.IdentNew", spec := "identNew", unfollowed := true, recurses := true, named := ["unicode/utf8.first", "unicode/utf8.acceptRanges"], apart := false, laid := [("unicode/utf8.acceptRanges", laid_unicode_utf8_acceptRanges), ("unicode/utf8.first", laid_unicode_utf8_first)] }
def IdentNewSaid : Prop := identNewRow.holds Tryd.pinned (OpenSpec.ofChange identNewSpec)

/-- ITS FALSE NEIGHBOUR: 'it returns false'. Refute it at one input. -/
def identNewWrong : ChangeSpec := { name := "identNew", fn := fun _ => fun
  | [d1, d2, d3] => { results := [.lit (.bool false)], args := [d1, d2, d3] }
  | _ => none }
def IdentNewWrongFalsely : Prop := identNewRow.holds Tryd.pinned (OpenSpec.ofChange identNewWrong)

/-- 'docstorelaw06.IdentText': WHATEVER THE INPUT: true; the input reads as it did. -/
def identTextSpec : ChangeSpec := { name := "identText", fn := fun _ => fun
  | [d1, d2] => { results := [.lit (.bool true)], args := [d1, d2] }
  | _ => none }
def identTextRow : OpenClaim := { program := "ytmgdgbnbikgmkaadoor", sum := "f1ef2e872cd049257b656336974a5cc617a55fa4d7bd284c7fd8d8572cc9d3b1", func := "docstore/docstorelaw06.IdentText", spec := "identText", unfollowed := true, recurses := true, named := ["unicode/utf8.first", "unicode/utf8.acceptRanges"], loops := true, apart := false, laid := [("unicode/utf8.acceptRanges", laid_unicode_utf8_acceptRanges), ("unicode/utf8.first", laid_unicode_utf8_first)] }
def IdentTextSaid : Prop := identTextRow.holds Tryd.pinned (OpenSpec.ofChange identTextSpec)

/-- ITS FALSE NEIGHBOUR: 'it returns false'. Refute it at one input. -/
def identTextWrong : ChangeSpec := { name := "identText", fn := fun _ => fun
  | [d1, d2] => { results := [.lit (.bool false)], args := [d1, d2] }
  | _ => none }
def IdentTextWrongFalsely : Prop := identTextRow.holds Tryd.pinned (OpenSpec.ofChange identTextWrong)

/-- 'docstorelaw06.IdentSource': WHATEVER THE INPUT: true; the input reads as it did. -/
def identSourceSpec : ChangeSpec := { name := "identSource", fn := fun _ => fun
  | [d1, d2] => { results := [.lit (.bool true)], args := [d1, d2] }
  | _ => none }
def identSourceRow : OpenClaim := { program := "ytmgdgbnbikgmkaadoor", sum := "f1ef2e872cd049257b656336974a5cc617a55fa4d7bd284c7fd8d8572cc9d3b1", func := "docstore/docstorelaw06.IdentSource", spec := "identSource", unfollowed := true, recurses := true, named := ["unicode/utf8.first", "unicode/utf8.acceptRanges"], apart := false, laid := [("unicode/utf8.acceptRanges", laid_unicode_utf8_acceptRanges), ("unicode/utf8.first", laid_unicode_utf8_first)] }
def IdentSourceSaid : Prop := identSourceRow.holds Tryd.pinned (OpenSpec.ofChange identSourceSpec)

/-- ITS FALSE NEIGHBOUR: 'it returns false'. Refute it at one input. -/
def identSourceWrong : ChangeSpec := { name := "identSource", fn := fun _ => fun
  | [d1, d2] => { results := [.lit (.bool false)], args := [d1, d2] }
  | _ => none }
def IdentSourceWrongFalsely : Prop := identSourceRow.holds Tryd.pinned (OpenSpec.ofChange identSourceWrong)

/-- 'docstorelaw06.IdentBack': WHATEVER THE INPUT: true; the input reads as it did. -/
def identBackSpec : ChangeSpec := { name := "identBack", fn := fun _ => fun
  | [d] => { results := [.lit (.bool true)], args := [d] }
  | _ => none }
def identBackRow : OpenClaim := { program := "ytmgdgbnbikgmkaadoor", sum := "f1ef2e872cd049257b656336974a5cc617a55fa4d7bd284c7fd8d8572cc9d3b1", func := "docstore/docstorelaw06.IdentBack", spec := "identBack", unfollowed := true, recurses := true, named := ["unicode/utf8.first", "unicode/utf8.acceptRanges"], apart := false, laid := [("unicode/utf8.acceptRanges", laid_unicode_utf8_acceptRanges), ("unicode/utf8.first", laid_unicode_utf8_first)] }
def IdentBackSaid : Prop := identBackRow.holds Tryd.pinned (OpenSpec.ofChange identBackSpec)

/-- ITS FALSE NEIGHBOUR: 'it returns false'. Refute it at one input. -/
def identBackWrong : ChangeSpec := { name := "identBack", fn := fun _ => fun
  | [d] => { results := [.lit (.bool false)], args := [d] }
  | _ => none }
def IdentBackWrongFalsely : Prop := identBackRow.holds Tryd.pinned (OpenSpec.ofChange identBackWrong)

/-- 'docstorelaw06.IdentOrder': WHATEVER THE INPUT: true; the input reads as it did. -/
def identOrderSpec : ChangeSpec := { name := "identOrder", fn := fun _ => fun
  | [d1, d2] => { results := [.lit (.bool true)], args := [d1, d2] }
  | _ => none }
def identOrderRow : OpenClaim := { program := "ytmgdgbnbikgmkaadoor", sum := "f1ef2e872cd049257b656336974a5cc617a55fa4d7bd284c7fd8d8572cc9d3b1", func := "docstore/docstorelaw06.IdentOrder", spec := "identOrder", unfollowed := true, recurses := true, named := ["unicode/utf8.first", "unicode/utf8.acceptRanges"], apart := false, laid := [("unicode/utf8.acceptRanges", laid_unicode_utf8_acceptRanges), ("unicode/utf8.first", laid_unicode_utf8_first)] }
def IdentOrderSaid : Prop := identOrderRow.holds Tryd.pinned (OpenSpec.ofChange identOrderSpec)

/-- ITS FALSE NEIGHBOUR: 'it returns false'. Refute it at one input. -/
def identOrderWrong : ChangeSpec := { name := "identOrder", fn := fun _ => fun
  | [d1, d2] => { results := [.lit (.bool false)], args := [d1, d2] }
  | _ => none }
def IdentOrderWrongFalsely : Prop := identOrderRow.holds Tryd.pinned (OpenSpec.ofChange identOrderWrong)

/-- 'docstorelaw06.IdentAscending': WHATEVER THE INPUT: true; the input reads as it did. -/
def identAscendingSpec : ChangeSpec := { name := "identAscending", fn := fun _ => fun
  | [d1, d2] => { results := [.lit (.bool true)], args := [d1, d2] }
  | _ => none }
def identAscendingRow : OpenClaim := { program := "ytmgdgbnbikgmkaadoor", sum := "f1ef2e872cd049257b656336974a5cc617a55fa4d7bd284c7fd8d8572cc9d3b1", func := "docstore/docstorelaw06.IdentAscending", spec := "identAscending", unfollowed := true, recurses := true, named := ["unicode/utf8.first", "unicode/utf8.acceptRanges"], apart := false, laid := [("unicode/utf8.acceptRanges", laid_unicode_utf8_acceptRanges), ("unicode/utf8.first", laid_unicode_utf8_first)] }
def IdentAscendingSaid : Prop := identAscendingRow.holds Tryd.pinned (OpenSpec.ofChange identAscendingSpec)

/-- ITS FALSE NEIGHBOUR: 'it returns false'. Refute it at one input. -/
def identAscendingWrong : ChangeSpec := { name := "identAscending", fn := fun _ => fun
  | [d1, d2] => { results := [.lit (.bool false)], args := [d1, d2] }
  | _ => none }
def IdentAscendingWrongFalsely : Prop := identAscendingRow.holds Tryd.pinned (OpenSpec.ofChange identAscendingWrong)

/- THE SECOND FORM. 'bulk': how many values and letters a reading holds, each counted each time it is reached (what is shared counts as often as it is met; a slice's spare places count too). A statement '..UptoSaid' is the law's where the arguments, and the package variables that the reading takes, are together of bulk at most 1048576: NARROWER than '..Said'. Prove '..Said' where nothing that the law and all that it calls make is longer than what came in: it says more and counts as full. Else prove '..UptoSaid'. A law counts once. -/
mutual
def uptoBulk {H : Type} : DataW H → Nat
  | .lit (.string bytes) => bytes.length + 1
  | .lit _ => 1
  | .nil => 1
  | .ptr d => uptoBulk d + 1
  | .slice elems spare => uptoBulkAll elems + uptoBulkAll spare + 1
  | .agg parts => uptoBulkAll parts + 1
  | .iface _ d => uptoBulk d + 1
  | .map entries => uptoBulkEntries entries + 1
  | .held _ => 1
def uptoBulkAll {H : Type} : List (DataW H) → Nat
  | [] => 0
  | d :: r => uptoBulk d + uptoBulkAll r
def uptoBulkEntries {H : Type} : List (Lit × DataW H) → Nat
  | [] => 0
  | x :: r => uptoBulkEntry x + uptoBulkEntries r
def uptoBulkEntry {H : Type} : Lit × DataW H → Nat
  | (.string bytes, d) => bytes.length + uptoBulk d + 1
  | (_, d) => uptoBulk d + 1
 end
def uptoSmall : (H : Type) → List (DataW H) → Bool := fun _ ds => decide (uptoBulkAll ds ≤ 1048576)
def OpenSpec.upto (s : _root_.Go.ChangeSpec) : _root_.Go.OpenSpec := { _root_.Go.OpenSpec.ofChange s with cond := some uptoSmall }

/-- 'docstorelaw06.IdentNew', WHERE WHAT IT READS IS OF BULK AT MOST 1048576: true; the input reads as it did. -/
def identNewUptoRow : OpenClaim := { program := "ytmgdgbnbikgmkaadoor", sum := "f1ef2e872cd049257b656336974a5cc617a55fa4d7bd284c7fd8d8572cc9d3b1", func := "docstore/docstorelaw06.IdentNew", spec := "identNew", unfollowed := true, recurses := true, named := ["unicode/utf8.first", "unicode/utf8.acceptRanges"], apart := false, laid := [("unicode/utf8.acceptRanges", laid_unicode_utf8_acceptRanges), ("unicode/utf8.first", laid_unicode_utf8_first)], narrowed := true }
def IdentNewUptoSaid : Prop := identNewUptoRow.holds Tryd.pinned (OpenSpec.upto identNewSpec)

/-- 'docstorelaw06.IdentText', WHERE WHAT IT READS IS OF BULK AT MOST 1048576: true; the input reads as it did. -/
def identTextUptoRow : OpenClaim := { program := "ytmgdgbnbikgmkaadoor", sum := "f1ef2e872cd049257b656336974a5cc617a55fa4d7bd284c7fd8d8572cc9d3b1", func := "docstore/docstorelaw06.IdentText", spec := "identText", unfollowed := true, recurses := true, named := ["unicode/utf8.first", "unicode/utf8.acceptRanges"], loops := true, apart := false, laid := [("unicode/utf8.acceptRanges", laid_unicode_utf8_acceptRanges), ("unicode/utf8.first", laid_unicode_utf8_first)], narrowed := true }
def IdentTextUptoSaid : Prop := identTextUptoRow.holds Tryd.pinned (OpenSpec.upto identTextSpec)

/-- 'docstorelaw06.IdentSource', WHERE WHAT IT READS IS OF BULK AT MOST 1048576: true; the input reads as it did. -/
def identSourceUptoRow : OpenClaim := { program := "ytmgdgbnbikgmkaadoor", sum := "f1ef2e872cd049257b656336974a5cc617a55fa4d7bd284c7fd8d8572cc9d3b1", func := "docstore/docstorelaw06.IdentSource", spec := "identSource", unfollowed := true, recurses := true, named := ["unicode/utf8.first", "unicode/utf8.acceptRanges"], apart := false, laid := [("unicode/utf8.acceptRanges", laid_unicode_utf8_acceptRanges), ("unicode/utf8.first", laid_unicode_utf8_first)], narrowed := true }
def IdentSourceUptoSaid : Prop := identSourceUptoRow.holds Tryd.pinned (OpenSpec.upto identSourceSpec)

/-- 'docstorelaw06.IdentBack', WHERE WHAT IT READS IS OF BULK AT MOST 1048576: true; the input reads as it did. -/
def identBackUptoRow : OpenClaim := { program := "ytmgdgbnbikgmkaadoor", sum := "f1ef2e872cd049257b656336974a5cc617a55fa4d7bd284c7fd8d8572cc9d3b1", func := "docstore/docstorelaw06.IdentBack", spec := "identBack", unfollowed := true, recurses := true, named := ["unicode/utf8.first", "unicode/utf8.acceptRanges"], apart := false, laid := [("unicode/utf8.acceptRanges", laid_unicode_utf8_acceptRanges), ("unicode/utf8.first", laid_unicode_utf8_first)], narrowed := true }
def IdentBackUptoSaid : Prop := identBackUptoRow.holds Tryd.pinned (OpenSpec.upto identBackSpec)

/-- 'docstorelaw06.IdentOrder', WHERE WHAT IT READS IS OF BULK AT MOST 1048576: true; the input reads as it did. -/
def identOrderUptoRow : OpenClaim := { program := "ytmgdgbnbikgmkaadoor", sum := "f1ef2e872cd049257b656336974a5cc617a55fa4d7bd284c7fd8d8572cc9d3b1", func := "docstore/docstorelaw06.IdentOrder", spec := "identOrder", unfollowed := true, recurses := true, named := ["unicode/utf8.first", "unicode/utf8.acceptRanges"], apart := false, laid := [("unicode/utf8.acceptRanges", laid_unicode_utf8_acceptRanges), ("unicode/utf8.first", laid_unicode_utf8_first)], narrowed := true }
def IdentOrderUptoSaid : Prop := identOrderUptoRow.holds Tryd.pinned (OpenSpec.upto identOrderSpec)

/-- 'docstorelaw06.IdentAscending', WHERE WHAT IT READS IS OF BULK AT MOST 1048576: true; the input reads as it did. -/
def identAscendingUptoRow : OpenClaim := { program := "ytmgdgbnbikgmkaadoor", sum := "f1ef2e872cd049257b656336974a5cc617a55fa4d7bd284c7fd8d8572cc9d3b1", func := "docstore/docstorelaw06.IdentAscending", spec := "identAscending", unfollowed := true, recurses := true, named := ["unicode/utf8.first", "unicode/utf8.acceptRanges"], apart := false, laid := [("unicode/utf8.acceptRanges", laid_unicode_utf8_acceptRanges), ("unicode/utf8.first", laid_unicode_utf8_first)], narrowed := true }
def IdentAscendingUptoSaid : Prop := identAscendingUptoRow.holds Tryd.pinned (OpenSpec.upto identAscendingSpec)

end Rows
end Go.Proofs.YtmgdgbnbikgmkaaDoor
