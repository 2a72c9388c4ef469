/-
  NARROWER THAN 'FOR EVERY INPUT', by the rows' own cells (each row's printed sentence says how): KeyencEncode: loops, laid · KeyencDecode: laid · KeyencBack: loops, laid · KeyencOnly: laid · KeyencAfter: laid · KeyencOrder: loops, laid · KeyencPrefix: loops, laid.
  DERIVED. THE GIVEN ROWS OF THIS SEAT. 7 by the template 'for every input the law returns true; each argument reads behind the call as it read before'; 0 by the template 'total and deterministic' (their statements: YtipphlhaaienpaaDoorTotals.lean).
  GIVEN WITH THE SEED: the statements are not yours to turn. If you find one false, say at which input.
  Laid BY PROGRAM, IN A SANDBOX (cutbox-rows.mjs): the forced cells as the released guide's own fill.sh prints them over the translation db9bb3eee7f224ab… (all of the seat's roots in one cut). By AI agents, Wed Nov 11 2026. No macro, syntax, notation, axiom, sorry.
-/
import Derived.Test.YtipphlhaaienpaaDoorChecked
import GoSem.PinnedTables
import GoSem.Claim
import GoSem.ClaimJoined
import GoSem.ClaimMapViews
import Derived.JoinedTies
import Derived.KernelRfl
namespace Go.Proofs.YtipphlhaaienpaaDoor
/- THE CELL 'sum', in the pinned program and in every row, IS THE sha256 OF THE DUMP (.gsa) THAT YtipphlhaaienpaaDoorProg.lean LOADS. Nothing in Lean hashes anything: it is a label: what it is worth is what the hold of that sum in a sandbox is worth. -/
noncomputable def Tryd.pinned : Pinned := { name := "ytipphlhaaienpaadoor", sum := "db9bb3eee7f224ab271460b507d74995083255389290a4409f678021cb14dd38", checked := Tryd.checked }
namespace Rows
def none {H : Type} : Left H := { results := [], args := [] }

/- WHAT THE LISTED PACKAGE-LEVEL VARIABLES READ AS WHEN THE CALL BEGINS. Each datum BY PROGRAM (the guide's laid-datum.mjs) off the statement by which the dump's own 'gosem.cut.vars' lays the variable. In a bare row this is a premise. The card (YtipphlhaaienpaaDoorCards.lean) ties it to the program's text. -/
def laid_unicode_utf8_acceptRanges {H : Type} : DataW H := .agg [.agg [.lit (.int .u8 128), .lit (.int .u8 191)], .agg [.lit (.int .u8 160), .lit (.int .u8 191)], .agg [.lit (.int .u8 128), .lit (.int .u8 159)], .agg [.lit (.int .u8 144), .lit (.int .u8 191)], .agg [.lit (.int .u8 128), .lit (.int .u8 143)], .agg [.lit (.int .u8 0), .lit (.int .u8 0)], .agg [.lit (.int .u8 0), .lit (.int .u8 0)], .agg [.lit (.int .u8 0), .lit (.int .u8 0)], .agg [.lit (.int .u8 0), .lit (.int .u8 0)], .agg [.lit (.int .u8 0), .lit (.int .u8 0)], .agg [.lit (.int .u8 0), .lit (.int .u8 0)], .agg [.lit (.int .u8 0), .lit (.int .u8 0)], .agg [.lit (.int .u8 0), .lit (.int .u8 0)], .agg [.lit (.int .u8 0), .lit (.int .u8 0)], .agg [.lit (.int .u8 0), .lit (.int .u8 0)], .agg [.lit (.int .u8 0), .lit (.int .u8 0)]]
/-- One of Go's own tables, pinned by name: the form's constant. -/
def laid_unicode_utf8_first : DataW Unit := Go.Pinned.utf8First

/-- 'docstorelaw03.KeyencEncode': WHATEVER THE INPUT: true; the input reads as it did. -/
def keyencEncodeSpec : ChangeSpec := { name := "keyencEncode", fn := fun _ => fun
  | [d1, d2] => { results := [.lit (.bool true)], args := [d1, d2] }
  | _ => none }
def keyencEncodeRow : OpenClaim := { program := "ytipphlhaaienpaadoor", sum := "db9bb3eee7f224ab271460b507d74995083255389290a4409f678021cb14dd38", func := "docstore/docstorelaw03.KeyencEncode", spec := "keyencEncode", unfollowed := true, recurses := true, named := ["unicode/utf8.first", "unicode/utf8.acceptRanges"], loops := true, apart := false, laid := [("unicode/utf8.acceptRanges", laid_unicode_utf8_acceptRanges), ("unicode/utf8.first", laid_unicode_utf8_first)] }
def KeyencEncodeSaid : Prop := keyencEncodeRow.holds Tryd.pinned (OpenSpec.ofChange keyencEncodeSpec)

/-- ITS FALSE NEIGHBOUR: 'it returns false'. Refute it at one input. -/
def keyencEncodeWrong : ChangeSpec := { name := "keyencEncode", fn := fun _ => fun
  | [d1, d2] => { results := [.lit (.bool false)], args := [d1, d2] }
  | _ => none }
def KeyencEncodeWrongFalsely : Prop := keyencEncodeRow.holds Tryd.pinned (OpenSpec.ofChange keyencEncodeWrong)

/-- 'docstorelaw03.KeyencDecode': WHATEVER THE INPUT: true; the input reads as it did. -/
def keyencDecodeSpec : ChangeSpec := { name := "keyencDecode", fn := fun _ => fun
  | [d1, d2] => { results := [.lit (.bool true)], args := [d1, d2] }
  | _ => none }
def keyencDecodeRow : OpenClaim := { program := "ytipphlhaaienpaadoor", sum := "db9bb3eee7f224ab271460b507d74995083255389290a4409f678021cb14dd38", func := "docstore/docstorelaw03.KeyencDecode", spec := "keyencDecode", unfollowed := true, recurses := true, named := ["unicode/utf8.first", "unicode/utf8.acceptRanges"], apart := false, laid := [("unicode/utf8.acceptRanges", laid_unicode_utf8_acceptRanges), ("unicode/utf8.first", laid_unicode_utf8_first)] }
def KeyencDecodeSaid : Prop := keyencDecodeRow.holds Tryd.pinned (OpenSpec.ofChange keyencDecodeSpec)

/-- ITS FALSE NEIGHBOUR: 'it returns false'. Refute it at one input. -/
def keyencDecodeWrong : ChangeSpec := { name := "keyencDecode", fn := fun _ => fun
  | [d1, d2] => { results := [.lit (.bool false)], args := [d1, d2] }
  | _ => none }
def KeyencDecodeWrongFalsely : Prop := keyencDecodeRow.holds Tryd.pinned (OpenSpec.ofChange keyencDecodeWrong)

/-- 'docstorelaw03.KeyencBack': WHATEVER THE INPUT: true; the input reads as it did. -/
def keyencBackSpec : ChangeSpec := { name := "keyencBack", fn := fun _ => fun
  | [d1, d2] => { results := [.lit (.bool true)], args := [d1, d2] }
  | _ => none }
def keyencBackRow : OpenClaim := { program := "ytipphlhaaienpaadoor", sum := "db9bb3eee7f224ab271460b507d74995083255389290a4409f678021cb14dd38", func := "docstore/docstorelaw03.KeyencBack", spec := "keyencBack", unfollowed := true, recurses := true, named := ["unicode/utf8.first", "unicode/utf8.acceptRanges"], loops := true, apart := false, laid := [("unicode/utf8.acceptRanges", laid_unicode_utf8_acceptRanges), ("unicode/utf8.first", laid_unicode_utf8_first)] }
def KeyencBackSaid : Prop := keyencBackRow.holds Tryd.pinned (OpenSpec.ofChange keyencBackSpec)

/-- ITS FALSE NEIGHBOUR: 'it returns false'. Refute it at one input. -/
def keyencBackWrong : ChangeSpec := { name := "keyencBack", fn := fun _ => fun
  | [d1, d2] => { results := [.lit (.bool false)], args := [d1, d2] }
  | _ => none }
def KeyencBackWrongFalsely : Prop := keyencBackRow.holds Tryd.pinned (OpenSpec.ofChange keyencBackWrong)

/-- 'docstorelaw03.KeyencOnly': WHATEVER THE INPUT: true; the input reads as it did. -/
def keyencOnlySpec : ChangeSpec := { name := "keyencOnly", fn := fun _ => fun
  | [d1, d2] => { results := [.lit (.bool true)], args := [d1, d2] }
  | _ => none }
def keyencOnlyRow : OpenClaim := { program := "ytipphlhaaienpaadoor", sum := "db9bb3eee7f224ab271460b507d74995083255389290a4409f678021cb14dd38", func := "docstore/docstorelaw03.KeyencOnly", spec := "keyencOnly", unfollowed := true, recurses := true, named := ["unicode/utf8.first", "unicode/utf8.acceptRanges"], apart := false, laid := [("unicode/utf8.acceptRanges", laid_unicode_utf8_acceptRanges), ("unicode/utf8.first", laid_unicode_utf8_first)] }
def KeyencOnlySaid : Prop := keyencOnlyRow.holds Tryd.pinned (OpenSpec.ofChange keyencOnlySpec)

/-- ITS FALSE NEIGHBOUR: 'it returns false'. Refute it at one input. -/
def keyencOnlyWrong : ChangeSpec := { name := "keyencOnly", fn := fun _ => fun
  | [d1, d2] => { results := [.lit (.bool false)], args := [d1, d2] }
  | _ => none }
def KeyencOnlyWrongFalsely : Prop := keyencOnlyRow.holds Tryd.pinned (OpenSpec.ofChange keyencOnlyWrong)

/-- 'docstorelaw03.KeyencAfter': WHATEVER THE INPUT: true; the input reads as it did. -/
def keyencAfterSpec : ChangeSpec := { name := "keyencAfter", fn := fun _ => fun
  | [d1, d2] => { results := [.lit (.bool true)], args := [d1, d2] }
  | _ => none }
def keyencAfterRow : OpenClaim := { program := "ytipphlhaaienpaadoor", sum := "db9bb3eee7f224ab271460b507d74995083255389290a4409f678021cb14dd38", func := "docstore/docstorelaw03.KeyencAfter", spec := "keyencAfter", unfollowed := true, recurses := true, named := ["unicode/utf8.first", "unicode/utf8.acceptRanges"], apart := false, laid := [("unicode/utf8.acceptRanges", laid_unicode_utf8_acceptRanges), ("unicode/utf8.first", laid_unicode_utf8_first)] }
def KeyencAfterSaid : Prop := keyencAfterRow.holds Tryd.pinned (OpenSpec.ofChange keyencAfterSpec)

/-- ITS FALSE NEIGHBOUR: 'it returns false'. Refute it at one input. -/
def keyencAfterWrong : ChangeSpec := { name := "keyencAfter", fn := fun _ => fun
  | [d1, d2] => { results := [.lit (.bool false)], args := [d1, d2] }
  | _ => none }
def KeyencAfterWrongFalsely : Prop := keyencAfterRow.holds Tryd.pinned (OpenSpec.ofChange keyencAfterWrong)

/-- 'docstorelaw03.KeyencOrder': WHATEVER THE INPUT: true; the input reads as it did. -/
def keyencOrderSpec : ChangeSpec := { name := "keyencOrder", fn := fun _ => fun
  | [d1, d2, d3] => { results := [.lit (.bool true)], args := [d1, d2, d3] }
  | _ => none }
def keyencOrderRow : OpenClaim := { program := "ytipphlhaaienpaadoor", sum := "db9bb3eee7f224ab271460b507d74995083255389290a4409f678021cb14dd38", func := "docstore/docstorelaw03.KeyencOrder", spec := "keyencOrder", inPlace := ["internal/bytealg.abigen_runtime_cmpstring"], unfollowed := true, recurses := true, named := ["unicode/utf8.first", "unicode/utf8.acceptRanges"], loops := true, apart := false, laid := [("unicode/utf8.acceptRanges", laid_unicode_utf8_acceptRanges), ("unicode/utf8.first", laid_unicode_utf8_first)] }
def KeyencOrderSaid : Prop := keyencOrderRow.holds Tryd.pinned (OpenSpec.ofChange keyencOrderSpec)

/-- ITS FALSE NEIGHBOUR: 'it returns false'. Refute it at one input. -/
def keyencOrderWrong : ChangeSpec := { name := "keyencOrder", fn := fun _ => fun
  | [d1, d2, d3] => { results := [.lit (.bool false)], args := [d1, d2, d3] }
  | _ => none }
def KeyencOrderWrongFalsely : Prop := keyencOrderRow.holds Tryd.pinned (OpenSpec.ofChange keyencOrderWrong)

/-- 'docstorelaw03.KeyencPrefix': WHATEVER THE INPUT: true; the input reads as it did. -/
def keyencPrefixSpec : ChangeSpec := { name := "keyencPrefix", fn := fun _ => fun
  | [d1, d2, d3, d4] => { results := [.lit (.bool true)], args := [d1, d2, d3, d4] }
  | _ => none }
def keyencPrefixRow : OpenClaim := { program := "ytipphlhaaienpaadoor", sum := "db9bb3eee7f224ab271460b507d74995083255389290a4409f678021cb14dd38", func := "docstore/docstorelaw03.KeyencPrefix", spec := "keyencPrefix", unfollowed := true, recurses := true, named := ["unicode/utf8.first", "unicode/utf8.acceptRanges"], loops := true, apart := false, laid := [("unicode/utf8.acceptRanges", laid_unicode_utf8_acceptRanges), ("unicode/utf8.first", laid_unicode_utf8_first)] }
def KeyencPrefixSaid : Prop := keyencPrefixRow.holds Tryd.pinned (OpenSpec.ofChange keyencPrefixSpec)

/-- ITS FALSE NEIGHBOUR: 'it returns false'. Refute it at one input. -/
def keyencPrefixWrong : ChangeSpec := { name := "keyencPrefix", fn := fun _ => fun
  | [d1, d2, d3, d4] => { results := [.lit (.bool false)], args := [d1, d2, d3, d4] }
  | _ => none }
def KeyencPrefixWrongFalsely : Prop := keyencPrefixRow.holds Tryd.pinned (OpenSpec.ofChange keyencPrefixWrong)

/- THE SECOND FORM. 'bulk': how many values and letters a reading holds, each counted each time it is reached (what is shared counts as often as it is met; a slice's spare places count too). A statement '..UptoSaid' is the law's where the arguments, and the package variables that the reading takes, are together of bulk at most 1048576: NARROWER than '..Said'. Prove '..Said' where nothing that the law and all that it calls make is longer than what came in: it says more and counts as full. Else prove '..UptoSaid'. A law counts once. -/
mutual
def uptoBulk {H : Type} : DataW H → Nat
  | .lit (.string bytes) => bytes.length + 1
  | .lit _ => 1
  | .nil => 1
  | .ptr d => uptoBulk d + 1
  | .slice elems spare => uptoBulkAll elems + uptoBulkAll spare + 1
  | .agg parts => uptoBulkAll parts + 1
  | .iface _ d => uptoBulk d + 1
  | .map entries => uptoBulkEntries entries + 1
  | .held _ => 1
def uptoBulkAll {H : Type} : List (DataW H) → Nat
  | [] => 0
  | d :: r => uptoBulk d + uptoBulkAll r
def uptoBulkEntries {H : Type} : List (Lit × DataW H) → Nat
  | [] => 0
  | x :: r => uptoBulkEntry x + uptoBulkEntries r
def uptoBulkEntry {H : Type} : Lit × DataW H → Nat
  | (.string bytes, d) => bytes.length + uptoBulk d + 1
  | (_, d) => uptoBulk d + 1
 end
def uptoSmall : (H : Type) → List (DataW H) → Bool := fun _ ds => decide (uptoBulkAll ds ≤ 1048576)
def OpenSpec.upto (s : _root_.Go.ChangeSpec) : _root_.Go.OpenSpec := { _root_.Go.OpenSpec.ofChange s with cond := some uptoSmall }

/-- 'docstorelaw03.KeyencEncode', WHERE WHAT IT READS IS OF BULK AT MOST 1048576: true; the input reads as it did. -/
def keyencEncodeUptoRow : OpenClaim := { program := "ytipphlhaaienpaadoor", sum := "db9bb3eee7f224ab271460b507d74995083255389290a4409f678021cb14dd38", func := "docstore/docstorelaw03.KeyencEncode", spec := "keyencEncode", unfollowed := true, recurses := true, named := ["unicode/utf8.first", "unicode/utf8.acceptRanges"], loops := true, apart := false, laid := [("unicode/utf8.acceptRanges", laid_unicode_utf8_acceptRanges), ("unicode/utf8.first", laid_unicode_utf8_first)], narrowed := true }
def KeyencEncodeUptoSaid : Prop := keyencEncodeUptoRow.holds Tryd.pinned (OpenSpec.upto keyencEncodeSpec)

/-- 'docstorelaw03.KeyencDecode', WHERE WHAT IT READS IS OF BULK AT MOST 1048576: true; the input reads as it did. -/
def keyencDecodeUptoRow : OpenClaim := { program := "ytipphlhaaienpaadoor", sum := "db9bb3eee7f224ab271460b507d74995083255389290a4409f678021cb14dd38", func := "docstore/docstorelaw03.KeyencDecode", spec := "keyencDecode", unfollowed := true, recurses := true, named := ["unicode/utf8.first", "unicode/utf8.acceptRanges"], apart := false, laid := [("unicode/utf8.acceptRanges", laid_unicode_utf8_acceptRanges), ("unicode/utf8.first", laid_unicode_utf8_first)], narrowed := true }
def KeyencDecodeUptoSaid : Prop := keyencDecodeUptoRow.holds Tryd.pinned (OpenSpec.upto keyencDecodeSpec)

/-- 'docstorelaw03.KeyencBack', WHERE WHAT IT READS IS OF BULK AT MOST 1048576: true; the input reads as it did. -/
def keyencBackUptoRow : OpenClaim := { program := "ytipphlhaaienpaadoor", sum := "db9bb3eee7f224ab271460b507d74995083255389290a4409f678021cb14dd38", func := "docstore/docstorelaw03.KeyencBack", spec := "keyencBack", unfollowed := true, recurses := true, named := ["unicode/utf8.first", "unicode/utf8.acceptRanges"], loops := true, apart := false, laid := [("unicode/utf8.acceptRanges", laid_unicode_utf8_acceptRanges), ("unicode/utf8.first", laid_unicode_utf8_first)], narrowed := true }
def KeyencBackUptoSaid : Prop := keyencBackUptoRow.holds Tryd.pinned (OpenSpec.upto keyencBackSpec)

/-- 'docstorelaw03.KeyencOnly', WHERE WHAT IT READS IS OF BULK AT MOST 1048576: true; the input reads as it did. -/
def keyencOnlyUptoRow : OpenClaim := { program := "ytipphlhaaienpaadoor", sum := "db9bb3eee7f224ab271460b507d74995083255389290a4409f678021cb14dd38", func := "docstore/docstorelaw03.KeyencOnly", spec := "keyencOnly", unfollowed := true, recurses := true, named := ["unicode/utf8.first", "unicode/utf8.acceptRanges"], apart := false, laid := [("unicode/utf8.acceptRanges", laid_unicode_utf8_acceptRanges), ("unicode/utf8.first", laid_unicode_utf8_first)], narrowed := true }
def KeyencOnlyUptoSaid : Prop := keyencOnlyUptoRow.holds Tryd.pinned (OpenSpec.upto keyencOnlySpec)

/-- 'docstorelaw03.KeyencAfter', WHERE WHAT IT READS IS OF BULK AT MOST 1048576: true; the input reads as it did. -/
def keyencAfterUptoRow : OpenClaim := { program := "ytipphlhaaienpaadoor", sum := "db9bb3eee7f224ab271460b507d74995083255389290a4409f678021cb14dd38", func := "docstore/docstorelaw03.KeyencAfter", spec := "keyencAfter", unfollowed := true, recurses := true, named := ["unicode/utf8.first", "unicode/utf8.acceptRanges"], apart := false, laid := [("unicode/utf8.acceptRanges", laid_unicode_utf8_acceptRanges), ("unicode/utf8.first", laid_unicode_utf8_first)], narrowed := true }
def KeyencAfterUptoSaid : Prop := keyencAfterUptoRow.holds Tryd.pinned (OpenSpec.upto keyencAfterSpec)

/-- 'docstorelaw03.KeyencOrder', WHERE WHAT IT READS IS OF BULK AT MOST 1048576: true; the input reads as it did. -/
def keyencOrderUptoRow : OpenClaim := { program := "ytipphlhaaienpaadoor", sum := "db9bb3eee7f224ab271460b507d74995083255389290a4409f678021cb14dd38", func := "docstore/docstorelaw03.KeyencOrder", spec := "keyencOrder", inPlace := ["internal/bytealg.abigen_runtime_cmpstring"], unfollowed := true, recurses := true, named := ["unicode/utf8.first", "unicode/utf8.acceptRanges"], loops := true, apart := false, laid := [("unicode/utf8.acceptRanges", laid_unicode_utf8_acceptRanges), ("unicode/utf8.first", laid_unicode_utf8_first)], narrowed := true }
def KeyencOrderUptoSaid : Prop := keyencOrderUptoRow.holds Tryd.pinned (OpenSpec.upto keyencOrderSpec)

/-- 'docstorelaw03.KeyencPrefix', WHERE WHAT IT READS IS OF BULK AT MOST 1048576: true; the input reads as it did. -/
def keyencPrefixUptoRow : OpenClaim := { program := "ytipphlhaaienpaadoor", sum := "db9bb3eee7f224ab271460b507d74995083255389290a4409f678021cb14dd38", func := "docstore/docstorelaw03.KeyencPrefix", spec := "keyencPrefix", unfollowed := true, recurses := true, named := ["unicode/utf8.first", "unicode/utf8.acceptRanges"], loops := true, apart := false, laid := [("unicode/utf8.acceptRanges", laid_unicode_utf8_acceptRanges), ("unicode/utf8.first", laid_unicode_utf8_first)], narrowed := true }
def KeyencPrefixUptoSaid : Prop := keyencPrefixUptoRow.holds Tryd.pinned (OpenSpec.upto keyencPrefixSpec)

end Rows
end Go.Proofs.YtipphlhaaienpaaDoor
