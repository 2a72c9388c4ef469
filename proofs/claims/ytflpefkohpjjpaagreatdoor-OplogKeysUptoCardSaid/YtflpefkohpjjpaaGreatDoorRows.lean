/-
  NARROWER THAN 'FOR EVERY INPUT', by the rows' own cells (each row's printed sentence says how): OplogValid: loops, laid · OplogEncode: loops, laid · OplogDecode: laid · OplogBack: loops, laid · OplogOnly: laid · OplogNewer: laid · OplogKeys: loops, laid.
  DERIVED. THE GIVEN ROWS OF THIS SEAT. 7 by the template 'for every input the law returns true; each argument reads behind the call as it read before'; 0 by the template 'total and deterministic' (their statements: YtflpefkohpjjpaaGreatDoorTotals.lean).
  GIVEN WITH THE SEED: the statements are not yours to turn. If you find one false, say at which input.
  Laid BY PROGRAM, IN A SANDBOX (cutbox-rows.mjs): the forced cells as the released guide's own fill.sh prints them over the translation b40bdb4507897e85… (all of the seat's roots in one cut). By AI agents, Wed Nov 11 2026. No macro, syntax, notation, axiom, sorry.
-/
import Derived.Test.YtflpefkohpjjpaaGreatDoorChecked
import GoSem.PinnedTables
import GoSem.Claim
import GoSem.ClaimJoined
import GoSem.ClaimMapViews
import Derived.JoinedTies
import Derived.KernelRfl
namespace Go.Proofs.YtflpefkohpjjpaaGreatDoor
/- THE CELL 'sum', in the pinned program and in every row, IS THE sha256 OF THE DUMP (.gsa) THAT YtflpefkohpjjpaaGreatDoorProg.lean LOADS. Nothing in Lean hashes anything: it is a label: what it is worth is what the hold of that sum in a sandbox is worth. -/
noncomputable def Tryz.pinned : Pinned := { name := "ytflpefkohpjjpaagreatdoor", sum := "b40bdb4507897e85a8af0eedc768c97c810f114b86876e4d1f04079b63268fc1", checked := Tryz.checked }
namespace Rows
def none {H : Type} : Left H := { results := [], args := [] }

/- WHAT THE LISTED PACKAGE-LEVEL VARIABLES READ AS WHEN THE CALL BEGINS. Each datum BY PROGRAM (the guide's laid-datum.mjs) off the statement by which the dump's own 'gosem.cut.vars' lays the variable. In a bare row this is a premise. The card (YtflpefkohpjjpaaGreatDoorCards.lean) ties it to the program's text. -/
def laid_unicode_utf8_acceptRanges {H : Type} : DataW H := .agg [.agg [.lit (.int .u8 128), .lit (.int .u8 191)], .agg [.lit (.int .u8 160), .lit (.int .u8 191)], .agg [.lit (.int .u8 128), .lit (.int .u8 159)], .agg [.lit (.int .u8 144), .lit (.int .u8 191)], .agg [.lit (.int .u8 128), .lit (.int .u8 143)], .agg [.lit (.int .u8 0), .lit (.int .u8 0)], .agg [.lit (.int .u8 0), .lit (.int .u8 0)], .agg [.lit (.int .u8 0), .lit (.int .u8 0)], .agg [.lit (.int .u8 0), .lit (.int .u8 0)], .agg [.lit (.int .u8 0), .lit (.int .u8 0)], .agg [.lit (.int .u8 0), .lit (.int .u8 0)], .agg [.lit (.int .u8 0), .lit (.int .u8 0)], .agg [.lit (.int .u8 0), .lit (.int .u8 0)], .agg [.lit (.int .u8 0), .lit (.int .u8 0)], .agg [.lit (.int .u8 0), .lit (.int .u8 0)], .agg [.lit (.int .u8 0), .lit (.int .u8 0)]]
/-- One of Go's own tables, pinned by name: the form's constant. -/
def laid_unicode_utf8_first : DataW Unit := Go.Pinned.utf8First

/-- 'docstorelaw40.OplogValid': WHATEVER THE INPUT: true; the input reads as it did. -/
def oplogValidSpec : ChangeSpec := { name := "oplogValid", fn := fun _ => fun
  | [d] => { results := [.lit (.bool true)], args := [d] }
  | _ => none }
def oplogValidRow : OpenClaim := { program := "ytflpefkohpjjpaagreatdoor", sum := "b40bdb4507897e85a8af0eedc768c97c810f114b86876e4d1f04079b63268fc1", func := "docstore/docstorelaw40.OplogValid", spec := "oplogValid", inPlace := ["internal/bytealg.abigen_runtime_cmpstring"], unfollowed := true, recurses := true, named := ["unicode/utf8.first", "unicode/utf8.acceptRanges"], loops := true, apart := false, laid := [("unicode/utf8.acceptRanges", laid_unicode_utf8_acceptRanges), ("unicode/utf8.first", laid_unicode_utf8_first)] }
def OplogValidSaid : Prop := oplogValidRow.holds Tryz.pinned (OpenSpec.ofChange oplogValidSpec)

/-- ITS FALSE NEIGHBOUR: 'it returns false'. Refute it at one input. -/
def oplogValidWrong : ChangeSpec := { name := "oplogValid", fn := fun _ => fun
  | [d] => { results := [.lit (.bool false)], args := [d] }
  | _ => none }
def OplogValidWrongFalsely : Prop := oplogValidRow.holds Tryz.pinned (OpenSpec.ofChange oplogValidWrong)

/-- 'docstorelaw40.OplogEncode': WHATEVER THE INPUT: true; the input reads as it did. -/
def oplogEncodeSpec : ChangeSpec := { name := "oplogEncode", fn := fun _ => fun
  | [d] => { results := [.lit (.bool true)], args := [d] }
  | _ => none }
def oplogEncodeRow : OpenClaim := { program := "ytflpefkohpjjpaagreatdoor", sum := "b40bdb4507897e85a8af0eedc768c97c810f114b86876e4d1f04079b63268fc1", func := "docstore/docstorelaw40.OplogEncode", spec := "oplogEncode", inPlace := ["internal/bytealg.abigen_runtime_cmpstring"], unfollowed := true, recurses := true, named := ["unicode/utf8.first", "unicode/utf8.acceptRanges"], loops := true, apart := false, laid := [("unicode/utf8.acceptRanges", laid_unicode_utf8_acceptRanges), ("unicode/utf8.first", laid_unicode_utf8_first)] }
def OplogEncodeSaid : Prop := oplogEncodeRow.holds Tryz.pinned (OpenSpec.ofChange oplogEncodeSpec)

/-- ITS FALSE NEIGHBOUR: 'it returns false'. Refute it at one input. -/
def oplogEncodeWrong : ChangeSpec := { name := "oplogEncode", fn := fun _ => fun
  | [d] => { results := [.lit (.bool false)], args := [d] }
  | _ => none }
def OplogEncodeWrongFalsely : Prop := oplogEncodeRow.holds Tryz.pinned (OpenSpec.ofChange oplogEncodeWrong)

/-- 'docstorelaw40.OplogDecode': WHATEVER THE INPUT: true; the input reads as it did. -/
def oplogDecodeSpec : ChangeSpec := { name := "oplogDecode", fn := fun _ => fun
  | [d] => { results := [.lit (.bool true)], args := [d] }
  | _ => none }
def oplogDecodeRow : OpenClaim := { program := "ytflpefkohpjjpaagreatdoor", sum := "b40bdb4507897e85a8af0eedc768c97c810f114b86876e4d1f04079b63268fc1", func := "docstore/docstorelaw40.OplogDecode", spec := "oplogDecode", inPlace := ["internal/bytealg.abigen_runtime_cmpstring"], unfollowed := true, recurses := true, named := ["unicode/utf8.first", "unicode/utf8.acceptRanges"], apart := false, laid := [("unicode/utf8.acceptRanges", laid_unicode_utf8_acceptRanges), ("unicode/utf8.first", laid_unicode_utf8_first)] }
def OplogDecodeSaid : Prop := oplogDecodeRow.holds Tryz.pinned (OpenSpec.ofChange oplogDecodeSpec)

/-- ITS FALSE NEIGHBOUR: 'it returns false'. Refute it at one input. -/
def oplogDecodeWrong : ChangeSpec := { name := "oplogDecode", fn := fun _ => fun
  | [d] => { results := [.lit (.bool false)], args := [d] }
  | _ => none }
def OplogDecodeWrongFalsely : Prop := oplogDecodeRow.holds Tryz.pinned (OpenSpec.ofChange oplogDecodeWrong)

/-- 'docstorelaw40.OplogBack': WHATEVER THE INPUT: true; the input reads as it did. -/
def oplogBackSpec : ChangeSpec := { name := "oplogBack", fn := fun _ => fun
  | [d] => { results := [.lit (.bool true)], args := [d] }
  | _ => none }
def oplogBackRow : OpenClaim := { program := "ytflpefkohpjjpaagreatdoor", sum := "b40bdb4507897e85a8af0eedc768c97c810f114b86876e4d1f04079b63268fc1", func := "docstore/docstorelaw40.OplogBack", spec := "oplogBack", inPlace := ["internal/bytealg.abigen_runtime_cmpstring"], unfollowed := true, recurses := true, named := ["unicode/utf8.first", "unicode/utf8.acceptRanges"], loops := true, apart := false, laid := [("unicode/utf8.acceptRanges", laid_unicode_utf8_acceptRanges), ("unicode/utf8.first", laid_unicode_utf8_first)] }
def OplogBackSaid : Prop := oplogBackRow.holds Tryz.pinned (OpenSpec.ofChange oplogBackSpec)

/-- ITS FALSE NEIGHBOUR: 'it returns false'. Refute it at one input. -/
def oplogBackWrong : ChangeSpec := { name := "oplogBack", fn := fun _ => fun
  | [d] => { results := [.lit (.bool false)], args := [d] }
  | _ => none }
def OplogBackWrongFalsely : Prop := oplogBackRow.holds Tryz.pinned (OpenSpec.ofChange oplogBackWrong)

/-- 'docstorelaw40.OplogOnly': WHATEVER THE INPUT: true; the input reads as it did. -/
def oplogOnlySpec : ChangeSpec := { name := "oplogOnly", fn := fun _ => fun
  | [d] => { results := [.lit (.bool true)], args := [d] }
  | _ => none }
def oplogOnlyRow : OpenClaim := { program := "ytflpefkohpjjpaagreatdoor", sum := "b40bdb4507897e85a8af0eedc768c97c810f114b86876e4d1f04079b63268fc1", func := "docstore/docstorelaw40.OplogOnly", spec := "oplogOnly", inPlace := ["internal/bytealg.abigen_runtime_cmpstring"], unfollowed := true, recurses := true, named := ["unicode/utf8.first", "unicode/utf8.acceptRanges"], apart := false, laid := [("unicode/utf8.acceptRanges", laid_unicode_utf8_acceptRanges), ("unicode/utf8.first", laid_unicode_utf8_first)] }
def OplogOnlySaid : Prop := oplogOnlyRow.holds Tryz.pinned (OpenSpec.ofChange oplogOnlySpec)

/-- ITS FALSE NEIGHBOUR: 'it returns false'. Refute it at one input. -/
def oplogOnlyWrong : ChangeSpec := { name := "oplogOnly", fn := fun _ => fun
  | [d] => { results := [.lit (.bool false)], args := [d] }
  | _ => none }
def OplogOnlyWrongFalsely : Prop := oplogOnlyRow.holds Tryz.pinned (OpenSpec.ofChange oplogOnlyWrong)

/-- 'docstorelaw40.OplogNewer': WHATEVER THE INPUT: true; the input reads as it did. -/
def oplogNewerSpec : ChangeSpec := { name := "oplogNewer", fn := fun _ => fun
  | [d1, d2, d3] => { results := [.lit (.bool true)], args := [d1, d2, d3] }
  | _ => none }
def oplogNewerRow : OpenClaim := { program := "ytflpefkohpjjpaagreatdoor", sum := "b40bdb4507897e85a8af0eedc768c97c810f114b86876e4d1f04079b63268fc1", func := "docstore/docstorelaw40.OplogNewer", spec := "oplogNewer", inPlace := ["internal/bytealg.abigen_runtime_cmpstring"], unfollowed := true, recurses := true, named := ["unicode/utf8.first", "unicode/utf8.acceptRanges"], apart := false, laid := [("unicode/utf8.acceptRanges", laid_unicode_utf8_acceptRanges), ("unicode/utf8.first", laid_unicode_utf8_first)] }
def OplogNewerSaid : Prop := oplogNewerRow.holds Tryz.pinned (OpenSpec.ofChange oplogNewerSpec)

/-- ITS FALSE NEIGHBOUR: 'it returns false'. Refute it at one input. -/
def oplogNewerWrong : ChangeSpec := { name := "oplogNewer", fn := fun _ => fun
  | [d1, d2, d3] => { results := [.lit (.bool false)], args := [d1, d2, d3] }
  | _ => none }
def OplogNewerWrongFalsely : Prop := oplogNewerRow.holds Tryz.pinned (OpenSpec.ofChange oplogNewerWrong)

/-- 'docstorelaw40.OplogKeys': WHATEVER THE INPUT: true; the input reads as it did. -/
def oplogKeysSpec : ChangeSpec := { name := "oplogKeys", fn := fun _ => fun
  | [d1, d2] => { results := [.lit (.bool true)], args := [d1, d2] }
  | _ => none }
def oplogKeysRow : OpenClaim := { program := "ytflpefkohpjjpaagreatdoor", sum := "b40bdb4507897e85a8af0eedc768c97c810f114b86876e4d1f04079b63268fc1", func := "docstore/docstorelaw40.OplogKeys", spec := "oplogKeys", inPlace := ["internal/bytealg.abigen_runtime_cmpstring"], unfollowed := true, recurses := true, named := ["unicode/utf8.first", "unicode/utf8.acceptRanges"], loops := true, apart := false, laid := [("unicode/utf8.acceptRanges", laid_unicode_utf8_acceptRanges), ("unicode/utf8.first", laid_unicode_utf8_first)] }
def OplogKeysSaid : Prop := oplogKeysRow.holds Tryz.pinned (OpenSpec.ofChange oplogKeysSpec)

/-- ITS FALSE NEIGHBOUR: 'it returns false'. Refute it at one input. -/
def oplogKeysWrong : ChangeSpec := { name := "oplogKeys", fn := fun _ => fun
  | [d1, d2] => { results := [.lit (.bool false)], args := [d1, d2] }
  | _ => none }
def OplogKeysWrongFalsely : Prop := oplogKeysRow.holds Tryz.pinned (OpenSpec.ofChange oplogKeysWrong)

/- THE SECOND FORM. 'bulk': how many values and letters a reading holds, each counted each time it is reached (what is shared counts as often as it is met; a slice's spare places count too). A statement '..UptoSaid' is the law's where the arguments, and the package variables that the reading takes, are together of bulk at most 1048576: NARROWER than '..Said'. Prove '..Said' where nothing that the law and all that it calls make is longer than what came in: it says more and counts as full. Else prove '..UptoSaid'. A law counts once. -/
mutual
def uptoBulk {H : Type} : DataW H → Nat
  | .lit (.string bytes) => bytes.length + 1
  | .lit _ => 1
  | .nil => 1
  | .ptr d => uptoBulk d + 1
  | .slice elems spare => uptoBulkAll elems + uptoBulkAll spare + 1
  | .agg parts => uptoBulkAll parts + 1
  | .iface _ d => uptoBulk d + 1
  | .map entries => uptoBulkEntries entries + 1
  | .held _ => 1
def uptoBulkAll {H : Type} : List (DataW H) → Nat
  | [] => 0
  | d :: r => uptoBulk d + uptoBulkAll r
def uptoBulkEntries {H : Type} : List (Lit × DataW H) → Nat
  | [] => 0
  | x :: r => uptoBulkEntry x + uptoBulkEntries r
def uptoBulkEntry {H : Type} : Lit × DataW H → Nat
  | (.string bytes, d) => bytes.length + uptoBulk d + 1
  | (_, d) => uptoBulk d + 1
 end
def uptoSmall : (H : Type) → List (DataW H) → Bool := fun _ ds => decide (uptoBulkAll ds ≤ 1048576)
def OpenSpec.upto (s : _root_.Go.ChangeSpec) : _root_.Go.OpenSpec := { _root_.Go.OpenSpec.ofChange s with cond := some uptoSmall }

/-- 'docstorelaw40.OplogValid', WHERE WHAT IT READS IS OF BULK AT MOST 1048576: true; the input reads as it did. -/
def oplogValidUptoRow : OpenClaim := { program := "ytflpefkohpjjpaagreatdoor", sum := "b40bdb4507897e85a8af0eedc768c97c810f114b86876e4d1f04079b63268fc1", func := "docstore/docstorelaw40.OplogValid", spec := "oplogValid", inPlace := ["internal/bytealg.abigen_runtime_cmpstring"], unfollowed := true, recurses := true, named := ["unicode/utf8.first", "unicode/utf8.acceptRanges"], loops := true, apart := false, laid := [("unicode/utf8.acceptRanges", laid_unicode_utf8_acceptRanges), ("unicode/utf8.first", laid_unicode_utf8_first)], narrowed := true }
def OplogValidUptoSaid : Prop := oplogValidUptoRow.holds Tryz.pinned (OpenSpec.upto oplogValidSpec)

/-- 'docstorelaw40.OplogEncode', WHERE WHAT IT READS IS OF BULK AT MOST 1048576: true; the input reads as it did. -/
def oplogEncodeUptoRow : OpenClaim := { program := "ytflpefkohpjjpaagreatdoor", sum := "b40bdb4507897e85a8af0eedc768c97c810f114b86876e4d1f04079b63268fc1", func := "docstore/docstorelaw40.OplogEncode", spec := "oplogEncode", inPlace := ["internal/bytealg.abigen_runtime_cmpstring"], unfollowed := true, recurses := true, named := ["unicode/utf8.first", "unicode/utf8.acceptRanges"], loops := true, apart := false, laid := [("unicode/utf8.acceptRanges", laid_unicode_utf8_acceptRanges), ("unicode/utf8.first", laid_unicode_utf8_first)], narrowed := true }
def OplogEncodeUptoSaid : Prop := oplogEncodeUptoRow.holds Tryz.pinned (OpenSpec.upto oplogEncodeSpec)

/-- 'docstorelaw40.OplogDecode', WHERE WHAT IT READS IS OF BULK AT MOST 1048576: true; the input reads as it did. -/
def oplogDecodeUptoRow : OpenClaim := { program := "ytflpefkohpjjpaagreatdoor", sum := "b40bdb4507897e85a8af0eedc768c97c810f114b86876e4d1f04079b63268fc1", func := "docstore/docstorelaw40.OplogDecode", spec := "oplogDecode", inPlace := ["internal/bytealg.abigen_runtime_cmpstring"], unfollowed := true, recurses := true, named := ["unicode/utf8.first", "unicode/utf8.acceptRanges"], apart := false, laid := [("unicode/utf8.acceptRanges", laid_unicode_utf8_acceptRanges), ("unicode/utf8.first", laid_unicode_utf8_first)], narrowed := true }
def OplogDecodeUptoSaid : Prop := oplogDecodeUptoRow.holds Tryz.pinned (OpenSpec.upto oplogDecodeSpec)

/-- 'docstorelaw40.OplogBack', WHERE WHAT IT READS IS OF BULK AT MOST 1048576: true; the input reads as it did. -/
def oplogBackUptoRow : OpenClaim := { program := "ytflpefkohpjjpaagreatdoor", sum := "b40bdb4507897e85a8af0eedc768c97c810f114b86876e4d1f04079b63268fc1", func := "docstore/docstorelaw40.OplogBack", spec := "oplogBack", inPlace := ["internal/bytealg.abigen_runtime_cmpstring"], unfollowed := true, recurses := true, named := ["unicode/utf8.first", "unicode/utf8.acceptRanges"], loops := true, apart := false, laid := [("unicode/utf8.acceptRanges", laid_unicode_utf8_acceptRanges), ("unicode/utf8.first", laid_unicode_utf8_first)], narrowed := true }
def OplogBackUptoSaid : Prop := oplogBackUptoRow.holds Tryz.pinned (OpenSpec.upto oplogBackSpec)

/-- 'docstorelaw40.OplogOnly', WHERE WHAT IT READS IS OF BULK AT MOST 1048576: true; the input reads as it did. -/
def oplogOnlyUptoRow : OpenClaim := { program := "ytflpefkohpjjpaagreatdoor", sum := "b40bdb4507897e85a8af0eedc768c97c810f114b86876e4d1f04079b63268fc1", func := "docstore/docstorelaw40.OplogOnly", spec := "oplogOnly", inPlace := ["internal/bytealg.abigen_runtime_cmpstring"], unfollowed := true, recurses := true, named := ["unicode/utf8.first", "unicode/utf8.acceptRanges"], apart := false, laid := [("unicode/utf8.acceptRanges", laid_unicode_utf8_acceptRanges), ("unicode/utf8.first", laid_unicode_utf8_first)], narrowed := true }
def OplogOnlyUptoSaid : Prop := oplogOnlyUptoRow.holds Tryz.pinned (OpenSpec.upto oplogOnlySpec)

/-- 'docstorelaw40.OplogNewer', WHERE WHAT IT READS IS OF BULK AT MOST 1048576: true; the input reads as it did. -/
def oplogNewerUptoRow : OpenClaim := { program := "ytflpefkohpjjpaagreatdoor", sum := "b40bdb4507897e85a8af0eedc768c97c810f114b86876e4d1f04079b63268fc1", func := "docstore/docstorelaw40.OplogNewer", spec := "oplogNewer", inPlace := ["internal/bytealg.abigen_runtime_cmpstring"], unfollowed := true, recurses := true, named := ["unicode/utf8.first", "unicode/utf8.acceptRanges"], apart := false, laid := [("unicode/utf8.acceptRanges", laid_unicode_utf8_acceptRanges), ("unicode/utf8.first", laid_unicode_utf8_first)], narrowed := true }
def OplogNewerUptoSaid : Prop := oplogNewerUptoRow.holds Tryz.pinned (OpenSpec.upto oplogNewerSpec)

/-- 'docstorelaw40.OplogKeys', WHERE WHAT IT READS IS OF BULK AT MOST 1048576: true; the input reads as it did. -/
def oplogKeysUptoRow : OpenClaim := { program := "ytflpefkohpjjpaagreatdoor", sum := "b40bdb4507897e85a8af0eedc768c97c810f114b86876e4d1f04079b63268fc1", func := "docstore/docstorelaw40.OplogKeys", spec := "oplogKeys", inPlace := ["internal/bytealg.abigen_runtime_cmpstring"], unfollowed := true, recurses := true, named := ["unicode/utf8.first", "unicode/utf8.acceptRanges"], loops := true, apart := false, laid := [("unicode/utf8.acceptRanges", laid_unicode_utf8_acceptRanges), ("unicode/utf8.first", laid_unicode_utf8_first)], narrowed := true }
def OplogKeysUptoSaid : Prop := oplogKeysUptoRow.holds Tryz.pinned (OpenSpec.upto oplogKeysSpec)

end Rows
end Go.Proofs.YtflpefkohpjjpaaGreatDoor
