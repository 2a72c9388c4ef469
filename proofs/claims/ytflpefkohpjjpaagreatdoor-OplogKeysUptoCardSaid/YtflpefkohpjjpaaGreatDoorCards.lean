/-
  DERIVED. GIVEN WITH THE SEED: THE CARDS: each row of YtflpefkohpjjpaaGreatDoorRows.lean that lists a variable, with what it lists TIED to the program's text (the seventh form; the later family's looks); each row that meets fmt, with fmt's text TOLD by the authors' own Lean function (tested against real Go, not proved from fmt's source: count such statements apart). THE CARD IS WHAT COUNTS. Prove the row's statement (the work); the ties are given (YtflpefkohpjjpaaGreatDoorTie.lean); close each card by the builder's one call (the guide's Derived/Test/ToyasCard.lean, 'card_holds'). Laid BY PROGRAM, IN A SANDBOX (cutbox-door.mjs). By AI agents, Wed Nov 11 2026. No macro, syntax, notation, axiom, sorry.
-/
import Derived.Test.YtflpefkohpjjpaaGreatDoorRows
import GoSem.ClaimSeven
namespace Go.Proofs.YtflpefkohpjjpaaGreatDoor
namespace Rows

/-- THE TIED CARD OF 'docstorelaw40.OplogValid'. -/
def oplogValidCard : Claim7 := { stood := { row := oplogValidRow, standIns := [], harness := (true, "e8b0718962cc450c0d3d0c1b15042baa37578e79b385c10eb062260443014a7c"), looks := true }, kinds := [], alts := [], laidByText := true, laidKinds := [.data, .pinned], laidTests := true, laidLooks := .later }
def OplogValidCardSaid : Prop := Claim7.holds Tryz.pinned (.plain (OpenSpec.ofChange oplogValidSpec)) oplogValidCard

/-- THE TIED CARD OF 'docstorelaw40.OplogEncode'. -/
def oplogEncodeCard : Claim7 := { stood := { row := oplogEncodeRow, standIns := [], harness := (true, "e8b0718962cc450c0d3d0c1b15042baa37578e79b385c10eb062260443014a7c"), looks := true }, kinds := [], alts := [], laidByText := true, laidKinds := [.data, .pinned], laidTests := true, laidLooks := .later }
def OplogEncodeCardSaid : Prop := Claim7.holds Tryz.pinned (.plain (OpenSpec.ofChange oplogEncodeSpec)) oplogEncodeCard

/-- THE TIED CARD OF 'docstorelaw40.OplogDecode'. -/
def oplogDecodeCard : Claim7 := { stood := { row := oplogDecodeRow, standIns := [], harness := (true, "e8b0718962cc450c0d3d0c1b15042baa37578e79b385c10eb062260443014a7c"), looks := true }, kinds := [], alts := [], laidByText := true, laidKinds := [.data, .pinned], laidTests := true, laidLooks := .later }
def OplogDecodeCardSaid : Prop := Claim7.holds Tryz.pinned (.plain (OpenSpec.ofChange oplogDecodeSpec)) oplogDecodeCard

/-- THE TIED CARD OF 'docstorelaw40.OplogBack'. -/
def oplogBackCard : Claim7 := { stood := { row := oplogBackRow, standIns := [], harness := (true, "e8b0718962cc450c0d3d0c1b15042baa37578e79b385c10eb062260443014a7c"), looks := true }, kinds := [], alts := [], laidByText := true, laidKinds := [.data, .pinned], laidTests := true, laidLooks := .later }
def OplogBackCardSaid : Prop := Claim7.holds Tryz.pinned (.plain (OpenSpec.ofChange oplogBackSpec)) oplogBackCard

/-- THE TIED CARD OF 'docstorelaw40.OplogOnly'. -/
def oplogOnlyCard : Claim7 := { stood := { row := oplogOnlyRow, standIns := [], harness := (true, "e8b0718962cc450c0d3d0c1b15042baa37578e79b385c10eb062260443014a7c"), looks := true }, kinds := [], alts := [], laidByText := true, laidKinds := [.data, .pinned], laidTests := true, laidLooks := .later }
def OplogOnlyCardSaid : Prop := Claim7.holds Tryz.pinned (.plain (OpenSpec.ofChange oplogOnlySpec)) oplogOnlyCard

/-- THE TIED CARD OF 'docstorelaw40.OplogNewer'. -/
def oplogNewerCard : Claim7 := { stood := { row := oplogNewerRow, standIns := [], harness := (true, "e8b0718962cc450c0d3d0c1b15042baa37578e79b385c10eb062260443014a7c"), looks := true }, kinds := [], alts := [], laidByText := true, laidKinds := [.data, .pinned], laidTests := true, laidLooks := .later }
def OplogNewerCardSaid : Prop := Claim7.holds Tryz.pinned (.plain (OpenSpec.ofChange oplogNewerSpec)) oplogNewerCard

/-- THE TIED CARD OF 'docstorelaw40.OplogKeys'. -/
def oplogKeysCard : Claim7 := { stood := { row := oplogKeysRow, standIns := [], harness := (true, "e8b0718962cc450c0d3d0c1b15042baa37578e79b385c10eb062260443014a7c"), looks := true }, kinds := [], alts := [], laidByText := true, laidKinds := [.data, .pinned], laidTests := true, laidLooks := .later }
def OplogKeysCardSaid : Prop := Claim7.holds Tryz.pinned (.plain (OpenSpec.ofChange oplogKeysSpec)) oplogKeysCard

/-- THE SECOND FORM's CARD OF 'docstorelaw40.OplogValid'. -/
def oplogValidUptoCard : Claim7 := { stood := { row := oplogValidUptoRow, standIns := [], harness := (true, "e8b0718962cc450c0d3d0c1b15042baa37578e79b385c10eb062260443014a7c"), looks := true }, kinds := [], alts := [], laidByText := true, laidKinds := [.data, .pinned], laidTests := true, laidLooks := .later }
def OplogValidUptoCardSaid : Prop := Claim7.holds Tryz.pinned (.plain (OpenSpec.upto oplogValidSpec)) oplogValidUptoCard

/-- THE SECOND FORM's CARD OF 'docstorelaw40.OplogEncode'. -/
def oplogEncodeUptoCard : Claim7 := { stood := { row := oplogEncodeUptoRow, standIns := [], harness := (true, "e8b0718962cc450c0d3d0c1b15042baa37578e79b385c10eb062260443014a7c"), looks := true }, kinds := [], alts := [], laidByText := true, laidKinds := [.data, .pinned], laidTests := true, laidLooks := .later }
def OplogEncodeUptoCardSaid : Prop := Claim7.holds Tryz.pinned (.plain (OpenSpec.upto oplogEncodeSpec)) oplogEncodeUptoCard

/-- THE SECOND FORM's CARD OF 'docstorelaw40.OplogDecode'. -/
def oplogDecodeUptoCard : Claim7 := { stood := { row := oplogDecodeUptoRow, standIns := [], harness := (true, "e8b0718962cc450c0d3d0c1b15042baa37578e79b385c10eb062260443014a7c"), looks := true }, kinds := [], alts := [], laidByText := true, laidKinds := [.data, .pinned], laidTests := true, laidLooks := .later }
def OplogDecodeUptoCardSaid : Prop := Claim7.holds Tryz.pinned (.plain (OpenSpec.upto oplogDecodeSpec)) oplogDecodeUptoCard

/-- THE SECOND FORM's CARD OF 'docstorelaw40.OplogBack'. -/
def oplogBackUptoCard : Claim7 := { stood := { row := oplogBackUptoRow, standIns := [], harness := (true, "e8b0718962cc450c0d3d0c1b15042baa37578e79b385c10eb062260443014a7c"), looks := true }, kinds := [], alts := [], laidByText := true, laidKinds := [.data, .pinned], laidTests := true, laidLooks := .later }
def OplogBackUptoCardSaid : Prop := Claim7.holds Tryz.pinned (.plain (OpenSpec.upto oplogBackSpec)) oplogBackUptoCard

/-- THE SECOND FORM's CARD OF 'docstorelaw40.OplogOnly'. -/
def oplogOnlyUptoCard : Claim7 := { stood := { row := oplogOnlyUptoRow, standIns := [], harness := (true, "e8b0718962cc450c0d3d0c1b15042baa37578e79b385c10eb062260443014a7c"), looks := true }, kinds := [], alts := [], laidByText := true, laidKinds := [.data, .pinned], laidTests := true, laidLooks := .later }
def OplogOnlyUptoCardSaid : Prop := Claim7.holds Tryz.pinned (.plain (OpenSpec.upto oplogOnlySpec)) oplogOnlyUptoCard

/-- THE SECOND FORM's CARD OF 'docstorelaw40.OplogNewer'. -/
def oplogNewerUptoCard : Claim7 := { stood := { row := oplogNewerUptoRow, standIns := [], harness := (true, "e8b0718962cc450c0d3d0c1b15042baa37578e79b385c10eb062260443014a7c"), looks := true }, kinds := [], alts := [], laidByText := true, laidKinds := [.data, .pinned], laidTests := true, laidLooks := .later }
def OplogNewerUptoCardSaid : Prop := Claim7.holds Tryz.pinned (.plain (OpenSpec.upto oplogNewerSpec)) oplogNewerUptoCard

/-- THE SECOND FORM's CARD OF 'docstorelaw40.OplogKeys'. -/
def oplogKeysUptoCard : Claim7 := { stood := { row := oplogKeysUptoRow, standIns := [], harness := (true, "e8b0718962cc450c0d3d0c1b15042baa37578e79b385c10eb062260443014a7c"), looks := true }, kinds := [], alts := [], laidByText := true, laidKinds := [.data, .pinned], laidTests := true, laidLooks := .later }
def OplogKeysUptoCardSaid : Prop := Claim7.holds Tryz.pinned (.plain (OpenSpec.upto oplogKeysSpec)) oplogKeysUptoCard
end Rows
end Go.Proofs.YtflpefkohpjjpaaGreatDoor
