/-
  DERIVED. GIVEN WITH THE SEED: THE CARDS: each row of YtdoofmohoamkbaaDoorRows.lean that lists a variable, with what it lists TIED to the program's text (the seventh form; the later family's looks); each row that meets fmt, with fmt's text TOLD by the authors' own Lean function (tested against real Go, not proved from fmt's source: count such statements apart). THE CARD IS WHAT COUNTS. Prove the row's statement (the work); the ties are given (YtdoofmohoamkbaaDoorTie.lean); close each card by the builder's one call (the guide's Derived/Test/ToyasCard.lean, 'card_holds'). Laid BY PROGRAM, IN A SANDBOX (cutbox-door.mjs). By AI agents, Wed Nov 11 2026. No macro, syntax, notation, axiom, sorry.
-/
import Derived.Test.YtdoofmohoamkbaaDoorRows
import GoSem.ClaimSeven
namespace Go.Proofs.YtdoofmohoamkbaaDoor
namespace Rows

/-- THE TIED CARD OF 'docstorelaw02.CodecNums'. -/
def codecNumsCard : Claim7 := { stood := { row := codecNumsRow, standIns := [], harness := (true, "647651c6e41510543ef2e831d263e82422c5413799cc8e55f0c025e86e936352"), looks := true }, kinds := [], alts := [], laidByText := true, laidKinds := [.data, .pinned], laidTests := true, laidLooks := .later }
def CodecNumsCardSaid : Prop := Claim7.holds Tryd.pinned (.plain (OpenSpec.ofChange codecNumsSpec)) codecNumsCard

/-- THE TIED CARD OF 'docstorelaw02.CodecReadsNums'. -/
def codecReadsNumsCard : Claim7 := { stood := { row := codecReadsNumsRow, standIns := [], harness := (true, "647651c6e41510543ef2e831d263e82422c5413799cc8e55f0c025e86e936352"), looks := true }, kinds := [], alts := [], laidByText := true, laidKinds := [.data, .pinned], laidTests := true, laidLooks := .later }
def CodecReadsNumsCardSaid : Prop := Claim7.holds Tryd.pinned (.plain (OpenSpec.ofChange codecReadsNumsSpec)) codecReadsNumsCard

/-- THE TIED CARD OF 'docstorelaw02.CodecReads'. -/
def codecReadsCard : Claim7 := { stood := { row := codecReadsRow, standIns := [], harness := (true, "647651c6e41510543ef2e831d263e82422c5413799cc8e55f0c025e86e936352"), looks := true }, kinds := [], alts := [], laidByText := true, laidKinds := [.data, .pinned], laidTests := true, laidLooks := .later }
def CodecReadsCardSaid : Prop := Claim7.holds Tryd.pinned (.plain (OpenSpec.ofChange codecReadsSpec)) codecReadsCard

/-- THE TIED CARD OF 'docstorelaw02.CodecDecodes'. -/
def codecDecodesCard : Claim7 := { stood := { row := codecDecodesRow, standIns := [], harness := (true, "647651c6e41510543ef2e831d263e82422c5413799cc8e55f0c025e86e936352"), looks := true }, kinds := [], alts := [], laidByText := true, laidKinds := [.data, .pinned], laidTests := true, laidLooks := .later }
def CodecDecodesCardSaid : Prop := Claim7.holds Tryd.pinned (.plain (OpenSpec.ofChange codecDecodesSpec)) codecDecodesCard

/-- THE TIED CARD OF 'docstorelaw02.CodecOnly'. -/
def codecOnlyCard : Claim7 := { stood := { row := codecOnlyRow, standIns := [], harness := (true, "647651c6e41510543ef2e831d263e82422c5413799cc8e55f0c025e86e936352"), looks := true }, kinds := [], alts := [], laidByText := true, laidKinds := [.data, .pinned], laidTests := true, laidLooks := .later }
def CodecOnlyCardSaid : Prop := Claim7.holds Tryd.pinned (.plain (OpenSpec.ofChange codecOnlySpec)) codecOnlyCard

/-- THE TIED CARD OF 'docstorelaw02.CodecShort'. -/
def codecShortCard : Claim7 := { stood := { row := codecShortRow, standIns := [], harness := (true, "647651c6e41510543ef2e831d263e82422c5413799cc8e55f0c025e86e936352"), looks := true }, kinds := [], alts := [], laidByText := true, laidKinds := [.data, .pinned], laidTests := true, laidLooks := .later }
def CodecShortCardSaid : Prop := Claim7.holds Tryd.pinned (.plain (OpenSpec.ofChange codecShortSpec)) codecShortCard

/-- THE TIED CARD OF 'docstorelaw02.CodecEncodes'. -/
def codecEncodesCard : Claim7 := { stood := { row := codecEncodesRow, standIns := [], harness := (true, "647651c6e41510543ef2e831d263e82422c5413799cc8e55f0c025e86e936352"), looks := true }, kinds := [], alts := [], laidByText := true, laidKinds := [.data, .pinned], laidTests := true, laidLooks := .later }
def CodecEncodesCardSaid : Prop := Claim7.holds Tryd.pinned (.plain (OpenSpec.ofChange codecEncodesSpec)) codecEncodesCard

/-- THE TIED CARD OF 'docstorelaw02.CodecBack'. -/
def codecBackCard : Claim7 := { stood := { row := codecBackRow, standIns := [], harness := (true, "647651c6e41510543ef2e831d263e82422c5413799cc8e55f0c025e86e936352"), looks := true }, kinds := [], alts := [], laidByText := true, laidKinds := [.data, .pinned], laidTests := true, laidLooks := .later }
def CodecBackCardSaid : Prop := Claim7.holds Tryd.pinned (.plain (OpenSpec.ofChange codecBackSpec)) codecBackCard

/-- THE SECOND FORM's CARD OF 'docstorelaw02.CodecNums'. -/
def codecNumsUptoCard : Claim7 := { stood := { row := codecNumsUptoRow, standIns := [], harness := (true, "647651c6e41510543ef2e831d263e82422c5413799cc8e55f0c025e86e936352"), looks := true }, kinds := [], alts := [], laidByText := true, laidKinds := [.data, .pinned], laidTests := true, laidLooks := .later }
def CodecNumsUptoCardSaid : Prop := Claim7.holds Tryd.pinned (.plain (OpenSpec.upto codecNumsSpec)) codecNumsUptoCard

/-- THE SECOND FORM's CARD OF 'docstorelaw02.CodecReadsNums'. -/
def codecReadsNumsUptoCard : Claim7 := { stood := { row := codecReadsNumsUptoRow, standIns := [], harness := (true, "647651c6e41510543ef2e831d263e82422c5413799cc8e55f0c025e86e936352"), looks := true }, kinds := [], alts := [], laidByText := true, laidKinds := [.data, .pinned], laidTests := true, laidLooks := .later }
def CodecReadsNumsUptoCardSaid : Prop := Claim7.holds Tryd.pinned (.plain (OpenSpec.upto codecReadsNumsSpec)) codecReadsNumsUptoCard

/-- THE SECOND FORM's CARD OF 'docstorelaw02.CodecReads'. -/
def codecReadsUptoCard : Claim7 := { stood := { row := codecReadsUptoRow, standIns := [], harness := (true, "647651c6e41510543ef2e831d263e82422c5413799cc8e55f0c025e86e936352"), looks := true }, kinds := [], alts := [], laidByText := true, laidKinds := [.data, .pinned], laidTests := true, laidLooks := .later }
def CodecReadsUptoCardSaid : Prop := Claim7.holds Tryd.pinned (.plain (OpenSpec.upto codecReadsSpec)) codecReadsUptoCard

/-- THE SECOND FORM's CARD OF 'docstorelaw02.CodecDecodes'. -/
def codecDecodesUptoCard : Claim7 := { stood := { row := codecDecodesUptoRow, standIns := [], harness := (true, "647651c6e41510543ef2e831d263e82422c5413799cc8e55f0c025e86e936352"), looks := true }, kinds := [], alts := [], laidByText := true, laidKinds := [.data, .pinned], laidTests := true, laidLooks := .later }
def CodecDecodesUptoCardSaid : Prop := Claim7.holds Tryd.pinned (.plain (OpenSpec.upto codecDecodesSpec)) codecDecodesUptoCard

/-- THE SECOND FORM's CARD OF 'docstorelaw02.CodecOnly'. -/
def codecOnlyUptoCard : Claim7 := { stood := { row := codecOnlyUptoRow, standIns := [], harness := (true, "647651c6e41510543ef2e831d263e82422c5413799cc8e55f0c025e86e936352"), looks := true }, kinds := [], alts := [], laidByText := true, laidKinds := [.data, .pinned], laidTests := true, laidLooks := .later }
def CodecOnlyUptoCardSaid : Prop := Claim7.holds Tryd.pinned (.plain (OpenSpec.upto codecOnlySpec)) codecOnlyUptoCard

/-- THE SECOND FORM's CARD OF 'docstorelaw02.CodecShort'. -/
def codecShortUptoCard : Claim7 := { stood := { row := codecShortUptoRow, standIns := [], harness := (true, "647651c6e41510543ef2e831d263e82422c5413799cc8e55f0c025e86e936352"), looks := true }, kinds := [], alts := [], laidByText := true, laidKinds := [.data, .pinned], laidTests := true, laidLooks := .later }
def CodecShortUptoCardSaid : Prop := Claim7.holds Tryd.pinned (.plain (OpenSpec.upto codecShortSpec)) codecShortUptoCard

/-- THE SECOND FORM's CARD OF 'docstorelaw02.CodecEncodes'. -/
def codecEncodesUptoCard : Claim7 := { stood := { row := codecEncodesUptoRow, standIns := [], harness := (true, "647651c6e41510543ef2e831d263e82422c5413799cc8e55f0c025e86e936352"), looks := true }, kinds := [], alts := [], laidByText := true, laidKinds := [.data, .pinned], laidTests := true, laidLooks := .later }
def CodecEncodesUptoCardSaid : Prop := Claim7.holds Tryd.pinned (.plain (OpenSpec.upto codecEncodesSpec)) codecEncodesUptoCard

/-- THE SECOND FORM's CARD OF 'docstorelaw02.CodecBack'. -/
def codecBackUptoCard : Claim7 := { stood := { row := codecBackUptoRow, standIns := [], harness := (true, "647651c6e41510543ef2e831d263e82422c5413799cc8e55f0c025e86e936352"), looks := true }, kinds := [], alts := [], laidByText := true, laidKinds := [.data, .pinned], laidTests := true, laidLooks := .later }
def CodecBackUptoCardSaid : Prop := Claim7.holds Tryd.pinned (.plain (OpenSpec.upto codecBackSpec)) codecBackUptoCard
end Rows
end Go.Proofs.YtdoofmohoamkbaaDoor
