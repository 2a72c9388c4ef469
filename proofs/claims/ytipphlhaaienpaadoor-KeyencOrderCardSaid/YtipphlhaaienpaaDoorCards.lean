/-
  DERIVED. GIVEN WITH THE SEED: THE CARDS: each row of YtipphlhaaienpaaDoorRows.lean that lists a variable, with what it lists TIED to the program's text (the seventh form; the later family's looks); each row that meets fmt, with fmt's text TOLD by the authors' own Lean function (tested against real Go, not proved from fmt's source: count such statements apart). THE CARD IS WHAT COUNTS. Prove the row's statement (the work); the ties are given (YtipphlhaaienpaaDoorTie.lean); close each card by the builder's one call (the guide's Derived/Test/ToyasCard.lean, 'card_holds'). Laid BY PROGRAM, IN A SANDBOX (cutbox-door.mjs). By AI agents, Wed Nov 11 2026. No macro, syntax, notation, axiom, sorry.
-/
import Derived.Test.YtipphlhaaienpaaDoorRows
import GoSem.ClaimSeven
namespace Go.Proofs.YtipphlhaaienpaaDoor
namespace Rows

/-- THE TIED CARD OF 'docstorelaw03.KeyencEncode'. -/
def keyencEncodeCard : Claim7 := { stood := { row := keyencEncodeRow, standIns := [], harness := (true, "da9bab6ca15dc454c1015d643656c3251c825732e8c3e32a2b745e2c2cf9bca1"), looks := false }, kinds := [], alts := [], laidByText := true, laidKinds := [.data, .pinned], laidTests := true, laidLooks := .later }
def KeyencEncodeCardSaid : Prop := Claim7.holds Tryd.pinned (.plain (OpenSpec.ofChange keyencEncodeSpec)) keyencEncodeCard

/-- THE TIED CARD OF 'docstorelaw03.KeyencDecode'. -/
def keyencDecodeCard : Claim7 := { stood := { row := keyencDecodeRow, standIns := [], harness := (true, "da9bab6ca15dc454c1015d643656c3251c825732e8c3e32a2b745e2c2cf9bca1"), looks := false }, kinds := [], alts := [], laidByText := true, laidKinds := [.data, .pinned], laidTests := true, laidLooks := .later }
def KeyencDecodeCardSaid : Prop := Claim7.holds Tryd.pinned (.plain (OpenSpec.ofChange keyencDecodeSpec)) keyencDecodeCard

/-- THE TIED CARD OF 'docstorelaw03.KeyencBack'. -/
def keyencBackCard : Claim7 := { stood := { row := keyencBackRow, standIns := [], harness := (true, "da9bab6ca15dc454c1015d643656c3251c825732e8c3e32a2b745e2c2cf9bca1"), looks := false }, kinds := [], alts := [], laidByText := true, laidKinds := [.data, .pinned], laidTests := true, laidLooks := .later }
def KeyencBackCardSaid : Prop := Claim7.holds Tryd.pinned (.plain (OpenSpec.ofChange keyencBackSpec)) keyencBackCard

/-- THE TIED CARD OF 'docstorelaw03.KeyencOnly'. -/
def keyencOnlyCard : Claim7 := { stood := { row := keyencOnlyRow, standIns := [], harness := (true, "da9bab6ca15dc454c1015d643656c3251c825732e8c3e32a2b745e2c2cf9bca1"), looks := false }, kinds := [], alts := [], laidByText := true, laidKinds := [.data, .pinned], laidTests := true, laidLooks := .later }
def KeyencOnlyCardSaid : Prop := Claim7.holds Tryd.pinned (.plain (OpenSpec.ofChange keyencOnlySpec)) keyencOnlyCard

/-- THE TIED CARD OF 'docstorelaw03.KeyencAfter'. -/
def keyencAfterCard : Claim7 := { stood := { row := keyencAfterRow, standIns := [], harness := (true, "da9bab6ca15dc454c1015d643656c3251c825732e8c3e32a2b745e2c2cf9bca1"), looks := false }, kinds := [], alts := [], laidByText := true, laidKinds := [.data, .pinned], laidTests := true, laidLooks := .later }
def KeyencAfterCardSaid : Prop := Claim7.holds Tryd.pinned (.plain (OpenSpec.ofChange keyencAfterSpec)) keyencAfterCard

/-- THE TIED CARD OF 'docstorelaw03.KeyencOrder'. -/
def keyencOrderCard : Claim7 := { stood := { row := keyencOrderRow, standIns := [], harness := (true, "da9bab6ca15dc454c1015d643656c3251c825732e8c3e32a2b745e2c2cf9bca1"), looks := false }, kinds := [], alts := [], laidByText := true, laidKinds := [.data, .pinned], laidTests := true, laidLooks := .later }
def KeyencOrderCardSaid : Prop := Claim7.holds Tryd.pinned (.plain (OpenSpec.ofChange keyencOrderSpec)) keyencOrderCard

/-- THE TIED CARD OF 'docstorelaw03.KeyencPrefix'. -/
def keyencPrefixCard : Claim7 := { stood := { row := keyencPrefixRow, standIns := [], harness := (true, "da9bab6ca15dc454c1015d643656c3251c825732e8c3e32a2b745e2c2cf9bca1"), looks := false }, kinds := [], alts := [], laidByText := true, laidKinds := [.data, .pinned], laidTests := true, laidLooks := .later }
def KeyencPrefixCardSaid : Prop := Claim7.holds Tryd.pinned (.plain (OpenSpec.ofChange keyencPrefixSpec)) keyencPrefixCard

/-- THE SECOND FORM's CARD OF 'docstorelaw03.KeyencEncode'. -/
def keyencEncodeUptoCard : Claim7 := { stood := { row := keyencEncodeUptoRow, standIns := [], harness := (true, "da9bab6ca15dc454c1015d643656c3251c825732e8c3e32a2b745e2c2cf9bca1"), looks := false }, kinds := [], alts := [], laidByText := true, laidKinds := [.data, .pinned], laidTests := true, laidLooks := .later }
def KeyencEncodeUptoCardSaid : Prop := Claim7.holds Tryd.pinned (.plain (OpenSpec.upto keyencEncodeSpec)) keyencEncodeUptoCard

/-- THE SECOND FORM's CARD OF 'docstorelaw03.KeyencDecode'. -/
def keyencDecodeUptoCard : Claim7 := { stood := { row := keyencDecodeUptoRow, standIns := [], harness := (true, "da9bab6ca15dc454c1015d643656c3251c825732e8c3e32a2b745e2c2cf9bca1"), looks := false }, kinds := [], alts := [], laidByText := true, laidKinds := [.data, .pinned], laidTests := true, laidLooks := .later }
def KeyencDecodeUptoCardSaid : Prop := Claim7.holds Tryd.pinned (.plain (OpenSpec.upto keyencDecodeSpec)) keyencDecodeUptoCard

/-- THE SECOND FORM's CARD OF 'docstorelaw03.KeyencBack'. -/
def keyencBackUptoCard : Claim7 := { stood := { row := keyencBackUptoRow, standIns := [], harness := (true, "da9bab6ca15dc454c1015d643656c3251c825732e8c3e32a2b745e2c2cf9bca1"), looks := false }, kinds := [], alts := [], laidByText := true, laidKinds := [.data, .pinned], laidTests := true, laidLooks := .later }
def KeyencBackUptoCardSaid : Prop := Claim7.holds Tryd.pinned (.plain (OpenSpec.upto keyencBackSpec)) keyencBackUptoCard

/-- THE SECOND FORM's CARD OF 'docstorelaw03.KeyencOnly'. -/
def keyencOnlyUptoCard : Claim7 := { stood := { row := keyencOnlyUptoRow, standIns := [], harness := (true, "da9bab6ca15dc454c1015d643656c3251c825732e8c3e32a2b745e2c2cf9bca1"), looks := false }, kinds := [], alts := [], laidByText := true, laidKinds := [.data, .pinned], laidTests := true, laidLooks := .later }
def KeyencOnlyUptoCardSaid : Prop := Claim7.holds Tryd.pinned (.plain (OpenSpec.upto keyencOnlySpec)) keyencOnlyUptoCard

/-- THE SECOND FORM's CARD OF 'docstorelaw03.KeyencAfter'. -/
def keyencAfterUptoCard : Claim7 := { stood := { row := keyencAfterUptoRow, standIns := [], harness := (true, "da9bab6ca15dc454c1015d643656c3251c825732e8c3e32a2b745e2c2cf9bca1"), looks := false }, kinds := [], alts := [], laidByText := true, laidKinds := [.data, .pinned], laidTests := true, laidLooks := .later }
def KeyencAfterUptoCardSaid : Prop := Claim7.holds Tryd.pinned (.plain (OpenSpec.upto keyencAfterSpec)) keyencAfterUptoCard

/-- THE SECOND FORM's CARD OF 'docstorelaw03.KeyencOrder'. -/
def keyencOrderUptoCard : Claim7 := { stood := { row := keyencOrderUptoRow, standIns := [], harness := (true, "da9bab6ca15dc454c1015d643656c3251c825732e8c3e32a2b745e2c2cf9bca1"), looks := false }, kinds := [], alts := [], laidByText := true, laidKinds := [.data, .pinned], laidTests := true, laidLooks := .later }
def KeyencOrderUptoCardSaid : Prop := Claim7.holds Tryd.pinned (.plain (OpenSpec.upto keyencOrderSpec)) keyencOrderUptoCard

/-- THE SECOND FORM's CARD OF 'docstorelaw03.KeyencPrefix'. -/
def keyencPrefixUptoCard : Claim7 := { stood := { row := keyencPrefixUptoRow, standIns := [], harness := (true, "da9bab6ca15dc454c1015d643656c3251c825732e8c3e32a2b745e2c2cf9bca1"), looks := false }, kinds := [], alts := [], laidByText := true, laidKinds := [.data, .pinned], laidTests := true, laidLooks := .later }
def KeyencPrefixUptoCardSaid : Prop := Claim7.holds Tryd.pinned (.plain (OpenSpec.upto keyencPrefixSpec)) keyencPrefixUptoCard
end Rows
end Go.Proofs.YtipphlhaaienpaaDoor
