/-
  DERIVED. GIVEN WITH THE SEED: THE CARDS: each row of YtlblilbmpdejgaaDoorRows.lean that lists a variable, with what it lists TIED to the program's text (the seventh form; the later family's looks); each row that meets fmt, with fmt's text TOLD by the authors' own Lean function (tested against real Go, not proved from fmt's source: count such statements apart). THE CARD IS WHAT COUNTS. Prove the row's statement (the work); the ties are given (YtlblilbmpdejgaaDoorTie.lean); close each card by the builder's one call (the guide's Derived/Test/ToyasCard.lean, 'card_holds'). Laid BY PROGRAM, IN A SANDBOX (cutbox-door.mjs). By AI agents, Wed Nov 11 2026. No macro, syntax, notation, axiom, sorry.
-/
import Derived.Test.YtlblilbmpdejgaaDoorRows
import GoSem.ClaimSeven
namespace Go.Proofs.YtlblilbmpdejgaaDoor
namespace Rows

/-- THE TIED CARD OF 'quaysidelaw11.CellKeeps'. -/
def cellKeepsCard : Claim7 := { stood := { row := cellKeepsRow, standIns := [], harness := (true, "813f66fb7fb397c704ad7d46d6795482353df011d17e58d115846a2b1024b68c"), looks := false }, kinds := [], alts := [], laidByText := true, laidKinds := [.data], laidTests := true, laidLooks := .later }
def CellKeepsCardSaid : Prop := Claim7.holds Tryd.pinned (.plain (OpenSpec.ofChange cellKeepsSpec)) cellKeepsCard

/-- THE TIED CARD OF 'quaysidelaw13.FoldAdds'. -/
def foldAddsCard : Claim7 := { stood := { row := foldAddsRow, standIns := [], harness := (true, "813f66fb7fb397c704ad7d46d6795482353df011d17e58d115846a2b1024b68c"), looks := false }, kinds := [], alts := [], laidByText := true, laidKinds := [.data], laidTests := true, laidLooks := .later }
def FoldAddsCardSaid : Prop := Claim7.holds Tryd.pinned (.plain (OpenSpec.ofChange foldAddsSpec)) foldAddsCard

/-- THE TIED CARD OF 'quaysidelaw13.FoldJust'. -/
def foldJustCard : Claim7 := { stood := { row := foldJustRow, standIns := [], harness := (true, "813f66fb7fb397c704ad7d46d6795482353df011d17e58d115846a2b1024b68c"), looks := false }, kinds := [], alts := [], laidByText := true, laidKinds := [.data], laidTests := true, laidLooks := .later }
def FoldJustCardSaid : Prop := Claim7.holds Tryd.pinned (.plain (OpenSpec.ofChange foldJustSpec)) foldJustCard

/-- THE TIED CARD OF 'quaysidelaw13.FoldHolds'. -/
def foldHoldsCard : Claim7 := { stood := { row := foldHoldsRow, standIns := [], harness := (true, "813f66fb7fb397c704ad7d46d6795482353df011d17e58d115846a2b1024b68c"), looks := false }, kinds := [], alts := [], laidByText := true, laidKinds := [.data], laidTests := true, laidLooks := .later }
def FoldHoldsCardSaid : Prop := Claim7.holds Tryd.pinned (.plain (OpenSpec.ofChange foldHoldsSpec)) foldHoldsCard

/-- THE TIED CARD OF 'quaysidelaw13.FoldBegins'. -/
def foldBeginsCard : Claim7 := { stood := { row := foldBeginsRow, standIns := [], harness := (true, "813f66fb7fb397c704ad7d46d6795482353df011d17e58d115846a2b1024b68c"), looks := false }, kinds := [], alts := [], laidByText := true, laidKinds := [.data], laidTests := true, laidLooks := .later }
def FoldBeginsCardSaid : Prop := Claim7.holds Tryd.pinned (.plain (OpenSpec.ofChange foldBeginsSpec)) foldBeginsCard

/-- THE TIED CARD OF 'quaysidelaw13.FoldKnown'. -/
def foldKnownCard : Claim7 := { stood := { row := foldKnownRow, standIns := [], harness := (true, "813f66fb7fb397c704ad7d46d6795482353df011d17e58d115846a2b1024b68c"), looks := false }, kinds := [], alts := [], laidByText := true, laidKinds := [.data], laidTests := true, laidLooks := .later }
def FoldKnownCardSaid : Prop := Claim7.holds Tryd.pinned (.plain (OpenSpec.ofChange foldKnownSpec)) foldKnownCard

/-- THE TIED CARD OF 'quaysidelaw13.FoldApart'. -/
def foldApartCard : Claim7 := { stood := { row := foldApartRow, standIns := [], harness := (true, "813f66fb7fb397c704ad7d46d6795482353df011d17e58d115846a2b1024b68c"), looks := false }, kinds := [], alts := [], laidByText := true, laidKinds := [.data], laidTests := true, laidLooks := .later }
def FoldApartCardSaid : Prop := Claim7.holds Tryd.pinned (.plain (OpenSpec.ofChange foldApartSpec)) foldApartCard

/-- THE TIED CARD OF 'quaysidelaw13.FoldLast'. -/
def foldLastCard : Claim7 := { stood := { row := foldLastRow, standIns := [], harness := (true, "813f66fb7fb397c704ad7d46d6795482353df011d17e58d115846a2b1024b68c"), looks := false }, kinds := [], alts := [], laidByText := true, laidKinds := [.data], laidTests := true, laidLooks := .later }
def FoldLastCardSaid : Prop := Claim7.holds Tryd.pinned (.plain (OpenSpec.ofChange foldLastSpec)) foldLastCard

/-- THE SECOND FORM's CARD OF 'quaysidelaw11.CellKeeps'. -/
def cellKeepsUptoCard : Claim7 := { stood := { row := cellKeepsUptoRow, standIns := [], harness := (true, "813f66fb7fb397c704ad7d46d6795482353df011d17e58d115846a2b1024b68c"), looks := false }, kinds := [], alts := [], laidByText := true, laidKinds := [.data], laidTests := true, laidLooks := .later }
def CellKeepsUptoCardSaid : Prop := Claim7.holds Tryd.pinned (.plain (OpenSpec.upto cellKeepsSpec)) cellKeepsUptoCard

/-- THE SECOND FORM's CARD OF 'quaysidelaw13.FoldAdds'. -/
def foldAddsUptoCard : Claim7 := { stood := { row := foldAddsUptoRow, standIns := [], harness := (true, "813f66fb7fb397c704ad7d46d6795482353df011d17e58d115846a2b1024b68c"), looks := false }, kinds := [], alts := [], laidByText := true, laidKinds := [.data], laidTests := true, laidLooks := .later }
def FoldAddsUptoCardSaid : Prop := Claim7.holds Tryd.pinned (.plain (OpenSpec.upto foldAddsSpec)) foldAddsUptoCard

/-- THE SECOND FORM's CARD OF 'quaysidelaw13.FoldJust'. -/
def foldJustUptoCard : Claim7 := { stood := { row := foldJustUptoRow, standIns := [], harness := (true, "813f66fb7fb397c704ad7d46d6795482353df011d17e58d115846a2b1024b68c"), looks := false }, kinds := [], alts := [], laidByText := true, laidKinds := [.data], laidTests := true, laidLooks := .later }
def FoldJustUptoCardSaid : Prop := Claim7.holds Tryd.pinned (.plain (OpenSpec.upto foldJustSpec)) foldJustUptoCard

/-- THE SECOND FORM's CARD OF 'quaysidelaw13.FoldHolds'. -/
def foldHoldsUptoCard : Claim7 := { stood := { row := foldHoldsUptoRow, standIns := [], harness := (true, "813f66fb7fb397c704ad7d46d6795482353df011d17e58d115846a2b1024b68c"), looks := false }, kinds := [], alts := [], laidByText := true, laidKinds := [.data], laidTests := true, laidLooks := .later }
def FoldHoldsUptoCardSaid : Prop := Claim7.holds Tryd.pinned (.plain (OpenSpec.upto foldHoldsSpec)) foldHoldsUptoCard

/-- THE SECOND FORM's CARD OF 'quaysidelaw13.FoldBegins'. -/
def foldBeginsUptoCard : Claim7 := { stood := { row := foldBeginsUptoRow, standIns := [], harness := (true, "813f66fb7fb397c704ad7d46d6795482353df011d17e58d115846a2b1024b68c"), looks := false }, kinds := [], alts := [], laidByText := true, laidKinds := [.data], laidTests := true, laidLooks := .later }
def FoldBeginsUptoCardSaid : Prop := Claim7.holds Tryd.pinned (.plain (OpenSpec.upto foldBeginsSpec)) foldBeginsUptoCard

/-- THE SECOND FORM's CARD OF 'quaysidelaw13.FoldKnown'. -/
def foldKnownUptoCard : Claim7 := { stood := { row := foldKnownUptoRow, standIns := [], harness := (true, "813f66fb7fb397c704ad7d46d6795482353df011d17e58d115846a2b1024b68c"), looks := false }, kinds := [], alts := [], laidByText := true, laidKinds := [.data], laidTests := true, laidLooks := .later }
def FoldKnownUptoCardSaid : Prop := Claim7.holds Tryd.pinned (.plain (OpenSpec.upto foldKnownSpec)) foldKnownUptoCard

/-- THE SECOND FORM's CARD OF 'quaysidelaw13.FoldApart'. -/
def foldApartUptoCard : Claim7 := { stood := { row := foldApartUptoRow, standIns := [], harness := (true, "813f66fb7fb397c704ad7d46d6795482353df011d17e58d115846a2b1024b68c"), looks := false }, kinds := [], alts := [], laidByText := true, laidKinds := [.data], laidTests := true, laidLooks := .later }
def FoldApartUptoCardSaid : Prop := Claim7.holds Tryd.pinned (.plain (OpenSpec.upto foldApartSpec)) foldApartUptoCard

/-- THE SECOND FORM's CARD OF 'quaysidelaw13.FoldLast'. -/
def foldLastUptoCard : Claim7 := { stood := { row := foldLastUptoRow, standIns := [], harness := (true, "813f66fb7fb397c704ad7d46d6795482353df011d17e58d115846a2b1024b68c"), looks := false }, kinds := [], alts := [], laidByText := true, laidKinds := [.data], laidTests := true, laidLooks := .later }
def FoldLastUptoCardSaid : Prop := Claim7.holds Tryd.pinned (.plain (OpenSpec.upto foldLastSpec)) foldLastUptoCard
end Rows
end Go.Proofs.YtlblilbmpdejgaaDoor
