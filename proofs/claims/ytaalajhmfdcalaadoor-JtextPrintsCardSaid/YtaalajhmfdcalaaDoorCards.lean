/-
  DERIVED. GIVEN WITH THE SEED: THE CARDS: each row of YtaalajhmfdcalaaDoorRows.lean that lists a variable, with what it lists TIED to the program's text (the seventh form; the later family's looks); each row that meets fmt, with fmt's text TOLD by the authors' own Lean function (tested against real Go, not proved from fmt's source: count such statements apart). THE CARD IS WHAT COUNTS. Prove the row's statement (the work); the ties are given (YtaalajhmfdcalaaDoorTie.lean); close each card by the builder's one call (the guide's Derived/Test/ToyasCard.lean, 'card_holds'). Laid BY PROGRAM, IN A SANDBOX (cutbox-door.mjs). By AI agents, Wed Nov 11 2026. No macro, syntax, notation, axiom, sorry.
-/
import Derived.Test.YtaalajhmfdcalaaDoorRows
import GoSem.ClaimSeven
namespace Go.Proofs.YtaalajhmfdcalaaDoor
namespace Rows

/-- THE TIED CARD OF 'wicketlaw04.JtextParses'. -/
def jtextParsesCard : Claim7 := { stood := { row := jtextParsesRow, standIns := [], harness := (true, "6c573d1c6e5c50ab87e8969ebef2ac34d7510ac18b6087ad60affc3fd5b6bae3"), looks := true }, kinds := [], alts := [], laidByText := true, laidKinds := [.data, .data, .pinned], laidTests := true, laidLooks := .later }
def JtextParsesCardSaid : Prop := Claim7.holds Tryd.pinned (.plain (OpenSpec.ofChange jtextParsesSpec)) jtextParsesCard

/-- THE TIED CARD OF 'wicketlaw04.JtextBack'. -/
def jtextBackCard : Claim7 := { stood := { row := jtextBackRow, standIns := [], harness := (true, "6c573d1c6e5c50ab87e8969ebef2ac34d7510ac18b6087ad60affc3fd5b6bae3"), looks := true }, kinds := [], alts := [], laidByText := true, laidKinds := [.data, .data, .pinned], laidTests := true, laidLooks := .later }
def JtextBackCardSaid : Prop := Claim7.holds Tryd.pinned (.plain (OpenSpec.ofChange jtextBackSpec)) jtextBackCard

/-- THE TIED CARD OF 'wicketlaw04.JtextFirst'. -/
def jtextFirstCard : Claim7 := { stood := { row := jtextFirstRow, standIns := [], harness := (true, "6c573d1c6e5c50ab87e8969ebef2ac34d7510ac18b6087ad60affc3fd5b6bae3"), looks := true }, kinds := [], alts := [], laidByText := true, laidKinds := [.data, .data, .pinned], laidTests := true, laidLooks := .later }
def JtextFirstCardSaid : Prop := Claim7.holds Tryd.pinned (.plain (OpenSpec.ofChange jtextFirstSpec)) jtextFirstCard

/-- THE TIED CARD OF 'wicketlaw04.JtextPrints'. -/
def jtextPrintsCard : Claim7 := { stood := { row := jtextPrintsRow, standIns := [], harness := (true, "6c573d1c6e5c50ab87e8969ebef2ac34d7510ac18b6087ad60affc3fd5b6bae3"), looks := true }, kinds := [], alts := [], laidByText := true, laidKinds := [.data, .data, .pinned], laidTests := true, laidLooks := .later }
def JtextPrintsCardSaid : Prop := Claim7.holds Tryd.pinned (.plain (OpenSpec.ofChange jtextPrintsSpec)) jtextPrintsCard

/-- THE TIED CARD OF 'wicketlaw04.JtextSames'. -/
def jtextSamesCard : Claim7 := { stood := { row := jtextSamesRow, standIns := [], harness := (true, "6c573d1c6e5c50ab87e8969ebef2ac34d7510ac18b6087ad60affc3fd5b6bae3"), looks := true }, kinds := [], alts := [], laidByText := true, laidKinds := [.data, .data, .pinned], laidTests := true, laidLooks := .later }
def JtextSamesCardSaid : Prop := Claim7.holds Tryd.pinned (.plain (OpenSpec.ofChange jtextSamesSpec)) jtextSamesCard

/-- THE TIED CARD OF 'wicketlaw04.JtextForm'. -/
def jtextFormCard : Claim7 := { stood := { row := jtextFormRow, standIns := [], harness := (true, "6c573d1c6e5c50ab87e8969ebef2ac34d7510ac18b6087ad60affc3fd5b6bae3"), looks := true }, kinds := [], alts := [], laidByText := true, laidKinds := [.data, .data, .pinned], laidTests := true, laidLooks := .later }
def JtextFormCardSaid : Prop := Claim7.holds Tryd.pinned (.plain (OpenSpec.ofChange jtextFormSpec)) jtextFormCard

/-- THE TIED CARD OF 'wicketlaw04.JtextAscii'. -/
def jtextAsciiCard : Claim7 := { stood := { row := jtextAsciiRow, standIns := [], harness := (true, "6c573d1c6e5c50ab87e8969ebef2ac34d7510ac18b6087ad60affc3fd5b6bae3"), looks := true }, kinds := [], alts := [], laidByText := true, laidKinds := [.data, .data, .pinned], laidTests := true, laidLooks := .later }
def JtextAsciiCardSaid : Prop := Claim7.holds Tryd.pinned (.plain (OpenSpec.ofChange jtextAsciiSpec)) jtextAsciiCard

/-- THE TIED CARD OF 'wicketlaw04.JtextCanon'. -/
def jtextCanonCard : Claim7 := { stood := { row := jtextCanonRow, standIns := [], harness := (true, "6c573d1c6e5c50ab87e8969ebef2ac34d7510ac18b6087ad60affc3fd5b6bae3"), looks := true }, kinds := [], alts := [], laidByText := true, laidKinds := [.data, .data, .pinned], laidTests := true, laidLooks := .later }
def JtextCanonCardSaid : Prop := Claim7.holds Tryd.pinned (.plain (OpenSpec.ofChange jtextCanonSpec)) jtextCanonCard

/-- THE SECOND FORM's CARD OF 'wicketlaw04.JtextParses'. -/
def jtextParsesUptoCard : Claim7 := { stood := { row := jtextParsesUptoRow, standIns := [], harness := (true, "6c573d1c6e5c50ab87e8969ebef2ac34d7510ac18b6087ad60affc3fd5b6bae3"), looks := true }, kinds := [], alts := [], laidByText := true, laidKinds := [.data, .data, .pinned], laidTests := true, laidLooks := .later }
def JtextParsesUptoCardSaid : Prop := Claim7.holds Tryd.pinned (.plain (OpenSpec.upto jtextParsesSpec)) jtextParsesUptoCard

/-- THE SECOND FORM's CARD OF 'wicketlaw04.JtextBack'. -/
def jtextBackUptoCard : Claim7 := { stood := { row := jtextBackUptoRow, standIns := [], harness := (true, "6c573d1c6e5c50ab87e8969ebef2ac34d7510ac18b6087ad60affc3fd5b6bae3"), looks := true }, kinds := [], alts := [], laidByText := true, laidKinds := [.data, .data, .pinned], laidTests := true, laidLooks := .later }
def JtextBackUptoCardSaid : Prop := Claim7.holds Tryd.pinned (.plain (OpenSpec.upto jtextBackSpec)) jtextBackUptoCard

/-- THE SECOND FORM's CARD OF 'wicketlaw04.JtextFirst'. -/
def jtextFirstUptoCard : Claim7 := { stood := { row := jtextFirstUptoRow, standIns := [], harness := (true, "6c573d1c6e5c50ab87e8969ebef2ac34d7510ac18b6087ad60affc3fd5b6bae3"), looks := true }, kinds := [], alts := [], laidByText := true, laidKinds := [.data, .data, .pinned], laidTests := true, laidLooks := .later }
def JtextFirstUptoCardSaid : Prop := Claim7.holds Tryd.pinned (.plain (OpenSpec.upto jtextFirstSpec)) jtextFirstUptoCard

/-- THE SECOND FORM's CARD OF 'wicketlaw04.JtextPrints'. -/
def jtextPrintsUptoCard : Claim7 := { stood := { row := jtextPrintsUptoRow, standIns := [], harness := (true, "6c573d1c6e5c50ab87e8969ebef2ac34d7510ac18b6087ad60affc3fd5b6bae3"), looks := true }, kinds := [], alts := [], laidByText := true, laidKinds := [.data, .data, .pinned], laidTests := true, laidLooks := .later }
def JtextPrintsUptoCardSaid : Prop := Claim7.holds Tryd.pinned (.plain (OpenSpec.upto jtextPrintsSpec)) jtextPrintsUptoCard

/-- THE SECOND FORM's CARD OF 'wicketlaw04.JtextSames'. -/
def jtextSamesUptoCard : Claim7 := { stood := { row := jtextSamesUptoRow, standIns := [], harness := (true, "6c573d1c6e5c50ab87e8969ebef2ac34d7510ac18b6087ad60affc3fd5b6bae3"), looks := true }, kinds := [], alts := [], laidByText := true, laidKinds := [.data, .data, .pinned], laidTests := true, laidLooks := .later }
def JtextSamesUptoCardSaid : Prop := Claim7.holds Tryd.pinned (.plain (OpenSpec.upto jtextSamesSpec)) jtextSamesUptoCard

/-- THE SECOND FORM's CARD OF 'wicketlaw04.JtextForm'. -/
def jtextFormUptoCard : Claim7 := { stood := { row := jtextFormUptoRow, standIns := [], harness := (true, "6c573d1c6e5c50ab87e8969ebef2ac34d7510ac18b6087ad60affc3fd5b6bae3"), looks := true }, kinds := [], alts := [], laidByText := true, laidKinds := [.data, .data, .pinned], laidTests := true, laidLooks := .later }
def JtextFormUptoCardSaid : Prop := Claim7.holds Tryd.pinned (.plain (OpenSpec.upto jtextFormSpec)) jtextFormUptoCard

/-- THE SECOND FORM's CARD OF 'wicketlaw04.JtextAscii'. -/
def jtextAsciiUptoCard : Claim7 := { stood := { row := jtextAsciiUptoRow, standIns := [], harness := (true, "6c573d1c6e5c50ab87e8969ebef2ac34d7510ac18b6087ad60affc3fd5b6bae3"), looks := true }, kinds := [], alts := [], laidByText := true, laidKinds := [.data, .data, .pinned], laidTests := true, laidLooks := .later }
def JtextAsciiUptoCardSaid : Prop := Claim7.holds Tryd.pinned (.plain (OpenSpec.upto jtextAsciiSpec)) jtextAsciiUptoCard

/-- THE SECOND FORM's CARD OF 'wicketlaw04.JtextCanon'. -/
def jtextCanonUptoCard : Claim7 := { stood := { row := jtextCanonUptoRow, standIns := [], harness := (true, "6c573d1c6e5c50ab87e8969ebef2ac34d7510ac18b6087ad60affc3fd5b6bae3"), looks := true }, kinds := [], alts := [], laidByText := true, laidKinds := [.data, .data, .pinned], laidTests := true, laidLooks := .later }
def JtextCanonUptoCardSaid : Prop := Claim7.holds Tryd.pinned (.plain (OpenSpec.upto jtextCanonSpec)) jtextCanonUptoCard
end Rows
end Go.Proofs.YtaalajhmfdcalaaDoor
