/-
  DERIVED. GIVEN WITH THE SEED: THE CARDS: each row of YtpdelcbkcebkpaaGreatDoorRows.lean that lists a variable, with what it lists TIED to the program's text (the seventh form; the later family's looks); each row that meets fmt, with fmt's text TOLD by the authors' own Lean function (tested against real Go, not proved from fmt's source: count such statements apart). THE CARD IS WHAT COUNTS. Prove the row's statement (the work); the ties are given (YtpdelcbkcebkpaaGreatDoorTie.lean); close each card by the builder's one call (the guide's Derived/Test/ToyasCard.lean, 'card_holds'). Laid BY PROGRAM, IN A SANDBOX (cutbox-door.mjs). By AI agents, Wed Nov 11 2026. No macro, syntax, notation, axiom, sorry.
-/
import Derived.Test.YtpdelcbkcebkpaaGreatDoorRows
import GoSem.ClaimSeven
namespace Go.Proofs.YtpdelcbkcebkpaaGreatDoor
namespace Rows

/-- THE TIED CARD OF 'wicketlaw04.JtextOwn'. -/
def jtextOwnCard : Claim7 := { stood := { row := jtextOwnRow, standIns := [], harness := (true, "8508c7d3d89810efb2cdda42b132f8d864be92bd672ec63e6ac94ff1c255a874"), looks := true }, kinds := [], alts := [], laidByText := true, laidKinds := [.data, .data, .pinned], laidTests := true, laidLooks := .later }
def JtextOwnCardSaid : Prop := Claim7.holds Tryz.pinned (.plain (OpenSpec.ofChange jtextOwnSpec)) jtextOwnCard

/-- THE TIED CARD OF 'wicketlaw04.JtextMakes'. -/
def jtextMakesCard : Claim7 := { stood := { row := jtextMakesRow, standIns := [], harness := (true, "8508c7d3d89810efb2cdda42b132f8d864be92bd672ec63e6ac94ff1c255a874"), looks := true }, kinds := [], alts := [], laidByText := true, laidKinds := [.data, .data, .data, .data, .data, .pinned], laidTests := true, laidLooks := .later }
def JtextMakesCardSaid : Prop := Claim7.holds Tryz.pinned (.plain (OpenSpec.ofChange jtextMakesSpec)) jtextMakesCard

/-- THE TIED CARD OF 'wicketlaw04.JtextAsks'. -/
def jtextAsksCard : Claim7 := { stood := { row := jtextAsksRow, standIns := [], harness := (true, "8508c7d3d89810efb2cdda42b132f8d864be92bd672ec63e6ac94ff1c255a874"), looks := true }, kinds := [], alts := [], laidByText := true, laidKinds := [.data, .data, .data, .data, .sentinel, .sentinel, .data, .pinned], laidTests := true, laidLooks := .later }
def JtextAsksCardSaid : Prop := Claim7.holds Tryz.pinned (.plain (OpenSpec.ofChange jtextAsksSpec)) jtextAsksCard

/-- THE TIED CARD OF 'wicketlaw10.TokenSigns'. -/
def tokenSignsCard : Claim7 := { stood := { row := tokenSignsRow, standIns := [], harness := (true, "8508c7d3d89810efb2cdda42b132f8d864be92bd672ec63e6ac94ff1c255a874"), looks := true }, kinds := [], alts := [], laidByText := true, laidKinds := [.data, .data, .data, .data, .data, .data, .data, .sentinel, .sentinel, .data, .data, .pinned], laidTests := true, laidLooks := .later }
def TokenSignsCardSaid : Prop := Claim7.holds Tryz.pinned (.plain (OpenSpec.ofChange tokenSignsSpec)) tokenSignsCard

/-- THE TIED CARD OF 'wicketlaw10.TokenVerifies'. -/
def tokenVerifiesCard : Claim7 := { stood := { row := tokenVerifiesRow, standIns := [], harness := (true, "8508c7d3d89810efb2cdda42b132f8d864be92bd672ec63e6ac94ff1c255a874"), looks := true }, kinds := [], alts := [], laidByText := true, laidKinds := [.data, .data, .data, .data, .data, .data, .data, .sentinel, .sentinel, .data, .data, .pinned], laidTests := true, laidLooks := .later }
def TokenVerifiesCardSaid : Prop := Claim7.holds Tryz.pinned (.plain (OpenSpec.ofChange tokenVerifiesSpec)) tokenVerifiesCard

/-- THE TIED CARD OF 'wicketlaw10.TokenMade'. -/
def tokenMadeCard : Claim7 := { stood := { row := tokenMadeRow, standIns := [], harness := (true, "8508c7d3d89810efb2cdda42b132f8d864be92bd672ec63e6ac94ff1c255a874"), looks := true }, kinds := [], alts := [], laidByText := true, laidKinds := [.data, .data, .data, .data, .data, .data, .data, .sentinel, .sentinel, .data, .data, .pinned], laidTests := true, laidLooks := .later }
def TokenMadeCardSaid : Prop := Claim7.holds Tryz.pinned (.plain (OpenSpec.ofChange tokenMadeSpec)) tokenMadeCard

/-- THE TIED CARD OF 'wicketlaw10.TokenReads'. -/
def tokenReadsCard : Claim7 := { stood := { row := tokenReadsRow, standIns := [], harness := (true, "8508c7d3d89810efb2cdda42b132f8d864be92bd672ec63e6ac94ff1c255a874"), looks := true }, kinds := [], alts := [], laidByText := true, laidKinds := [.data, .data, .data, .data, .data, .data, .sentinel, .sentinel, .data, .data, .pinned], laidTests := true, laidLooks := .later }
def TokenReadsCardSaid : Prop := Claim7.holds Tryz.pinned (.plain (OpenSpec.ofChange tokenReadsSpec)) tokenReadsCard

/-- THE TIED CARD OF 'wicketlaw10.TokenKeyed'. -/
def tokenKeyedCard : Claim7 := { stood := { row := tokenKeyedRow, standIns := [], harness := (true, "8508c7d3d89810efb2cdda42b132f8d864be92bd672ec63e6ac94ff1c255a874"), looks := true }, kinds := [], alts := [], laidByText := true, laidKinds := [.data, .data, .data, .data, .data, .data, .sentinel, .sentinel, .data, .data, .pinned], laidTests := true, laidLooks := .later }
def TokenKeyedCardSaid : Prop := Claim7.holds Tryz.pinned (.plain (OpenSpec.ofChange tokenKeyedSpec)) tokenKeyedCard

/-- THE TIED CARD OF 'wicketlaw10.TokenRotates'. -/
def tokenRotatesCard : Claim7 := { stood := { row := tokenRotatesRow, standIns := [], harness := (true, "8508c7d3d89810efb2cdda42b132f8d864be92bd672ec63e6ac94ff1c255a874"), looks := true }, kinds := [], alts := [], laidByText := true, laidKinds := [.data, .data, .data, .data, .data, .data, .sentinel, .sentinel, .data, .data, .pinned], laidTests := true, laidLooks := .later }
def TokenRotatesCardSaid : Prop := Claim7.holds Tryz.pinned (.plain (OpenSpec.ofChange tokenRotatesSpec)) tokenRotatesCard

/-- THE TIED CARD OF 'wicketlaw10.TokenTurns'. -/
def tokenTurnsCard : Claim7 := { stood := { row := tokenTurnsRow, standIns := [], harness := (true, "8508c7d3d89810efb2cdda42b132f8d864be92bd672ec63e6ac94ff1c255a874"), looks := true }, kinds := [], alts := [], laidByText := true, laidKinds := [.data, .data, .data, .data, .data, .data, .sentinel, .sentinel, .data, .data, .pinned], laidTests := true, laidLooks := .later }
def TokenTurnsCardSaid : Prop := Claim7.holds Tryz.pinned (.plain (OpenSpec.ofChange tokenTurnsSpec)) tokenTurnsCard

/-- THE TIED CARD OF 'wicketlaw10.TokenBack'. -/
def tokenBackCard : Claim7 := { stood := { row := tokenBackRow, standIns := [], harness := (true, "8508c7d3d89810efb2cdda42b132f8d864be92bd672ec63e6ac94ff1c255a874"), looks := true }, kinds := [], alts := [], laidByText := true, laidKinds := [.data, .data, .data, .data, .data, .data, .sentinel, .sentinel, .data, .data, .pinned], laidTests := true, laidLooks := .later }
def TokenBackCardSaid : Prop := Claim7.holds Tryz.pinned (.plain (OpenSpec.ofChange tokenBackSpec)) tokenBackCard

/-- THE SECOND FORM's CARD OF 'wicketlaw04.JtextOwn'. -/
def jtextOwnUptoCard : Claim7 := { stood := { row := jtextOwnUptoRow, standIns := [], harness := (true, "8508c7d3d89810efb2cdda42b132f8d864be92bd672ec63e6ac94ff1c255a874"), looks := true }, kinds := [], alts := [], laidByText := true, laidKinds := [.data, .data, .pinned], laidTests := true, laidLooks := .later }
def JtextOwnUptoCardSaid : Prop := Claim7.holds Tryz.pinned (.plain (OpenSpec.upto jtextOwnSpec)) jtextOwnUptoCard

/-- THE SECOND FORM's CARD OF 'wicketlaw04.JtextMakes'. -/
def jtextMakesUptoCard : Claim7 := { stood := { row := jtextMakesUptoRow, standIns := [], harness := (true, "8508c7d3d89810efb2cdda42b132f8d864be92bd672ec63e6ac94ff1c255a874"), looks := true }, kinds := [], alts := [], laidByText := true, laidKinds := [.data, .data, .data, .data, .data, .pinned], laidTests := true, laidLooks := .later }
def JtextMakesUptoCardSaid : Prop := Claim7.holds Tryz.pinned (.plain (OpenSpec.upto jtextMakesSpec)) jtextMakesUptoCard

/-- THE SECOND FORM's CARD OF 'wicketlaw04.JtextAsks'. -/
def jtextAsksUptoCard : Claim7 := { stood := { row := jtextAsksUptoRow, standIns := [], harness := (true, "8508c7d3d89810efb2cdda42b132f8d864be92bd672ec63e6ac94ff1c255a874"), looks := true }, kinds := [], alts := [], laidByText := true, laidKinds := [.data, .data, .data, .data, .sentinel, .sentinel, .data, .pinned], laidTests := true, laidLooks := .later }
def JtextAsksUptoCardSaid : Prop := Claim7.holds Tryz.pinned (.plain (OpenSpec.upto jtextAsksSpec)) jtextAsksUptoCard

/-- THE SECOND FORM's CARD OF 'wicketlaw10.TokenSigns'. -/
def tokenSignsUptoCard : Claim7 := { stood := { row := tokenSignsUptoRow, standIns := [], harness := (true, "8508c7d3d89810efb2cdda42b132f8d864be92bd672ec63e6ac94ff1c255a874"), looks := true }, kinds := [], alts := [], laidByText := true, laidKinds := [.data, .data, .data, .data, .data, .data, .data, .sentinel, .sentinel, .data, .data, .pinned], laidTests := true, laidLooks := .later }
def TokenSignsUptoCardSaid : Prop := Claim7.holds Tryz.pinned (.plain (OpenSpec.upto tokenSignsSpec)) tokenSignsUptoCard

/-- THE SECOND FORM's CARD OF 'wicketlaw10.TokenVerifies'. -/
def tokenVerifiesUptoCard : Claim7 := { stood := { row := tokenVerifiesUptoRow, standIns := [], harness := (true, "8508c7d3d89810efb2cdda42b132f8d864be92bd672ec63e6ac94ff1c255a874"), looks := true }, kinds := [], alts := [], laidByText := true, laidKinds := [.data, .data, .data, .data, .data, .data, .data, .sentinel, .sentinel, .data, .data, .pinned], laidTests := true, laidLooks := .later }
def TokenVerifiesUptoCardSaid : Prop := Claim7.holds Tryz.pinned (.plain (OpenSpec.upto tokenVerifiesSpec)) tokenVerifiesUptoCard

/-- THE SECOND FORM's CARD OF 'wicketlaw10.TokenMade'. -/
def tokenMadeUptoCard : Claim7 := { stood := { row := tokenMadeUptoRow, standIns := [], harness := (true, "8508c7d3d89810efb2cdda42b132f8d864be92bd672ec63e6ac94ff1c255a874"), looks := true }, kinds := [], alts := [], laidByText := true, laidKinds := [.data, .data, .data, .data, .data, .data, .data, .sentinel, .sentinel, .data, .data, .pinned], laidTests := true, laidLooks := .later }
def TokenMadeUptoCardSaid : Prop := Claim7.holds Tryz.pinned (.plain (OpenSpec.upto tokenMadeSpec)) tokenMadeUptoCard

/-- THE SECOND FORM's CARD OF 'wicketlaw10.TokenReads'. -/
def tokenReadsUptoCard : Claim7 := { stood := { row := tokenReadsUptoRow, standIns := [], harness := (true, "8508c7d3d89810efb2cdda42b132f8d864be92bd672ec63e6ac94ff1c255a874"), looks := true }, kinds := [], alts := [], laidByText := true, laidKinds := [.data, .data, .data, .data, .data, .data, .sentinel, .sentinel, .data, .data, .pinned], laidTests := true, laidLooks := .later }
def TokenReadsUptoCardSaid : Prop := Claim7.holds Tryz.pinned (.plain (OpenSpec.upto tokenReadsSpec)) tokenReadsUptoCard

/-- THE SECOND FORM's CARD OF 'wicketlaw10.TokenKeyed'. -/
def tokenKeyedUptoCard : Claim7 := { stood := { row := tokenKeyedUptoRow, standIns := [], harness := (true, "8508c7d3d89810efb2cdda42b132f8d864be92bd672ec63e6ac94ff1c255a874"), looks := true }, kinds := [], alts := [], laidByText := true, laidKinds := [.data, .data, .data, .data, .data, .data, .sentinel, .sentinel, .data, .data, .pinned], laidTests := true, laidLooks := .later }
def TokenKeyedUptoCardSaid : Prop := Claim7.holds Tryz.pinned (.plain (OpenSpec.upto tokenKeyedSpec)) tokenKeyedUptoCard

/-- THE SECOND FORM's CARD OF 'wicketlaw10.TokenRotates'. -/
def tokenRotatesUptoCard : Claim7 := { stood := { row := tokenRotatesUptoRow, standIns := [], harness := (true, "8508c7d3d89810efb2cdda42b132f8d864be92bd672ec63e6ac94ff1c255a874"), looks := true }, kinds := [], alts := [], laidByText := true, laidKinds := [.data, .data, .data, .data, .data, .data, .sentinel, .sentinel, .data, .data, .pinned], laidTests := true, laidLooks := .later }
def TokenRotatesUptoCardSaid : Prop := Claim7.holds Tryz.pinned (.plain (OpenSpec.upto tokenRotatesSpec)) tokenRotatesUptoCard

/-- THE SECOND FORM's CARD OF 'wicketlaw10.TokenTurns'. -/
def tokenTurnsUptoCard : Claim7 := { stood := { row := tokenTurnsUptoRow, standIns := [], harness := (true, "8508c7d3d89810efb2cdda42b132f8d864be92bd672ec63e6ac94ff1c255a874"), looks := true }, kinds := [], alts := [], laidByText := true, laidKinds := [.data, .data, .data, .data, .data, .data, .sentinel, .sentinel, .data, .data, .pinned], laidTests := true, laidLooks := .later }
def TokenTurnsUptoCardSaid : Prop := Claim7.holds Tryz.pinned (.plain (OpenSpec.upto tokenTurnsSpec)) tokenTurnsUptoCard

/-- THE SECOND FORM's CARD OF 'wicketlaw10.TokenBack'. -/
def tokenBackUptoCard : Claim7 := { stood := { row := tokenBackUptoRow, standIns := [], harness := (true, "8508c7d3d89810efb2cdda42b132f8d864be92bd672ec63e6ac94ff1c255a874"), looks := true }, kinds := [], alts := [], laidByText := true, laidKinds := [.data, .data, .data, .data, .data, .data, .sentinel, .sentinel, .data, .data, .pinned], laidTests := true, laidLooks := .later }
def TokenBackUptoCardSaid : Prop := Claim7.holds Tryz.pinned (.plain (OpenSpec.upto tokenBackSpec)) tokenBackUptoCard
end Rows
end Go.Proofs.YtpdelcbkcebkpaaGreatDoor
