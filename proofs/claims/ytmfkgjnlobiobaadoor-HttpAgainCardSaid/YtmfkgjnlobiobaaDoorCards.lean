/-
  DERIVED. GIVEN WITH THE SEED: THE CARDS: each row of YtmfkgjnlobiobaaDoorRows.lean that lists a variable, with what it lists TIED to the program's text (the seventh form; the later family's looks); each row that meets fmt, with fmt's text TOLD by the authors' own Lean function (tested against real Go, not proved from fmt's source: count such statements apart). THE CARD IS WHAT COUNTS. Prove the row's statement (the work); the ties are given (YtmfkgjnlobiobaaDoorTie.lean); close each card by the builder's one call (the guide's Derived/Test/ToyasCard.lean, 'card_holds'). Laid BY PROGRAM, IN A SANDBOX (cutbox-door.mjs). By AI agents, Wed Nov 11 2026. No macro, syntax, notation, axiom, sorry.
-/
import Derived.Test.YtmfkgjnlobiobaaDoorRows
import GoSem.ClaimSeven
namespace Go.Proofs.YtmfkgjnlobiobaaDoor
namespace Rows

/-- THE TIED CARD OF 'wicketlaw15.HttpNames'. -/
def httpNamesCard : Claim7 := { stood := { row := httpNamesRow, standIns := [], harness := (true, "c4db22329d567d7d5e3dc2d4ac60b1dd2b98f5163addd88e992deec61e7dc3e8"), looks := true }, kinds := [], alts := [], laidByText := true, laidKinds := [.data, .data, .data, .data, .sentinel, .sentinel, .pinned], laidTests := true, laidLooks := .later }
def HttpNamesCardSaid : Prop := Claim7.holds Tryd.pinned (.plain (OpenSpec.ofChange httpNamesSpec)) httpNamesCard

/-- THE TIED CARD OF 'wicketlaw15.HttpHead'. -/
def httpHeadCard : Claim7 := { stood := { row := httpHeadRow, standIns := [], harness := (true, "c4db22329d567d7d5e3dc2d4ac60b1dd2b98f5163addd88e992deec61e7dc3e8"), looks := true }, kinds := [], alts := [], laidByText := true, laidKinds := [.data, .data, .data, .data, .sentinel, .sentinel, .pinned], laidTests := true, laidLooks := .later }
def HttpHeadCardSaid : Prop := Claim7.holds Tryd.pinned (.plain (OpenSpec.ofChange httpHeadSpec)) httpHeadCard

/-- THE TIED CARD OF 'wicketlaw15.HttpAgain'. -/
def httpAgainCard : Claim7 := { stood := { row := httpAgainRow, standIns := [], harness := (true, "c4db22329d567d7d5e3dc2d4ac60b1dd2b98f5163addd88e992deec61e7dc3e8"), looks := true }, kinds := [], alts := [], laidByText := true, laidKinds := [.data, .data, .data, .data, .sentinel, .sentinel, .pinned], laidTests := true, laidLooks := .later }
def HttpAgainCardSaid : Prop := Claim7.holds Tryd.pinned (.plain (OpenSpec.ofChange httpAgainSpec)) httpAgainCard

/-- THE TIED CARD OF 'wicketlaw15.HttpWhole'. -/
def httpWholeCard : Claim7 := { stood := { row := httpWholeRow, standIns := [], harness := (true, "c4db22329d567d7d5e3dc2d4ac60b1dd2b98f5163addd88e992deec61e7dc3e8"), looks := true }, kinds := [], alts := [], laidByText := true, laidKinds := [.data, .data, .data, .data, .sentinel, .sentinel, .pinned], laidTests := true, laidLooks := .later }
def HttpWholeCardSaid : Prop := Claim7.holds Tryd.pinned (.plain (OpenSpec.ofChange httpWholeSpec)) httpWholeCard

/-- THE SECOND FORM's CARD OF 'wicketlaw15.HttpNames'. -/
def httpNamesUptoCard : Claim7 := { stood := { row := httpNamesUptoRow, standIns := [], harness := (true, "c4db22329d567d7d5e3dc2d4ac60b1dd2b98f5163addd88e992deec61e7dc3e8"), looks := true }, kinds := [], alts := [], laidByText := true, laidKinds := [.data, .data, .data, .data, .sentinel, .sentinel, .pinned], laidTests := true, laidLooks := .later }
def HttpNamesUptoCardSaid : Prop := Claim7.holds Tryd.pinned (.plain (OpenSpec.upto httpNamesSpec)) httpNamesUptoCard

/-- THE SECOND FORM's CARD OF 'wicketlaw15.HttpHead'. -/
def httpHeadUptoCard : Claim7 := { stood := { row := httpHeadUptoRow, standIns := [], harness := (true, "c4db22329d567d7d5e3dc2d4ac60b1dd2b98f5163addd88e992deec61e7dc3e8"), looks := true }, kinds := [], alts := [], laidByText := true, laidKinds := [.data, .data, .data, .data, .sentinel, .sentinel, .pinned], laidTests := true, laidLooks := .later }
def HttpHeadUptoCardSaid : Prop := Claim7.holds Tryd.pinned (.plain (OpenSpec.upto httpHeadSpec)) httpHeadUptoCard

/-- THE SECOND FORM's CARD OF 'wicketlaw15.HttpAgain'. -/
def httpAgainUptoCard : Claim7 := { stood := { row := httpAgainUptoRow, standIns := [], harness := (true, "c4db22329d567d7d5e3dc2d4ac60b1dd2b98f5163addd88e992deec61e7dc3e8"), looks := true }, kinds := [], alts := [], laidByText := true, laidKinds := [.data, .data, .data, .data, .sentinel, .sentinel, .pinned], laidTests := true, laidLooks := .later }
def HttpAgainUptoCardSaid : Prop := Claim7.holds Tryd.pinned (.plain (OpenSpec.upto httpAgainSpec)) httpAgainUptoCard

/-- THE SECOND FORM's CARD OF 'wicketlaw15.HttpWhole'. -/
def httpWholeUptoCard : Claim7 := { stood := { row := httpWholeUptoRow, standIns := [], harness := (true, "c4db22329d567d7d5e3dc2d4ac60b1dd2b98f5163addd88e992deec61e7dc3e8"), looks := true }, kinds := [], alts := [], laidByText := true, laidKinds := [.data, .data, .data, .data, .sentinel, .sentinel, .pinned], laidTests := true, laidLooks := .later }
def HttpWholeUptoCardSaid : Prop := Claim7.holds Tryd.pinned (.plain (OpenSpec.upto httpWholeSpec)) httpWholeUptoCard
end Rows
end Go.Proofs.YtmfkgjnlobiobaaDoor
