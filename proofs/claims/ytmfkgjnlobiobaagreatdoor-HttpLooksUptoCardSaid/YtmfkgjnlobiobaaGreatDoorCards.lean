/-
  DERIVED. GIVEN WITH THE SEED: THE CARDS: each row of YtmfkgjnlobiobaaGreatDoorRows.lean that lists a variable, with what it lists TIED to the program's text (the seventh form; the later family's looks); each row that meets fmt, with fmt's text TOLD by the authors' own Lean function (tested against real Go, not proved from fmt's source: count such statements apart). THE CARD IS WHAT COUNTS. Prove the row's statement (the work); the ties are given (YtmfkgjnlobiobaaGreatDoorTie.lean); close each card by the builder's one call (the guide's Derived/Test/ToyasCard.lean, 'card_holds'). Laid BY PROGRAM, IN A SANDBOX (cutbox-door.mjs). By AI agents, Wed Nov 11 2026. No macro, syntax, notation, axiom, sorry.
-/
import Derived.Test.YtmfkgjnlobiobaaGreatDoorRows
import GoSem.ClaimSeven
namespace Go.Proofs.YtmfkgjnlobiobaaGreatDoor
namespace Rows

/-- THE TIED CARD OF 'wicketlaw15.HttpRequests'. -/
def httpRequestsCard : Claim7 := { stood := { row := httpRequestsRow, standIns := [], harness := (true, "196e8e07db25ab819c5c0b852da903aebee2c8df4b60cb02b7bd7387ac384a55"), looks := true }, kinds := [], alts := [], laidByText := true, laidKinds := [.data, .data, .data, .data, .sentinel, .sentinel, .pinned], laidTests := true, laidLooks := .later }
def HttpRequestsCardSaid : Prop := Claim7.holds Tryz.pinned (.plain (OpenSpec.ofChange httpRequestsSpec)) httpRequestsCard

/-- THE TIED CARD OF 'wicketlaw15.HttpPrints'. -/
def httpPrintsCard : Claim7 := { stood := { row := httpPrintsRow, standIns := [], harness := (true, "196e8e07db25ab819c5c0b852da903aebee2c8df4b60cb02b7bd7387ac384a55"), looks := true }, kinds := [], alts := [], laidByText := true, laidKinds := [.data, .data, .data, .data, .sentinel, .sentinel, .pinned], laidTests := true, laidLooks := .later }
def HttpPrintsCardSaid : Prop := Claim7.holds Tryz.pinned (.plain (OpenSpec.ofChange httpPrintsSpec)) httpPrintsCard

/-- THE TIED CARD OF 'wicketlaw15.HttpLooks'. -/
def httpLooksCard : Claim7 := { stood := { row := httpLooksRow, standIns := [], harness := (true, "196e8e07db25ab819c5c0b852da903aebee2c8df4b60cb02b7bd7387ac384a55"), looks := true }, kinds := [], alts := [], laidByText := true, laidKinds := [.data, .data, .data, .data, .sentinel, .sentinel, .pinned], laidTests := true, laidLooks := .later }
def HttpLooksCardSaid : Prop := Claim7.holds Tryz.pinned (.plain (OpenSpec.ofChange httpLooksSpec)) httpLooksCard

/-- THE TIED CARD OF 'wicketlaw15.HttpResponses'. -/
def httpResponsesCard : Claim7 := { stood := { row := httpResponsesRow, standIns := [], harness := (true, "196e8e07db25ab819c5c0b852da903aebee2c8df4b60cb02b7bd7387ac384a55"), looks := true }, kinds := [], alts := [], laidByText := true, laidKinds := [.data, .data, .data, .data, .sentinel, .sentinel, .pinned], laidTests := true, laidLooks := .later }
def HttpResponsesCardSaid : Prop := Claim7.holds Tryz.pinned (.plain (OpenSpec.ofChange httpResponsesSpec)) httpResponsesCard

/-- THE TIED CARD OF 'wicketlaw15.HttpBack'. -/
def httpBackCard : Claim7 := { stood := { row := httpBackRow, standIns := [], harness := (true, "196e8e07db25ab819c5c0b852da903aebee2c8df4b60cb02b7bd7387ac384a55"), looks := true }, kinds := [], alts := [], laidByText := true, laidKinds := [.data, .data, .data, .data, .sentinel, .sentinel, .pinned], laidTests := true, laidLooks := .later }
def HttpBackCardSaid : Prop := Claim7.holds Tryz.pinned (.plain (OpenSpec.ofChange httpBackSpec)) httpBackCard

/-- THE SECOND FORM's CARD OF 'wicketlaw15.HttpRequests'. -/
def httpRequestsUptoCard : Claim7 := { stood := { row := httpRequestsUptoRow, standIns := [], harness := (true, "196e8e07db25ab819c5c0b852da903aebee2c8df4b60cb02b7bd7387ac384a55"), looks := true }, kinds := [], alts := [], laidByText := true, laidKinds := [.data, .data, .data, .data, .sentinel, .sentinel, .pinned], laidTests := true, laidLooks := .later }
def HttpRequestsUptoCardSaid : Prop := Claim7.holds Tryz.pinned (.plain (OpenSpec.upto httpRequestsSpec)) httpRequestsUptoCard

/-- THE SECOND FORM's CARD OF 'wicketlaw15.HttpPrints'. -/
def httpPrintsUptoCard : Claim7 := { stood := { row := httpPrintsUptoRow, standIns := [], harness := (true, "196e8e07db25ab819c5c0b852da903aebee2c8df4b60cb02b7bd7387ac384a55"), looks := true }, kinds := [], alts := [], laidByText := true, laidKinds := [.data, .data, .data, .data, .sentinel, .sentinel, .pinned], laidTests := true, laidLooks := .later }
def HttpPrintsUptoCardSaid : Prop := Claim7.holds Tryz.pinned (.plain (OpenSpec.upto httpPrintsSpec)) httpPrintsUptoCard

/-- THE SECOND FORM's CARD OF 'wicketlaw15.HttpLooks'. -/
def httpLooksUptoCard : Claim7 := { stood := { row := httpLooksUptoRow, standIns := [], harness := (true, "196e8e07db25ab819c5c0b852da903aebee2c8df4b60cb02b7bd7387ac384a55"), looks := true }, kinds := [], alts := [], laidByText := true, laidKinds := [.data, .data, .data, .data, .sentinel, .sentinel, .pinned], laidTests := true, laidLooks := .later }
def HttpLooksUptoCardSaid : Prop := Claim7.holds Tryz.pinned (.plain (OpenSpec.upto httpLooksSpec)) httpLooksUptoCard

/-- THE SECOND FORM's CARD OF 'wicketlaw15.HttpResponses'. -/
def httpResponsesUptoCard : Claim7 := { stood := { row := httpResponsesUptoRow, standIns := [], harness := (true, "196e8e07db25ab819c5c0b852da903aebee2c8df4b60cb02b7bd7387ac384a55"), looks := true }, kinds := [], alts := [], laidByText := true, laidKinds := [.data, .data, .data, .data, .sentinel, .sentinel, .pinned], laidTests := true, laidLooks := .later }
def HttpResponsesUptoCardSaid : Prop := Claim7.holds Tryz.pinned (.plain (OpenSpec.upto httpResponsesSpec)) httpResponsesUptoCard

/-- THE SECOND FORM's CARD OF 'wicketlaw15.HttpBack'. -/
def httpBackUptoCard : Claim7 := { stood := { row := httpBackUptoRow, standIns := [], harness := (true, "196e8e07db25ab819c5c0b852da903aebee2c8df4b60cb02b7bd7387ac384a55"), looks := true }, kinds := [], alts := [], laidByText := true, laidKinds := [.data, .data, .data, .data, .sentinel, .sentinel, .pinned], laidTests := true, laidLooks := .later }
def HttpBackUptoCardSaid : Prop := Claim7.holds Tryz.pinned (.plain (OpenSpec.upto httpBackSpec)) httpBackUptoCard
end Rows
end Go.Proofs.YtmfkgjnlobiobaaGreatDoor
