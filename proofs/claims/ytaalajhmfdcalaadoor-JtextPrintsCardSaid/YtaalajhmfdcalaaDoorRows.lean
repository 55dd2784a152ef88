/-
  NARROWER THAN 'FOR EVERY INPUT', by the rows' own cells (each row's printed sentence says how): JtextParses: laid · JtextBack: loops, laid · JtextFirst: laid · JtextPrints: loops, laid · JtextSames: loops, laid · JtextForm: laid · JtextAscii: loops, laid · JtextCanon: loops, laid.
  DERIVED. THE GIVEN ROWS OF THIS SEAT. 8 by the template 'for every input the law returns true; each argument reads behind the call as it read before'; 0 by the template 'total and deterministic' (their statements: YtaalajhmfdcalaaDoorTotals.lean).
  GIVEN WITH THE SEED: the statements are not yours to turn. If you find one false, say at which input.
  Laid BY PROGRAM, IN A SANDBOX (cutbox-rows.mjs): the forced cells as the released guide's own fill.sh prints them over the translation 28ebc0c85ea982bd… (all of the seat's roots in one cut). By AI agents, Wed Nov 11 2026. No macro, syntax, notation, axiom, sorry.
-/
import Derived.Test.YtaalajhmfdcalaaDoorChecked
import GoSem.PinnedTables
import GoSem.Claim
import GoSem.ClaimJoined
import GoSem.ClaimMapViews
import Derived.JoinedTies
import Derived.KernelRfl
namespace Go.Proofs.YtaalajhmfdcalaaDoor
/- THE CELL 'sum', in the pinned program and in every row, IS THE sha256 OF THE DUMP (.gsa) THAT YtaalajhmfdcalaaDoorProg.lean LOADS. Nothing in Lean hashes anything: it is a label: what it is worth is what the hold of that sum in a sandbox is worth. -/
noncomputable def Tryd.pinned : Pinned := { name := "ytaalajhmfdcalaadoor", sum := "28ebc0c85ea982bd4ca60cfdd8ecf86f8dafda1581561370ab7a51af97682976", checked := Tryd.checked }
namespace Rows
def none {H : Type} : Left H := { results := [], args := [] }

/- WHAT THE LISTED PACKAGE-LEVEL VARIABLES READ AS WHEN THE CALL BEGINS. Each datum BY PROGRAM (the guide's laid-datum.mjs) off the statement by which the dump's own 'gosem.cut.vars' lays the variable. In a bare row this is a premise. The card (YtaalajhmfdcalaaDoorCards.lean) ties it to the program's text. -/
def laid_unicode_utf8_acceptRanges {H : Type} : DataW H := .agg [.agg [.lit (.int .u8 128), .lit (.int .u8 191)], .agg [.lit (.int .u8 160), .lit (.int .u8 191)], .agg [.lit (.int .u8 128), .lit (.int .u8 159)], .agg [.lit (.int .u8 144), .lit (.int .u8 191)], .agg [.lit (.int .u8 128), .lit (.int .u8 143)], .agg [.lit (.int .u8 0), .lit (.int .u8 0)], .agg [.lit (.int .u8 0), .lit (.int .u8 0)], .agg [.lit (.int .u8 0), .lit (.int .u8 0)], .agg [.lit (.int .u8 0), .lit (.int .u8 0)], .agg [.lit (.int .u8 0), .lit (.int .u8 0)], .agg [.lit (.int .u8 0), .lit (.int .u8 0)], .agg [.lit (.int .u8 0), .lit (.int .u8 0)], .agg [.lit (.int .u8 0), .lit (.int .u8 0)], .agg [.lit (.int .u8 0), .lit (.int .u8 0)], .agg [.lit (.int .u8 0), .lit (.int .u8 0)], .agg [.lit (.int .u8 0), .lit (.int .u8 0)]]
def laid_wicket_jtext_words {H : Type} : DataW H := .agg [.lit (.string [110, 117, 108, 108]), .lit (.string [102, 97, 108, 115, 101]), .lit (.string [116, 114, 117, 101])]
/-- One of Go's own tables, pinned by name: the form's constant. -/
def laid_unicode_utf8_first : DataW Unit := Go.Pinned.utf8First

/-- 'wicketlaw04.JtextParses': WHATEVER THE INPUT: true; the input reads as it did. -/
def jtextParsesSpec : ChangeSpec := { name := "jtextParses", fn := fun _ => fun
  | [d] => { results := [.lit (.bool true)], args := [d] }
  | _ => none }
def jtextParsesRow : OpenClaim := { program := "ytaalajhmfdcalaadoor", sum := "28ebc0c85ea982bd4ca60cfdd8ecf86f8dafda1581561370ab7a51af97682976", func := "wicket/wicketlaw04.JtextParses", spec := "jtextParses", inPlace := ["internal/reflectlite.ValueOf", "internal/reflectlite.Swapper", "(internal/reflectlite.Value).Len"], unfollowed := true, recurses := true, named := ["unicode/utf8.first", "unicode/utf8.acceptRanges", "wicket/jtext.words"], apart := false, laid := [("unicode/utf8.acceptRanges", laid_unicode_utf8_acceptRanges), ("wicket/jtext.words", laid_wicket_jtext_words), ("unicode/utf8.first", laid_unicode_utf8_first)] }
def JtextParsesSaid : Prop := jtextParsesRow.holds Tryd.pinned (OpenSpec.ofChange jtextParsesSpec)

/-- ITS FALSE NEIGHBOUR: 'it returns false'. Refute it at one input. -/
def jtextParsesWrong : ChangeSpec := { name := "jtextParses", fn := fun _ => fun
  | [d] => { results := [.lit (.bool false)], args := [d] }
  | _ => none }
def JtextParsesWrongFalsely : Prop := jtextParsesRow.holds Tryd.pinned (OpenSpec.ofChange jtextParsesWrong)

/-- 'wicketlaw04.JtextBack': WHATEVER THE INPUT: true; the input reads as it did. -/
def jtextBackSpec : ChangeSpec := { name := "jtextBack", fn := fun _ => fun
  | [d] => { results := [.lit (.bool true)], args := [d] }
  | _ => none }
def jtextBackRow : OpenClaim := { program := "ytaalajhmfdcalaadoor", sum := "28ebc0c85ea982bd4ca60cfdd8ecf86f8dafda1581561370ab7a51af97682976", func := "wicket/wicketlaw04.JtextBack", spec := "jtextBack", inPlace := ["internal/reflectlite.ValueOf", "internal/reflectlite.Swapper", "(internal/reflectlite.Value).Len"], unfollowed := true, recurses := true, named := ["wicket/jtext.words", "unicode/utf8.first", "unicode/utf8.acceptRanges"], loops := true, apart := false, laid := [("unicode/utf8.acceptRanges", laid_unicode_utf8_acceptRanges), ("wicket/jtext.words", laid_wicket_jtext_words), ("unicode/utf8.first", laid_unicode_utf8_first)] }
def JtextBackSaid : Prop := jtextBackRow.holds Tryd.pinned (OpenSpec.ofChange jtextBackSpec)

/-- ITS FALSE NEIGHBOUR: 'it returns false'. Refute it at one input. -/
def jtextBackWrong : ChangeSpec := { name := "jtextBack", fn := fun _ => fun
  | [d] => { results := [.lit (.bool false)], args := [d] }
  | _ => none }
def JtextBackWrongFalsely : Prop := jtextBackRow.holds Tryd.pinned (OpenSpec.ofChange jtextBackWrong)

/-- 'wicketlaw04.JtextFirst': WHATEVER THE INPUT: true; the input reads as it did. -/
def jtextFirstSpec : ChangeSpec := { name := "jtextFirst", fn := fun _ => fun
  | [d] => { results := [.lit (.bool true)], args := [d] }
  | _ => none }
def jtextFirstRow : OpenClaim := { program := "ytaalajhmfdcalaadoor", sum := "28ebc0c85ea982bd4ca60cfdd8ecf86f8dafda1581561370ab7a51af97682976", func := "wicket/wicketlaw04.JtextFirst", spec := "jtextFirst", inPlace := ["internal/reflectlite.ValueOf", "internal/reflectlite.Swapper", "(internal/reflectlite.Value).Len"], unfollowed := true, recurses := true, named := ["unicode/utf8.first", "unicode/utf8.acceptRanges", "wicket/jtext.words"], apart := false, laid := [("unicode/utf8.acceptRanges", laid_unicode_utf8_acceptRanges), ("wicket/jtext.words", laid_wicket_jtext_words), ("unicode/utf8.first", laid_unicode_utf8_first)] }
def JtextFirstSaid : Prop := jtextFirstRow.holds Tryd.pinned (OpenSpec.ofChange jtextFirstSpec)

/-- ITS FALSE NEIGHBOUR: 'it returns false'. Refute it at one input. -/
def jtextFirstWrong : ChangeSpec := { name := "jtextFirst", fn := fun _ => fun
  | [d] => { results := [.lit (.bool false)], args := [d] }
  | _ => none }
def JtextFirstWrongFalsely : Prop := jtextFirstRow.holds Tryd.pinned (OpenSpec.ofChange jtextFirstWrong)

/-- 'wicketlaw04.JtextPrints': WHATEVER THE INPUT: true; the input reads as it did. -/
def jtextPrintsSpec : ChangeSpec := { name := "jtextPrints", fn := fun _ => fun
  | [d] => { results := [.lit (.bool true)], args := [d] }
  | _ => none }
def jtextPrintsRow : OpenClaim := { program := "ytaalajhmfdcalaadoor", sum := "28ebc0c85ea982bd4ca60cfdd8ecf86f8dafda1581561370ab7a51af97682976", func := "wicket/wicketlaw04.JtextPrints", spec := "jtextPrints", inPlace := ["internal/reflectlite.ValueOf", "internal/reflectlite.Swapper", "(internal/reflectlite.Value).Len"], unfollowed := true, recurses := true, named := ["wicket/jtext.words", "unicode/utf8.first", "unicode/utf8.acceptRanges"], loops := true, apart := false, laid := [("unicode/utf8.acceptRanges", laid_unicode_utf8_acceptRanges), ("wicket/jtext.words", laid_wicket_jtext_words), ("unicode/utf8.first", laid_unicode_utf8_first)] }
def JtextPrintsSaid : Prop := jtextPrintsRow.holds Tryd.pinned (OpenSpec.ofChange jtextPrintsSpec)

/-- ITS FALSE NEIGHBOUR: 'it returns false'. Refute it at one input. -/
def jtextPrintsWrong : ChangeSpec := { name := "jtextPrints", fn := fun _ => fun
  | [d] => { results := [.lit (.bool false)], args := [d] }
  | _ => none }
def JtextPrintsWrongFalsely : Prop := jtextPrintsRow.holds Tryd.pinned (OpenSpec.ofChange jtextPrintsWrong)

/-- 'wicketlaw04.JtextSames': WHATEVER THE INPUT: true; the input reads as it did. -/
def jtextSamesSpec : ChangeSpec := { name := "jtextSames", fn := fun _ => fun
  | [d1, d2] => { results := [.lit (.bool true)], args := [d1, d2] }
  | _ => none }
def jtextSamesRow : OpenClaim := { program := "ytaalajhmfdcalaadoor", sum := "28ebc0c85ea982bd4ca60cfdd8ecf86f8dafda1581561370ab7a51af97682976", func := "wicket/wicketlaw04.JtextSames", spec := "jtextSames", inPlace := ["internal/reflectlite.ValueOf", "internal/reflectlite.Swapper", "(internal/reflectlite.Value).Len"], unfollowed := true, recurses := true, named := ["wicket/jtext.words", "unicode/utf8.first", "unicode/utf8.acceptRanges"], loops := true, apart := false, laid := [("unicode/utf8.acceptRanges", laid_unicode_utf8_acceptRanges), ("wicket/jtext.words", laid_wicket_jtext_words), ("unicode/utf8.first", laid_unicode_utf8_first)] }
def JtextSamesSaid : Prop := jtextSamesRow.holds Tryd.pinned (OpenSpec.ofChange jtextSamesSpec)

/-- ITS FALSE NEIGHBOUR: 'it returns false'. Refute it at one input. -/
def jtextSamesWrong : ChangeSpec := { name := "jtextSames", fn := fun _ => fun
  | [d1, d2] => { results := [.lit (.bool false)], args := [d1, d2] }
  | _ => none }
def JtextSamesWrongFalsely : Prop := jtextSamesRow.holds Tryd.pinned (OpenSpec.ofChange jtextSamesWrong)

/-- 'wicketlaw04.JtextForm': WHATEVER THE INPUT: true; the input reads as it did. -/
def jtextFormSpec : ChangeSpec := { name := "jtextForm", fn := fun _ => fun
  | [d] => { results := [.lit (.bool true)], args := [d] }
  | _ => none }
def jtextFormRow : OpenClaim := { program := "ytaalajhmfdcalaadoor", sum := "28ebc0c85ea982bd4ca60cfdd8ecf86f8dafda1581561370ab7a51af97682976", func := "wicket/wicketlaw04.JtextForm", spec := "jtextForm", inPlace := ["internal/reflectlite.ValueOf", "internal/reflectlite.Swapper", "(internal/reflectlite.Value).Len"], unfollowed := true, recurses := true, named := ["unicode/utf8.first", "unicode/utf8.acceptRanges", "wicket/jtext.words"], apart := false, laid := [("unicode/utf8.acceptRanges", laid_unicode_utf8_acceptRanges), ("wicket/jtext.words", laid_wicket_jtext_words), ("unicode/utf8.first", laid_unicode_utf8_first)] }
def JtextFormSaid : Prop := jtextFormRow.holds Tryd.pinned (OpenSpec.ofChange jtextFormSpec)

/-- ITS FALSE NEIGHBOUR: 'it returns false'. Refute it at one input. -/
def jtextFormWrong : ChangeSpec := { name := "jtextForm", fn := fun _ => fun
  | [d] => { results := [.lit (.bool false)], args := [d] }
  | _ => none }
def JtextFormWrongFalsely : Prop := jtextFormRow.holds Tryd.pinned (OpenSpec.ofChange jtextFormWrong)

/-- 'wicketlaw04.JtextAscii': WHATEVER THE INPUT: true; the input reads as it did. -/
def jtextAsciiSpec : ChangeSpec := { name := "jtextAscii", fn := fun _ => fun
  | [d] => { results := [.lit (.bool true)], args := [d] }
  | _ => none }
def jtextAsciiRow : OpenClaim := { program := "ytaalajhmfdcalaadoor", sum := "28ebc0c85ea982bd4ca60cfdd8ecf86f8dafda1581561370ab7a51af97682976", func := "wicket/wicketlaw04.JtextAscii", spec := "jtextAscii", inPlace := ["internal/reflectlite.ValueOf", "internal/reflectlite.Swapper", "(internal/reflectlite.Value).Len"], unfollowed := true, recurses := true, named := ["wicket/jtext.words", "unicode/utf8.first", "unicode/utf8.acceptRanges"], loops := true, apart := false, laid := [("unicode/utf8.acceptRanges", laid_unicode_utf8_acceptRanges), ("wicket/jtext.words", laid_wicket_jtext_words), ("unicode/utf8.first", laid_unicode_utf8_first)] }
def JtextAsciiSaid : Prop := jtextAsciiRow.holds Tryd.pinned (OpenSpec.ofChange jtextAsciiSpec)

/-- ITS FALSE NEIGHBOUR: 'it returns false'. Refute it at one input. -/
def jtextAsciiWrong : ChangeSpec := { name := "jtextAscii", fn := fun _ => fun
  | [d] => { results := [.lit (.bool false)], args := [d] }
  | _ => none }
def JtextAsciiWrongFalsely : Prop := jtextAsciiRow.holds Tryd.pinned (OpenSpec.ofChange jtextAsciiWrong)

/-- 'wicketlaw04.JtextCanon': WHATEVER THE INPUT: true; the input reads as it did. -/
def jtextCanonSpec : ChangeSpec := { name := "jtextCanon", fn := fun _ => fun
  | [d1, d2, d3] => { results := [.lit (.bool true)], args := [d1, d2, d3] }
  | _ => none }
def jtextCanonRow : OpenClaim := { program := "ytaalajhmfdcalaadoor", sum := "28ebc0c85ea982bd4ca60cfdd8ecf86f8dafda1581561370ab7a51af97682976", func := "wicket/wicketlaw04.JtextCanon", spec := "jtextCanon", inPlace := ["internal/reflectlite.ValueOf", "internal/reflectlite.Swapper", "(internal/reflectlite.Value).Len"], unfollowed := true, recurses := true, named := ["wicket/jtext.words", "unicode/utf8.first", "unicode/utf8.acceptRanges"], loops := true, apart := false, laid := [("unicode/utf8.acceptRanges", laid_unicode_utf8_acceptRanges), ("wicket/jtext.words", laid_wicket_jtext_words), ("unicode/utf8.first", laid_unicode_utf8_first)] }
def JtextCanonSaid : Prop := jtextCanonRow.holds Tryd.pinned (OpenSpec.ofChange jtextCanonSpec)

/-- ITS FALSE NEIGHBOUR: 'it returns false'. Refute it at one input. -/
def jtextCanonWrong : ChangeSpec := { name := "jtextCanon", fn := fun _ => fun
  | [d1, d2, d3] => { results := [.lit (.bool false)], args := [d1, d2, d3] }
  | _ => none }
def JtextCanonWrongFalsely : Prop := jtextCanonRow.holds Tryd.pinned (OpenSpec.ofChange jtextCanonWrong)

/- THE SECOND FORM. 'bulk': how many values and letters a reading holds, each counted each time it is reached (what is shared counts as often as it is met; a slice's spare places count too). A statement '..UptoSaid' is the law's where the arguments, and the package variables that the reading takes, are together of bulk at most 1048576: NARROWER than '..Said'. Prove '..Said' where nothing that the law and all that it calls make is longer than what came in: it says more and counts as full. Else prove '..UptoSaid'. A law counts once. -/
mutual
def uptoBulk {H : Type} : DataW H → Nat
  | .lit (.string bytes) => bytes.length + 1
  | .lit _ => 1
  | .nil => 1
  | .ptr d => uptoBulk d + 1
  | .slice elems spare => uptoBulkAll elems + uptoBulkAll spare + 1
  | .agg parts => uptoBulkAll parts + 1
  | .iface _ d => uptoBulk d + 1
  | .map entries => uptoBulkEntries entries + 1
  | .held _ => 1
def uptoBulkAll {H : Type} : List (DataW H) → Nat
  | [] => 0
  | d :: r => uptoBulk d + uptoBulkAll r
def uptoBulkEntries {H : Type} : List (Lit × DataW H) → Nat
  | [] => 0
  | x :: r => uptoBulkEntry x + uptoBulkEntries r
def uptoBulkEntry {H : Type} : Lit × DataW H → Nat
  | (.string bytes, d) => bytes.length + uptoBulk d + 1
  | (_, d) => uptoBulk d + 1
 end
def uptoSmall : (H : Type) → List (DataW H) → Bool := fun _ ds => decide (uptoBulkAll ds ≤ 1048576)
def OpenSpec.upto (s : _root_.Go.ChangeSpec) : _root_.Go.OpenSpec := { _root_.Go.OpenSpec.ofChange s with cond := some uptoSmall }

/-- 'wicketlaw04.JtextParses', WHERE WHAT IT READS IS OF BULK AT MOST 1048576: true; the input reads as it did. -/
def jtextParsesUptoRow : OpenClaim := { program := "ytaalajhmfdcalaadoor", sum := "28ebc0c85ea982bd4ca60cfdd8ecf86f8dafda1581561370ab7a51af97682976", func := "wicket/wicketlaw04.JtextParses", spec := "jtextParses", inPlace := ["internal/reflectlite.ValueOf", "internal/reflectlite.Swapper", "(internal/reflectlite.Value).Len"], unfollowed := true, recurses := true, named := ["unicode/utf8.first", "unicode/utf8.acceptRanges", "wicket/jtext.words"], apart := false, laid := [("unicode/utf8.acceptRanges", laid_unicode_utf8_acceptRanges), ("wicket/jtext.words", laid_wicket_jtext_words), ("unicode/utf8.first", laid_unicode_utf8_first)], narrowed := true }
def JtextParsesUptoSaid : Prop := jtextParsesUptoRow.holds Tryd.pinned (OpenSpec.upto jtextParsesSpec)

/-- 'wicketlaw04.JtextBack', WHERE WHAT IT READS IS OF BULK AT MOST 1048576: true; the input reads as it did. -/
def jtextBackUptoRow : OpenClaim := { program := "ytaalajhmfdcalaadoor", sum := "28ebc0c85ea982bd4ca60cfdd8ecf86f8dafda1581561370ab7a51af97682976", func := "wicket/wicketlaw04.JtextBack", spec := "jtextBack", inPlace := ["internal/reflectlite.ValueOf", "internal/reflectlite.Swapper", "(internal/reflectlite.Value).Len"], unfollowed := true, recurses := true, named := ["wicket/jtext.words", "unicode/utf8.first", "unicode/utf8.acceptRanges"], loops := true, apart := false, laid := [("unicode/utf8.acceptRanges", laid_unicode_utf8_acceptRanges), ("wicket/jtext.words", laid_wicket_jtext_words), ("unicode/utf8.first", laid_unicode_utf8_first)], narrowed := true }
def JtextBackUptoSaid : Prop := jtextBackUptoRow.holds Tryd.pinned (OpenSpec.upto jtextBackSpec)

/-- 'wicketlaw04.JtextFirst', WHERE WHAT IT READS IS OF BULK AT MOST 1048576: true; the input reads as it did. -/
def jtextFirstUptoRow : OpenClaim := { program := "ytaalajhmfdcalaadoor", sum := "28ebc0c85ea982bd4ca60cfdd8ecf86f8dafda1581561370ab7a51af97682976", func := "wicket/wicketlaw04.JtextFirst", spec := "jtextFirst", inPlace := ["internal/reflectlite.ValueOf", "internal/reflectlite.Swapper", "(internal/reflectlite.Value).Len"], unfollowed := true, recurses := true, named := ["unicode/utf8.first", "unicode/utf8.acceptRanges", "wicket/jtext.words"], apart := false, laid := [("unicode/utf8.acceptRanges", laid_unicode_utf8_acceptRanges), ("wicket/jtext.words", laid_wicket_jtext_words), ("unicode/utf8.first", laid_unicode_utf8_first)], narrowed := true }
def JtextFirstUptoSaid : Prop := jtextFirstUptoRow.holds Tryd.pinned (OpenSpec.upto jtextFirstSpec)

/-- 'wicketlaw04.JtextPrints', WHERE WHAT IT READS IS OF BULK AT MOST 1048576: true; the input reads as it did. -/
def jtextPrintsUptoRow : OpenClaim := { program := "ytaalajhmfdcalaadoor", sum := "28ebc0c85ea982bd4ca60cfdd8ecf86f8dafda1581561370ab7a51af97682976", func := "wicket/wicketlaw04.JtextPrints", spec := "jtextPrints", inPlace := ["internal/reflectlite.ValueOf", "internal/reflectlite.Swapper", "(internal/reflectlite.Value).Len"], unfollowed := true, recurses := true, named := ["wicket/jtext.words", "unicode/utf8.first", "unicode/utf8.acceptRanges"], loops := true, apart := false, laid := [("unicode/utf8.acceptRanges", laid_unicode_utf8_acceptRanges), ("wicket/jtext.words", laid_wicket_jtext_words), ("unicode/utf8.first", laid_unicode_utf8_first)], narrowed := true }
def JtextPrintsUptoSaid : Prop := jtextPrintsUptoRow.holds Tryd.pinned (OpenSpec.upto jtextPrintsSpec)

/-- 'wicketlaw04.JtextSames', WHERE WHAT IT READS IS OF BULK AT MOST 1048576: true; the input reads as it did. -/
def jtextSamesUptoRow : OpenClaim := { program := "ytaalajhmfdcalaadoor", sum := "28ebc0c85ea982bd4ca60cfdd8ecf86f8dafda1581561370ab7a51af97682976", func := "wicket/wicketlaw04.JtextSames", spec := "jtextSames", inPlace := ["internal/reflectlite.ValueOf", "internal/reflectlite.Swapper", "(internal/reflectlite.Value).Len"], unfollowed := true, recurses := true, named := ["wicket/jtext.words", "unicode/utf8.first", "unicode/utf8.acceptRanges"], loops := true, apart := false, laid := [("unicode/utf8.acceptRanges", laid_unicode_utf8_acceptRanges), ("wicket/jtext.words", laid_wicket_jtext_words), ("unicode/utf8.first", laid_unicode_utf8_first)], narrowed := true }
def JtextSamesUptoSaid : Prop := jtextSamesUptoRow.holds Tryd.pinned (OpenSpec.upto jtextSamesSpec)

/-- 'wicketlaw04.JtextForm', WHERE WHAT IT READS IS OF BULK AT MOST 1048576: true; the input reads as it did. -/
def jtextFormUptoRow : OpenClaim := { program := "ytaalajhmfdcalaadoor", sum := "28ebc0c85ea982bd4ca60cfdd8ecf86f8dafda1581561370ab7a51af97682976", func := "wicket/wicketlaw04.JtextForm", spec := "jtextForm", inPlace := ["internal/reflectlite.ValueOf", "internal/reflectlite.Swapper", "(internal/reflectlite.Value).Len"], unfollowed := true, recurses := true, named := ["unicode/utf8.first", "unicode/utf8.acceptRanges", "wicket/jtext.words"], apart := false, laid := [("unicode/utf8.acceptRanges", laid_unicode_utf8_acceptRanges), ("wicket/jtext.words", laid_wicket_jtext_words), ("unicode/utf8.first", laid_unicode_utf8_first)], narrowed := true }
def JtextFormUptoSaid : Prop := jtextFormUptoRow.holds Tryd.pinned (OpenSpec.upto jtextFormSpec)

/-- 'wicketlaw04.JtextAscii', WHERE WHAT IT READS IS OF BULK AT MOST 1048576: true; the input reads as it did. -/
def jtextAsciiUptoRow : OpenClaim := { program := "ytaalajhmfdcalaadoor", sum := "28ebc0c85ea982bd4ca60cfdd8ecf86f8dafda1581561370ab7a51af97682976", func := "wicket/wicketlaw04.JtextAscii", spec := "jtextAscii", inPlace := ["internal/reflectlite.ValueOf", "internal/reflectlite.Swapper", "(internal/reflectlite.Value).Len"], unfollowed := true, recurses := true, named := ["wicket/jtext.words", "unicode/utf8.first", "unicode/utf8.acceptRanges"], loops := true, apart := false, laid := [("unicode/utf8.acceptRanges", laid_unicode_utf8_acceptRanges), ("wicket/jtext.words", laid_wicket_jtext_words), ("unicode/utf8.first", laid_unicode_utf8_first)], narrowed := true }
def JtextAsciiUptoSaid : Prop := jtextAsciiUptoRow.holds Tryd.pinned (OpenSpec.upto jtextAsciiSpec)

/-- 'wicketlaw04.JtextCanon', WHERE WHAT IT READS IS OF BULK AT MOST 1048576: true; the input reads as it did. -/
def jtextCanonUptoRow : OpenClaim := { program := "ytaalajhmfdcalaadoor", sum := "28ebc0c85ea982bd4ca60cfdd8ecf86f8dafda1581561370ab7a51af97682976", func := "wicket/wicketlaw04.JtextCanon", spec := "jtextCanon", inPlace := ["internal/reflectlite.ValueOf", "internal/reflectlite.Swapper", "(internal/reflectlite.Value).Len"], unfollowed := true, recurses := true, named := ["wicket/jtext.words", "unicode/utf8.first", "unicode/utf8.acceptRanges"], loops := true, apart := false, laid := [("unicode/utf8.acceptRanges", laid_unicode_utf8_acceptRanges), ("wicket/jtext.words", laid_wicket_jtext_words), ("unicode/utf8.first", laid_unicode_utf8_first)], narrowed := true }
def JtextCanonUptoSaid : Prop := jtextCanonUptoRow.holds Tryd.pinned (OpenSpec.upto jtextCanonSpec)

end Rows
end Go.Proofs.YtaalajhmfdcalaaDoor
