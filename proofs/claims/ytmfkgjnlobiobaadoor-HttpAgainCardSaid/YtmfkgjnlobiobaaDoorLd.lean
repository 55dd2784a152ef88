/- What a row's list of variables gives: the facts that the http functions lean on; a world for the witness. -/
import Derived.Test.YtmfkgjnlobiobaaDoorCards
import Derived.Test.YtmfkgjnlobiobaaDoorTie
import Derived.Test.YtmfkgjnlobiobaaDoorE0
import Derived.Lay
import Derived.MakeChecks
import Derived.Stop.LaidErr
import Derived.ShapedOpen
import Derived.Shelf.Vars
import Derived.Lib.LaidTab
namespace Go.Proofs.YtmfkgjnlobiobaaDoor.X
open Go.RowKit
theorem gPow : Tryd.prog.globalNamed "internal/strconv.uint64pow10" = some 3 := by kernel_rfl
theorem gPowType : (Tryd.prog.globals[3]?).map (·.type) = some 126 := by kernel_rfl
theorem cellsPow : Tryd.prog.cellsOf 126 = 20 := by kernel_rfl
theorem cellsU64 : Tryd.prog.cellsOf 104 = 1 := by kernel_rfl
theorem plainLaid : (Rows.httpNamesRow.laid.all fun x => x.2.handleName?.isNone) = true := by kernel_rfl
theorem pow_of {W : World} (h : laidMet Tryd.prog Rows.httpNamesRow.laid W) : Lib.TabIs Tryd.prog W "internal/strconv.uint64pow10" .u64 Lib.pow10Tab :=
  Lib.tabIs_of_head gPow gPowType Tryd.underlying126 Tryd.underlying104 cellsU64 cellsPow (laidMet.tail (laidMet.tail h))
theorem GL_of {W : World} (hL : laidMetH Tryd.prog Rows.httpNamesRow.laid W) (hS : W.ShapedOpen Tryd.prog) : GL W := by
  rw [MakeChecks.laidMetH_plain _ _ _ plainLaid] at hL
  exact ⟨Go.Proofs.cell_of_shapedOpen_int (zero := #[.int .i64 0]) (t := 3) hS (of_decide_eq_true (by kernel_rfl)) (by kernel_rfl) rfl (by kernel_rfl) (by kernel_rfl) Tryd.underlying3, pow_of hL⟩
end Go.Proofs.YtmfkgjnlobiobaaDoor.X
