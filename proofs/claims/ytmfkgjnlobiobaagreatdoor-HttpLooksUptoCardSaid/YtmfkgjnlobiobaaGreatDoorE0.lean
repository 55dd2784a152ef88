/- What the http functions lean on of the library's own variables: the cell of internal/bytealg.MaxLen holds some int, the table internal/strconv.uint64pow10 reads as it is laid. It stays so in every world that keeps what lay below. -/
import Derived.Test.YtmfkgjnlobiobaaGreatDoorProg
import Derived.Below
import Derived.WalkSmall
import Derived.Lib.LaidTab
import Derived.Lib.ItoaNum
import Derived.KernelRfl
namespace Go.Proofs.YtmfkgjnlobiobaaGreatDoor.X
open Go.RowKit
structure GL (w : World) : Prop where
  max : ∃ m : Int, w.cell? ⟨0, 0, none⟩ = some (.int .i64 m)
  tab : Lib.TabIs Tryz.prog w "internal/strconv.uint64pow10" .u64 Lib.pow10Tab
theorem GL_named : Tryz.prog.globalNamed "internal/strconv.uint64pow10" = some 3 := by kernel_rfl
theorem GL_below {w W : World} (h : GL w) (hb : Below w.heap.size w W) : GL W := by
  obtain ⟨⟨m, hm⟩, ht⟩ := h
  refine ⟨⟨m, (hb.cell (World.block_lt_of_cell? w _ hm)).trans hm⟩, ?_⟩
  have hlt : 3 < w.heap.size := by
    rcases Nat.lt_or_ge 3 w.heap.size with h | h
    · exact h
    · unfold Lib.TabIs World.var? at ht
      simp [GL_named, Array.getElem?_eq_none h] at ht
  exact var?_below hb GL_named hlt ht
end Go.Proofs.YtmfkgjnlobiobaaGreatDoor.X
