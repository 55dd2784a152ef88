/- The texts of this work, put together: K34. -/
import Derived.Test.YtpdelcbkcebkpaaGreatDoorAq1
set_option linter.unusedVariables false
set_option linter.unusedSimpArgs false
namespace Go.Proofs.YtpdelcbkcebkpaaGreatDoor.X
open Go.RowKit Go.Lib Go.Proofs.YtpdelcbkcebkpaaGreatDoorW.PrintWords Go.Proofs.YtpdelcbkcebkpaaGreatDoorW.PrintLast Go.Proofs.YtpdelcbkcebkpaaGreatDoorW.PrintMore
theorem box4_after_drew {W w1 : World} {a b c d : Value} {ty : TypeId} (h : Below (W.alloc (Obj.cells #[a, b, c, d] ty)).drew.heap.size (W.alloc (Obj.cells #[a, b, c, d] ty)).drew w1) :
  Below W.heap.size W w1 ∧ w1.cell? ⟨W.heap.size, 1, none⟩ = some b ∧ w1.cell? ⟨W.heap.size, 2, none⟩ = some c ∧ w1.cell? ⟨W.heap.size, 3, none⟩ = some d :=
 box4_after (ty := ty) ⟨h.os, h.tape, h.output, h.size, h.block⟩
theorem valid_calls (s : ByteArray) (w : World) (b : Bool) (hv : validD s.data.toList = b) (hs : s.size ≤ 9223372036854775806) (hT : Tabs w) :
  Calls Tryz.prog 116 #[.string s] w fun e w' => e = .returned (.bool b) ∧ Below w.heap.size w w' :=
 hv ▸ Any.utf8_ValidString Tryz.lays196 s w (by omega) hT
set_option maxRecDepth 1000000 in
set_option maxHeartbeats 16000000 in
theorem node4 (f1 : ByteArray) (A2 A3 : Option Addr) (n2 c2 n3 c3 : Nat) (W : World) (hz : f1.size ≤ 9223372036854775806) (hT : Tabs W) :
  Calls Tryz.prog 145 #[jVal 4 f1 A2 A3 n2 c2 n3 c3] W fun x W' => x = .returned (.tuple #[.iface 209 (.agg #[.string f1]), .bool (nodeOK 4 f1 n2 n3)]) ∧ Below W.heap.size W W' := by
 have HT := am (fun (o : Obj) => (show Tabs (W.alloc o).drew from hT.bel (below_drew1 (below_alloc (Below.refl _ _) o))))
 clear hT
 cases hl2 : validD f1.data.toList
 ·have HX := am (show nodeOK 4 f1 n2 n3 = false by unfold nodeOK; simp [hl2])
  go_enter Tryz.func145, Tryz.ntmps145
  go_upto_region 10 with fail
  go_cut [2, 3] (fun v2 v3 wd => v2 = .iface 209 (.agg #[.string f1]) ∧ v3 = .bool (nodeOK 4 f1 n2 n3) ∧ Aside0 (Below W.heap.size W wd))
  case first =>
   first | (go_region_with ((go_at_call 116; (with_reducible refine (valid_calls f1 _ _ hl2 hz ?tb).mono ?_); (case tb => exact HT.out _); rintro e w4 ⟨rfl, hb⟩; obtain ⟨hb4, d1, d2, d3⟩ := box4_after_drew hb; have HB3 := am hb4; clear hb hb4))) | (exfalso; fail)
   all_goals (go_wp2_with fail; go_meet; rw [HX.out]; exact ⟨rfl, rfl, ⟨by repeat (first | exact HB3.out | apply below_drewN | apply below_drew1 | apply below_alloc)⟩⟩)
  case rest =>
   obtain ⟨rfl, rfl, HWd⟩ := hcut
   go_wp2_with fail
   go_ret2
   exact ⟨rfl, HWd.out⟩
 ·by_cases h2 : n2 = 0
  ·subst h2
   by_cases h3 : n3 = 0
   ·subst h3
    have HX := am (show nodeOK 4 f1 0 0 = true by unfold nodeOK; simp [hl2])
    go_enter Tryz.func145, Tryz.ntmps145
    go_upto_region 10 with fail
    go_cut [2, 3] (fun v2 v3 wd => v2 = .iface 209 (.agg #[.string f1]) ∧ v3 = .bool (nodeOK 4 f1 0 0) ∧ Aside0 (Below W.heap.size W wd))
    case first =>
     first | (go_region_with ((go_at_call 116; (with_reducible refine (valid_calls f1 _ _ hl2 hz ?tb).mono ?_); (case tb => exact HT.out _); rintro e w4 ⟨rfl, hb⟩; obtain ⟨hb4, d1, d2, d3⟩ := box4_after_drew hb; have HB3 := am hb4; clear hb hb4))) | (exfalso; fail)
     all_goals (go_wp2_with fail; go_meet; rw [HX.out]; exact ⟨rfl, rfl, ⟨by repeat (first | exact HB3.out | apply below_drewN | apply below_drew1 | apply below_alloc)⟩⟩)
    case rest =>
     obtain ⟨rfl, rfl, HWd⟩ := hcut
     go_wp2_with fail
     go_ret2
     exact ⟨rfl, HWd.out⟩
   ·have e3 := (beq_nat0 n3).trans (decide_eq_false h3)
    have HX := am (show nodeOK 4 f1 0 n3 = false by unfold nodeOK; simp [h3])
    go_enter Tryz.func145, Tryz.ntmps145
    go_upto_region 10 with fail
    go_cut [2, 3] (fun v2 v3 wd => v2 = .iface 209 (.agg #[.string f1]) ∧ v3 = .bool (nodeOK 4 f1 0 n3) ∧ Aside0 (Below W.heap.size W wd))
    case first =>
     first | (go_region_with ((go_at_call 116; (with_reducible refine (valid_calls f1 _ _ hl2 hz ?tb).mono ?_); (case tb => exact HT.out _); rintro e w4 ⟨rfl, hb⟩; obtain ⟨hb4, d1, d2, d3⟩ := box4_after_drew hb; have HB3 := am hb4; clear hb hb4))) | (exfalso; fail)
     all_goals (go_wp2_with fail; go_meet; rw [HX.out]; exact ⟨rfl, rfl, ⟨by repeat (first | exact HB3.out | apply below_drewN | apply below_drew1 | apply below_alloc)⟩⟩)
    case rest =>
     obtain ⟨rfl, rfl, HWd⟩ := hcut
     go_wp2_with fail
     go_ret2
     exact ⟨rfl, HWd.out⟩
  ·have e2 := (beq_nat0 n2).trans (decide_eq_false h2)
   have HX := am (show nodeOK 4 f1 n2 n3 = false by unfold nodeOK; simp [h2])
   go_enter Tryz.func145, Tryz.ntmps145
   go_upto_region 10 with fail
   go_cut [2, 3] (fun v2 v3 wd => v2 = .iface 209 (.agg #[.string f1]) ∧ v3 = .bool (nodeOK 4 f1 n2 n3) ∧ Aside0 (Below W.heap.size W wd))
   case first =>
    first | (go_region_with ((go_at_call 116; (with_reducible refine (valid_calls f1 _ _ hl2 hz ?tb).mono ?_); (case tb => exact HT.out _); rintro e w4 ⟨rfl, hb⟩; obtain ⟨hb4, d1, d2, d3⟩ := box4_after_drew hb; have HB3 := am hb4; clear hb hb4))) | (exfalso; fail)
    all_goals (go_wp2_with fail; go_meet; rw [HX.out]; exact ⟨rfl, rfl, ⟨by repeat (first | exact HB3.out | apply below_drewN | apply below_drew1 | apply below_alloc)⟩⟩)
   case rest =>
    obtain ⟨rfl, rfl, HWd⟩ := hcut
    go_wp2_with fail
    go_ret2
    exact ⟨rfl, HWd.out⟩
end Go.Proofs.YtpdelcbkcebkpaaGreatDoor.X
