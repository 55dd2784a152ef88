/- HttpRequests: for every input the law returns true, and the argument reads as before: the plain law, the row, then the card (what the row lists is tied to the program's text). -/
import Derived.Test.YtmfkgjnlobiobaaGreatDoorX0
import Derived.Test.YtmfkgjnlobiobaaGreatDoorHq0
import Derived.Test.YtmfkgjnlobiobaaGreatDoorE0
import Derived.Test.YtmfkgjnlobiobaaGreatDoorX8
import Derived.Test.YtmfkgjnlobiobaaGreatDoorX7b
import Derived.Test.YtmfkgjnlobiobaaGreatDoorX1
import Derived.Test.YtmfkgjnlobiobaaGreatDoorX2
import Derived.Test.YtmfkgjnlobiobaaGreatDoorX3
import Derived.Test.YtmfkgjnlobiobaaGreatDoorAr
import Derived.WalkKit
import Derived.ProofKit
import Derived.OpenShut
import Derived.ShutString
import Derived.Carry
import Derived.SizedLaws
import Derived.Deep.DeepHandedRow
import Derived.Deep.DeepWitnessRowRef
set_option linter.unusedVariables false
set_option linter.unusedSimpArgs false
namespace Go.Proofs.YtmfkgjnlobiobaaGreatDoor.X
open Go.RowKit Go.Proofs.YtmfkgjnlobiobaaGreatDoorW.PrintWords Go.Proofs.YtmfkgjnlobiobaaGreatDoorW.PrintLast Go.Proofs.YtmfkgjnlobiobaaGreatDoorW.PrintMore
attribute [local go_sem] max2_int min2_int max_two min_two max_three min_three max_four min_four   -- for this text's walks alone
set_option linter.unusedVariables false
set_option linter.unusedSimpArgs false

/-! ### wicketref15_ParseRequest: function 9 -/
mutual
def wicketref15_ParseRequest.j1 : Nat → ByteArray → Int → Option (ByteArray × ByteArray × (List (S84)) × ByteArray × Int × Int)
  | 0, _, _ => none
  | k + 1, x0, x5 => if x5 = (x0.size : Int) then (wicketref15_ParseRequest.j2 k x0 x5 true) else (if 0 ≤ x5 then (if x5 ≤ (x0.size : Int) then ((wicketref15_method.f k (x0.extract 0 (x5 : Int).toNat)).bind fun t378 => (wicketref15_ParseRequest.j2 k x0 x5 (!t378))) else (none)) else (none))
def wicketref15_ParseRequest.j2 : Nat → ByteArray → Int → Bool → Option (ByteArray × ByteArray × (List (S84)) × ByteArray × Int × Int)
  | 0, _, _, _ => none
  | k + 1, x0, x5, x39 => if x39 = true then (some ((⟨#[]⟩ : ByteArray), (⟨#[]⟩ : ByteArray), ([] : List (S84)), (⟨#[]⟩ : ByteArray), 150, 0)) else (wicketref15_ParseRequest.l1 k x0 x5 (wrap64 (x5 + 1)) (wrap64 (x5 + 1)))
def wicketref15_ParseRequest.j4 : Nat → ByteArray → Int → Int → Int → Option (ByteArray × ByteArray × (List (S84)) × ByteArray × Int × Int)
  | 0, _, _, _, _ => none
  | k + 1, x0, x5, x6, x7 => if x7 = (x0.size : Int) then (wicketref15_ParseRequest.j5 k x0 x5 x6 x7 true) else (if 0 ≤ x7 then (if x7 < (x0.size : Int) then (if (bt x0 x7) = 32 then (if 0 ≤ x6 then (if x6 ≤ x7 then (if x7 ≤ (x0.size : Int) then ((wicketref15_target.f k (x0.extract (x6 : Int).toNat (x7 : Int).toNat)).bind fun t379 => (wicketref15_ParseRequest.j5 k x0 x5 x6 x7 (!t379))) else (none)) else (none)) else (none)) else (wicketref15_ParseRequest.j5 k x0 x5 x6 x7 true)) else (none)) else (none))
def wicketref15_ParseRequest.j5 : Nat → ByteArray → Int → Int → Int → Bool → Option (ByteArray × ByteArray × (List (S84)) × ByteArray × Int × Int)
  | 0, _, _, _, _, _ => none
  | k + 1, x0, x5, x6, x7, x79 => if x79 = true then (some ((⟨#[]⟩ : ByteArray), (⟨#[]⟩ : ByteArray), ([] : List (S84)), (⟨#[]⟩ : ByteArray), 151, x6)) else ((wicketref15_stands.f x0 (wrap64 (x7 + 1)) (⟨#[72, 84, 84, 80, 47, 49, 46, 49, 13, 10]⟩ : ByteArray)).bind fun t380 => (if t380 = true then ((wicketref15_head.f x0 (wrap64 ((wrap64 (x7 + 1)) + 10))).bind fun bt381 => (if bt381.2.2.1 = 0 then (if 0 ≤ x5 then (if x5 ≤ (x0.size : Int) then (if 0 ≤ x6 then (if x6 ≤ x7 then (if x7 ≤ (x0.size : Int) then (some (x0.extract 0 (x5 : Int).toNat, x0.extract (x6 : Int).toNat (x7 : Int).toNat, bt381.1, bt381.2.1, 0, 0)) else (none)) else (none)) else (none)) else (none)) else (none)) else (some ((⟨#[]⟩ : ByteArray), (⟨#[]⟩ : ByteArray), ([] : List (S84)), (⟨#[]⟩ : ByteArray), bt381.2.2.1, bt381.2.2.2)))) else (some ((⟨#[]⟩ : ByteArray), (⟨#[]⟩ : ByteArray), ([] : List (S84)), (⟨#[]⟩ : ByteArray), 152, wrap64 (x7 + 1)))))
def wicketref15_ParseRequest.l1 : Nat → ByteArray → Int → Int → Int → Option (ByteArray × ByteArray × (List (S84)) × ByteArray × Int × Int)
  | 0, _, _, _, _ => none
  | k + 1, x0, x5, x6, x7 => if x7 < (x0.size : Int) then (if 0 ≤ x7 then (if (bt x0 x7) ≥ 33 then (if (bt x0 x7) ≤ 126 then (wicketref15_ParseRequest.l1 k x0 x5 x6 (wrap64 (x7 + 1))) else (wicketref15_ParseRequest.j4 k x0 x5 x6 x7)) else (wicketref15_ParseRequest.j4 k x0 x5 x6 x7)) else (none)) else (wicketref15_ParseRequest.j4 k x0 x5 x6 x7)
def wicketref15_ParseRequest.l0 : Nat → ByteArray → Int → Option (ByteArray × ByteArray × (List (S84)) × ByteArray × Int × Int)
  | 0, _, _ => none
  | k + 1, x0, x5 => if x5 < (x0.size : Int) then (if 0 ≤ x5 then (if (bt x0 x5) = 32 then (wicketref15_ParseRequest.j1 k x0 x5) else (wicketref15_ParseRequest.l0 k x0 (wrap64 (x5 + 1)))) else (none)) else (wicketref15_ParseRequest.j1 k x0 x5)
end
def wicketref15_ParseRequest.f (k : Nat) (a0 : ByteArray) : Option (ByteArray × ByteArray × (List (S84)) × ByteArray × Int × Int) := if (a0.size : Int) > 32768 then (some ((⟨#[]⟩ : ByteArray), (⟨#[]⟩ : ByteArray), ([] : List (S84)), (⟨#[]⟩ : ByteArray), 1, 0)) else (wicketref15_ParseRequest.l0 k a0 0)
theorem wicketref15_ParseRequest.mono_l : ∀ k, (∀ y0 y1, LeO (wicketref15_ParseRequest.j1 k y0 y1) (wicketref15_ParseRequest.j1 (k + 1) y0 y1)) ∧ (∀ y0 y1 y2, LeO (wicketref15_ParseRequest.j2 k y0 y1 y2) (wicketref15_ParseRequest.j2 (k + 1) y0 y1 y2)) ∧ (∀ y0 y1 y2 y3, LeO (wicketref15_ParseRequest.j4 k y0 y1 y2 y3) (wicketref15_ParseRequest.j4 (k + 1) y0 y1 y2 y3)) ∧ (∀ y0 y1 y2 y3 y4, LeO (wicketref15_ParseRequest.j5 k y0 y1 y2 y3 y4) (wicketref15_ParseRequest.j5 (k + 1) y0 y1 y2 y3 y4)) ∧ (∀ y0 y1 y2 y3, LeO (wicketref15_ParseRequest.l1 k y0 y1 y2 y3) (wicketref15_ParseRequest.l1 (k + 1) y0 y1 y2 y3)) ∧ (∀ y0 y1, LeO (wicketref15_ParseRequest.l0 k y0 y1) (wicketref15_ParseRequest.l0 (k + 1) y0 y1))
  | 0 => ⟨fun _ _ r h => by simp [wicketref15_ParseRequest.j1] at h, fun _ _ _ r h => by simp [wicketref15_ParseRequest.j2] at h, fun _ _ _ _ r h => by simp [wicketref15_ParseRequest.j4] at h, fun _ _ _ _ _ r h => by simp [wicketref15_ParseRequest.j5] at h, fun _ _ _ _ r h => by simp [wicketref15_ParseRequest.l1] at h, fun _ _ r h => by simp [wicketref15_ParseRequest.l0] at h⟩
  | k + 1 => by
    obtain ⟨ih0, ih1, ih2, ih3, ih4, ih5⟩ := wicketref15_ParseRequest.mono_l k
    refine ⟨?_, ?_, ?_, ?_, ?_, ?_⟩
    · intro y0 y1
      unfold wicketref15_ParseRequest.j1
      repeat' first
      | (with_reducible exact ih0 _ _)
      | (with_reducible exact ih1 _ _ _)
      | (with_reducible exact ih2 _ _ _ _)
      | (with_reducible exact ih3 _ _ _ _ _)
      | (with_reducible exact ih4 _ _ _ _)
      | (with_reducible exact ih5 _ _)
      | (with_reducible exact wicketref15_method.mono _ _)
      | (with_reducible exact wicketref15_target.mono _ _)
      | (with_reducible exact LeO.refl _)
      | (with_reducible exact LeO.none _)
      | (with_reducible refine LeO.ite ?_ ?_)
      | (with_reducible refine LeO.bind ?_ (fun _ => ?_))
      | exact ih0 _ _
      | exact ih1 _ _ _
      | exact ih2 _ _ _ _
      | exact ih3 _ _ _ _ _
      | exact ih4 _ _ _ _
      | exact ih5 _ _
      | exact wicketref15_method.mono _ _
      | exact wicketref15_target.mono _ _
      | exact LeO.none _
      | refine LeO.ite ?_ ?_
      | refine LeO.bind ?_ (fun _ => ?_)
    · intro y0 y1 y2
      unfold wicketref15_ParseRequest.j2
      repeat' first
      | (with_reducible exact ih0 _ _)
      | (with_reducible exact ih1 _ _ _)
      | (with_reducible exact ih2 _ _ _ _)
      | (with_reducible exact ih3 _ _ _ _ _)
      | (with_reducible exact ih4 _ _ _ _)
      | (with_reducible exact ih5 _ _)
      | (with_reducible exact wicketref15_method.mono _ _)
      | (with_reducible exact wicketref15_target.mono _ _)
      | (with_reducible exact LeO.refl _)
      | (with_reducible exact LeO.none _)
      | (with_reducible refine LeO.ite ?_ ?_)
      | (with_reducible refine LeO.bind ?_ (fun _ => ?_))
      | exact ih0 _ _
      | exact ih1 _ _ _
      | exact ih2 _ _ _ _
      | exact ih3 _ _ _ _ _
      | exact ih4 _ _ _ _
      | exact ih5 _ _
      | exact wicketref15_method.mono _ _
      | exact wicketref15_target.mono _ _
      | exact LeO.none _
      | refine LeO.ite ?_ ?_
      | refine LeO.bind ?_ (fun _ => ?_)
    · intro y0 y1 y2 y3
      unfold wicketref15_ParseRequest.j4
      repeat' first
      | (with_reducible exact ih0 _ _)
      | (with_reducible exact ih1 _ _ _)
      | (with_reducible exact ih2 _ _ _ _)
      | (with_reducible exact ih3 _ _ _ _ _)
      | (with_reducible exact ih4 _ _ _ _)
      | (with_reducible exact ih5 _ _)
      | (with_reducible exact wicketref15_method.mono _ _)
      | (with_reducible exact wicketref15_target.mono _ _)
      | (with_reducible exact LeO.refl _)
      | (with_reducible exact LeO.none _)
      | (with_reducible refine LeO.ite ?_ ?_)
      | (with_reducible refine LeO.bind ?_ (fun _ => ?_))
      | exact ih0 _ _
      | exact ih1 _ _ _
      | exact ih2 _ _ _ _
      | exact ih3 _ _ _ _ _
      | exact ih4 _ _ _ _
      | exact ih5 _ _
      | exact wicketref15_method.mono _ _
      | exact wicketref15_target.mono _ _
      | exact LeO.none _
      | refine LeO.ite ?_ ?_
      | refine LeO.bind ?_ (fun _ => ?_)
    · intro y0 y1 y2 y3 y4
      unfold wicketref15_ParseRequest.j5
      repeat' first
      | (with_reducible exact ih0 _ _)
      | (with_reducible exact ih1 _ _ _)
      | (with_reducible exact ih2 _ _ _ _)
      | (with_reducible exact ih3 _ _ _ _ _)
      | (with_reducible exact ih4 _ _ _ _)
      | (with_reducible exact ih5 _ _)
      | (with_reducible exact wicketref15_method.mono _ _)
      | (with_reducible exact wicketref15_target.mono _ _)
      | (with_reducible exact LeO.refl _)
      | (with_reducible exact LeO.none _)
      | (with_reducible refine LeO.ite ?_ ?_)
      | (with_reducible refine LeO.bind ?_ (fun _ => ?_))
      | exact ih0 _ _
      | exact ih1 _ _ _
      | exact ih2 _ _ _ _
      | exact ih3 _ _ _ _ _
      | exact ih4 _ _ _ _
      | exact ih5 _ _
      | exact wicketref15_method.mono _ _
      | exact wicketref15_target.mono _ _
      | exact LeO.none _
      | refine LeO.ite ?_ ?_
      | refine LeO.bind ?_ (fun _ => ?_)
    · intro y0 y1 y2 y3
      unfold wicketref15_ParseRequest.l1
      repeat' first
      | (with_reducible exact ih0 _ _)
      | (with_reducible exact ih1 _ _ _)
      | (with_reducible exact ih2 _ _ _ _)
      | (with_reducible exact ih3 _ _ _ _ _)
      | (with_reducible exact ih4 _ _ _ _)
      | (with_reducible exact ih5 _ _)
      | (with_reducible exact wicketref15_method.mono _ _)
      | (with_reducible exact wicketref15_target.mono _ _)
      | (with_reducible exact LeO.refl _)
      | (with_reducible exact LeO.none _)
      | (with_reducible refine LeO.ite ?_ ?_)
      | (with_reducible refine LeO.bind ?_ (fun _ => ?_))
      | exact ih0 _ _
      | exact ih1 _ _ _
      | exact ih2 _ _ _ _
      | exact ih3 _ _ _ _ _
      | exact ih4 _ _ _ _
      | exact ih5 _ _
      | exact wicketref15_method.mono _ _
      | exact wicketref15_target.mono _ _
      | exact LeO.none _
      | refine LeO.ite ?_ ?_
      | refine LeO.bind ?_ (fun _ => ?_)
    · intro y0 y1
      unfold wicketref15_ParseRequest.l0
      repeat' first
      | (with_reducible exact ih0 _ _)
      | (with_reducible exact ih1 _ _ _)
      | (with_reducible exact ih2 _ _ _ _)
      | (with_reducible exact ih3 _ _ _ _ _)
      | (with_reducible exact ih4 _ _ _ _)
      | (with_reducible exact ih5 _ _)
      | (with_reducible exact wicketref15_method.mono _ _)
      | (with_reducible exact wicketref15_target.mono _ _)
      | (with_reducible exact LeO.refl _)
      | (with_reducible exact LeO.none _)
      | (with_reducible refine LeO.ite ?_ ?_)
      | (with_reducible refine LeO.bind ?_ (fun _ => ?_))
      | exact ih0 _ _
      | exact ih1 _ _ _
      | exact ih2 _ _ _ _
      | exact ih3 _ _ _ _ _
      | exact ih4 _ _ _ _
      | exact ih5 _ _
      | exact wicketref15_method.mono _ _
      | exact wicketref15_target.mono _ _
      | exact LeO.none _
      | refine LeO.ite ?_ ?_
      | refine LeO.bind ?_ (fun _ => ?_)
theorem wicketref15_ParseRequest.mono : ∀ a0 k, LeO (wicketref15_ParseRequest.f k a0) (wicketref15_ParseRequest.f (k + 1) a0) := by
  intro a0 k
  obtain ⟨ih0, ih1, ih2, ih3, ih4, ih5⟩ := wicketref15_ParseRequest.mono_l k
  unfold wicketref15_ParseRequest.f
  repeat' first
      | (with_reducible exact ih0 _ _)
      | (with_reducible exact ih1 _ _ _)
      | (with_reducible exact ih2 _ _ _ _)
      | (with_reducible exact ih3 _ _ _ _ _)
      | (with_reducible exact ih4 _ _ _ _)
      | (with_reducible exact ih5 _ _)
      | (with_reducible exact wicketref15_method.mono _ _)
      | (with_reducible exact wicketref15_target.mono _ _)
      | (with_reducible exact LeO.refl _)
      | (with_reducible exact LeO.none _)
      | (with_reducible refine LeO.ite ?_ ?_)
      | (with_reducible refine LeO.bind ?_ (fun _ => ?_))
      | exact ih0 _ _
      | exact ih1 _ _ _
      | exact ih2 _ _ _ _
      | exact ih3 _ _ _ _ _
      | exact ih4 _ _ _ _
      | exact ih5 _ _
      | exact wicketref15_method.mono _ _
      | exact wicketref15_target.mono _ _
      | exact LeO.none _
      | refine LeO.ite ?_ ?_
      | refine LeO.bind ?_ (fun _ => ?_)
def wicketref15_ParseRequest.T20 : Bool × List (List Nat × List Nat) := (true, [([], []), ([], []), ([0, 1], [0, 1]), ([], []), ([], []), ([], []), ([3, 4, 5], [3, 4, 5]), ([], []), ([], []), ([2, 6, 7, 8], [2, 6, 7, 8]), ([9, 0, 1, 2, 3, 4, 5, 6, 7, 8, 9], [9]), ([10, 0, 1, 2, 3, 4, 5, 6, 7, 8, 9, 10], []), ([11, 0, 1, 2, 3, 4, 5, 6, 7, 8, 9, 10, 11], [])])
def wicketref15_ParseRequest.B20 : List Nat := [0, 0, 3, 0, 0, 0, 56, 0, 0, 511, 1023, 2047, 4095]
theorem wicketref15_ParseRequest.tab20 : rtab .any (opsOf Tryz.f9 20) = wicketref15_ParseRequest.T20 := by kernel_rfl
theorem wicketref15_ParseRequest.bits20 : waitsOk wicketref15_ParseRequest.T20.2 wicketref15_ParseRequest.B20 = true := by kernel_rfl
set_option maxHeartbeats 8000000 in
set_option maxRecDepth 100000 in
theorem wicketref15_ParseRequest.calls (k : Nat) (a0 : ByteArray) (r1 : ByteArray) (r2 : ByteArray) (r3 : List (S84)) (r4 : ByteArray) (r5 : Int) (r6 : Int) (w : World) (h : wicketref15_ParseRequest.f k a0 = some (r1, r2, r3, r4, r5, r6)) :
    Calls Tryz.prog 9 #[.string a0] w fun e w' => ∃ v2_ : Value, e = .returned (.tuple #[.agg #[.string r1, .string r2, v2_, .string r4], .int .i64 r5, .int .i64 r6]) ∧ Kd.R k84 84 w' w.heap.size (fun _ => True) v2_ r3 ∧ Below w.heap.size w w' := by
  have hu30 := Tryz.underlying30
  have HB := Aside0.mk (Below.refl w.heap.size w)
  have H : (if (a0.size : Int) > 32768 then (some ((⟨#[]⟩ : ByteArray), (⟨#[]⟩ : ByteArray), ([] : List (S84)), (⟨#[]⟩ : ByteArray), 1, 0)) else (wicketref15_ParseRequest.l0 k a0 0)) = some (r1, r2, r3, r4, r5, r6) := h
  clear h
  by_cases c2 : (a0.size : Int) > 32768
  · rw [if_pos c2] at H
    have c2b0 : decide (32768 < (a0.size : Int)) = true := decide_eq_true c2
    have c2b1 : decide (32768 < a0.size) = true := decide_eq_true (by omega)
    clear c2
    simp only [Option.some.injEq, Prod.mk.injEq] at H
    obtain ⟨rfl, rfl, rfl, rfl, rfl, rfl⟩ := H
    go_enter Tryz.func9, Tryz.ntmps9
    go_wp2_with (first | ((with_reducible refine gate_dst (N := 2) rfl ?_); refine box_event ?hg (N := 2) ?hd (cs := #[.string (⟨#[]⟩ : ByteArray), .string (⟨#[]⟩ : ByteArray), .slice none 0 0, .string (⟨#[]⟩ : ByteArray)]) (t := 30) ?hr ?_; (case hd => rfl); (case hg => rfl); (case hr => first | (go_simp; done) | (go_simp; rfl)); intro gb377 hg w3 hbox hb; have n0_ := Aside0.mk (below_step (by repeat (first | (with_reducible first | exact HB.out | apply below_alloc | apply pw_below_drewN | apply below_drew1) | exact HB.out)) hb); have n1_ := Aside0.mk (hbox); have n2_ := Aside0.mk ((by rw [hg]; exact (below_size (by repeat (first | (with_reducible first | exact HB.out | apply below_alloc | apply pw_below_drewN | apply below_drew1) | exact HB.out))) : w.heap.size ≤ gb377)); have n3_ := Aside0.mk ((by rw [hg]; exact (below_size (by repeat (first | (with_reducible first | exact HB.out | apply below_alloc | apply pw_below_drewN | apply below_drew1) | exact HB.out))) : w.heap.size ≤ gb377)); clear HB; have HB := n0_; have BK377 := n1_; have GW377 := n2_; have GE377 := n3_; clear n0_ n1_ n2_ n3_; clear hb hbox hg; have hcz4_0 : w3.cell? ⟨gb377, 0, none⟩ = some (.string (⟨#[]⟩ : ByteArray)) := (blk_cell BK377.out 0).trans rfl; have hcz4_1 : w3.cell? ⟨gb377, 1, none⟩ = some (.string (⟨#[]⟩ : ByteArray)) := (blk_cell BK377.out 1).trans rfl; have hcz4_2 : w3.cell? ⟨gb377, 2, none⟩ = some (.slice none 0 0) := (blk_cell BK377.out 2).trans rfl; have hcz4_3 : w3.cell? ⟨gb377, 3, none⟩ = some (.string (⟨#[]⟩ : ByteArray)) := (blk_cell BK377.out 3).trans rfl; have hfz4_0 := blk_frozen BK377.out 0; have hfz4_1 := blk_frozen BK377.out 1; have hfz4_2 := blk_frozen BK377.out 2; have hfz4_3 := blk_frozen BK377.out 3))
    refine bodyPost_ret (results_ctt rfl _ _ gb377 30 #[.string (⟨#[]⟩ : ByteArray), .string (⟨#[]⟩ : ByteArray), .slice none 0 0, .string (⟨#[]⟩ : ByteArray)] (0, 0) _ rfl (by (with_reducible repeat (first | refine blk_drewN ?_ _ | refine blk_drew ?_ | refine blk_alloc ?_ _)); refine blk_put (cs := #[.string (⟨#[]⟩ : ByteArray), .string (⟨#[]⟩ : ByteArray), .slice none 0 0, .string (⟨#[]⟩ : ByteArray)]) ?_ 3 _ rfl; (with_reducible repeat (first | refine blk_drewN ?_ _ | refine blk_drew ?_ | refine blk_alloc ?_ _)); refine blk_put (cs := #[.string (⟨#[]⟩ : ByteArray), .string (⟨#[]⟩ : ByteArray), .slice none 0 0, .string (⟨#[]⟩ : ByteArray)]) ?_ 2 _ rfl; (with_reducible repeat (first | refine blk_drewN ?_ _ | refine blk_drew ?_ | refine blk_alloc ?_ _)); refine blk_put (cs := #[.string (⟨#[]⟩ : ByteArray), .string (⟨#[]⟩ : ByteArray), .slice none 0 0, .string (⟨#[]⟩ : ByteArray)]) ?_ 1 _ rfl; (with_reducible repeat (first | refine blk_drewN ?_ _ | refine blk_drew ?_ | refine blk_alloc ?_ _)); refine blk_put (cs := #[.string (⟨#[]⟩ : ByteArray), .string (⟨#[]⟩ : ByteArray), .slice none 0 0, .string (⟨#[]⟩ : ByteArray)]) ?_ 0 _ rfl; (with_reducible repeat (first | refine blk_drewN ?_ _ | refine blk_drew ?_ | refine blk_alloc ?_ _)); exact BK377.out) Tryz.underlying30 rfl (by kernel_rfl)) rfl ?_
    exact ⟨_, by first | rfl | (simp [errW_none, errW_some] <;> rfl) | (simp [*, errW_none, errW_some] <;> rfl), by first | exact Kd.R_nil _ _ _ _ _ | exact Kd.N_nil _ _ _ _ _ | exact Kd.V_nil _ _ _ _ _ | exact Kd.Q_nil _ _ _ _ _ | exact Kd.S_nil _ _ _ _ _, by repeat (first | (with_reducible first | exact HB.out | apply below_alloc | apply pw_below_drewN | apply below_drew1 | refine below_set ?_ GE377.out) | exact HB.out)⟩
  · rw [if_neg c2] at H
    have c2b0 : decide (32768 < (a0.size : Int)) = false := decide_eq_false c2
    have c2b1 : decide (32768 < a0.size) = false := decide_eq_false (by omega)
    clear c2
    have HC5 := Aside0.mk H
    clear H
    go_enter Tryz.func9, Tryz.ntmps9
    go_upto_block 0 with (first | ((with_reducible refine gate_dst (N := 2) rfl ?_); refine box_event ?hg (N := 2) ?hd (cs := #[.string (⟨#[]⟩ : ByteArray), .string (⟨#[]⟩ : ByteArray), .slice none 0 0, .string (⟨#[]⟩ : ByteArray)]) (t := 30) ?hr ?_; (case hd => rfl); (case hg => rfl); (case hr => first | (go_simp; done) | (go_simp; rfl)); intro gb377 hg w6 hbox hb; have n0_ := Aside0.mk (below_step (by repeat (first | (with_reducible first | exact HB.out | apply below_alloc | apply pw_below_drewN | apply below_drew1) | exact HB.out)) hb); have n1_ := Aside0.mk (hbox); have n2_ := Aside0.mk ((by rw [hg]; exact (below_size (by repeat (first | (with_reducible first | exact HB.out | apply below_alloc | apply pw_below_drewN | apply below_drew1) | exact HB.out))) : w.heap.size ≤ gb377)); have n3_ := Aside0.mk ((by rw [hg]; exact (below_size (by repeat (first | (with_reducible first | exact HB.out | apply below_alloc | apply pw_below_drewN | apply below_drew1) | exact HB.out))) : w.heap.size ≤ gb377)); clear HB; have HB := n0_; have BK377 := n1_; have GW377 := n2_; have GE377 := n3_; clear n0_ n1_ n2_ n3_; clear hb hbox hg))
    (try simp only [Act.put, List.setIfInBounds_toArray, List.set_cons_zero, List.set_cons_succ])
    go_cut [5] (fun v5 wc => ∃ (kq : Nat) (x5_4 : Int), v5 = .int .i64 x5_4 ∧ Aside0 (wicketref15_ParseRequest.j1 kq a0 x5_4 = some (r1, r2, r3, r4, r5, r6)) ∧ Aside0 (kq ≤ k) ∧ Aside0 (wc.heap[gb377]? = some (.cells #[.string (⟨#[]⟩ : ByteArray), .string (⟨#[]⟩ : ByteArray), (.slice none 0 0), .string (⟨#[]⟩ : ByteArray)] 30 (0, 0))) ∧ Aside0 (Below w.heap.size w wc))
    case first =>
      have H := HC5.out
      clear HC5
      have H' := Aside0.mk H
      clear H
      go_wp2
      go_loopg [5] k (fun kq v5 w' => ∃ (x5_1 : Int), v5 = .int .i64 x5_1 ∧ Aside0 (wicketref15_ParseRequest.l0 kq a0 x5_1 = some (r1, r2, r3, r4, r5, r6)) ∧ Aside0 (kq ≤ k) ∧ Aside0 (w'.heap[gb377]? = some (.cells #[.string (⟨#[]⟩ : ByteArray), .string (⟨#[]⟩ : ByteArray), (.slice none 0 0), .string (⟨#[]⟩ : ByteArray)] 30 (0, 0))) ∧ Aside0 (Below w.heap.size w w'))
      case atStart => exact ⟨(0), (by first | rfl | (simp; done) | (simp [*]; done)), H', ⟨Nat.le_refl _⟩, ⟨by (with_reducible repeat (first | refine blk_drewN ?_ _ | refine blk_drew ?_ | refine blk_alloc ?_ _)); exact BK377.out⟩, ⟨by repeat (first | (with_reducible first | exact HB.out | apply below_alloc | apply pw_below_drewN | apply below_drew1 | refine below_set ?_ GE377.out) | exact HB.out)⟩⟩
      case round =>
        clear H'
        try clear c2
        try clear c2b0
        try clear c2b1
        try clear p2
        try clear hcz4_0
        try clear hcz4_1
        try clear hcz4_2
        try clear hcz4_3
        try clear hfz4_0
        try clear hfz4_1
        try clear hfz4_2
        try clear hfz4_3
        obtain ⟨x5_1, rfl, HA, HK1, BK377, HB⟩ := hrel
        cases gk with
        | zero => exact absurd HA.out (by simp [wicketref15_ParseRequest.l0])
        | succ k1 =>
          have H := HA.out
          clear HA
          simp only [wicketref15_ParseRequest.l0] at H
          by_cases c7 : x5_1 < (a0.size : Int)
          · rw [if_pos c7] at H
            have c7b0 : decide (x5_1 < (a0.size : Int)) = true := decide_eq_true c7
            clear c7
            (first | rw [c7b0] | (simp only [i64_w, i32_w]; rw [c7b0]) | skip)
            by_cases c8 : 0 ≤ x5_1
            · rw [if_pos c8] at H
              have c8b0 : decide (0 ≤ x5_1) = true := decide_eq_true c8
              clear c8
              by_cases c10 : (bt a0 x5_1) = 32
              · rw [if_pos c10] at H
                have c10b0 : ((bt a0 x5_1) == 32) = true := beq_iff_eq.mpr c10
                have c10b1 : ((bt a0 x5_1) != 32) = false := bne_eq_false_iff_eq.mpr c10
                clear c10
                have H' := Aside0.mk H
                clear H
                have p9 : 0 ≤ (x5_1 : Int) := of_decide_eq_true (by first | (with_reducible assumption) | assumption)
                have q9 : x5_1 < (a0.size : Int) := of_decide_eq_true (by first | (with_reducible assumption) | assumption)
                have hx9 := bt_at a0 x5_1
                replace p9 := eq_true p9
                replace q9 := eq_true q9
                go_wp2
                go_meet
                case rel => exact ⟨_, (x5_1), (by first | rfl | (simp; done) | (simp [*]; done)), H', ⟨by have := HK1.out; first | omega | exact Nat.le_refl _⟩, ⟨by (with_reducible repeat (first | refine blk_drewN ?_ _ | refine blk_drew ?_ | refine blk_alloc ?_ _)); exact BK377.out⟩, ⟨by repeat (first | (with_reducible first | exact HB.out | apply below_alloc | apply pw_below_drewN | apply below_drew1 | refine below_set ?_ GE377.out) | exact HB.out)⟩⟩
              · rw [if_neg c10] at H
                have c10b0 : ((bt a0 x5_1) == 32) = false := beq_eq_false_iff_ne.mpr c10
                have c10b1 : ((bt a0 x5_1) != 32) = true := bne_iff_ne.mpr c10
                have H' := Aside0.mk H
                clear H
                have p9 : 0 ≤ (x5_1 : Int) := of_decide_eq_true (by first | (with_reducible assumption) | assumption)
                have q9 : x5_1 < (a0.size : Int) := of_decide_eq_true (by first | (with_reducible assumption) | assumption)
                have hx9 := bt_at a0 x5_1
                replace p9 := eq_true p9
                replace q9 := eq_true q9
                go_wp2
                go_roundg k1
                case measure => have := HK1.out; omega
                case rel => exact ⟨(wrap64 (x5_1 + 1)), (by first | rfl | (simp; done) | (simp [*]; done)), H', ⟨by have := HK1.out; omega⟩, ⟨by (with_reducible repeat (first | refine blk_drewN ?_ _ | refine blk_drew ?_ | refine blk_alloc ?_ _)); exact BK377.out⟩, ⟨by repeat (first | (with_reducible first | exact HB.out | apply below_alloc | apply pw_below_drewN | apply below_drew1 | refine below_set ?_ GE377.out) | exact HB.out)⟩⟩
            · rw [if_neg c8] at H
              exact absurd H (by simp)
          · rw [if_neg c7] at H
            have c7b0 : decide (x5_1 < (a0.size : Int)) = false := decide_eq_false c7
            clear c7
            (first | rw [c7b0] | (simp only [i64_w, i32_w]; rw [c7b0]) | skip)
            have H' := Aside0.mk H
            clear H
            go_wp2
            go_meet
            case rel => exact ⟨_, (x5_1), (by first | rfl | (simp; done) | (simp [*]; done)), H', ⟨by have := HK1.out; first | omega | exact Nat.le_refl _⟩, ⟨by (with_reducible repeat (first | refine blk_drewN ?_ _ | refine blk_drew ?_ | refine blk_alloc ?_ _)); exact BK377.out⟩, ⟨by repeat (first | (with_reducible first | exact HB.out | apply below_alloc | apply pw_below_drewN | apply below_drew1 | refine below_set ?_ GE377.out) | exact HB.out)⟩⟩
    case rest =>
      clear HC5
      try clear c1
      try clear c2
      try clear c2b0
      try clear c2b1
      try clear p2
      try clear p6
      try clear c7
      try clear c7b0
      try clear c8
      try clear c8b0
      try clear c9
      try clear p9
      try clear q9
      try clear hx9
      try clear c10
      try clear c10b0
      try clear c10b1
      try clear hcz4_0
      try clear hcz4_1
      try clear hcz4_2
      try clear hcz4_3
      try clear hfz4_0
      try clear hfz4_1
      try clear hfz4_2
      try clear hfz4_3
      try clear p2
      try clear p9
      try clear q9
      obtain ⟨kq, x5_4, rfl, HA, HJ4, BK377, HB⟩ := hcut
      cases kq with
      | zero => exact absurd HA.out (by simp [wicketref15_ParseRequest.j1])
      | succ kj4 =>
        have H := HA.out
        clear HA
        simp only [wicketref15_ParseRequest.j1] at H
        have HC11 := Aside0.mk H
        clear H
        go_upto_region 6 with (fail)
        go_cut [39] (fun v39 wc => ∃ (kq : Nat) (x39_10 : Bool), v39 = .bool x39_10 ∧ Aside0 (wicketref15_ParseRequest.j2 kq a0 x5_4 x39_10 = some (r1, r2, r3, r4, r5, r6)) ∧ Aside0 (kq ≤ kj4) ∧ Aside0 (wc.heap[gb377]? = some (.cells #[.string (⟨#[]⟩ : ByteArray), .string (⟨#[]⟩ : ByteArray), (.slice none 0 0), .string (⟨#[]⟩ : ByteArray)] 30 (0, 0))) ∧ Aside0 (Below w.heap.size w wc))
        case first =>
          have H := HC11.out
          clear HC11
          by_cases c12 : x5_4 = (a0.size : Int)
          · rw [if_pos c12] at H
            have c12b0 : (x5_4 == (a0.size : Int)) = true := beq_iff_eq.mpr c12
            have c12b1 : (x5_4 != (a0.size : Int)) = false := bne_eq_false_iff_eq.mpr c12
            clear c12
            (first | rw [c12b0] | (simp only [i64_w, i32_w]; rw [c12b0]) | skip)
            have H' := Aside0.mk H
            clear H
            go_wp2
            go_meet
            case rel => exact ⟨_, (true), (by first | rfl | (simp; done) | (simp [*]; done)), H', ⟨by have := HJ4.out; first | omega | exact Nat.le_refl _⟩, ⟨by (with_reducible repeat (first | refine blk_drewN ?_ _ | refine blk_drew ?_ | refine blk_alloc ?_ _)); exact BK377.out⟩, ⟨by repeat (first | (with_reducible first | exact HB.out | apply below_alloc | apply pw_below_drewN | apply below_drew1 | refine below_set ?_ GE377.out) | exact HB.out)⟩⟩
          · rw [if_neg c12] at H
            have c12b0 : (x5_4 == (a0.size : Int)) = false := beq_eq_false_iff_ne.mpr c12
            have c12b1 : (x5_4 != (a0.size : Int)) = true := bne_iff_ne.mpr c12
            (first | rw [c12b0] | (simp only [i64_w, i32_w]; rw [c12b0]) | skip)
            by_cases c13 : 0 ≤ x5_4
            · rw [if_pos c13] at H
              have c13b0 := eq_true c13
              have c13b1 : decide (0 ≤ x5_4) = true := decide_eq_true c13
              clear c13
              by_cases c14 : x5_4 ≤ (a0.size : Int)
              · rw [if_pos c14] at H
                have c14b0 := eq_true c14
                have c14b1 : decide (x5_4 ≤ (a0.size : Int)) = true := decide_eq_true c14
                clear c14
                replace H := Option.bind_eq_some_iff.mp H
                obtain ⟨t378, A150, H⟩ := H
                replace H : (wicketref15_ParseRequest.j2 kj4 a0 x5_4 (!t378)) = some (r1, r2, r3, r4, r5, r6) := H
                have A15 := Aside0.mk A150
                clear A150
                have H' := Aside0.mk H
                clear H
                go_wp2_with (first | (go_at_call 40; (with_reducible refine (wicketref15_method.calls kj4 (a0.extract 0 (x5_4 : Int).toNat) t378 _ A15.out).mono ?_); rintro e w' ⟨rfl, ⟨nd, rfl⟩⟩))
                go_meet
                case rel => exact ⟨_, (!t378), (by first | rfl | (simp; done) | (simp [*]; done)), H', ⟨by have := HJ4.out; first | omega | exact Nat.le_refl _⟩, ⟨by (with_reducible repeat (first | refine blk_drewN ?_ _ | refine blk_drew ?_ | refine blk_alloc ?_ _)); exact BK377.out⟩, ⟨by repeat (first | (with_reducible first | exact HB.out | apply below_alloc | apply pw_below_drewN | apply below_drew1 | refine below_set ?_ GE377.out) | exact HB.out)⟩⟩
              · rw [if_neg c14] at H
                exact absurd H (by simp)
            · rw [if_neg c13] at H
              exact absurd H (by simp)
        case rest =>
          clear HC11
          try clear c1
          try clear c2
          try clear c2b0
          try clear c2b1
          try clear p2
          try clear p6
          try clear c7
          try clear c7b0
          try clear c8
          try clear c8b0
          try clear c9
          try clear p9
          try clear q9
          try clear hx9
          try clear c10
          try clear c10b0
          try clear c10b1
          try clear c12
          try clear c12b0
          try clear c12b1
          try clear c13
          try clear c13b0
          try clear c13b1
          try clear c14
          try clear c14b0
          try clear c14b1
          try clear hcz4_0
          try clear hcz4_1
          try clear hcz4_2
          try clear hcz4_3
          try clear hfz4_0
          try clear hfz4_1
          try clear hfz4_2
          try clear hfz4_3
          try clear p2
          try clear p6
          try clear p9
          try clear q9
          obtain ⟨kq, x39_10, rfl, HA, HJ10, BK377, HB⟩ := hcut
          cases kq with
          | zero => exact absurd HA.out (by simp [wicketref15_ParseRequest.j2])
          | succ kj10 =>
            have H := HA.out
            clear HA
            simp only [wicketref15_ParseRequest.j2] at H
            by_cases c16 : x39_10 = true
            · subst c16
              have H1 : (some ((⟨#[]⟩ : ByteArray), (⟨#[]⟩ : ByteArray), ([] : List (S84)), (⟨#[]⟩ : ByteArray), 150, 0)) = some (r1, r2, r3, r4, r5, r6) := by rw [if_pos rfl] at H; exact H
              clear H
              have H := H1
              clear H1
              simp only [Option.some.injEq, Prod.mk.injEq] at H
              obtain ⟨rfl, rfl, rfl, rfl, rfl, rfl⟩ := H
              have hcz17_0 : wc.cell? ⟨gb377, 0, none⟩ = some (.string (⟨#[]⟩ : ByteArray)) := (blk_cell BK377.out 0).trans rfl
              have hcz17_1 : wc.cell? ⟨gb377, 1, none⟩ = some (.string (⟨#[]⟩ : ByteArray)) := (blk_cell BK377.out 1).trans rfl
              have hcz17_2 : wc.cell? ⟨gb377, 2, none⟩ = some (.slice none 0 0) := (blk_cell BK377.out 2).trans rfl
              have hcz17_3 : wc.cell? ⟨gb377, 3, none⟩ = some (.string (⟨#[]⟩ : ByteArray)) := (blk_cell BK377.out 3).trans rfl
              have hfz17_0 := blk_frozen BK377.out 0
              have hfz17_1 := blk_frozen BK377.out 1
              have hfz17_2 := blk_frozen BK377.out 2
              have hfz17_3 := blk_frozen BK377.out 3
              go_wp2
              refine bodyPost_ret (results_ctt rfl _ _ gb377 30 #[.string (⟨#[]⟩ : ByteArray), .string (⟨#[]⟩ : ByteArray), .slice none 0 0, .string (⟨#[]⟩ : ByteArray)] (0, 0) _ rfl (by (with_reducible repeat (first | refine blk_drewN ?_ _ | refine blk_drew ?_ | refine blk_alloc ?_ _)); refine blk_put (cs := #[.string (⟨#[]⟩ : ByteArray), .string (⟨#[]⟩ : ByteArray), .slice none 0 0, .string (⟨#[]⟩ : ByteArray)]) ?_ 3 _ rfl; (with_reducible repeat (first | refine blk_drewN ?_ _ | refine blk_drew ?_ | refine blk_alloc ?_ _)); refine blk_put (cs := #[.string (⟨#[]⟩ : ByteArray), .string (⟨#[]⟩ : ByteArray), .slice none 0 0, .string (⟨#[]⟩ : ByteArray)]) ?_ 2 _ rfl; (with_reducible repeat (first | refine blk_drewN ?_ _ | refine blk_drew ?_ | refine blk_alloc ?_ _)); refine blk_put (cs := #[.string (⟨#[]⟩ : ByteArray), .string (⟨#[]⟩ : ByteArray), .slice none 0 0, .string (⟨#[]⟩ : ByteArray)]) ?_ 1 _ rfl; (with_reducible repeat (first | refine blk_drewN ?_ _ | refine blk_drew ?_ | refine blk_alloc ?_ _)); refine blk_put (cs := #[.string (⟨#[]⟩ : ByteArray), .string (⟨#[]⟩ : ByteArray), .slice none 0 0, .string (⟨#[]⟩ : ByteArray)]) ?_ 0 _ rfl; (with_reducible repeat (first | refine blk_drewN ?_ _ | refine blk_drew ?_ | refine blk_alloc ?_ _)); exact BK377.out) Tryz.underlying30 rfl (by kernel_rfl)) rfl ?_
              exact ⟨_, by first | rfl | (simp [errW_none, errW_some] <;> rfl) | (simp [*, errW_none, errW_some] <;> rfl), by first | exact Kd.R_nil _ _ _ _ _ | exact Kd.N_nil _ _ _ _ _ | exact Kd.V_nil _ _ _ _ _ | exact Kd.Q_nil _ _ _ _ _ | exact Kd.S_nil _ _ _ _ _, by repeat (first | (with_reducible first | exact HB.out | apply below_alloc | apply pw_below_drewN | apply below_drew1 | refine below_set ?_ GE377.out) | exact HB.out)⟩
            · replace c16 := Bool.eq_false_iff.mpr c16
              subst c16
              have H1 : (wicketref15_ParseRequest.l1 kj10 a0 x5_4 (wrap64 (x5_4 + 1)) (wrap64 (x5_4 + 1))) = some (r1, r2, r3, r4, r5, r6) := by rw [if_neg (show ¬ (false = true) by decide)] at H; exact H
              clear H
              have H := H1
              clear H1
              have HC18 := Aside0.mk H
              clear H
              go_upto_block 2 with (fail)
              go_cut [7] (fun v7 wc => ∃ (kq : Nat) (x7_17 : Int), v7 = .int .i64 x7_17 ∧ Aside0 (wicketref15_ParseRequest.j4 kq a0 x5_4 (wrap64 (x5_4 + 1)) x7_17 = some (r1, r2, r3, r4, r5, r6)) ∧ Aside0 (kq ≤ kj10) ∧ Aside0 (wc.heap[gb377]? = some (.cells #[.string (⟨#[]⟩ : ByteArray), .string (⟨#[]⟩ : ByteArray), (.slice none 0 0), .string (⟨#[]⟩ : ByteArray)] 30 (0, 0))) ∧ Aside0 (Below w.heap.size w wc))
              case first =>
                have H := HC18.out
                clear HC18
                have H' := Aside0.mk H
                clear H
                go_wp2
                go_loopg [7] kj10 (fun kq v7 w' => ∃ (x7_3 : Int), v7 = .int .i64 x7_3 ∧ Aside0 (wicketref15_ParseRequest.l1 kq a0 x5_4 (wrap64 (x5_4 + 1)) x7_3 = some (r1, r2, r3, r4, r5, r6)) ∧ Aside0 (kq ≤ kj10) ∧ Aside0 (w'.heap[gb377]? = some (.cells #[.string (⟨#[]⟩ : ByteArray), .string (⟨#[]⟩ : ByteArray), (.slice none 0 0), .string (⟨#[]⟩ : ByteArray)] 30 (0, 0))) ∧ Aside0 (Below w.heap.size w w'))
                case atStart => exact ⟨(wrap64 (x5_4 + 1)), (by first | rfl | (simp; done) | (simp [*]; done)), H', ⟨Nat.le_refl _⟩, ⟨by (with_reducible repeat (first | refine blk_drewN ?_ _ | refine blk_drew ?_ | refine blk_alloc ?_ _)); exact BK377.out⟩, ⟨by repeat (first | (with_reducible first | exact HB.out | apply below_alloc | apply pw_below_drewN | apply below_drew1 | refine below_set ?_ GE377.out) | exact HB.out)⟩⟩
                case round =>
                  clear H'
                  try clear c1
                  try clear c2
                  try clear c2b0
                  try clear c2b1
                  try clear p2
                  try clear p6
                  try clear c7
                  try clear c7b0
                  try clear c8
                  try clear c8b0
                  try clear c9
                  try clear p9
                  try clear q9
                  try clear hx9
                  try clear c10
                  try clear c10b0
                  try clear c10b1
                  try clear c12
                  try clear c12b0
                  try clear c12b1
                  try clear c13
                  try clear c13b0
                  try clear c13b1
                  try clear c14
                  try clear c14b0
                  try clear c14b1
                  try clear c16
                  try clear hcz17_0
                  try clear hcz17_1
                  try clear hcz17_2
                  try clear hcz17_3
                  try clear hcz4_0
                  try clear hcz4_1
                  try clear hcz4_2
                  try clear hcz4_3
                  try clear hfz17_0
                  try clear hfz17_1
                  try clear hfz17_2
                  try clear hfz17_3
                  try clear hfz4_0
                  try clear hfz4_1
                  try clear hfz4_2
                  try clear hfz4_3
                  try clear p2
                  try clear p6
                  try clear p9
                  try clear q9
                  obtain ⟨x7_3, rfl, HA, HK3, BK377, HB⟩ := hrel
                  cases gk with
                  | zero => exact absurd HA.out (by simp [wicketref15_ParseRequest.l1])
                  | succ k3 =>
                    have H := HA.out
                    clear HA
                    simp only [wicketref15_ParseRequest.l1] at H
                    by_cases c19 : x7_3 < (a0.size : Int)
                    · rw [if_pos c19] at H
                      have c19b0 : decide (x7_3 < (a0.size : Int)) = true := decide_eq_true c19
                      clear c19
                      (first | rw [c19b0] | (simp only [i64_w, i32_w]; rw [c19b0]) | skip)
                      by_cases c20 : 0 ≤ x7_3
                      · rw [if_pos c20] at H
                        have c20b0 : decide (0 ≤ x7_3) = true := decide_eq_true c20
                        clear c20
                        by_cases c22 : (bt a0 x7_3) ≥ 33
                        · rw [if_pos c22] at H
                          have c22b0 : decide (33 ≤ (bt a0 x7_3)) = true := decide_eq_true c22
                          clear c22
                          by_cases c24 : (bt a0 x7_3) ≤ 126
                          · rw [if_pos c24] at H
                            have c24b0 : decide ((bt a0 x7_3) ≤ 126) = true := decide_eq_true c24
                            clear c24
                            have H' := Aside0.mk H
                            clear H
                            have p21 : 0 ≤ (x7_3 : Int) := of_decide_eq_true (by first | (with_reducible assumption) | assumption)
                            have q21 : x7_3 < (a0.size : Int) := of_decide_eq_true (by first | (with_reducible assumption) | assumption)
                            have hx21 := bt_at a0 x7_3
                            replace p21 := eq_true p21
                            replace q21 := eq_true q21
                            have p23 : 0 ≤ (x7_3 : Int) := of_decide_eq_true (by first | (with_reducible assumption) | assumption)
                            have q23 : x7_3 < (a0.size : Int) := of_decide_eq_true (by first | (with_reducible assumption) | assumption)
                            have hx23 := bt_at a0 x7_3
                            replace p23 := eq_true p23
                            replace q23 := eq_true q23
                            go_wp2
                            go_roundg k3
                            case measure => have := HJ4.out; have := HJ10.out; have := HK3.out; omega
                            case rel => exact ⟨(wrap64 (x7_3 + 1)), (by first | rfl | (simp; done) | (simp [*]; done)), H', ⟨by have := HJ4.out; have := HJ10.out; have := HK3.out; omega⟩, ⟨by (with_reducible repeat (first | refine blk_drewN ?_ _ | refine blk_drew ?_ | refine blk_alloc ?_ _)); exact BK377.out⟩, ⟨by repeat (first | (with_reducible first | exact HB.out | apply below_alloc | apply pw_below_drewN | apply below_drew1 | refine below_set ?_ GE377.out) | exact HB.out)⟩⟩
                          · rw [if_neg c24] at H
                            have c24b0 : decide ((bt a0 x7_3) ≤ 126) = false := decide_eq_false c24
                            clear c24
                            have H' := Aside0.mk H
                            clear H
                            have p21 : 0 ≤ (x7_3 : Int) := of_decide_eq_true (by first | (with_reducible assumption) | assumption)
                            have q21 : x7_3 < (a0.size : Int) := of_decide_eq_true (by first | (with_reducible assumption) | assumption)
                            have hx21 := bt_at a0 x7_3
                            replace p21 := eq_true p21
                            replace q21 := eq_true q21
                            have p23 : 0 ≤ (x7_3 : Int) := of_decide_eq_true (by first | (with_reducible assumption) | assumption)
                            have q23 : x7_3 < (a0.size : Int) := of_decide_eq_true (by first | (with_reducible assumption) | assumption)
                            have hx23 := bt_at a0 x7_3
                            replace p23 := eq_true p23
                            replace q23 := eq_true q23
                            go_wp2
                            go_meet
                            case rel => exact ⟨_, (x7_3), (by first | rfl | (simp; done) | (simp [*]; done)), H', ⟨by have := HJ4.out; have := HJ10.out; have := HK3.out; first | omega | exact Nat.le_refl _⟩, ⟨by (with_reducible repeat (first | refine blk_drewN ?_ _ | refine blk_drew ?_ | refine blk_alloc ?_ _)); exact BK377.out⟩, ⟨by repeat (first | (with_reducible first | exact HB.out | apply below_alloc | apply pw_below_drewN | apply below_drew1 | refine below_set ?_ GE377.out) | exact HB.out)⟩⟩
                        · rw [if_neg c22] at H
                          have c22b0 : decide (33 ≤ (bt a0 x7_3)) = false := decide_eq_false c22
                          clear c22
                          have H' := Aside0.mk H
                          clear H
                          have p21 : 0 ≤ (x7_3 : Int) := of_decide_eq_true (by first | (with_reducible assumption) | assumption)
                          have q21 : x7_3 < (a0.size : Int) := of_decide_eq_true (by first | (with_reducible assumption) | assumption)
                          have hx21 := bt_at a0 x7_3
                          replace p21 := eq_true p21
                          replace q21 := eq_true q21
                          go_wp2
                          go_meet
                          case rel => exact ⟨_, (x7_3), (by first | rfl | (simp; done) | (simp [*]; done)), H', ⟨by have := HJ4.out; have := HJ10.out; have := HK3.out; first | omega | exact Nat.le_refl _⟩, ⟨by (with_reducible repeat (first | refine blk_drewN ?_ _ | refine blk_drew ?_ | refine blk_alloc ?_ _)); exact BK377.out⟩, ⟨by repeat (first | (with_reducible first | exact HB.out | apply below_alloc | apply pw_below_drewN | apply below_drew1 | refine below_set ?_ GE377.out) | exact HB.out)⟩⟩
                      · rw [if_neg c20] at H
                        exact absurd H (by simp)
                    · rw [if_neg c19] at H
                      have c19b0 : decide (x7_3 < (a0.size : Int)) = false := decide_eq_false c19
                      clear c19
                      (first | rw [c19b0] | (simp only [i64_w, i32_w]; rw [c19b0]) | skip)
                      have H' := Aside0.mk H
                      clear H
                      go_wp2
                      go_meet
                      case rel => exact ⟨_, (x7_3), (by first | rfl | (simp; done) | (simp [*]; done)), H', ⟨by have := HJ4.out; have := HJ10.out; have := HK3.out; first | omega | exact Nat.le_refl _⟩, ⟨by (with_reducible repeat (first | refine blk_drewN ?_ _ | refine blk_drew ?_ | refine blk_alloc ?_ _)); exact BK377.out⟩, ⟨by repeat (first | (with_reducible first | exact HB.out | apply below_alloc | apply pw_below_drewN | apply below_drew1 | refine below_set ?_ GE377.out) | exact HB.out)⟩⟩
              case rest =>
                clear HC18
                try clear c1
                try clear c2
                try clear c2b0
                try clear c2b1
                try clear p2
                try clear q2
                try clear hx2
                try clear p6
                try clear c7
                try clear c7b0
                try clear c8
                try clear c8b0
                try clear c9
                try clear p9
                try clear q9
                try clear hx9
                try clear c10
                try clear c10b0
                try clear c10b1
                try clear c12
                try clear c12b0
                try clear c12b1
                try clear c13
                try clear c13b0
                try clear c13b1
                try clear c14
                try clear c14b0
                try clear c14b1
                try clear c16
                try clear c19
                try clear c19b0
                try clear c20
                try clear c20b0
                try clear p21
                try clear q21
                try clear hx21
                try clear c22
                try clear c22b0
                try clear p23
                try clear q23
                try clear hx23
                try clear c24
                try clear c24b0
                try clear hcz17_0
                try clear hcz17_1
                try clear hcz17_2
                try clear hcz17_3
                try clear hcz4_0
                try clear hcz4_1
                try clear hcz4_2
                try clear hcz4_3
                try clear hfz17_0
                try clear hfz17_1
                try clear hfz17_2
                try clear hfz17_3
                try clear hfz4_0
                try clear hfz4_1
                try clear hfz4_2
                try clear hfz4_3
                try clear p2
                try clear p21
                try clear p23
                try clear p6
                try clear p9
                try clear q21
                try clear q23
                try clear q9
                obtain ⟨kq, x7_17, rfl, HA, HJ17, BK377, HB⟩ := hcut
                cases kq with
                | zero => exact absurd HA.out (by simp [wicketref15_ParseRequest.j4])
                | succ kj17 =>
                  have H := HA.out
                  clear HA
                  simp only [wicketref15_ParseRequest.j4] at H
                  have HC25 := Aside0.mk H
                  clear H
                  go_upto_region 12 with (fail)
                  go_cut [79] (fun v79 wc => ∃ (kq : Nat) (x79_24 : Bool), v79 = .bool x79_24 ∧ Aside0 (wicketref15_ParseRequest.j5 kq a0 x5_4 (wrap64 (x5_4 + 1)) x7_17 x79_24 = some (r1, r2, r3, r4, r5, r6)) ∧ Aside0 (kq ≤ kj17) ∧ Aside0 (wc.heap[gb377]? = some (.cells #[.string (⟨#[]⟩ : ByteArray), .string (⟨#[]⟩ : ByteArray), (.slice none 0 0), .string (⟨#[]⟩ : ByteArray)] 30 (0, 0))) ∧ Aside0 (Below w.heap.size w wc))
                  case first =>
                    have H := HC25.out
                    clear HC25
                    by_cases c26 : x7_17 = (a0.size : Int)
                    · rw [if_pos c26] at H
                      have c26b0 : (x7_17 == (a0.size : Int)) = true := beq_iff_eq.mpr c26
                      have c26b1 : (x7_17 != (a0.size : Int)) = false := bne_eq_false_iff_eq.mpr c26
                      clear c26
                      (first | rw [c26b0] | (simp only [i64_w, i32_w]; rw [c26b0]) | skip)
                      have H' := Aside0.mk H
                      clear H
                      go_wp2
                      go_meet
                      case rel => exact ⟨_, (true), (by first | rfl | (simp; done) | (simp [*]; done)), H', ⟨by have := HJ4.out; have := HJ10.out; have := HJ17.out; first | omega | exact Nat.le_refl _⟩, ⟨by (with_reducible repeat (first | refine blk_drewN ?_ _ | refine blk_drew ?_ | refine blk_alloc ?_ _)); exact BK377.out⟩, ⟨by repeat (first | (with_reducible first | exact HB.out | apply below_alloc | apply pw_below_drewN | apply below_drew1 | refine below_set ?_ GE377.out) | exact HB.out)⟩⟩
                    · rw [if_neg c26] at H
                      have c26b0 : (x7_17 == (a0.size : Int)) = false := beq_eq_false_iff_ne.mpr c26
                      have c26b1 : (x7_17 != (a0.size : Int)) = true := bne_iff_ne.mpr c26
                      (first | rw [c26b0] | (simp only [i64_w, i32_w]; rw [c26b0]) | skip)
                      by_cases c27 : 0 ≤ x7_17
                      · rw [if_pos c27] at H
                        have c27b0 : decide (0 ≤ x7_17) = true := decide_eq_true c27
                        clear c27
                        by_cases c28 : x7_17 < (a0.size : Int)
                        · rw [if_pos c28] at H
                          have c28b0 : decide (x7_17 < (a0.size : Int)) = true := decide_eq_true c28
                          clear c28
                          by_cases c30 : (bt a0 x7_17) = 32
                          · rw [if_pos c30] at H
                            have c30b0 : ((bt a0 x7_17) == 32) = true := beq_iff_eq.mpr c30
                            have c30b1 : ((bt a0 x7_17) != 32) = false := bne_eq_false_iff_eq.mpr c30
                            clear c30
                            obtain ⟨ji31, hji31⟩ : ∃ j_ : Int, (wrap64 (x5_4 + 1)) = j_ := ⟨_, rfl⟩
                            replace H : (if 0 ≤ (ji31) then (if (ji31) ≤ x7_17 then (if x7_17 ≤ (a0.size : Int) then ((wicketref15_target.f kj17 (a0.extract ((ji31) : Int).toNat (x7_17 : Int).toNat)).bind fun t379 => (wicketref15_ParseRequest.j5 kj17 a0 x5_4 (ji31) x7_17 (!t379))) else (none)) else (none)) else (none)) = some (r1, r2, r3, r4, r5, r6) := by first | (rw [hji31] at H; exact H) | (simp only [hji31] at H ⊢; exact H)
                            have hji31w : (IntKind.i64.wrap (x5_4 + 1)) = ji31 := (i64_w _).trans hji31
                            by_cases c32 : 0 ≤ (ji31)
                            · rw [if_pos c32] at H
                              have c32b0 := eq_true c32
                              have c32b1 : decide (0 ≤ (ji31)) = true := decide_eq_true c32
                              clear c32
                              by_cases c33 : (ji31) ≤ x7_17
                              · rw [if_pos c33] at H
                                have c33b0 := eq_true c33
                                have c33b1 : decide ((ji31) ≤ x7_17) = true := decide_eq_true c33
                                clear c33
                                by_cases c34 : x7_17 ≤ (a0.size : Int)
                                · rw [if_pos c34] at H
                                  have c34b0 := eq_true c34
                                  have c34b1 : decide (x7_17 ≤ (a0.size : Int)) = true := decide_eq_true c34
                                  clear c34
                                  replace H := Option.bind_eq_some_iff.mp H
                                  obtain ⟨t379, A350, H⟩ := H
                                  replace H : (wicketref15_ParseRequest.j5 kj17 a0 x5_4 (ji31) x7_17 (!t379)) = some (r1, r2, r3, r4, r5, r6) := H
                                  have A35 := Aside0.mk A350
                                  clear A350
                                  have H' := Aside0.mk H
                                  clear H
                                  have p29 : 0 ≤ (x7_17 : Int) := of_decide_eq_true (by first | (with_reducible assumption) | assumption)
                                  have q29 : x7_17 < (a0.size : Int) := of_decide_eq_true (by first | (with_reducible assumption) | assumption)
                                  have hx29 := bt_at a0 x7_17
                                  replace p29 := eq_true p29
                                  replace q29 := eq_true q29
                                  go_wp2_with (first | (go_at_call 41; (with_reducible refine (wicketref15_target.calls kj17 (a0.extract ((ji31) : Int).toNat (x7_17 : Int).toNat) t379 _ A35.out).mono ?_); rintro e w' ⟨rfl, ⟨nd, rfl⟩⟩))
                                  try subst hji31
                                  go_meet
                                  case rel => exact ⟨_, (!t379), (by first | rfl | (simp; done) | (simp [*]; done)), H', ⟨by have := HJ4.out; have := HJ10.out; have := HJ17.out; first | omega | exact Nat.le_refl _⟩, ⟨by (with_reducible repeat (first | refine blk_drewN ?_ _ | refine blk_drew ?_ | refine blk_alloc ?_ _)); exact BK377.out⟩, ⟨by repeat (first | (with_reducible first | exact HB.out | apply below_alloc | apply pw_below_drewN | apply below_drew1 | refine below_set ?_ GE377.out) | exact HB.out)⟩⟩
                                · rw [if_neg c34] at H
                                  exact absurd H (by simp)
                              · rw [if_neg c33] at H
                                exact absurd H (by simp)
                            · rw [if_neg c32] at H
                              exact absurd H (by simp)
                          · rw [if_neg c30] at H
                            have c30b0 : ((bt a0 x7_17) == 32) = false := beq_eq_false_iff_ne.mpr c30
                            have c30b1 : ((bt a0 x7_17) != 32) = true := bne_iff_ne.mpr c30
                            have H' := Aside0.mk H
                            clear H
                            have p29 : 0 ≤ (x7_17 : Int) := of_decide_eq_true (by first | (with_reducible assumption) | assumption)
                            have q29 : x7_17 < (a0.size : Int) := of_decide_eq_true (by first | (with_reducible assumption) | assumption)
                            have hx29 := bt_at a0 x7_17
                            replace p29 := eq_true p29
                            replace q29 := eq_true q29
                            go_wp2
                            go_meet
                            case rel => exact ⟨_, (true), (by first | rfl | (simp; done) | (simp [*]; done)), H', ⟨by have := HJ4.out; have := HJ10.out; have := HJ17.out; first | omega | exact Nat.le_refl _⟩, ⟨by (with_reducible repeat (first | refine blk_drewN ?_ _ | refine blk_drew ?_ | refine blk_alloc ?_ _)); exact BK377.out⟩, ⟨by repeat (first | (with_reducible first | exact HB.out | apply below_alloc | apply pw_below_drewN | apply below_drew1 | refine below_set ?_ GE377.out) | exact HB.out)⟩⟩
                        · rw [if_neg c28] at H
                          exact absurd H (by simp)
                      · rw [if_neg c27] at H
                        exact absurd H (by simp)
                  case rest =>
                    clear HC25
                    try clear c1
                    try clear c2
                    try clear c2b0
                    try clear c2b1
                    try clear p2
                    try clear q2
                    try clear hx2
                    try clear c3
                    try clear p6
                    try clear c7
                    try clear c7b0
                    try clear c8
                    try clear c8b0
                    try clear c9
                    try clear p9
                    try clear q9
                    try clear hx9
                    try clear c10
                    try clear c10b0
                    try clear c10b1
                    try clear c12
                    try clear c12b0
                    try clear c12b1
                    try clear c13
                    try clear c13b0
                    try clear c13b1
                    try clear c14
                    try clear c14b0
                    try clear c14b1
                    try clear c16
                    try clear c19
                    try clear c19b0
                    try clear c20
                    try clear c20b0
                    try clear p21
                    try clear q21
                    try clear hx21
                    try clear c22
                    try clear c22b0
                    try clear p23
                    try clear q23
                    try clear hx23
                    try clear c24
                    try clear c24b0
                    try clear c26
                    try clear c26b0
                    try clear c26b1
                    try clear c27
                    try clear c27b0
                    try clear c28
                    try clear c28b0
                    try clear p29
                    try clear q29
                    try clear hx29
                    try clear c30
                    try clear c30b0
                    try clear c30b1
                    try clear c32
                    try clear c32b0
                    try clear c32b1
                    try clear c33
                    try clear c33b0
                    try clear c33b1
                    try clear c34
                    try clear c34b0
                    try clear c34b1
                    try clear hcz17_0
                    try clear hcz17_1
                    try clear hcz17_2
                    try clear hcz17_3
                    try clear hcz4_0
                    try clear hcz4_1
                    try clear hcz4_2
                    try clear hcz4_3
                    try clear hfz17_0
                    try clear hfz17_1
                    try clear hfz17_2
                    try clear hfz17_3
                    try clear hfz4_0
                    try clear hfz4_1
                    try clear hfz4_2
                    try clear hfz4_3
                    try clear p2
                    try clear p21
                    try clear p23
                    try clear p29
                    try clear p6
                    try clear p9
                    try clear q2
                    try clear q21
                    try clear q23
                    try clear q29
                    try clear q9
                    obtain ⟨kq, x79_24, rfl, HA, HJ24, BK377, HB⟩ := hcut
                    cases kq with
                    | zero => exact absurd HA.out (by simp [wicketref15_ParseRequest.j5])
                    | succ kj24 =>
                      have H := HA.out
                      clear HA
                      simp only [wicketref15_ParseRequest.j5] at H
                      by_cases c36 : x79_24 = true
                      · subst c36
                        have H1 : (some ((⟨#[]⟩ : ByteArray), (⟨#[]⟩ : ByteArray), ([] : List (S84)), (⟨#[]⟩ : ByteArray), 151, (wrap64 (x5_4 + 1)))) = some (r1, r2, r3, r4, r5, r6) := by rw [if_pos rfl] at H; exact H
                        clear H
                        have H := H1
                        clear H1
                        simp only [Option.some.injEq, Prod.mk.injEq] at H
                        obtain ⟨rfl, rfl, rfl, rfl, rfl, rfl⟩ := H
                        have hcz37_0 : wc.cell? ⟨gb377, 0, none⟩ = some (.string (⟨#[]⟩ : ByteArray)) := (blk_cell BK377.out 0).trans rfl
                        have hcz37_1 : wc.cell? ⟨gb377, 1, none⟩ = some (.string (⟨#[]⟩ : ByteArray)) := (blk_cell BK377.out 1).trans rfl
                        have hcz37_2 : wc.cell? ⟨gb377, 2, none⟩ = some (.slice none 0 0) := (blk_cell BK377.out 2).trans rfl
                        have hcz37_3 : wc.cell? ⟨gb377, 3, none⟩ = some (.string (⟨#[]⟩ : ByteArray)) := (blk_cell BK377.out 3).trans rfl
                        have hfz37_0 := blk_frozen BK377.out 0
                        have hfz37_1 := blk_frozen BK377.out 1
                        have hfz37_2 := blk_frozen BK377.out 2
                        have hfz37_3 := blk_frozen BK377.out 3
                        go_wp2
                        refine bodyPost_ret (results_ctt rfl _ _ gb377 30 #[.string (⟨#[]⟩ : ByteArray), .string (⟨#[]⟩ : ByteArray), .slice none 0 0, .string (⟨#[]⟩ : ByteArray)] (0, 0) _ rfl (by (with_reducible repeat (first | refine blk_drewN ?_ _ | refine blk_drew ?_ | refine blk_alloc ?_ _)); refine blk_put (cs := #[.string (⟨#[]⟩ : ByteArray), .string (⟨#[]⟩ : ByteArray), .slice none 0 0, .string (⟨#[]⟩ : ByteArray)]) ?_ 3 _ rfl; (with_reducible repeat (first | refine blk_drewN ?_ _ | refine blk_drew ?_ | refine blk_alloc ?_ _)); refine blk_put (cs := #[.string (⟨#[]⟩ : ByteArray), .string (⟨#[]⟩ : ByteArray), .slice none 0 0, .string (⟨#[]⟩ : ByteArray)]) ?_ 2 _ rfl; (with_reducible repeat (first | refine blk_drewN ?_ _ | refine blk_drew ?_ | refine blk_alloc ?_ _)); refine blk_put (cs := #[.string (⟨#[]⟩ : ByteArray), .string (⟨#[]⟩ : ByteArray), .slice none 0 0, .string (⟨#[]⟩ : ByteArray)]) ?_ 1 _ rfl; (with_reducible repeat (first | refine blk_drewN ?_ _ | refine blk_drew ?_ | refine blk_alloc ?_ _)); refine blk_put (cs := #[.string (⟨#[]⟩ : ByteArray), .string (⟨#[]⟩ : ByteArray), .slice none 0 0, .string (⟨#[]⟩ : ByteArray)]) ?_ 0 _ rfl; (with_reducible repeat (first | refine blk_drewN ?_ _ | refine blk_drew ?_ | refine blk_alloc ?_ _)); exact BK377.out) Tryz.underlying30 rfl (by kernel_rfl)) rfl ?_
                        exact ⟨_, by first | rfl | (simp [errW_none, errW_some] <;> rfl) | (simp [*, errW_none, errW_some] <;> rfl), by first | exact Kd.R_nil _ _ _ _ _ | exact Kd.N_nil _ _ _ _ _ | exact Kd.V_nil _ _ _ _ _ | exact Kd.Q_nil _ _ _ _ _ | exact Kd.S_nil _ _ _ _ _, by repeat (first | (with_reducible first | exact HB.out | apply below_alloc | apply pw_below_drewN | apply below_drew1 | refine below_set ?_ GE377.out) | exact HB.out)⟩
                      · replace c36 := Bool.eq_false_iff.mpr c36
                        subst c36
                        have H1 : ((wicketref15_stands.f a0 (wrap64 (x7_17 + 1)) (⟨#[72, 84, 84, 80, 47, 49, 46, 49, 13, 10]⟩ : ByteArray)).bind fun t380 => (if t380 = true then ((wicketref15_head.f a0 (wrap64 ((wrap64 (x7_17 + 1)) + 10))).bind fun bt381 => (if bt381.2.2.1 = 0 then (if 0 ≤ x5_4 then (if x5_4 ≤ (a0.size : Int) then (if 0 ≤ (wrap64 (x5_4 + 1)) then (if (wrap64 (x5_4 + 1)) ≤ x7_17 then (if x7_17 ≤ (a0.size : Int) then (some (a0.extract 0 (x5_4 : Int).toNat, a0.extract ((wrap64 (x5_4 + 1)) : Int).toNat (x7_17 : Int).toNat, bt381.1, bt381.2.1, 0, 0)) else (none)) else (none)) else (none)) else (none)) else (none)) else (some ((⟨#[]⟩ : ByteArray), (⟨#[]⟩ : ByteArray), ([] : List (S84)), (⟨#[]⟩ : ByteArray), bt381.2.2.1, bt381.2.2.2)))) else (some ((⟨#[]⟩ : ByteArray), (⟨#[]⟩ : ByteArray), ([] : List (S84)), (⟨#[]⟩ : ByteArray), 152, wrap64 (x7_17 + 1))))) = some (r1, r2, r3, r4, r5, r6) := by rw [if_neg (show ¬ (false = true) by decide)] at H; exact H
                        clear H
                        have H := H1
                        clear H1
                        replace H := Option.bind_eq_some_iff.mp H
                        obtain ⟨t380, A380, H⟩ := H
                        replace H : (if t380 = true then ((wicketref15_head.f a0 (wrap64 ((wrap64 (x7_17 + 1)) + 10))).bind fun bt381 => (if bt381.2.2.1 = 0 then (if 0 ≤ x5_4 then (if x5_4 ≤ (a0.size : Int) then (if 0 ≤ (wrap64 (x5_4 + 1)) then (if (wrap64 (x5_4 + 1)) ≤ x7_17 then (if x7_17 ≤ (a0.size : Int) then (some (a0.extract 0 (x5_4 : Int).toNat, a0.extract ((wrap64 (x5_4 + 1)) : Int).toNat (x7_17 : Int).toNat, bt381.1, bt381.2.1, 0, 0)) else (none)) else (none)) else (none)) else (none)) else (none)) else (some ((⟨#[]⟩ : ByteArray), (⟨#[]⟩ : ByteArray), ([] : List (S84)), (⟨#[]⟩ : ByteArray), bt381.2.2.1, bt381.2.2.2)))) else (some ((⟨#[]⟩ : ByteArray), (⟨#[]⟩ : ByteArray), ([] : List (S84)), (⟨#[]⟩ : ByteArray), 152, wrap64 (x7_17 + 1)))) = some (r1, r2, r3, r4, r5, r6) := H
                        have A38 := Aside0.mk A380
                        clear A380
                        by_cases c39 : t380 = true
                        · subst c39
                          have H1 : ((wicketref15_head.f a0 (wrap64 ((wrap64 (x7_17 + 1)) + 10))).bind fun bt381 => (if bt381.2.2.1 = 0 then (if 0 ≤ x5_4 then (if x5_4 ≤ (a0.size : Int) then (if 0 ≤ (wrap64 (x5_4 + 1)) then (if (wrap64 (x5_4 + 1)) ≤ x7_17 then (if x7_17 ≤ (a0.size : Int) then (some (a0.extract 0 (x5_4 : Int).toNat, a0.extract ((wrap64 (x5_4 + 1)) : Int).toNat (x7_17 : Int).toNat, bt381.1, bt381.2.1, 0, 0)) else (none)) else (none)) else (none)) else (none)) else (none)) else (some ((⟨#[]⟩ : ByteArray), (⟨#[]⟩ : ByteArray), ([] : List (S84)), (⟨#[]⟩ : ByteArray), bt381.2.2.1, bt381.2.2.2)))) = some (r1, r2, r3, r4, r5, r6) := by rw [if_pos rfl] at H; exact H
                          clear H
                          have H := H1
                          clear H1
                          replace H := Option.bind_eq_some_iff.mp H
                          obtain ⟨⟨t381, t382, t383, t384⟩, A400, H⟩ := H
                          replace H : (if t383 = 0 then (if 0 ≤ x5_4 then (if x5_4 ≤ (a0.size : Int) then (if 0 ≤ (wrap64 (x5_4 + 1)) then (if (wrap64 (x5_4 + 1)) ≤ x7_17 then (if x7_17 ≤ (a0.size : Int) then (some (a0.extract 0 (x5_4 : Int).toNat, a0.extract ((wrap64 (x5_4 + 1)) : Int).toNat (x7_17 : Int).toNat, t381, t382, 0, 0)) else (none)) else (none)) else (none)) else (none)) else (none)) else (some ((⟨#[]⟩ : ByteArray), (⟨#[]⟩ : ByteArray), ([] : List (S84)), (⟨#[]⟩ : ByteArray), t383, t384))) = some (r1, r2, r3, r4, r5, r6) := H
                          have A40 := Aside0.mk A400
                          clear A400
                          by_cases c41 : t383 = 0
                          · rw [if_pos c41] at H
                            have c41b0 : (t383 == 0) = true := beq_iff_eq.mpr c41
                            have c41b1 : (t383 != 0) = false := bne_eq_false_iff_eq.mpr c41
                            clear c41
                            by_cases c42 : 0 ≤ x5_4
                            · rw [if_pos c42] at H
                              have c42b0 := eq_true c42
                              have c42b1 : decide (0 ≤ x5_4) = true := decide_eq_true c42
                              clear c42
                              by_cases c43 : x5_4 ≤ (a0.size : Int)
                              · rw [if_pos c43] at H
                                have c43b0 := eq_true c43
                                have c43b1 : decide (x5_4 ≤ (a0.size : Int)) = true := decide_eq_true c43
                                clear c43
                                obtain ⟨ji44, hji44⟩ : ∃ j_ : Int, (wrap64 (x5_4 + 1)) = j_ := ⟨_, rfl⟩
                                replace H : (if 0 ≤ (ji44) then (if (ji44) ≤ x7_17 then (if x7_17 ≤ (a0.size : Int) then (some (a0.extract 0 (x5_4 : Int).toNat, a0.extract ((ji44) : Int).toNat (x7_17 : Int).toNat, t381, t382, 0, 0)) else (none)) else (none)) else (none)) = some (r1, r2, r3, r4, r5, r6) := by first | (rw [hji44] at H; exact H) | (simp only [hji44] at H ⊢; exact H)
                                (try rw [hji44] at A38)
                                (try rw [hji44] at A40)
                                have hji44w : (IntKind.i64.wrap (x5_4 + 1)) = ji44 := (i64_w _).trans hji44
                                by_cases c45 : 0 ≤ (ji44)
                                · rw [if_pos c45] at H
                                  have c45b0 := eq_true c45
                                  have c45b1 : decide (0 ≤ (ji44)) = true := decide_eq_true c45
                                  clear c45
                                  by_cases c46 : (ji44) ≤ x7_17
                                  · rw [if_pos c46] at H
                                    have c46b0 := eq_true c46
                                    have c46b1 : decide ((ji44) ≤ x7_17) = true := decide_eq_true c46
                                    clear c46
                                    by_cases c47 : x7_17 ≤ (a0.size : Int)
                                    · rw [if_pos c47] at H
                                      have c47b0 := eq_true c47
                                      have c47b1 : decide (x7_17 ≤ (a0.size : Int)) = true := decide_eq_true c47
                                      clear c47
                                      simp only [Option.some.injEq, Prod.mk.injEq] at H
                                      obtain ⟨rfl, rfl, rfl, rfl, rfl, rfl⟩ := H
                                      try go_wp2_with (first | ((with_reducible refine gate_callee (f := 42) rfl ?_); refine goesL_ (some 86) rfl rfl Tryz.func42 (by kernel_rfl) rfl #[.string a0, .int .i64 (wrap64 (x7_17 + 1)), .string (⟨#[72, 84, 84, 80, 47, 49, 46, 49, 13, 10]⟩ : ByteArray)] rfl (by (try simp only [List.map_toArray, List.map_cons, List.map_nil]); first | done | rfl | (simp only [List.length_drop, List.length_take]; rfl)) ?_; (with_reducible refine (wicketref15_stands.calls a0 (wrap64 (x7_17 + 1)) (⟨#[72, 84, 84, 80, 47, 49, 46, 49, 13, 10]⟩ : ByteArray) true _ A38.out).mono ?_); rintro e w' ⟨rfl, ⟨nd, rfl⟩⟩; refine ⟨_, rfl, ?_⟩; (try (rw [drewN_self wc]; generalize hq_ : World.drewN wc _ = wc; have n0_ : Aside0 (wc.heap[gb377]? = some (.cells #[.string (⟨#[]⟩ : ByteArray), .string (⟨#[]⟩ : ByteArray), .slice none 0 0, .string (⟨#[]⟩ : ByteArray)] 30 (0, 0))) := ⟨by rw [← hq_]; exact (by (with_reducible repeat (first | refine blk_drewN ?_ _ | refine blk_drew ?_ | refine blk_alloc ?_ _)); exact BK377.out)⟩; have n1_ : Aside0 (Below w.heap.size w wc) := ⟨by rw [← hq_]; exact (by repeat (first | (with_reducible first | exact HB.out | apply below_alloc | apply pw_below_drewN | apply below_drew1 | refine below_set ?_ GE377.out) | exact HB.out))⟩; clear BK377 HB hq_; have BK377 := n0_; have HB := n1_; clear n0_ n1_))) | ((with_reducible refine gate_callee (f := 43) rfl ?_); refine goesL_ (some 94) rfl rfl Tryz.func43 (by kernel_rfl) rfl #[.string a0, .int .i64 (wrap64 ((wrap64 (x7_17 + 1)) + 10))] rfl (by (try simp only [List.map_toArray, List.map_cons, List.map_nil]); first | done | rfl | (simp only [List.length_drop, List.length_take]; rfl)) ?_; (with_reducible refine (wicketref15_head.calls a0 (wrap64 ((wrap64 (x7_17 + 1)) + 10)) t381 t382 t383 t384 _ A40.out).mono ?_); rintro e w48 ⟨v385, rfl, ho0, hb⟩; refine ⟨_, rfl, ?_⟩; have n0_ := Aside0.mk (Kd.R_lower ho0 (below_size (by repeat (first | (with_reducible first | exact HB.out | apply below_alloc | apply pw_below_drewN | apply below_drew1 | refine below_set ?_ GE377.out) | exact HB.out)))); have n1_ := Aside0.mk (blk_below (g := gb377) (o := .cells #[.string (⟨#[]⟩ : ByteArray), .string (⟨#[]⟩ : ByteArray), .slice none 0 0, .string (⟨#[]⟩ : ByteArray)] 30 (0, 0)) (by (with_reducible repeat (first | refine blk_drewN ?_ _ | refine blk_drew ?_ | refine blk_alloc ?_ _)); exact BK377.out) hb); have n2_ := Aside0.mk (below_step (by repeat (first | (with_reducible first | exact HB.out | apply below_alloc | apply pw_below_drewN | apply below_drew1 | refine below_set ?_ GE377.out) | exact HB.out)) hb); clear BK377; clear HB; have HO386 := n0_; have BK377 := n1_; have HB := n2_; clear n0_ n1_ n2_; (try clear hb); (try clear hb2); (try clear hk); (try clear hi); (try clear ho0)))
                                      have n0_ := Aside0.mk (Kd.R_drew HO386.out)
                                      have n1_ := Aside0.mk (blk_drew BK377.out)
                                      have n2_ := Aside0.mk (below_drew1 HB.out)
                                      clear HO386
                                      clear BK377
                                      clear HB
                                      have HO386 := n0_
                                      have BK377 := n1_
                                      have HB := n2_
                                      clear n0_ n1_ n2_
                                      obtain ⟨Ao50, co50, eo50⟩ := Kd.R_slice HO386.out
                                      (first | subst eo50 | (injection eo50 with f1_ f2_ f3_; have f4_ := f1_.symm; have f5_ := f3_.symm; clear f1_ f2_ f3_; subst f4_; subst f5_))
                                      refine start_ (n := 13) (S := fun w' => True) (ds := []) #[false, false, false, false, false, false, false, false, false, false, false, false, false] (by kernel_rfl) rfl rfl trivial (fun hHeld => ?_); refine with_tabW wicketref15_ParseRequest.tab20 wicketref15_ParseRequest.bits20 (fun HT_ HW_ => ?_)
                                      generalize w48.drew = w49 at HO386 BK377 HB hHeld ⊢
                                      refine pure_ (i := 0) (N := some 104) (v := ?_) (a' := ?_) #[true, false, false, false, false, false, false, false, false, false, false, false, false] rfl rfl (any_of HT_.out (by kernel_rfl)) (fun _ _ _ h => h) (Or.inl ⟨by rfl, ?_⟩) ?_ ?_
                                      rotate_left
                                      · intro w'
                                        go_simp
                                        with_reducible rfl
                                      rotate_left
                                      · simp only [Act.put, List.setIfInBounds_toArray, List.set_cons_zero, List.set_cons_succ, i64_w, i32_w]
                                        rfl
                                      refine pure_ (i := 1) (N := some 105) (v := ?_) (a' := ?_) #[true, true, false, false, false, false, false, false, false, false, false, false, false] rfl rfl (any_of HT_.out (by kernel_rfl)) (fun _ _ _ h => h) (Or.inl ⟨by rfl, ?_⟩) ?_ ?_
                                      rotate_left
                                      · intro w'
                                        go_simp
                                        with_reducible rfl
                                      rotate_left
                                      · simp only [Act.put, List.setIfInBounds_toArray, List.set_cons_zero, List.set_cons_succ, i64_w, i32_w]
                                        rfl
                                      refine pure_ (i := 2) (N := some 106) (v := ?_) (a' := ?_) #[true, true, true, false, false, false, false, false, false, false, false, false, false] rfl rfl (any_of HT_.out (by kernel_rfl)) (fun _ _ _ h => h) (Or.inl ⟨by rfl, ?_⟩) ?_ ?_
                                      rotate_left
                                      · intro w'
                                        go_simp
                                        with_reducible rfl
                                      rotate_left
                                      · simp only [Act.put, List.setIfInBounds_toArray, List.set_cons_zero, List.set_cons_succ, i64_w, i32_w]
                                        rfl
                                      refine pure_ (i := 3) (N := some 107) (v := ?_) (a' := ?_) #[true, true, true, true, false, false, false, false, false, false, false, false, false] rfl rfl (any_of HT_.out (by kernel_rfl)) (fun _ _ _ h => h) (Or.inl ⟨by rfl, ?_⟩) ?_ ?_
                                      rotate_left
                                      · intro w'
                                        go_simp
                                        with_reducible rfl
                                      rotate_left
                                      · simp only [Act.put, List.setIfInBounds_toArray, List.set_cons_zero, List.set_cons_succ, i64_w, i32_w]
                                        rfl
                                      refine pure_ (i := 4) (N := some 108) (v := ?_) (a' := ?_) #[true, true, true, true, true, false, false, false, false, false, false, false, false] rfl rfl (any_of HT_.out (by kernel_rfl)) (fun _ _ _ h => h) (Or.inl ⟨by rfl, ?_⟩) ?_ ?_
                                      rotate_left
                                      · intro w'
                                        go_simp
                                        with_reducible rfl
                                      rotate_left
                                      · simp only [Act.put, List.setIfInBounds_toArray, List.set_cons_zero, List.set_cons_succ, i64_w, i32_w]
                                        rfl
                                      refine pure_ (i := 5) (N := some 109) (v := ?_) (a' := ?_) #[true, true, true, true, true, true, false, false, false, false, false, false, false] rfl rfl (any_of HT_.out (by kernel_rfl)) (fun _ _ _ h => h) (Or.inl ⟨by rfl, ?_⟩) ?_ ?_
                                      rotate_left
                                      · intro w'
                                        go_simp
                                        with_reducible rfl
                                      rotate_left
                                      · simp only [Act.put, List.setIfInBounds_toArray, List.set_cons_zero, List.set_cons_succ, i64_w, i32_w]
                                        rfl
                                      refine pure_ (i := 6) (N := some 110) (v := ?_) (a' := ?_) #[true, true, true, true, true, true, true, false, false, false, false, false, false] rfl rfl (any_of HT_.out (by kernel_rfl)) (fun _ _ _ h => h) (Or.inl ⟨by rfl, ?_⟩) ?_ ?_
                                      rotate_left
                                      · intro w'
                                        go_simp
                                        with_reducible rfl
                                      rotate_left
                                      · simp only [Act.put, List.setIfInBounds_toArray, List.set_cons_zero, List.set_cons_succ, i64_w, i32_w]
                                        rfl
                                      refine pure_ (i := 7) (N := some 111) (v := ?_) (a' := ?_) #[true, true, true, true, true, true, true, true, false, false, false, false, false] rfl rfl (any_of HT_.out (by kernel_rfl)) (fun _ _ _ h => h) (Or.inl ⟨by rfl, ?_⟩) ?_ ?_
                                      rotate_left
                                      · intro w'
                                        go_simp
                                        with_reducible rfl
                                      rotate_left
                                      · simp only [Act.put, List.setIfInBounds_toArray, List.set_cons_zero, List.set_cons_succ, i64_w, i32_w]
                                        rfl
                                      refine pure_ (i := 8) (N := some 112) (v := ?_) (a' := ?_) #[true, true, true, true, true, true, true, true, true, false, false, false, false] rfl rfl (any_of HT_.out (by kernel_rfl)) (fun _ _ _ h => h) (Or.inl ⟨by rfl, ?_⟩) ?_ ?_
                                      rotate_left
                                      · intro w'
                                        go_simp
                                        with_reducible rfl
                                      rotate_left
                                      · simp only [Act.put, List.setIfInBounds_toArray, List.set_cons_zero, List.set_cons_succ, i64_w, i32_w]
                                        rfl
                                      refine pure_ (i := 9) (N := some 113) (v := ?_) (a' := ?_) #[true, true, true, true, true, true, true, true, true, true, false, false, false] rfl rfl (any_of HT_.out (by kernel_rfl)) (fun _ _ _ h => h) (Or.inl ⟨by rfl, ?_⟩) ?_ ?_
                                      rotate_left
                                      · intro w'
                                        go_simp
                                        with_reducible rfl
                                      rotate_left
                                      · simp only [Act.put, List.setIfInBounds_toArray, List.set_cons_zero, List.set_cons_succ, i64_w, i32_w]
                                        rfl
                                      refine one_ (i := 10) (N := none) #[true, true, true, true, true, true, true, true, true, true, true, false, false] rfl rfl (one_of HT_.out (by kernel_rfl)) (by decide) (fun K hK => ?_)
                                      have hs51 : w49.cell? ⟨gb377, 0, none⟩ = some (.string (⟨#[]⟩ : ByteArray)) := (blk_cell BK377.out 0).trans rfl
                                      have hfs51 := blk_frozen BK377.out 0
                                      have hs52 : w49.cell? ⟨gb377, 1, none⟩ = some (.string (⟨#[]⟩ : ByteArray)) := (blk_cell BK377.out 1).trans rfl
                                      have hfs52 := blk_frozen BK377.out 1
                                      have hs53 : w49.cell? ⟨gb377, 2, none⟩ = some (.slice none 0 0) := (blk_cell BK377.out 2).trans rfl
                                      have hfs53 := blk_frozen BK377.out 2
                                      have hs54 : w49.cell? ⟨gb377, 3, none⟩ = some (.string (⟨#[]⟩ : ByteArray)) := (blk_cell BK377.out 3).trans rfl
                                      have hfs54 := blk_frozen BK377.out 3
                                      refine skip_ (w1 := ?_) (by rfl) rfl ?_ ?_
                                      rotate_left
                                      · go_simp
                                        rfl
                                      refine hK.out _ _ trivial (fun hHeld => ?_)
                                      clear hK K
                                      refine pure_ (i := 11) (N := some 3) (v := ?_) (a' := ?_) #[true, true, true, true, true, true, true, true, true, true, true, true, false] rfl rfl (any_of HT_.out (by kernel_rfl)) (fun _ _ _ h => h) (Or.inl ⟨by rfl, ?_⟩) ?_ ?_
                                      rotate_left
                                      · intro w'
                                        go_simp
                                        with_reducible rfl
                                      rotate_left
                                      · simp only [Act.put, List.setIfInBounds_toArray, List.set_cons_zero, List.set_cons_succ, i64_w, i32_w]
                                        rfl
                                      refine pure_ (i := 12) (N := some 4) (v := ?_) (a' := ?_) #[true, true, true, true, true, true, true, true, true, true, true, true, true] rfl rfl (any_of HT_.out (by kernel_rfl)) (fun _ _ _ h => h) (Or.inl ⟨by rfl, ?_⟩) ?_ ?_
                                      rotate_left
                                      · intro w'
                                        go_simp
                                        with_reducible rfl
                                      rotate_left
                                      · simp only [Act.put, List.setIfInBounds_toArray, List.set_cons_zero, List.set_cons_succ, i64_w, i32_w]
                                        rfl
                                      refine done_ (done_of HT_.out (by kernel_rfl)) ?_
                                      try go_wp2
                                      refine bodyPost_ret (results_ctt rfl _ _ gb377 30 #[.string (a0.extract 0 (x5_4 : Int).toNat), .string (a0.extract ((ji44) : Int).toNat (x7_17 : Int).toNat), .slice Ao50 t381.length co50, .string t382] (0, 0) _ rfl (by (with_reducible repeat (first | refine blk_drewN ?_ _ | refine blk_drew ?_ | refine blk_alloc ?_ _)); refine blk_put (cs := #[.string (a0.extract 0 (x5_4 : Int).toNat), .string (a0.extract ((ji44) : Int).toNat (x7_17 : Int).toNat), .slice Ao50 t381.length co50, .string (⟨#[]⟩ : ByteArray)]) ?_ 3 _ rfl; (with_reducible repeat (first | refine blk_drewN ?_ _ | refine blk_drew ?_ | refine blk_alloc ?_ _)); refine blk_put (cs := #[.string (a0.extract 0 (x5_4 : Int).toNat), .string (a0.extract ((ji44) : Int).toNat (x7_17 : Int).toNat), .slice none 0 0, .string (⟨#[]⟩ : ByteArray)]) ?_ 2 _ rfl; (with_reducible repeat (first | refine blk_drewN ?_ _ | refine blk_drew ?_ | refine blk_alloc ?_ _)); refine blk_put (cs := #[.string (a0.extract 0 (x5_4 : Int).toNat), .string (⟨#[]⟩ : ByteArray), .slice none 0 0, .string (⟨#[]⟩ : ByteArray)]) ?_ 1 _ rfl; (with_reducible repeat (first | refine blk_drewN ?_ _ | refine blk_drew ?_ | refine blk_alloc ?_ _)); refine blk_put (cs := #[.string (⟨#[]⟩ : ByteArray), .string (⟨#[]⟩ : ByteArray), .slice none 0 0, .string (⟨#[]⟩ : ByteArray)]) ?_ 0 _ rfl; (with_reducible repeat (first | refine blk_drewN ?_ _ | refine blk_drew ?_ | refine blk_alloc ?_ _)); exact BK377.out) Tryz.underlying30 rfl (by kernel_rfl)) rfl ?_
                                      exact ⟨_, by first | rfl | (simp [errW_none, errW_some] <;> rfl) | (simp only [← hji44]; first | rfl | (simp [errW_none, errW_some] <;> rfl)) | (simp [*, errW_none, errW_some] <;> rfl), by (with_reducible repeat (first | apply Kd.R_alloc | apply Kd.R_drewN | apply Kd.R_drew)); exact Kd.R_mono (Kd.R_far (p := ⟨gb377, 3, none⟩) (Kd.R_far (p := ⟨gb377, 2, none⟩) (Kd.R_far (p := ⟨gb377, 1, none⟩) (Kd.R_far (p := ⟨gb377, 0, none⟩) (Kd.R_types HO386.out BK377.out (by decide)) (fun _ hk => hk.2) (.string (a0.extract 0 (x5_4 : Int).toNat))) (fun _ hk => hk.2) (.string (a0.extract ((ji44) : Int).toNat (x7_17 : Int).toNat))) (fun _ hk => hk.2) (.slice Ao50 t381.length co50)) (fun _ hk => hk.2) (.string t382)) (fun _ hk => trivial), by repeat (first | (with_reducible first | exact HB.out | apply below_alloc | apply pw_below_drewN | apply below_drew1 | refine below_set ?_ GE377.out) | exact HB.out)⟩
                                    · rw [if_neg c47] at H
                                      exact absurd H (by simp)
                                  · rw [if_neg c46] at H
                                    exact absurd H (by simp)
                                · rw [if_neg c45] at H
                                  exact absurd H (by simp)
                              · rw [if_neg c43] at H
                                exact absurd H (by simp)
                            · rw [if_neg c42] at H
                              exact absurd H (by simp)
                          · rw [if_neg c41] at H
                            have c41b0 : (t383 == 0) = false := beq_eq_false_iff_ne.mpr c41
                            have c41b1 : (t383 != 0) = true := bne_iff_ne.mpr c41
                            simp only [Option.some.injEq, Prod.mk.injEq] at H
                            obtain ⟨rfl, rfl, rfl, rfl, rfl, rfl⟩ := H
                            go_wp2_with (first | ((with_reducible refine gate_callee (f := 42) rfl ?_); refine goesL_ (some 86) rfl rfl Tryz.func42 (by kernel_rfl) rfl #[.string a0, .int .i64 (wrap64 (x7_17 + 1)), .string (⟨#[72, 84, 84, 80, 47, 49, 46, 49, 13, 10]⟩ : ByteArray)] rfl (by (try simp only [List.map_toArray, List.map_cons, List.map_nil]); first | done | rfl | (simp only [List.length_drop, List.length_take]; rfl)) ?_; (with_reducible refine (wicketref15_stands.calls a0 (wrap64 (x7_17 + 1)) (⟨#[72, 84, 84, 80, 47, 49, 46, 49, 13, 10]⟩ : ByteArray) true _ A38.out).mono ?_); rintro e w' ⟨rfl, ⟨nd, rfl⟩⟩; refine ⟨_, rfl, ?_⟩; (try (rw [drewN_self wc]; generalize hq_ : World.drewN wc _ = wc; have n0_ : Aside0 (wc.heap[gb377]? = some (.cells #[.string (⟨#[]⟩ : ByteArray), .string (⟨#[]⟩ : ByteArray), .slice none 0 0, .string (⟨#[]⟩ : ByteArray)] 30 (0, 0))) := ⟨by rw [← hq_]; exact (by (with_reducible repeat (first | refine blk_drewN ?_ _ | refine blk_drew ?_ | refine blk_alloc ?_ _)); exact BK377.out)⟩; have n1_ : Aside0 (Below w.heap.size w wc) := ⟨by rw [← hq_]; exact (by repeat (first | (with_reducible first | exact HB.out | apply below_alloc | apply pw_below_drewN | apply below_drew1 | refine below_set ?_ GE377.out) | exact HB.out))⟩; clear BK377 HB hq_; have BK377 := n0_; have HB := n1_; clear n0_ n1_))) | ((with_reducible refine gate_callee (f := 43) rfl ?_); refine goesL_ (some 94) rfl rfl Tryz.func43 (by kernel_rfl) rfl #[.string a0, .int .i64 (wrap64 ((wrap64 (x7_17 + 1)) + 10))] rfl (by (try simp only [List.map_toArray, List.map_cons, List.map_nil]); first | done | rfl | (simp only [List.length_drop, List.length_take]; rfl)) ?_; (with_reducible refine (wicketref15_head.calls a0 (wrap64 ((wrap64 (x7_17 + 1)) + 10)) t381 t382 t383 t384 _ A40.out).mono ?_); rintro e w55 ⟨v385, rfl, ho0, hb⟩; refine ⟨_, rfl, ?_⟩; have n0_ := Aside0.mk (Kd.R_lower ho0 (below_size (by repeat (first | (with_reducible first | exact HB.out | apply below_alloc | apply pw_below_drewN | apply below_drew1 | refine below_set ?_ GE377.out) | exact HB.out)))); have n1_ := Aside0.mk (blk_below (g := gb377) (o := .cells #[.string (⟨#[]⟩ : ByteArray), .string (⟨#[]⟩ : ByteArray), .slice none 0 0, .string (⟨#[]⟩ : ByteArray)] 30 (0, 0)) (by (with_reducible repeat (first | refine blk_drewN ?_ _ | refine blk_drew ?_ | refine blk_alloc ?_ _)); exact BK377.out) hb); have n2_ := Aside0.mk (below_step (by repeat (first | (with_reducible first | exact HB.out | apply below_alloc | apply pw_below_drewN | apply below_drew1 | refine below_set ?_ GE377.out) | exact HB.out)) hb); clear BK377; clear HB; have HO386 := n0_; have BK377 := n1_; have HB := n2_; clear n0_ n1_ n2_; (try clear hb); (try clear hb2); (try clear hk); (try clear hi); (try clear ho0); have hcz56_0 : w55.cell? ⟨gb377, 0, none⟩ = some (.string (⟨#[]⟩ : ByteArray)) := (blk_cell BK377.out 0).trans rfl; have hcz56_1 : w55.cell? ⟨gb377, 1, none⟩ = some (.string (⟨#[]⟩ : ByteArray)) := (blk_cell BK377.out 1).trans rfl; have hcz56_2 : w55.cell? ⟨gb377, 2, none⟩ = some (.slice none 0 0) := (blk_cell BK377.out 2).trans rfl; have hcz56_3 : w55.cell? ⟨gb377, 3, none⟩ = some (.string (⟨#[]⟩ : ByteArray)) := (blk_cell BK377.out 3).trans rfl; have hfz56_0 := blk_frozen BK377.out 0; have hfz56_1 := blk_frozen BK377.out 1; have hfz56_2 := blk_frozen BK377.out 2; have hfz56_3 := blk_frozen BK377.out 3))
                            refine bodyPost_ret (results_ctt rfl _ _ gb377 30 #[.string (⟨#[]⟩ : ByteArray), .string (⟨#[]⟩ : ByteArray), .slice none 0 0, .string (⟨#[]⟩ : ByteArray)] (0, 0) _ rfl (by (with_reducible repeat (first | refine blk_drewN ?_ _ | refine blk_drew ?_ | refine blk_alloc ?_ _)); refine blk_put (cs := #[.string (⟨#[]⟩ : ByteArray), .string (⟨#[]⟩ : ByteArray), .slice none 0 0, .string (⟨#[]⟩ : ByteArray)]) ?_ 3 _ rfl; (with_reducible repeat (first | refine blk_drewN ?_ _ | refine blk_drew ?_ | refine blk_alloc ?_ _)); refine blk_put (cs := #[.string (⟨#[]⟩ : ByteArray), .string (⟨#[]⟩ : ByteArray), .slice none 0 0, .string (⟨#[]⟩ : ByteArray)]) ?_ 2 _ rfl; (with_reducible repeat (first | refine blk_drewN ?_ _ | refine blk_drew ?_ | refine blk_alloc ?_ _)); refine blk_put (cs := #[.string (⟨#[]⟩ : ByteArray), .string (⟨#[]⟩ : ByteArray), .slice none 0 0, .string (⟨#[]⟩ : ByteArray)]) ?_ 1 _ rfl; (with_reducible repeat (first | refine blk_drewN ?_ _ | refine blk_drew ?_ | refine blk_alloc ?_ _)); refine blk_put (cs := #[.string (⟨#[]⟩ : ByteArray), .string (⟨#[]⟩ : ByteArray), .slice none 0 0, .string (⟨#[]⟩ : ByteArray)]) ?_ 0 _ rfl; (with_reducible repeat (first | refine blk_drewN ?_ _ | refine blk_drew ?_ | refine blk_alloc ?_ _)); exact BK377.out) Tryz.underlying30 rfl (by kernel_rfl)) rfl ?_
                            exact ⟨_, by first | rfl | (simp [errW_none, errW_some] <;> rfl) | (simp [*, errW_none, errW_some] <;> rfl), by first | exact Kd.R_nil _ _ _ _ _ | exact Kd.N_nil _ _ _ _ _ | exact Kd.V_nil _ _ _ _ _ | exact Kd.Q_nil _ _ _ _ _ | exact Kd.S_nil _ _ _ _ _, by repeat (first | (with_reducible first | exact HB.out | apply below_alloc | apply pw_below_drewN | apply below_drew1 | refine below_set ?_ GE377.out) | exact HB.out)⟩
                        · replace c39 := Bool.eq_false_iff.mpr c39
                          subst c39
                          have H1 : (some ((⟨#[]⟩ : ByteArray), (⟨#[]⟩ : ByteArray), ([] : List (S84)), (⟨#[]⟩ : ByteArray), 152, wrap64 (x7_17 + 1))) = some (r1, r2, r3, r4, r5, r6) := by rw [if_neg (show ¬ (false = true) by decide)] at H; exact H
                          clear H
                          have H := H1
                          clear H1
                          simp only [Option.some.injEq, Prod.mk.injEq] at H
                          obtain ⟨rfl, rfl, rfl, rfl, rfl, rfl⟩ := H
                          go_wp2_with (first | ((with_reducible refine gate_callee (f := 42) rfl ?_); refine goesL_ (some 86) rfl rfl Tryz.func42 (by kernel_rfl) rfl #[.string a0, .int .i64 (wrap64 (x7_17 + 1)), .string (⟨#[72, 84, 84, 80, 47, 49, 46, 49, 13, 10]⟩ : ByteArray)] rfl (by (try simp only [List.map_toArray, List.map_cons, List.map_nil]); first | done | rfl | (simp only [List.length_drop, List.length_take]; rfl)) ?_; (with_reducible refine (wicketref15_stands.calls a0 (wrap64 (x7_17 + 1)) (⟨#[72, 84, 84, 80, 47, 49, 46, 49, 13, 10]⟩ : ByteArray) false _ A38.out).mono ?_); rintro e w' ⟨rfl, ⟨nd, rfl⟩⟩; refine ⟨_, rfl, ?_⟩; (try (rw [drewN_self wc]; generalize hq_ : World.drewN wc _ = wc; have n0_ : Aside0 (wc.heap[gb377]? = some (.cells #[.string (⟨#[]⟩ : ByteArray), .string (⟨#[]⟩ : ByteArray), .slice none 0 0, .string (⟨#[]⟩ : ByteArray)] 30 (0, 0))) := ⟨by rw [← hq_]; exact (by (with_reducible repeat (first | refine blk_drewN ?_ _ | refine blk_drew ?_ | refine blk_alloc ?_ _)); exact BK377.out)⟩; have n1_ : Aside0 (Below w.heap.size w wc) := ⟨by rw [← hq_]; exact (by repeat (first | (with_reducible first | exact HB.out | apply below_alloc | apply pw_below_drewN | apply below_drew1 | refine below_set ?_ GE377.out) | exact HB.out))⟩; clear BK377 HB hq_; have BK377 := n0_; have HB := n1_; clear n0_ n1_)); have hcz57_0 : wc.cell? ⟨gb377, 0, none⟩ = some (.string (⟨#[]⟩ : ByteArray)) := (blk_cell BK377.out 0).trans rfl; have hcz57_1 : wc.cell? ⟨gb377, 1, none⟩ = some (.string (⟨#[]⟩ : ByteArray)) := (blk_cell BK377.out 1).trans rfl; have hcz57_2 : wc.cell? ⟨gb377, 2, none⟩ = some (.slice none 0 0) := (blk_cell BK377.out 2).trans rfl; have hcz57_3 : wc.cell? ⟨gb377, 3, none⟩ = some (.string (⟨#[]⟩ : ByteArray)) := (blk_cell BK377.out 3).trans rfl; have hfz57_0 := blk_frozen BK377.out 0; have hfz57_1 := blk_frozen BK377.out 1; have hfz57_2 := blk_frozen BK377.out 2; have hfz57_3 := blk_frozen BK377.out 3))
                          refine bodyPost_ret (results_ctt rfl _ _ gb377 30 #[.string (⟨#[]⟩ : ByteArray), .string (⟨#[]⟩ : ByteArray), .slice none 0 0, .string (⟨#[]⟩ : ByteArray)] (0, 0) _ rfl (by (with_reducible repeat (first | refine blk_drewN ?_ _ | refine blk_drew ?_ | refine blk_alloc ?_ _)); refine blk_put (cs := #[.string (⟨#[]⟩ : ByteArray), .string (⟨#[]⟩ : ByteArray), .slice none 0 0, .string (⟨#[]⟩ : ByteArray)]) ?_ 3 _ rfl; (with_reducible repeat (first | refine blk_drewN ?_ _ | refine blk_drew ?_ | refine blk_alloc ?_ _)); refine blk_put (cs := #[.string (⟨#[]⟩ : ByteArray), .string (⟨#[]⟩ : ByteArray), .slice none 0 0, .string (⟨#[]⟩ : ByteArray)]) ?_ 2 _ rfl; (with_reducible repeat (first | refine blk_drewN ?_ _ | refine blk_drew ?_ | refine blk_alloc ?_ _)); refine blk_put (cs := #[.string (⟨#[]⟩ : ByteArray), .string (⟨#[]⟩ : ByteArray), .slice none 0 0, .string (⟨#[]⟩ : ByteArray)]) ?_ 1 _ rfl; (with_reducible repeat (first | refine blk_drewN ?_ _ | refine blk_drew ?_ | refine blk_alloc ?_ _)); refine blk_put (cs := #[.string (⟨#[]⟩ : ByteArray), .string (⟨#[]⟩ : ByteArray), .slice none 0 0, .string (⟨#[]⟩ : ByteArray)]) ?_ 0 _ rfl; (with_reducible repeat (first | refine blk_drewN ?_ _ | refine blk_drew ?_ | refine blk_alloc ?_ _)); exact BK377.out) Tryz.underlying30 rfl (by kernel_rfl)) rfl ?_
                          exact ⟨_, by first | rfl | (simp [errW_none, errW_some] <;> rfl) | (simp [*, errW_none, errW_some] <;> rfl), by first | exact Kd.R_nil _ _ _ _ _ | exact Kd.N_nil _ _ _ _ _ | exact Kd.V_nil _ _ _ _ _ | exact Kd.Q_nil _ _ _ _ _ | exact Kd.S_nil _ _ _ _ _, by repeat (first | (with_reducible first | exact HB.out | apply below_alloc | apply pw_below_drewN | apply below_drew1 | refine below_set ?_ GE377.out) | exact HB.out)⟩

end Go.Proofs.YtmfkgjnlobiobaaGreatDoor.X
namespace Go.Proofs.YtmfkgjnlobiobaaGreatDoor.X
open Go.RowKit Go.Shelf Go.Proofs.YtmfkgjnlobiobaaGreatDoorW.PrintWords
def encQ (r : PR) : ByteArray × ByteArray × List S84 × ByteArray × Int × Int := (bs r.1, bs r.2.1, r.2.2.1.map fieldOf, bs r.2.2.2.1, r.2.2.2.2.1, r.2.2.2.2.2)
def pNS (c : UInt8) : Bool := decide (c.toNat ≠ 32)
theorem rreq_l0 (a : ByteArray) (ha : a.size ≤ 140737488351232) (K : Nat) (d : Nat) : ∀ (M i : Nat), M = K + d + 1 → i + d = (a.data.toList.takeWhile pNS).length → wicketref15_ParseRequest.l0 M a (i : Int) = wicketref15_ParseRequest.j1 K a ((a.data.toList.takeWhile pNS).length : Int) := by
  induction d with
  | zero =>
    intro M i hM hi
    subst hM
    have hle := tw_le pNS a.data.toList
    rw [size_data] at hle
    rw [wicketref15_ParseRequest.l0]
    by_cases h : i < a.size
    · obtain ⟨c, hc, hb⟩ := bt_nat a i h
      have hn := tw_out (p := pNS) a.data.toList c (by rw [← hi]; exact hc)
      unfold pNS at hn
      rw [decide_eq_false_iff_not] at hn
      rw [if_pos (by omega), if_pos (by omega), hb, if_pos (by omega)]
      rw [show (i : Int) = ((a.data.toList.takeWhile pNS).length : Int) by omega]
    · rw [if_neg (by omega), show (i : Int) = ((a.data.toList.takeWhile pNS).length : Int) by omega]
  | succ d ih =>
    intro M i hM hi
    subst hM
    have hle := tw_le pNS a.data.toList
    rw [size_data] at hle
    obtain ⟨c, hc, hb⟩ := bt_nat a i (by omega)
    have hn := tw_in (p := pNS) a.data.toList i c (by omega) hc
    unfold pNS at hn
    rw [decide_eq_true_eq] at hn
    show wicketref15_ParseRequest.l0 (K + d + 1 + 1) a (i : Int) = _
    rw [wicketref15_ParseRequest.l0, if_pos (by omega), if_pos (by omega), hb, if_neg (by omega), wr _ (by omega)]
    exact ih (K + d + 1) (i + 1) rfl (by omega)
theorem rreq_l1 (a : ByteArray) (ha : a.size ≤ 140737488351232) (x5 : Int) (p : Nat) (hp : p ≤ a.size) (K : Nat) (d : Nat) : ∀ (M i : Nat), M = K + d + 1 → i + d = ((a.data.toList.drop p).takeWhile pVis).length →
    wicketref15_ParseRequest.l1 M a x5 (p : Int) ((p + i : Nat) : Int) = wicketref15_ParseRequest.j4 K a x5 (p : Int) ((p + ((a.data.toList.drop p).takeWhile pVis).length : Nat) : Int) := by
  have hle := tw_le pVis (a.data.toList.drop p)
  rw [List.length_drop, size_data] at hle
  induction d with
  | zero =>
    intro M i hM hi
    subst hM
    obtain rfl : i = ((a.data.toList.drop p).takeWhile pVis).length := by omega
    show wicketref15_ParseRequest.l1 (K + 1) a x5 (p : Int) _ = _
    rw [wicketref15_ParseRequest.l1]
    by_cases h : p + ((a.data.toList.drop p).takeWhile pVis).length < a.size
    · obtain ⟨c, hc, hb⟩ := bt_nat a _ h
      have hn := tw_out (p := pVis) (a.data.toList.drop p) c (by rw [List.getElem?_drop]; exact hc)
      unfold pVis at hn
      rw [decide_eq_false_iff_not] at hn
      rw [if_pos (by omega), if_pos (by omega), hb]
      split
      · rw [if_neg (by omega)]
      · rfl
    · rw [if_neg (by omega)]
  | succ d ih =>
    intro M i hM hi
    subst hM
    obtain ⟨c, hc, hb⟩ := bt_nat a (p + i) (by omega)
    have hn := tw_in (p := pVis) (a.data.toList.drop p) i c (by omega) (by rw [List.getElem?_drop]; exact hc)
    unfold pVis at hn
    rw [decide_eq_true_eq] at hn
    show wicketref15_ParseRequest.l1 (K + d + 1 + 1) a x5 (p : Int) _ = _
    rw [wicketref15_ParseRequest.l1, if_pos (by omega), if_pos (by omega), hb, if_pos (by omega), if_pos (by omega), wr _ (by omega)]
    exact ih (K + d + 1) (i + 1) rfl (by omega)
theorem rreq_bad (e a : Nat) : (some ((⟨#[]⟩ : ByteArray), (⟨#[]⟩ : ByteArray), ([] : List S84), (⟨#[]⟩ : ByteArray), (e : Int), (a : Int))) = some (encQ (badP e a)) := rfl
theorem rreq_j5 (K : Nat) (a : ByteArray) (ha : a.size ≤ 32768) (j e : Nat) (hj : j + 1 ≤ e) (he : e < a.size) : wicketref15_ParseRequest.j5 (K + 1) a (j : Int) ((j + 1 : Nat) : Int) (e : Int) false =
    some (encQ (if Lib.hasPrefix (a.data.toList.drop (e + 1)) sV2 = true then tailP a.data.toList (a.data.toList.take j) ((a.data.toList.drop (j + 1)).take (e - (j + 1))) (e + 1 + 10) else badP 152 (e + 1))) := by
  rw [wicketref15_ParseRequest.j5, if_neg (by decide), wr _ (by omega), show (e : Int) + 1 = ((e + 1 : Nat) : Int) by omega, rstands_f _ _ _ (by omega) (by omega) (by decide) (by decide)]
  simp only [Option.bind_some]
  rw [show ([72, 84, 84, 80, 47, 49, 46, 49, 13, 10] : List UInt8) = sV2 from rfl]
  by_cases hpre : Lib.hasPrefix (a.data.toList.drop (e + 1)) sV2 = true
  · have hlen : e + 1 + 10 ≤ a.size := by
      unfold Lib.hasPrefix at hpre
      have h := (List.isPrefixOf_iff_prefix.1 hpre).length_le
      rw [List.length_drop, size_data] at h
      have : sV2.length = 10 := rfl
      omega
    rw [if_pos hpre, if_pos hpre, wr _ (by omega), show ((e + 1 : Nat) : Int) + 10 = ((e + 1 + 10 : Nat) : Int) by omega]
    unfold wicketref15_head.f
    rw [if_pos ⟨ha, by omega, by omega⟩, Int.toNat_natCast]
    simp only [Option.bind_some]
    unfold tailP
    generalize parseHeadF a.data.toList (e + 1 + 10) = r
    obtain ⟨fl, n, p, ec, ap⟩ := r
    dsimp only
    by_cases h0 : ec = 0
    · rw [if_pos (by omega), if_pos h0, if_pos h0, if_pos (by omega), if_pos (by omega), if_pos (by omega), if_pos (by omega), if_pos (by omega), extract_bs, extract_bs, Int.toNat_natCast, Int.toNat_natCast, Int.toNat_natCast, List.drop_zero, Nat.sub_zero]
      rfl
    · rw [if_neg (by omega), if_neg h0]
      rfl
  · rw [if_neg hpre, if_neg hpre]
    rfl
theorem rParseRequest_f (K : Nat) (a : ByteArray) (hK : 200000 ≤ K) : wicketref15_ParseRequest.f K a = some (encQ (parseF a.data.toList)) := by
  have hsz := size_data a
  unfold wicketref15_ParseRequest.f parseF
  by_cases hbig : a.size > 32768
  · rw [if_pos (by omega), if_pos (by omega)]
    rfl
  · rw [if_neg (by omega), if_neg (by omega)]
    have hle := tw_le pNS a.data.toList
    rw [hsz] at hle
    obtain ⟨K1, hK1⟩ : ∃ K1, K = K1 + 1 + 1 + (a.data.toList.takeWhile pNS).length + 1 := ⟨K - (a.data.toList.takeWhile pNS).length - 3, by omega⟩
    rw [show (0 : Int) = ((0 : Nat) : Int) from rfl, rreq_l0 a (by omega) (K1 + 1 + 1) _ K 0 hK1 (by omega), wicketref15_ParseRequest.j1]
    have hnc : ∀ c ∈ a.data.toList.takeWhile pNS, c ≠ 32 := by
      intro c hc e
      have := List.all_eq_true.1 List.all_takeWhile c hc
      unfold pNS at this
      rw [decide_eq_true_eq, e] at this
      exact this rfl
    by_cases h : (a.data.toList.takeWhile pNS).length = a.size
    · have hall : a.data.toList.takeWhile pNS = a.data.toList := (List.takeWhile_prefix pNS (l := a.data.toList)).eq_of_length (by omega)
      rw [if_pos (by omega), wicketref15_ParseRequest.j2, if_pos rfl]
      have hc := cut_none 32 a.data.toList (by rw [← hall]; exact hnc)
      rw [hc, Bool.false_and, if_neg (by decide)]
      rfl
    · obtain ⟨n, hn⟩ : ∃ n, n = (a.data.toList.takeWhile pNS).length := ⟨_, rfl⟩
      rw [← hn] at h hle hK1 ⊢
      have htk : a.data.toList.take n = a.data.toList.takeWhile pNS := by
        rw [hn]
        exact (List.prefix_iff_eq_take.1 (List.takeWhile_prefix pNS)).symm
      obtain ⟨c, hc, hb⟩ := bt_nat a n (by omega)
      have hc32 : c = 32 := by
        have hno := tw_out (p := pNS) a.data.toList c (by rw [← hn]; exact hc)
        unfold pNS at hno
        rw [decide_eq_false_iff_not] at hno
        exact UInt8.toNat_inj.1 (by have : (32 : UInt8).toNat = 32 := rfl; omega)
      have hsplit : a.data.toList = a.data.toList.take n ++ 32 :: a.data.toList.drop (n + 1) := by
        obtain ⟨h1, h2⟩ := List.getElem?_eq_some_iff.1 hc
        rw [← hc32, ← h2, ← List.drop_eq_getElem_cons h1, List.take_append_drop]
      have hcut : Lib.cut a.data.toList [32] = (a.data.toList.take n, a.data.toList.drop (n + 1), true) := by
        conv => lhs; rw [hsplit]
        exact cut_byte 32 _ _ (by rw [htk]; exact hnc)
      have he1 : a.extract 0 (n : Int).toNat = bs (a.data.toList.take n) := by rw [extract_bs, Int.toNat_natCast, List.drop_zero, Nat.sub_zero]
      rw [if_neg (by omega), if_pos (by omega), if_pos (by omega), he1, rmethod_f _ _ (by rw [bs_size, List.length_take]; omega) (by rw [bs_size, List.length_take]; omega), data_bs, hcut]
      simp only [Option.bind_some]
      rw [Bool.true_and]
      cases hm : methB (a.data.toList.take n) with
      | false =>
        rw [wicketref15_ParseRequest.j2, if_pos (show (!false) = true from rfl), if_neg (by decide)]
        rfl
      | true =>
        have hml : (a.data.toList.take n).length = n := by rw [List.length_take]; omega
        rw [wicketref15_ParseRequest.j2, if_neg (by decide), if_pos rfl, wr _ (by omega), show (n : Int) + 1 = ((n + 1 : Nat) : Int) by omega]
        have hle2 := tw_le pVis (a.data.toList.drop (n + 1))
        rw [List.length_drop, hsz] at hle2
        obtain ⟨K2, hK2⟩ : ∃ K2, K1 = K2 + 1 + 1 + ((a.data.toList.drop (n + 1)).takeWhile pVis).length + 1 := ⟨K1 - ((a.data.toList.drop (n + 1)).takeWhile pVis).length - 3, by omega⟩
        have hl1 := rreq_l1 a (by omega) (n : Int) (n + 1) (by omega) (K2 + 1 + 1) _ K1 0 hK2 (by omega)
        rw [Nat.add_zero] at hl1
        rw [hl1, wicketref15_ParseRequest.j4]
        unfold targP
        rw [hml, List.length_drop, hsz]
        obtain ⟨q, hq⟩ : ∃ q, q = ((a.data.toList.drop (n + 1)).takeWhile pVis).length := ⟨_, rfl⟩
        rw [← hq] at hle2 ⊢
        by_cases hend : q = a.size - (n + 1)
        · rw [if_pos (by omega), if_pos hend, wicketref15_ParseRequest.j5, if_pos rfl]
          rfl
        · rw [if_neg (by omega), if_neg hend, if_pos (by omega), if_pos (by omega)]
          obtain ⟨d, hd, hbd⟩ := bt_nat a (n + 1 + q) (by omega)
          rw [hbd, List.getElem?_drop, hd]
          by_cases h32 : (d.toNat : Int) = 32
          · have hd32 : d = 32 := UInt8.toNat_inj.1 (by have : (32 : UInt8).toNat = 32 := rfl; omega)
            have he2 : a.extract ((n + 1 : Nat) : Int).toNat ((n + 1 + q : Nat) : Int).toNat = bs ((a.data.toList.drop (n + 1)).take q) := by
              rw [extract_bs, Int.toNat_natCast, Int.toNat_natCast, show n + 1 + q - (n + 1) = q by omega]
            rw [if_pos h32, if_pos (by omega), if_pos (by omega), if_pos (by omega), he2, rtarget_f _ _ (by rw [bs_size, List.length_take, List.length_drop]; omega) (by rw [bs_size, List.length_take, List.length_drop]; omega), data_bs]
            simp only [Option.bind_some]
            cases ht : targB ((a.data.toList.drop (n + 1)).take q) with
            | false =>
              rw [wicketref15_ParseRequest.j5, if_pos (show (!false) = true from rfl), if_neg (fun h => by cases h.2)]
              rfl
            | true =>
              rw [show (!true) = false from rfl, rreq_j5 K2 a (by omega) n (n + 1 + q) (by omega) (by omega), if_pos (show some d = some 32 ∧ true = true from ⟨by rw [hd32], rfl⟩), show n + 1 + q - (n + 1) = q by omega]
          · rw [if_neg h32, wicketref15_ParseRequest.j5, if_pos rfl, if_neg (by
              rintro ⟨h1, _⟩
              simp only [Option.some.injEq] at h1
              rw [h1] at h32
              exact h32 rfl)]
            rfl
end Go.Proofs.YtmfkgjnlobiobaaGreatDoor.X
namespace Go.Proofs.YtmfkgjnlobiobaaGreatDoor.X
open Go.RowKit Go.Shelf Go.Proofs.YtmfkgjnlobiobaaGreatDoorW.PrintWords
def fF (p : S80) : S84 := ⟨p.f0, p.f1⟩
theorem rd_pair (l : List S80) (i : Nat) (h : i < l.length) : rd_T80 l (i : Int) = l[i] := by
  unfold rd_T80
  rw [Int.toNat_natCast]
  simp [h]
theorem rd_field (l : List S80) (i : Nat) (h : i < l.length) : rd_T84 (l.map fF) (i : Int) = fF l[i] := by
  unfold rd_T84
  rw [Int.toNat_natCast]
  simp [h]
theorem ours_l0 (l : List S80) (hl : l.length < 4398046511104) : ∀ (d k i : Nat), i + d = l.length → d < k → wicketlaw15_ours.l0 k l ((l.take i).map fF) (i : Int) = some (l.map fF)
  | _, 0, _, _, hk => absurd hk (Nat.not_lt_zero _)
  | 0, k + 1, i, hi, hk => by
    rw [wicketlaw15_ours.l0, if_neg (by omega), List.take_of_length_le (by omega)]
  | d + 1, k + 1, i, hi, hk => by
    rw [wicketlaw15_ours.l0, if_pos (by omega), if_pos (by omega), if_pos (by rw [List.length_map, List.length_take]; omega), rd_pair l i (by omega), wr _ (by omega)]
    have h := ours_l0 l hl d k (i + 1) (by omega) (by omega)
    rw [List.take_succ_eq_append_getElem (by omega), List.map_append] at h
    exact h
theorem ours_f (k : Nat) (l : List S80) (hl : l.length < 4398046511104) (hk : l.length < k) : wicketlaw15_ours.f k l = some (l.map fF) := ours_l0 l hl l.length k 0 (by omega) hk
theorem fields_l0 (l : List S80) (hl : l.length < 4398046511104) : ∀ (d k i : Nat), i + d = l.length → d < k → wicketlaw15_fields.l0 k l (l.map fF) (i : Int) = some true
  | _, 0, _, _, hk => absurd hk (Nat.not_lt_zero _)
  | 0, k + 1, i, hi, hk => by
    rw [wicketlaw15_fields.l0, if_neg (by omega)]
  | d + 1, k + 1, i, hi, hk => by
    rw [wicketlaw15_fields.l0, if_pos (by omega), if_pos (by omega), if_pos (by rw [List.length_map]; omega), rd_pair l i (by omega), rd_field l i (by omega), if_pos (show (l[i]).f0.toList = (fF l[i]).f0.toList from rfl), if_pos (show (l[i]).f1.toList = (fF l[i]).f1.toList from rfl), wr _ (by omega)]
    exact fields_l0 l hl d k (i + 1) (by omega) (by omega)
theorem fields_f (k : Nat) (l : List S80) (hl : l.length < 4398046511104) (hk : l.length < k) : wicketlaw15_fields.f k l (l.map fF) = some true := by
  unfold wicketlaw15_fields.f
  rw [if_pos (by rw [List.length_map])]
  exact fields_l0 l hl l.length k 0 (by omega) hk
theorem pairs_back (l : List (List UInt8 × List UInt8)) : pairsL (l.map pairOf) = l := by
  unfold pairsL
  rw [List.map_map]
  conv => rhs; rw [← List.map_id l]
  exact List.map_congr_left (fun f _ => by simp only [Function.comp, pairOf, data_bs]; rfl)
theorem low_same {l : List (List UInt8 × List UInt8)} (h : ∀ f ∈ l, lows f.1 = f.1) : l.map lowP = l := by
  conv => rhs; rw [← List.map_id l]
  exact List.map_congr_left (fun f hf => by show (lows f.1, f.2) = f; rw [h f hf])
theorem small_pairs {l : List (List UInt8 × List UInt8)} (h : ∀ f ∈ l, okF f.1 f.2 = true ∧ lows f.1 = f.1) : ∀ f ∈ l.map pairOf, f.f0.size ≤ 140737488351232 := by
  intro f hf
  obtain ⟨g, hg, rfl⟩ := List.mem_map.1 hf
  obtain ⟨h1, h2⟩ := h g hg
  have h3 := (okF_parts h1).1
  rw [h2] at h3
  unfold nameB at h3
  simp only [Bool.and_eq_true, decide_eq_true_eq] at h3
  show (bs g.1).size ≤ _
  rw [bs_size]
  omega
theorem encS_ok (n : Nat) (l : List (List UInt8 × List UInt8)) (b : List UInt8) : encS (n, l, b, 0, 0) = ((n : Int), l.map pairOf, bs b, 0, 0) := rfl
theorem encP_ok (m t : List UInt8) (l : List (List UInt8 × List UInt8)) (b : List UInt8) : encP (m, t, l, b, 0, 0) = (bs m, bs t, l.map pairOf, bs b, 0, 0) := rfl
theorem parseF_bad (raw : List UInt8) (h : ¬ okP (parseF raw)) : (parseF raw).1 = [] ∧ ¬ (parseF raw).2.2.2.2.1 = 0 := by
  refine ⟨?_, h⟩
  revert h
  unfold okP parseF targP tailP
  repeat' split
  all_goals first | (intro _; rfl) | (intro h; exact absurd rfl h)
theorem parseRF_bad (raw : List UInt8) (h : ¬ okS (parseRF raw)) : (parseRF raw).1 = 0 ∧ ¬ (parseRF raw).2.2.2.1 = 0 := by
  refine ⟨?_, h⟩
  revert h
  unfold okS parseRF tailS
  repeat' split
  all_goals first | (intro _; rfl) | (intro h; exact absurd rfl h)
end Go.Proofs.YtmfkgjnlobiobaaGreatDoor.X
namespace Go.Proofs.YtmfkgjnlobiobaaGreatDoor.X
open Go.RowKit Go.Proofs.YtmfkgjnlobiobaaGreatDoorW.PrintWords Go.Proofs.YtmfkgjnlobiobaaGreatDoorW.PrintLast Go.Proofs.YtmfkgjnlobiobaaGreatDoorW.PrintMore
attribute [local go_sem] max2_int min2_int max_two min_two max_three min_three max_four min_four   -- for this text's walks alone
set_option linter.unusedVariables false
set_option linter.unusedSimpArgs false

/-! ### wicketlaw15_spoil: function 12 -/
mutual
def wicketlaw15_spoil.l0 : Nat → List (S80) → Int → Option (Unit)
  | 0, _, _ => none
  | k + 1, x0, x2 => if x2 < (x0.length : Int) then (if 0 ≤ x2 then (wicketlaw15_spoil.l0 k (x0.set (x2 : Int).toNat (⟨(⟨#[63]⟩ : ByteArray), (⟨#[63]⟩ : ByteArray)⟩ : S80)) (wrap64 (x2 + 1))) else (none)) else (wicketlaw15_spoil.l1 k x0 0)
def wicketlaw15_spoil.l1 : Nat → List (S80) → Int → Option (Unit)
  | 0, _, _ => none
  | k + 1, x0, x3 => if x3 < 64 then (if x0.length < 4398046511104 then (wicketlaw15_spoil.l1 k (x0 ++ [(⟨(⟨#[63, 63]⟩ : ByteArray), (⟨#[]⟩ : ByteArray)⟩ : S80)]) (wrap64 (x3 + 1))) else (none)) else (some ())
end
def wicketlaw15_spoil.f (k : Nat) (l0 : List (S80)) : Option (Unit) := wicketlaw15_spoil.l0 k l0 0
theorem wicketlaw15_spoil.mono_l : ∀ k, (∀ y0 y1, LeO (wicketlaw15_spoil.l0 k y0 y1) (wicketlaw15_spoil.l0 (k + 1) y0 y1)) ∧ (∀ y0 y1, LeO (wicketlaw15_spoil.l1 k y0 y1) (wicketlaw15_spoil.l1 (k + 1) y0 y1))
  | 0 => ⟨fun _ _ r h => by simp [wicketlaw15_spoil.l0] at h, fun _ _ r h => by simp [wicketlaw15_spoil.l1] at h⟩
  | k + 1 => by
    obtain ⟨ih0, ih1⟩ := wicketlaw15_spoil.mono_l k
    refine ⟨?_, ?_⟩
    · intro y0 y1
      unfold wicketlaw15_spoil.l0
      repeat' first
      | (with_reducible exact ih0 _ _)
      | (with_reducible exact ih1 _ _)
      | (with_reducible exact LeO.refl _)
      | (with_reducible exact LeO.none _)
      | (with_reducible refine LeO.ite ?_ ?_)
      | (with_reducible refine LeO.bind ?_ (fun _ => ?_))
      | exact ih0 _ _
      | exact ih1 _ _
      | exact LeO.none _
      | refine LeO.ite ?_ ?_
      | refine LeO.bind ?_ (fun _ => ?_)
    · intro y0 y1
      unfold wicketlaw15_spoil.l1
      repeat' first
      | (with_reducible exact ih0 _ _)
      | (with_reducible exact ih1 _ _)
      | (with_reducible exact LeO.refl _)
      | (with_reducible exact LeO.none _)
      | (with_reducible refine LeO.ite ?_ ?_)
      | (with_reducible refine LeO.bind ?_ (fun _ => ?_))
      | exact ih0 _ _
      | exact ih1 _ _
      | exact LeO.none _
      | refine LeO.ite ?_ ?_
      | refine LeO.bind ?_ (fun _ => ?_)
theorem wicketlaw15_spoil.mono : ∀ a0 k, LeO (wicketlaw15_spoil.f k a0) (wicketlaw15_spoil.f (k + 1) a0) := by
  intro a0 k
  obtain ⟨ih0, ih1⟩ := wicketlaw15_spoil.mono_l k
  unfold wicketlaw15_spoil.f
  repeat' first
      | (with_reducible exact ih0 _ _)
      | (with_reducible exact ih1 _ _)
      | (with_reducible exact LeO.refl _)
      | (with_reducible exact LeO.none _)
      | (with_reducible refine LeO.ite ?_ ?_)
      | (with_reducible refine LeO.bind ?_ (fun _ => ?_))
      | exact ih0 _ _
      | exact ih1 _ _
      | exact LeO.none _
      | refine LeO.ite ?_ ?_
      | refine LeO.bind ?_ (fun _ => ?_)
set_option maxHeartbeats 8000000 in
set_option maxRecDepth 100000 in
theorem wicketlaw15_spoil.calls (k : Nat) (P0_ : Nat → Prop) (u9000_ : Value) (l0 : List (S80)) (w0 w : World) (hB : Below w0.heap.size w0 w) (ho0 : Kd.R k80 80 w w0.heap.size P0_ u9000_ l0) (h : wicketlaw15_spoil.f k l0 = some ()) :
    Calls Tryz.prog 12 #[u9000_] w fun e w' => e = .returned (.tuple #[]) ∧ Below w0.heap.size w0 w' ∧ Kept w w' (fun k_ => P0_ k_) := by
  have hu80 := Tryz.underlying80
  have HO0 := Aside0.mk (show Kd.R k80 80 w w0.heap.size (fun k_ => (P0_ k_ ∨ w.heap.size ≤ k_)) u9000_ l0 from Kd.R_mono ho0 (fun k_ hk => (.inl hk)))
  have HK := Aside0.mk (Kept.refl w (fun k_ => P0_ k_))
  have HW0 := Aside0.mk hB.size
  have HB := Aside0.mk hB
  clear hB
  have H : (wicketlaw15_spoil.l0 k l0 0) = some () := h
  clear h
  have H' := Aside0.mk H
  clear H
  go_enter Tryz.func12, Tryz.ntmps12
  go_wp2
  go_loopg [2] k (fun kq v2 w' => ∃ (x0_1 : List (S80)) (x2_1 : Int), v2 = .int .i64 x2_1 ∧ Aside0 (wicketlaw15_spoil.l0 kq x0_1 x2_1 = some ()) ∧ Aside0 (kq ≤ k) ∧ Aside0 (Kd.R k80 80 w' w0.heap.size (fun k_ => (P0_ k_ ∨ w.heap.size ≤ k_)) u9000_ x0_1) ∧ Aside0 (Kept w w' (fun k_ => P0_ k_)) ∧ Aside0 (Below w0.heap.size w0 w'))
  case atStart => exact ⟨(l0), (0), (by first | rfl | (simp; done) | (simp [*]; done)), H', ⟨Nat.le_refl _⟩, ⟨by (with_reducible repeat (first | apply Kd.R_alloc | apply Kd.R_drewN | apply Kd.R_drew)); exact HO0.out⟩, ⟨by repeat (first | (with_reducible first | exact HK.out | apply Kept.alloc | apply Kept.drewN | apply Kept.drew) | exact HK.out)⟩, ⟨by repeat (first | (with_reducible first | exact HB.out | apply below_alloc | apply pw_below_drewN | apply below_drew1) | exact HB.out)⟩⟩
  case round =>
    clear H'
    try clear c1
    obtain ⟨x0_1, x2_1, rfl, HA, HK1, HO_0, HK, HB⟩ := hrel
    cases gk with
    | zero => exact absurd HA.out (by simp [wicketlaw15_spoil.l0])
    | succ k1 =>
      have H := HA.out
      clear HA
      simp only [wicketlaw15_spoil.l0] at H
      by_cases c2 : x2_1 < (x0_1.length : Int)
      · rw [if_pos c2] at H
        have c2b0 : decide (x2_1 < (x0_1.length : Int)) = true := decide_eq_true c2
        clear c2
        by_cases c3 : 0 ≤ x2_1
        · rw [if_pos c3] at H
          have c3b0 : decide (0 ≤ x2_1) = true := decide_eq_true c3
          clear c3
          obtain ⟨y387, hy387⟩ : ∃ y_ : List (S80), y_ = (x0_1.set (x2_1 : Int).toNat (⟨(⟨#[63]⟩ : ByteArray), (⟨#[63]⟩ : ByteArray)⟩ : S80)) := ⟨_, rfl⟩
          replace H : (wicketlaw15_spoil.l0 k1 y387 (wrap64 (x2_1 + 1))) = some () := by first | (rw [hy387]; with_reducible exact H) | (have H2_ := (Option.bind_some _ _).symm.trans H; rw [hy387]; with_reducible exact H2_) | (have H2_ := (Option.bind_some _ _).symm.trans H; with_reducible exact H2_) | with_reducible exact H | (rw [hy387]; exact H) | exact H
          have Ny387 := Aside0.mk hy387
          clear hy387
          have H' := Aside0.mk H
          clear H
          obtain ⟨Ao5, co5, eo5⟩ := Kd.R_slice HO_0.out
          subst eo5
          have p4 : 0 ≤ (x2_1 : Int) := of_decide_eq_true (by first | (with_reducible assumption) | assumption)
          have q4 : (x2_1 : Int) < ((x0_1.length : Int) : Int) := of_decide_eq_true (by first | (with_reducible assumption) | assumption)
          obtain ⟨go4, co4, eo4, gb4, gl4, cl4, HG4⟩ := Kd.R_form HO_0.out (by omega)
          (first | cases eo4 | (injection eo4 with ea_ en_ ec_; (first | subst ea_ | (injection ea_ with ea_; subst ea_)); subst ec_; clear en_))
          have GB4 := Aside0.mk gb4
          have GG4 := Aside0.mk HG4
          clear gb4 gl4 HG4
          have HMgo4 := Aside0.mk (show (P0_ go4 ∨ w.heap.size ≤ go4) from (HO_0.out.1 _ rfl))
          obtain ⟨ce4, hcl4, hM4, hcc4, hfr4⟩ := Kd.R_elem HO_0.out z80 (x2_1 : Int) p4 q4
          obtain rfl := k80_openM hM4
          have hx4_0 : wr.cell? ⟨go4, (x2_1 : Int).toNat * 2, none⟩ = some (.string ((rd_T80 x0_1 x2_1).f0)) := hcc4 0 _ rfl
          have hx4_1 : wr.cell? ⟨go4, (x2_1 : Int).toNat * 2 + 1, none⟩ = some (.string ((rd_T80 x0_1 x2_1).f1)) := hcc4 1 _ rfl
          have hf4_0 : wr.frozen? ⟨go4, (x2_1 : Int).toNat * 2, none⟩ = false := hfr4 0
          have hf4_1 : wr.frozen? ⟨go4, (x2_1 : Int).toNat * 2 + 1, none⟩ = false := hfr4 1
          clear hcl4 hcc4 hfr4 hM4
          replace p4 := eq_true p4
          replace q4 := eq_true q4
          have HX6 := Aside0.mk (show Kd.R k80 80 wr w0.heap.size (fun k_ => (P0_ k_ ∨ w.heap.size ≤ k_)) (.slice (some ⟨go4, 0, none⟩) x0_1.length co5) x0_1 from (by (with_reducible repeat (first | apply Kd.R_alloc | apply Kd.R_drewN | apply Kd.R_drew)); exact HO_0.out))
          obtain ⟨ce6, hcl6, hM6, hcc6, hfr6⟩ := Kd.R_elem HX6.out z80 (x2_1 : Int) (of_decide_eq_true (by first | (with_reducible assumption) | assumption)) (by have h_ : (x2_1 : Int) < ((x0_1.length : Int) : Int) := of_decide_eq_true (by first | (with_reducible assumption) | assumption); first | exact h_ | (have e_ := (Kd.R_reads' HO_0.out).1; omega) | simpa using h_)
          obtain rfl := k80_openM hM6
          have HP6 := Kd.R_seg HX6.out (x2_1 : Int) (of_decide_eq_true (by first | (with_reducible assumption) | assumption)) (by have h_ : (x2_1 : Int) < ((x0_1.length : Int) : Int) := of_decide_eq_true (by first | (with_reducible assumption) | assumption); first | exact h_ | (have e_ := (Kd.R_reads' HO_0.out).1; omega) | simpa using h_) (seg := [.string (⟨#[63]⟩ : ByteArray), .string (⟨#[63]⟩ : ByteArray)]) (j := 0) hcl6 hcc6 (show 2 ≤ 2 from by decide) (x' := (⟨(⟨#[63]⟩ : ByteArray), (⟨#[63]⟩ : ByteArray)⟩ : S80)) (k80_mkM _ _ _ (⟨(⟨#[63]⟩ : ByteArray), (⟨#[63]⟩ : ByteArray)⟩ : S80) ) (fun _ hk => hk)
          have hx6_0 := hcc6 0 _ rfl
          (try simp only [show (k80).sz = 2 from rfl, Nat.mul_one, Nat.add_zero] at hx6_0)
          have hf6_0 := hfr6 0
          (try simp only [show (k80).sz = 2 from rfl, Nat.mul_one, Nat.add_zero] at hf6_0)
          have hx6_1 := hcc6 1 _ rfl
          (try simp only [show (k80).sz = 2 from rfl, Nat.mul_one, Nat.add_zero] at hx6_1)
          have hf6_1 := hfr6 1
          (try simp only [show (k80).sz = 2 from rfl, Nat.mul_one, Nat.add_zero] at hf6_1)
          clear hcl6 hcc6 hfr6 hM6
          go_wp2_with (first | ((with_reducible refine gate_store (t := 80) (p := 13) rfl ?_); refine store_event (t := 80) (p := 13) (v := ?vo_w7) (w1 := ((wr.setCell ⟨go4, (x2_1 : Int).toNat * 2, none⟩ (.string (⟨#[63]⟩ : ByteArray))).setCell ⟨go4, (x2_1 : Int).toNat * 2 + 1, none⟩ (.string (⟨#[63]⟩ : ByteArray)))) ?hg ?ho ?hn ?hr ?_; (case ho => rfl); (case hg => rfl); (case hn => rfl); (case hr => first | (go_simp; done) | (go_simp; rfl)); intro w7 hw; have hg : wr.grownBy w7 (some go4) := (by rw [hw]; exact HP6.2); have hp_ : Kd.R k80 80 w7 w0.heap.size (fun k_ => (P0_ k_ ∨ w.heap.size ≤ k_)) (.slice (some ⟨go4, 0, none⟩) x0_1.length co5) y387 := (by rw [hw, Ny387.out]; exact HP6.1); clear HP6; have n0_ := Aside0.mk (hp_); have n1_ := Aside0.mk ((by rw [hw]; exact below_set (below_set (HB.out) GB4.out) GB4.out : Below w0.heap.size w0 w7)); have n2_ := Aside0.mk (Kept.of_grown (S := (fun k_ => P0_ k_)) hg (by repeat (first | (with_reducible first | exact HK.out | apply Kept.alloc | apply Kept.drewN | apply Kept.drew) | exact HK.out)) (fun k_ e_ => (HO_0.out.1 k_ e_))); clear HO_0; clear HB; clear HK; have HO_0 := n0_; have HB := n1_; have HK := n2_; clear n0_ n1_ n2_; clear hg hw hp_))
          go_roundg k1
          case measure => have := HK1.out; omega
          case rel => exact ⟨(y387), (wrap64 (x2_1 + 1)), (by first | rfl | (simp; done) | (simp [*]; done)), H', ⟨by have := HK1.out; omega⟩, ⟨by (with_reducible repeat (first | apply Kd.R_alloc | apply Kd.R_drewN | apply Kd.R_drew)); exact HO_0.out⟩, ⟨by repeat (first | (with_reducible first | exact HK.out | apply Kept.alloc | apply Kept.drewN | apply Kept.drew) | exact HK.out)⟩, ⟨by repeat (first | (with_reducible first | exact HB.out | apply below_alloc | apply pw_below_drewN | apply below_drew1) | exact HB.out)⟩⟩
        · rw [if_neg c3] at H
          exact absurd H (by simp)
      · rw [if_neg c2] at H
        have c2b0 : decide (x2_1 < (x0_1.length : Int)) = false := decide_eq_false c2
        clear c2
        have H' := Aside0.mk H
        clear H
        obtain ⟨Ao8, co8, eo8⟩ := Kd.R_slice HO_0.out
        subst eo8
        go_wp2
        go_loopg [0, 3] k1 (fun kq v0 v3 w' => ∃ (x0_2 : List (S80)) (x3_2 : Int), v3 = .int .i64 x3_2 ∧ Aside0 (wicketlaw15_spoil.l1 kq x0_2 x3_2 = some ()) ∧ Aside0 (kq ≤ k1) ∧ Aside0 (Kd.R k80 80 w' w0.heap.size (fun k_ => (P0_ k_ ∨ w.heap.size ≤ k_)) v0 x0_2) ∧ Aside0 (Kept w w' (fun k_ => P0_ k_)) ∧ Aside0 (Below w0.heap.size w0 w'))
        case atStart => exact ⟨(x0_1), (0), (by first | rfl | (simp; done) | (simp [*]; done)), H', ⟨Nat.le_refl _⟩, ⟨by (with_reducible repeat (first | apply Kd.R_alloc | apply Kd.R_drewN | apply Kd.R_drew)); exact HO_0.out⟩, ⟨by repeat (first | (with_reducible first | exact HK.out | apply Kept.alloc | apply Kept.drewN | apply Kept.drew) | exact HK.out)⟩, ⟨by repeat (first | (with_reducible first | exact HB.out | apply below_alloc | apply pw_below_drewN | apply below_drew1) | exact HB.out)⟩⟩
        case round =>
          clear H'
          try clear c1
          try clear c2
          try clear c2b0
          try clear p2
          try clear c3
          try clear c3b0
          try clear c4
          try clear p4
          try clear q4
          try clear hx4
          try clear hf4
          try clear c6
          try clear p6
          try clear hx6
          try clear hf6
          try clear hx4_0
          try clear hx4_1
          try clear hx6_0
          try clear hx6_1
          try clear p4
          try clear q4
          obtain ⟨x0_2, x3_2, rfl, HA, HK2, HO_0, HK, HB⟩ := hrel
          cases gk with
          | zero => exact absurd HA.out (by simp [wicketlaw15_spoil.l1])
          | succ k2 =>
            have H := HA.out
            clear HA
            simp only [wicketlaw15_spoil.l1] at H
            by_cases c9 : x3_2 < 64
            · rw [if_pos c9] at H
              have c9b0 : decide (x3_2 < 64) = true := decide_eq_true c9
              clear c9
              by_cases c10 : x0_2.length < 4398046511104
              · rw [if_pos c10] at H
                have LMc10 := Aside0.mk c10
                clear c10
                obtain ⟨y388, hy388⟩ : ∃ y_ : List (S80), y_ = (x0_2 ++ [(⟨(⟨#[63, 63]⟩ : ByteArray), (⟨#[]⟩ : ByteArray)⟩ : S80)]) := ⟨_, rfl⟩
                replace H : (wicketlaw15_spoil.l1 k2 y388 (wrap64 (x3_2 + 1))) = some () := by first | (rw [hy388]; with_reducible exact H) | (have H2_ := (Option.bind_some _ _).symm.trans H; rw [hy388]; with_reducible exact H2_) | (have H2_ := (Option.bind_some _ _).symm.trans H; with_reducible exact H2_) | with_reducible exact H | (rw [hy388]; exact H) | exact H
                have Ny388 := Aside0.mk hy388
                clear hy388
                have H' := Aside0.mk H
                clear H
                go_wp2_with (first | ((with_reducible refine gate_builtin (b := .append) (xs := #[.tmp 18, .tmp 20]) rfl ?_); at_builtin; refine Kd.R_append k80 (w0 := w0) w0.heap.size rfl (.tmp 18) (.tmp 20) 22 80 (.agg #[(.string ⟨#[]⟩), (.string ⟨#[]⟩)]) 32 rfl Tryz.underlying22 info80 rfl (by decide) (by omega) u0 x0_2 (⟨(⟨#[63, 63]⟩ : ByteArray), (⟨#[]⟩ : ByteArray)⟩ : S80) [.string (⟨#[63, 63]⟩ : ByteArray), .string (⟨#[]⟩ : ByteArray)] (fun k_ => (P0_ k_ ∨ w.heap.size ≤ k_)) (fun _ => False) rfl rfl ?aP (fun _ hk => hk.elim) ?aF ?aO ?aB ?aS ?aL ?_; (case aP => exact k80_mkM _ _ _ (⟨(⟨#[63, 63]⟩ : ByteArray), (⟨#[]⟩ : ByteArray)⟩ : S80)); (case aB => exact (by repeat (first | (with_reducible first | exact HB.out | apply below_alloc | apply pw_below_drewN | apply below_drew1) | exact HB.out))); (case aF => exact (fun k_ hk => (.inr (Nat.le_trans (by first | exact HK.out.1 | exact (show Kept w _ (fun k_ => P0_ k_) from by repeat (first | (with_reducible first | exact HK.out | apply Kept.alloc | apply Kept.drewN | apply Kept.drew) | exact HK.out)).1) hk)))); (case aO => exact (by (with_reducible repeat (first | apply Kd.R_alloc | apply Kd.R_drewN | apply Kd.R_drew)); exact HO_0.out)); (case aS => exact (below_size (by repeat (first | (with_reducible first | exact HB.out | apply below_alloc | apply pw_below_drewN | apply below_drew1) | exact HB.out)))); (case aL => have := LMc10.out; omega); intro v389 w11 ho hb hg hat; rw [← Ny388.out] at ho; have n0_ := Aside0.mk (hb); have n1_ := Aside0.mk (Kept.of_grown (S := (fun k_ => P0_ k_)) hg (by repeat (first | (with_reducible first | exact HK.out | apply Kept.alloc | apply Kept.drewN | apply Kept.drew) | exact HK.out)) (fun k_ e_ => (HO_0.out.1 k_ e_))); have n2_ := Aside0.mk (ho); clear HB; clear HK; clear HO_0; have HB := n0_; have HK := n1_; have HO390 := n2_; clear n0_ n1_ n2_; clear ho hb hg hat))
                go_roundg k2
                case measure => have := HK1.out; have := HK2.out; omega
                case rel => exact ⟨(y388), (wrap64 (x3_2 + 1)), (by first | rfl | (simp; done) | (simp [*]; done)), H', ⟨by have := HK1.out; have := HK2.out; omega⟩, ⟨by (with_reducible repeat (first | apply Kd.R_alloc | apply Kd.R_drewN | apply Kd.R_drew)); exact HO390.out⟩, ⟨by repeat (first | (with_reducible first | exact HK.out | apply Kept.alloc | apply Kept.drewN | apply Kept.drew) | exact HK.out)⟩, ⟨by repeat (first | (with_reducible first | exact HB.out | apply below_alloc | apply pw_below_drewN | apply below_drew1) | exact HB.out)⟩⟩
              · rw [if_neg c10] at H
                exact absurd H (by simp)
            · rw [if_neg c9] at H
              have c9b0 : decide (x3_2 < 64) = false := decide_eq_false c9
              clear c9
              go_wp2
              first | go_end0 | ((try simp only [Exit.inBlock, Exit.then]); refine bodyPost_ret (results_none rfl _ _ _) rfl ?_)
              exact ⟨by first | rfl | (simp [errW_none, errW_some] <;> rfl) | (simp [*, errW_none, errW_some] <;> rfl), by repeat (first | (with_reducible first | exact HB.out | apply below_alloc | apply pw_below_drewN | apply below_drew1) | exact HB.out), by repeat (first | (with_reducible first | exact HK.out | apply Kept.alloc | apply Kept.drewN | apply Kept.drew) | exact HK.out)⟩

end Go.Proofs.YtmfkgjnlobiobaaGreatDoor.X
namespace Go.Proofs.YtmfkgjnlobiobaaGreatDoor.X
open Go.RowKit Go.Proofs.YtmfkgjnlobiobaaGreatDoorW.PrintWords Go.Proofs.YtmfkgjnlobiobaaGreatDoorW.PrintLast Go.Proofs.YtmfkgjnlobiobaaGreatDoorW.PrintMore
attribute [local go_sem] max2_int min2_int max_two min_two max_three min_three max_four min_four   -- for this text's walks alone
set_option linter.unusedVariables false
set_option linter.unusedSimpArgs false

/-! ### wicketlaw15_HttpRequests: function 3 -/
def wicketlaw15_HttpRequests.j0 : Nat → ByteArray → Int → Bool → ByteArray → ByteArray → List (S80) → ByteArray → ByteArray → ByteArray → List (S80) → ByteArray → ByteArray → ByteArray → List (S84) → ByteArray → Option (Bool)
  | 0, _, _, _, _, _, _, _, _, _, _, _, _, _, _, _ => none
  | k + 1, x0, x10, x64, x400000, x400001, x400002, x400003, x409000, x409001, x409002, x409003, x418000, x418001, x418002, x418003 => if x64 = true then none else ((wicketlaw15_spoil.f k x400002).bind fun _ => ((http_ParseRequest.f k x0).bind fun bt422 => ((wicketlaw15_request.f k x409000 x409001 x409002 x409003 x418000 x418001 x418002 x418003).bind fun t431 => (if t431 = true then ((wicketlaw15_num.f bt422.2.2.2.2.1).bind fun t432 => (if t432 = x10 then ((wicketlaw15_request.f k bt422.1 bt422.2.1 bt422.2.2.1 bt422.2.2.2.1 x418000 x418001 x418002 x418003).bind fun t433 => (if t433 = true then ((wicketlaw15_live.f k).bind fun t434 => (some t434)) else none)) else none)) else none))))
def wicketlaw15_HttpRequests.f (k : Nat) (a0 : ByteArray) : Option (Bool) := (http_ParseRequest.f k a0).bind fun bt391 => ((http_ParseRequest.f k a0).bind fun bt400 => ((wicketref15_ParseRequest.f k a0).bind fun bt409 => ((wicketlaw15_num.f bt391.2.2.2.2.1).bind fun t418 => (if t418 = bt409.2.2.2.2.1 then ((wicketlaw15_num.f bt400.2.2.2.2.1).bind fun t419 => (if t419 = bt409.2.2.2.2.1 then (if bt391.2.2.2.2.2 = bt409.2.2.2.2.2 then (if bt400.2.2.2.2.2 = bt409.2.2.2.2.2 then ((wicketlaw15_request.f k bt391.1 bt391.2.1 bt391.2.2.1 bt391.2.2.2.1 bt409.1 bt409.2.1 bt409.2.2.1 bt409.2.2.2.1).bind fun t420 => (if t420 = true then ((wicketlaw15_request.f k bt400.1 bt400.2.1 bt400.2.2.1 bt400.2.2.2.1 bt409.1 bt409.2.1 bt409.2.2.1 bt409.2.2.2.1).bind fun t421 => (wicketlaw15_HttpRequests.j0 k a0 bt409.2.2.2.2.1 (!t421) bt391.1 bt391.2.1 bt391.2.2.1 bt391.2.2.2.1 bt400.1 bt400.2.1 bt400.2.2.1 bt400.2.2.2.1 bt409.1 bt409.2.1 bt409.2.2.1 bt409.2.2.2.1)) else (wicketlaw15_HttpRequests.j0 k a0 bt409.2.2.2.2.1 true bt391.1 bt391.2.1 bt391.2.2.1 bt391.2.2.2.1 bt400.1 bt400.2.1 bt400.2.2.1 bt400.2.2.2.1 bt409.1 bt409.2.1 bt409.2.2.1 bt409.2.2.2.1))) else (wicketlaw15_HttpRequests.j0 k a0 bt409.2.2.2.2.1 true bt391.1 bt391.2.1 bt391.2.2.1 bt391.2.2.2.1 bt400.1 bt400.2.1 bt400.2.2.1 bt400.2.2.2.1 bt409.1 bt409.2.1 bt409.2.2.1 bt409.2.2.2.1)) else (wicketlaw15_HttpRequests.j0 k a0 bt409.2.2.2.2.1 true bt391.1 bt391.2.1 bt391.2.2.1 bt391.2.2.2.1 bt400.1 bt400.2.1 bt400.2.2.1 bt400.2.2.2.1 bt409.1 bt409.2.1 bt409.2.2.1 bt409.2.2.2.1)) else (wicketlaw15_HttpRequests.j0 k a0 bt409.2.2.2.2.1 true bt391.1 bt391.2.1 bt391.2.2.1 bt391.2.2.2.1 bt400.1 bt400.2.1 bt400.2.2.1 bt400.2.2.2.1 bt409.1 bt409.2.1 bt409.2.2.1 bt409.2.2.2.1))) else (wicketlaw15_HttpRequests.j0 k a0 bt409.2.2.2.2.1 true bt391.1 bt391.2.1 bt391.2.2.1 bt391.2.2.2.1 bt400.1 bt400.2.1 bt400.2.2.1 bt400.2.2.2.1 bt409.1 bt409.2.1 bt409.2.2.1 bt409.2.2.2.1)))))
theorem wicketlaw15_HttpRequests.mono_l : ∀ k, (∀ y0 y1 y2 y3 y4 y5 y6 y7 y8 y9 y10 y11 y12 y13 y14, LeO (wicketlaw15_HttpRequests.j0 k y0 y1 y2 y3 y4 y5 y6 y7 y8 y9 y10 y11 y12 y13 y14) (wicketlaw15_HttpRequests.j0 (k + 1) y0 y1 y2 y3 y4 y5 y6 y7 y8 y9 y10 y11 y12 y13 y14))
  | 0 => fun _ _ _ _ _ _ _ _ _ _ _ _ _ _ _ r h => by simp [wicketlaw15_HttpRequests.j0] at h
  | k + 1 => by
    have ih0 := wicketlaw15_HttpRequests.mono_l k
    · intro y0 y1 y2 y3 y4 y5 y6 y7 y8 y9 y10 y11 y12 y13 y14
      unfold wicketlaw15_HttpRequests.j0
      repeat' first
      | (with_reducible exact ih0 _ _ _ _ _ _ _ _ _ _ _ _ _ _ _)
      | (with_reducible exact http_ParseRequest.mono _ _)
      | (with_reducible exact wicketlaw15_live.mono _)
      | (with_reducible exact wicketlaw15_request.mono _ _ _ _ _ _ _ _ _)
      | (with_reducible exact wicketlaw15_spoil.mono _ _)
      | (with_reducible exact wicketref15_ParseRequest.mono _ _)
      | (with_reducible exact LeO.refl _)
      | (with_reducible exact LeO.none _)
      | (with_reducible refine LeO.ite ?_ ?_)
      | (with_reducible refine LeO.bind ?_ (fun _ => ?_))
      | exact ih0 _ _ _ _ _ _ _ _ _ _ _ _ _ _ _
      | exact http_ParseRequest.mono _ _
      | exact wicketlaw15_live.mono _
      | exact wicketlaw15_request.mono _ _ _ _ _ _ _ _ _
      | exact wicketlaw15_spoil.mono _ _
      | exact wicketref15_ParseRequest.mono _ _
      | exact LeO.none _
      | refine LeO.ite ?_ ?_
      | refine LeO.bind ?_ (fun _ => ?_)
theorem wicketlaw15_HttpRequests.mono : ∀ a0 k, LeO (wicketlaw15_HttpRequests.f k a0) (wicketlaw15_HttpRequests.f (k + 1) a0) := by
  intro a0 k
  have ih0 := wicketlaw15_HttpRequests.mono_l k
  unfold wicketlaw15_HttpRequests.f
  repeat' first
      | (with_reducible exact ih0 _ _ _ _ _ _ _ _ _ _ _ _ _ _ _)
      | (with_reducible exact http_ParseRequest.mono _ _)
      | (with_reducible exact wicketlaw15_live.mono _)
      | (with_reducible exact wicketlaw15_request.mono _ _ _ _ _ _ _ _ _)
      | (with_reducible exact wicketlaw15_spoil.mono _ _)
      | (with_reducible exact wicketref15_ParseRequest.mono _ _)
      | (with_reducible exact LeO.refl _)
      | (with_reducible exact LeO.none _)
      | (with_reducible refine LeO.ite ?_ ?_)
      | (with_reducible refine LeO.bind ?_ (fun _ => ?_))
      | exact ih0 _ _ _ _ _ _ _ _ _ _ _ _ _ _ _
      | exact http_ParseRequest.mono _ _
      | exact wicketlaw15_live.mono _
      | exact wicketlaw15_request.mono _ _ _ _ _ _ _ _ _
      | exact wicketlaw15_spoil.mono _ _
      | exact wicketref15_ParseRequest.mono _ _
      | exact LeO.none _
      | refine LeO.ite ?_ ?_
      | refine LeO.bind ?_ (fun _ => ?_)
set_option maxHeartbeats 8000000 in
set_option maxRecDepth 100000 in
theorem wicketlaw15_HttpRequests.calls (k : Nat) (a0 : ByteArray) (r : Bool) (w : World) (hG : GL w) (h : wicketlaw15_HttpRequests.f k a0 = some r) :
    Calls Tryz.prog 3 #[.string a0] w fun e w' => e = .returned (.bool r) ∧ Below w.heap.size w w' := by
  have hu24 := Tryz.underlying24
  have hu30 := Tryz.underlying30
  have HB := Aside0.mk (Below.refl w.heap.size w)
  have HG := Aside0.mk hG
  clear hG
  have H : ((http_ParseRequest.f k a0).bind fun bt391 => ((http_ParseRequest.f k a0).bind fun bt400 => ((wicketref15_ParseRequest.f k a0).bind fun bt409 => ((wicketlaw15_num.f bt391.2.2.2.2.1).bind fun t418 => (if t418 = bt409.2.2.2.2.1 then ((wicketlaw15_num.f bt400.2.2.2.2.1).bind fun t419 => (if t419 = bt409.2.2.2.2.1 then (if bt391.2.2.2.2.2 = bt409.2.2.2.2.2 then (if bt400.2.2.2.2.2 = bt409.2.2.2.2.2 then ((wicketlaw15_request.f k bt391.1 bt391.2.1 bt391.2.2.1 bt391.2.2.2.1 bt409.1 bt409.2.1 bt409.2.2.1 bt409.2.2.2.1).bind fun t420 => (if t420 = true then ((wicketlaw15_request.f k bt400.1 bt400.2.1 bt400.2.2.1 bt400.2.2.2.1 bt409.1 bt409.2.1 bt409.2.2.1 bt409.2.2.2.1).bind fun t421 => (wicketlaw15_HttpRequests.j0 k a0 bt409.2.2.2.2.1 (!t421) bt391.1 bt391.2.1 bt391.2.2.1 bt391.2.2.2.1 bt400.1 bt400.2.1 bt400.2.2.1 bt400.2.2.2.1 bt409.1 bt409.2.1 bt409.2.2.1 bt409.2.2.2.1)) else (wicketlaw15_HttpRequests.j0 k a0 bt409.2.2.2.2.1 true bt391.1 bt391.2.1 bt391.2.2.1 bt391.2.2.2.1 bt400.1 bt400.2.1 bt400.2.2.1 bt400.2.2.2.1 bt409.1 bt409.2.1 bt409.2.2.1 bt409.2.2.2.1))) else (wicketlaw15_HttpRequests.j0 k a0 bt409.2.2.2.2.1 true bt391.1 bt391.2.1 bt391.2.2.1 bt391.2.2.2.1 bt400.1 bt400.2.1 bt400.2.2.1 bt400.2.2.2.1 bt409.1 bt409.2.1 bt409.2.2.1 bt409.2.2.2.1)) else (wicketlaw15_HttpRequests.j0 k a0 bt409.2.2.2.2.1 true bt391.1 bt391.2.1 bt391.2.2.1 bt391.2.2.2.1 bt400.1 bt400.2.1 bt400.2.2.1 bt400.2.2.2.1 bt409.1 bt409.2.1 bt409.2.2.1 bt409.2.2.2.1)) else (wicketlaw15_HttpRequests.j0 k a0 bt409.2.2.2.2.1 true bt391.1 bt391.2.1 bt391.2.2.1 bt391.2.2.2.1 bt400.1 bt400.2.1 bt400.2.2.1 bt400.2.2.2.1 bt409.1 bt409.2.1 bt409.2.2.1 bt409.2.2.2.1))) else (wicketlaw15_HttpRequests.j0 k a0 bt409.2.2.2.2.1 true bt391.1 bt391.2.1 bt391.2.2.1 bt391.2.2.2.1 bt400.1 bt400.2.1 bt400.2.2.1 bt400.2.2.2.1 bt409.1 bt409.2.1 bt409.2.2.1 bt409.2.2.2.1)))))) = some r := h
  clear h
  replace H := Option.bind_eq_some_iff.mp H
  obtain ⟨⟨t391, t392, t393, t396, t397, t398⟩, A20, H⟩ := H
  replace H : ((http_ParseRequest.f k a0).bind fun bt400 => ((wicketref15_ParseRequest.f k a0).bind fun bt409 => ((wicketlaw15_num.f t397).bind fun t418 => (if t418 = bt409.2.2.2.2.1 then ((wicketlaw15_num.f bt400.2.2.2.2.1).bind fun t419 => (if t419 = bt409.2.2.2.2.1 then (if t398 = bt409.2.2.2.2.2 then (if bt400.2.2.2.2.2 = bt409.2.2.2.2.2 then ((wicketlaw15_request.f k t391 t392 t393 t396 bt409.1 bt409.2.1 bt409.2.2.1 bt409.2.2.2.1).bind fun t420 => (if t420 = true then ((wicketlaw15_request.f k bt400.1 bt400.2.1 bt400.2.2.1 bt400.2.2.2.1 bt409.1 bt409.2.1 bt409.2.2.1 bt409.2.2.2.1).bind fun t421 => (wicketlaw15_HttpRequests.j0 k a0 bt409.2.2.2.2.1 (!t421) t391 t392 t393 t396 bt400.1 bt400.2.1 bt400.2.2.1 bt400.2.2.2.1 bt409.1 bt409.2.1 bt409.2.2.1 bt409.2.2.2.1)) else (wicketlaw15_HttpRequests.j0 k a0 bt409.2.2.2.2.1 true t391 t392 t393 t396 bt400.1 bt400.2.1 bt400.2.2.1 bt400.2.2.2.1 bt409.1 bt409.2.1 bt409.2.2.1 bt409.2.2.2.1))) else (wicketlaw15_HttpRequests.j0 k a0 bt409.2.2.2.2.1 true t391 t392 t393 t396 bt400.1 bt400.2.1 bt400.2.2.1 bt400.2.2.2.1 bt409.1 bt409.2.1 bt409.2.2.1 bt409.2.2.2.1)) else (wicketlaw15_HttpRequests.j0 k a0 bt409.2.2.2.2.1 true t391 t392 t393 t396 bt400.1 bt400.2.1 bt400.2.2.1 bt400.2.2.2.1 bt409.1 bt409.2.1 bt409.2.2.1 bt409.2.2.2.1)) else (wicketlaw15_HttpRequests.j0 k a0 bt409.2.2.2.2.1 true t391 t392 t393 t396 bt400.1 bt400.2.1 bt400.2.2.1 bt400.2.2.2.1 bt409.1 bt409.2.1 bt409.2.2.1 bt409.2.2.2.1))) else (wicketlaw15_HttpRequests.j0 k a0 bt409.2.2.2.2.1 true t391 t392 t393 t396 bt400.1 bt400.2.1 bt400.2.2.1 bt400.2.2.2.1 bt409.1 bt409.2.1 bt409.2.2.1 bt409.2.2.2.1))))) = some r := H
  have A2 := Aside0.mk A20
  clear A20
  replace H := Option.bind_eq_some_iff.mp H
  obtain ⟨⟨t400, t401, t402, t405, t406, t407⟩, A30, H⟩ := H
  replace H : ((wicketref15_ParseRequest.f k a0).bind fun bt409 => ((wicketlaw15_num.f t397).bind fun t418 => (if t418 = bt409.2.2.2.2.1 then ((wicketlaw15_num.f t406).bind fun t419 => (if t419 = bt409.2.2.2.2.1 then (if t398 = bt409.2.2.2.2.2 then (if t407 = bt409.2.2.2.2.2 then ((wicketlaw15_request.f k t391 t392 t393 t396 bt409.1 bt409.2.1 bt409.2.2.1 bt409.2.2.2.1).bind fun t420 => (if t420 = true then ((wicketlaw15_request.f k t400 t401 t402 t405 bt409.1 bt409.2.1 bt409.2.2.1 bt409.2.2.2.1).bind fun t421 => (wicketlaw15_HttpRequests.j0 k a0 bt409.2.2.2.2.1 (!t421) t391 t392 t393 t396 t400 t401 t402 t405 bt409.1 bt409.2.1 bt409.2.2.1 bt409.2.2.2.1)) else (wicketlaw15_HttpRequests.j0 k a0 bt409.2.2.2.2.1 true t391 t392 t393 t396 t400 t401 t402 t405 bt409.1 bt409.2.1 bt409.2.2.1 bt409.2.2.2.1))) else (wicketlaw15_HttpRequests.j0 k a0 bt409.2.2.2.2.1 true t391 t392 t393 t396 t400 t401 t402 t405 bt409.1 bt409.2.1 bt409.2.2.1 bt409.2.2.2.1)) else (wicketlaw15_HttpRequests.j0 k a0 bt409.2.2.2.2.1 true t391 t392 t393 t396 t400 t401 t402 t405 bt409.1 bt409.2.1 bt409.2.2.1 bt409.2.2.2.1)) else (wicketlaw15_HttpRequests.j0 k a0 bt409.2.2.2.2.1 true t391 t392 t393 t396 t400 t401 t402 t405 bt409.1 bt409.2.1 bt409.2.2.1 bt409.2.2.2.1))) else (wicketlaw15_HttpRequests.j0 k a0 bt409.2.2.2.2.1 true t391 t392 t393 t396 t400 t401 t402 t405 bt409.1 bt409.2.1 bt409.2.2.1 bt409.2.2.2.1)))) = some r := H
  have A3 := Aside0.mk A30
  clear A30
  replace H := Option.bind_eq_some_iff.mp H
  obtain ⟨⟨t409, t410, t411, t414, t415, t416⟩, A40, H⟩ := H
  replace H : ((wicketlaw15_num.f t397).bind fun t418 => (if t418 = t415 then ((wicketlaw15_num.f t406).bind fun t419 => (if t419 = t415 then (if t398 = t416 then (if t407 = t416 then ((wicketlaw15_request.f k t391 t392 t393 t396 t409 t410 t411 t414).bind fun t420 => (if t420 = true then ((wicketlaw15_request.f k t400 t401 t402 t405 t409 t410 t411 t414).bind fun t421 => (wicketlaw15_HttpRequests.j0 k a0 t415 (!t421) t391 t392 t393 t396 t400 t401 t402 t405 t409 t410 t411 t414)) else (wicketlaw15_HttpRequests.j0 k a0 t415 true t391 t392 t393 t396 t400 t401 t402 t405 t409 t410 t411 t414))) else (wicketlaw15_HttpRequests.j0 k a0 t415 true t391 t392 t393 t396 t400 t401 t402 t405 t409 t410 t411 t414)) else (wicketlaw15_HttpRequests.j0 k a0 t415 true t391 t392 t393 t396 t400 t401 t402 t405 t409 t410 t411 t414)) else (wicketlaw15_HttpRequests.j0 k a0 t415 true t391 t392 t393 t396 t400 t401 t402 t405 t409 t410 t411 t414))) else (wicketlaw15_HttpRequests.j0 k a0 t415 true t391 t392 t393 t396 t400 t401 t402 t405 t409 t410 t411 t414))) = some r := H
  have A4 := Aside0.mk A40
  clear A40
  have HC5 := Aside0.mk H
  clear H
  go_enter Tryz.func3, Tryz.ntmps3
  go_upto_region 4 with (first | ((with_reducible refine gate_callee (f := 8) rfl ?_); refine goesL_ (some 17) rfl rfl Tryz.func8 (by kernel_rfl) rfl #[.string a0] rfl (by (try simp only [List.map_toArray, List.map_cons, List.map_nil]); first | done | rfl | (simp only [List.length_drop, List.length_take]; rfl)) ?_; (with_reducible refine (http_ParseRequest.calls k a0 t391 t392 t393 t396 t397 t398 _ ?side1 A2.out).mono ?_); (case side1 => exact GL_below HG.out (by repeat (first | (with_reducible first | exact HB.out | apply below_alloc | apply pw_below_drewN | apply below_drew1) | exact HB.out))); rintro e w6 ⟨v394, rfl, ho0, hb⟩; refine ⟨_, rfl, ?_⟩; have n0_ := Aside0.mk (Kd.R_lower ho0 (below_size (by repeat (first | (with_reducible first | exact HB.out | apply below_alloc | apply pw_below_drewN | apply below_drew1) | exact HB.out)))); have n1_ := Aside0.mk (below_step (by repeat (first | (with_reducible first | exact HB.out | apply below_alloc | apply pw_below_drewN | apply below_drew1) | exact HB.out)) hb); clear HB; have HO395 := n0_; have HB := n1_; clear n0_ n1_; (try clear hb); (try clear hb2); (try clear hk); (try clear hi); (try clear ho0)) | ((with_reducible refine gate_dst (N := 3) rfl ?_); refine box_event ?hg (N := 3) ?hd (cs := #[.string (⟨#[]⟩ : ByteArray), .string (⟨#[]⟩ : ByteArray), .slice none 0 0, .string (⟨#[]⟩ : ByteArray)]) (t := 24) ?hr ?_; (case hd => rfl); (case hg => rfl); (case hr => first | (go_simp; done) | (go_simp; rfl)); intro gb399 hg w7 hbox hb; have n0_ := Aside0.mk (Kd.R_below (by (with_reducible repeat (first | apply Kd.R_alloc | apply Kd.R_drewN | apply Kd.R_drew)); exact HO395.out) hb); have n1_ := Aside0.mk (below_step (by repeat (first | (with_reducible first | exact HB.out | apply below_alloc | apply pw_below_drewN | apply below_drew1) | exact HB.out)) hb); have n2_ := Aside0.mk (hbox); have n3_ := Aside0.mk ((by rw [hg]; exact (below_size (by repeat (first | (with_reducible first | exact HB.out | apply below_alloc | apply pw_below_drewN | apply below_drew1) | exact HB.out))) : w.heap.size ≤ gb399)); have n4_ := Aside0.mk ((by rw [hg]; exact (below_size (by repeat (first | (with_reducible first | exact HB.out | apply below_alloc | apply pw_below_drewN | apply below_drew1) | exact HB.out))) : w.heap.size ≤ gb399)); clear HO395; clear HB; have HO395 := n0_; have HB := n1_; have BK399 := n2_; have GW399 := n3_; have GE399 := n4_; clear n0_ n1_ n2_ n3_ n4_; clear hb hbox hg; have hcz8_0 : w7.cell? ⟨gb399, 0, none⟩ = some (.string (⟨#[]⟩ : ByteArray)) := (blk_cell BK399.out 0).trans rfl; have hcz8_1 : w7.cell? ⟨gb399, 1, none⟩ = some (.string (⟨#[]⟩ : ByteArray)) := (blk_cell BK399.out 1).trans rfl; have hcz8_2 : w7.cell? ⟨gb399, 2, none⟩ = some (.slice none 0 0) := (blk_cell BK399.out 2).trans rfl; have hcz8_3 : w7.cell? ⟨gb399, 3, none⟩ = some (.string (⟨#[]⟩ : ByteArray)) := (blk_cell BK399.out 3).trans rfl; have hfz8_0 := blk_frozen BK399.out 0; have hfz8_1 := blk_frozen BK399.out 1; have hfz8_2 := blk_frozen BK399.out 2; have hfz8_3 := blk_frozen BK399.out 3; obtain ⟨Ao9, co9, eo9⟩ := Kd.R_slice HO395.out; subst eo9) | ((with_reducible refine gate_callee (f := 8) rfl ?_); refine goesL_ (some 23) rfl rfl Tryz.func8 (by kernel_rfl) rfl #[.string a0] rfl (by (try simp only [List.map_toArray, List.map_cons, List.map_nil]); first | done | rfl | (simp only [List.length_drop, List.length_take]; rfl)) ?_; (with_reducible refine (http_ParseRequest.calls k a0 t400 t401 t402 t405 t406 t407 _ ?side1 A3.out).mono ?_); (case side1 => exact GL_below HG.out (by repeat (first | (with_reducible first | exact HB.out | apply below_alloc | apply pw_below_drewN | apply below_drew1 | refine below_set ?_ GE399.out) | exact HB.out))); rintro e w10 ⟨v403, rfl, ho0, hb⟩; refine ⟨_, rfl, ?_⟩; have n0_ := Aside0.mk (Kd.R_elder' (by (with_reducible repeat (first | apply Kd.R_alloc | apply Kd.R_drewN | apply Kd.R_drew)); exact (Kd.R_mono (Kd.R_far (p := ⟨gb399, 3, none⟩) (Kd.R_far (p := ⟨gb399, 2, none⟩) (Kd.R_far (p := ⟨gb399, 1, none⟩) (Kd.R_far (p := ⟨gb399, 0, none⟩) (Kd.R_types HO395.out BK399.out (by decide)) (fun _ hk => hk.2) (.string t391)) (fun _ hk => hk.2) (.string t392)) (fun _ hk => hk.2) (.slice Ao9 t393.length co9)) (fun _ hk => hk.2) (.string t396)) (fun _ h_ => h_.1))) (Kd.R_base ho0) hb); have n1_ := Aside0.mk (Kd.R_lower (Kd.R_new' ho0 (Kd.R_lt (by (with_reducible repeat (first | apply Kd.R_alloc | apply Kd.R_drewN | apply Kd.R_drew)); exact (Kd.R_mono (Kd.R_far (p := ⟨gb399, 3, none⟩) (Kd.R_far (p := ⟨gb399, 2, none⟩) (Kd.R_far (p := ⟨gb399, 1, none⟩) (Kd.R_far (p := ⟨gb399, 0, none⟩) (Kd.R_types HO395.out BK399.out (by decide)) (fun _ hk => hk.2) (.string t391)) (fun _ hk => hk.2) (.string t392)) (fun _ hk => hk.2) (.slice Ao9 t393.length co9)) (fun _ hk => hk.2) (.string t396)) (fun _ h_ => h_.1))))) (below_size (by repeat (first | (with_reducible first | exact HB.out | apply below_alloc | apply pw_below_drewN | apply below_drew1 | refine below_set ?_ GE399.out) | exact HB.out)))); have n2_ := Aside0.mk (blk_below (g := gb399) (o := .cells #[.string t391, .string t392, .slice Ao9 t393.length co9, .string t396] 24 (0, 0)) (by (with_reducible repeat (first | refine blk_drewN ?_ _ | refine blk_drew ?_ | refine blk_alloc ?_ _)); refine blk_put (cs := #[.string t391, .string t392, .slice Ao9 t393.length co9, .string (⟨#[]⟩ : ByteArray)]) ?_ 3 _ rfl; (with_reducible repeat (first | refine blk_drewN ?_ _ | refine blk_drew ?_ | refine blk_alloc ?_ _)); refine blk_put (cs := #[.string t391, .string t392, .slice none 0 0, .string (⟨#[]⟩ : ByteArray)]) ?_ 2 _ rfl; (with_reducible repeat (first | refine blk_drewN ?_ _ | refine blk_drew ?_ | refine blk_alloc ?_ _)); refine blk_put (cs := #[.string t391, .string (⟨#[]⟩ : ByteArray), .slice none 0 0, .string (⟨#[]⟩ : ByteArray)]) ?_ 1 _ rfl; (with_reducible repeat (first | refine blk_drewN ?_ _ | refine blk_drew ?_ | refine blk_alloc ?_ _)); refine blk_put (cs := #[.string (⟨#[]⟩ : ByteArray), .string (⟨#[]⟩ : ByteArray), .slice none 0 0, .string (⟨#[]⟩ : ByteArray)]) ?_ 0 _ rfl; (with_reducible repeat (first | refine blk_drewN ?_ _ | refine blk_drew ?_ | refine blk_alloc ?_ _)); exact BK399.out) hb); have n3_ := Aside0.mk (below_step (by repeat (first | (with_reducible first | exact HB.out | apply below_alloc | apply pw_below_drewN | apply below_drew1 | refine below_set ?_ GE399.out) | exact HB.out)) hb); clear HO395; clear BK399; clear HB; have HO395 := n0_; have HO404 := n1_; have BK399 := n2_; have HB := n3_; clear n0_ n1_ n2_ n3_; (try clear hb); (try clear hb2); (try clear hk); (try clear hi); (try clear ho0)) | ((with_reducible refine gate_dst (N := 6) rfl ?_); refine box_event ?hg (N := 6) ?hd (cs := #[.string (⟨#[]⟩ : ByteArray), .string (⟨#[]⟩ : ByteArray), .slice none 0 0, .string (⟨#[]⟩ : ByteArray)]) (t := 24) ?hr ?_; (case hd => rfl); (case hg => rfl); (case hr => first | (go_simp; done) | (go_simp; rfl)); intro gb408 hg w11 hbox hb; have n0_ := Aside0.mk (Kd.R_below (by (with_reducible repeat (first | apply Kd.R_alloc | apply Kd.R_drewN | apply Kd.R_drew)); exact HO395.out) hb); have n1_ := Aside0.mk (Kd.R_below (by (with_reducible repeat (first | apply Kd.R_alloc | apply Kd.R_drewN | apply Kd.R_drew)); exact HO404.out) hb); have n2_ := Aside0.mk (blk_below (g := gb399) (o := .cells #[.string t391, .string t392, .slice Ao9 t393.length co9, .string t396] 24 (0, 0)) (by (with_reducible repeat (first | refine blk_drewN ?_ _ | refine blk_drew ?_ | refine blk_alloc ?_ _)); exact BK399.out) hb); have n3_ := Aside0.mk (below_step (by repeat (first | (with_reducible first | exact HB.out | apply below_alloc | apply pw_below_drewN | apply below_drew1 | refine below_set ?_ GE399.out) | exact HB.out)) hb); have n4_ := Aside0.mk (hbox); have n5_ := Aside0.mk ((by rw [hg]; exact (below_size (by repeat (first | (with_reducible first | exact HB.out | apply below_alloc | apply pw_below_drewN | apply below_drew1 | refine below_set ?_ GE399.out) | exact HB.out))) : w.heap.size ≤ gb408)); have n6_ := Aside0.mk ((by rw [hg]; exact (below_size (by repeat (first | (with_reducible first | exact HB.out | apply below_alloc | apply pw_below_drewN | apply below_drew1 | refine below_set ?_ GE399.out) | exact HB.out))) : w.heap.size ≤ gb408)); have n7_ := Aside0.mk ((by rw [hg]; exact Nat.ne_of_lt (blk_lt (g := gb399) (o := .cells #[.string t391, .string t392, .slice Ao9 t393.length co9, .string t396] 24 (0, 0)) (by (with_reducible repeat (first | refine blk_drewN ?_ _ | refine blk_drew ?_ | refine blk_alloc ?_ _)); exact BK399.out)) : gb399 ≠ gb408)); have n8_ := Aside0.mk ((by rw [hg]; exact Nat.ne_of_gt (blk_lt (g := gb399) (o := .cells #[.string t391, .string t392, .slice Ao9 t393.length co9, .string t396] 24 (0, 0)) (by (with_reducible repeat (first | refine blk_drewN ?_ _ | refine blk_drew ?_ | refine blk_alloc ?_ _)); exact BK399.out)) : gb408 ≠ gb399)); clear HO395; clear HO404; clear BK399; clear HB; have HO395 := n0_; have HO404 := n1_; have BK399 := n2_; have HB := n3_; have BK408 := n4_; have GW408 := n5_; have GE408 := n6_; have NB399_408 := n7_; have NB408_399 := n8_; clear n0_ n1_ n2_ n3_ n4_ n5_ n6_ n7_ n8_; clear hb hbox hg; have hnb12 := NB408_399.out; have hnc12 := NB399_408.out; have hcz13_0 : w11.cell? ⟨gb408, 0, none⟩ = some (.string (⟨#[]⟩ : ByteArray)) := (blk_cell BK408.out 0).trans rfl; have hcz13_1 : w11.cell? ⟨gb408, 1, none⟩ = some (.string (⟨#[]⟩ : ByteArray)) := (blk_cell BK408.out 1).trans rfl; have hcz13_2 : w11.cell? ⟨gb408, 2, none⟩ = some (.slice none 0 0) := (blk_cell BK408.out 2).trans rfl; have hcz13_3 : w11.cell? ⟨gb408, 3, none⟩ = some (.string (⟨#[]⟩ : ByteArray)) := (blk_cell BK408.out 3).trans rfl; have hfz13_0 := blk_frozen BK408.out 0; have hfz13_1 := blk_frozen BK408.out 1; have hfz13_2 := blk_frozen BK408.out 2; have hfz13_3 := blk_frozen BK408.out 3; obtain ⟨Ao14, co14, eo14⟩ := Kd.R_slice HO404.out; subst eo14) | ((with_reducible refine gate_callee (f := 9) rfl ?_); refine goesL_ (some 29) rfl rfl Tryz.func9 (by kernel_rfl) rfl #[.string a0] rfl (by (try simp only [List.map_toArray, List.map_cons, List.map_nil]); first | done | rfl | (simp only [List.length_drop, List.length_take]; rfl)) ?_; (with_reducible refine (wicketref15_ParseRequest.calls k a0 t409 t410 t411 t414 t415 t416 _ A4.out).mono ?_); rintro e w15 ⟨v412, rfl, ho0, hb⟩; refine ⟨_, rfl, ?_⟩; have n0_ := Aside0.mk (Kd.R_below (by (with_reducible repeat (first | apply Kd.R_alloc | apply Kd.R_drewN | apply Kd.R_drew)); exact (Kd.R_mono (Kd.R_far (p := ⟨gb408, 3, none⟩) (Kd.R_far (p := ⟨gb408, 2, none⟩) (Kd.R_far (p := ⟨gb408, 1, none⟩) (Kd.R_far (p := ⟨gb408, 0, none⟩) (Kd.R_types HO395.out BK408.out (by decide)) (fun _ hk => hk.2) (.string t400)) (fun _ hk => hk.2) (.string t401)) (fun _ hk => hk.2) (.slice Ao14 t402.length co14)) (fun _ hk => hk.2) (.string t405)) (fun _ h_ => h_.1))) hb); have n1_ := Aside0.mk (Kd.R_below (by (with_reducible repeat (first | apply Kd.R_alloc | apply Kd.R_drewN | apply Kd.R_drew)); exact (Kd.R_mono (Kd.R_far (p := ⟨gb408, 3, none⟩) (Kd.R_far (p := ⟨gb408, 2, none⟩) (Kd.R_far (p := ⟨gb408, 1, none⟩) (Kd.R_far (p := ⟨gb408, 0, none⟩) (Kd.R_types HO404.out BK408.out (by decide)) (fun _ hk => hk.2) (.string t400)) (fun _ hk => hk.2) (.string t401)) (fun _ hk => hk.2) (.slice Ao14 t402.length co14)) (fun _ hk => hk.2) (.string t405)) (fun _ h_ => h_.1))) hb); have n2_ := Aside0.mk (Kd.R_lower ho0 (below_size (by repeat (first | (with_reducible first | exact HB.out | apply below_alloc | apply pw_below_drewN | apply below_drew1 | refine below_set ?_ GE399.out | refine below_set ?_ GE408.out) | exact HB.out)))); have n3_ := Aside0.mk (blk_below (g := gb399) (o := .cells #[.string t391, .string t392, .slice Ao9 t393.length co9, .string t396] 24 (0, 0)) (by (with_reducible repeat (first | refine blk_drewN ?_ _ | refine blk_drew ?_ | refine blk_alloc ?_ _)); refine blk_far ?_ NB399_408.out _; (with_reducible repeat (first | refine blk_drewN ?_ _ | refine blk_drew ?_ | refine blk_alloc ?_ _)); refine blk_far ?_ NB399_408.out _; (with_reducible repeat (first | refine blk_drewN ?_ _ | refine blk_drew ?_ | refine blk_alloc ?_ _)); refine blk_far ?_ NB399_408.out _; (with_reducible repeat (first | refine blk_drewN ?_ _ | refine blk_drew ?_ | refine blk_alloc ?_ _)); refine blk_far ?_ NB399_408.out _; (with_reducible repeat (first | refine blk_drewN ?_ _ | refine blk_drew ?_ | refine blk_alloc ?_ _)); exact BK399.out) hb); have n4_ := Aside0.mk (blk_below (g := gb408) (o := .cells #[.string t400, .string t401, .slice Ao14 t402.length co14, .string t405] 24 (0, 0)) (by (with_reducible repeat (first | refine blk_drewN ?_ _ | refine blk_drew ?_ | refine blk_alloc ?_ _)); refine blk_put (cs := #[.string t400, .string t401, .slice Ao14 t402.length co14, .string (⟨#[]⟩ : ByteArray)]) ?_ 3 _ rfl; (with_reducible repeat (first | refine blk_drewN ?_ _ | refine blk_drew ?_ | refine blk_alloc ?_ _)); refine blk_put (cs := #[.string t400, .string t401, .slice none 0 0, .string (⟨#[]⟩ : ByteArray)]) ?_ 2 _ rfl; (with_reducible repeat (first | refine blk_drewN ?_ _ | refine blk_drew ?_ | refine blk_alloc ?_ _)); refine blk_put (cs := #[.string t400, .string (⟨#[]⟩ : ByteArray), .slice none 0 0, .string (⟨#[]⟩ : ByteArray)]) ?_ 1 _ rfl; (with_reducible repeat (first | refine blk_drewN ?_ _ | refine blk_drew ?_ | refine blk_alloc ?_ _)); refine blk_put (cs := #[.string (⟨#[]⟩ : ByteArray), .string (⟨#[]⟩ : ByteArray), .slice none 0 0, .string (⟨#[]⟩ : ByteArray)]) ?_ 0 _ rfl; (with_reducible repeat (first | refine blk_drewN ?_ _ | refine blk_drew ?_ | refine blk_alloc ?_ _)); exact BK408.out) hb); have n5_ := Aside0.mk (below_step (by repeat (first | (with_reducible first | exact HB.out | apply below_alloc | apply pw_below_drewN | apply below_drew1 | refine below_set ?_ GE399.out | refine below_set ?_ GE408.out) | exact HB.out)) hb); clear HO395; clear HO404; clear BK399; clear BK408; clear HB; have HO395 := n0_; have HO404 := n1_; have HO413 := n2_; have BK399 := n3_; have BK408 := n4_; have HB := n5_; clear n0_ n1_ n2_ n3_ n4_ n5_; (try clear hb); (try clear hb2); (try clear hk); (try clear hi); (try clear ho0)) | ((with_reducible refine gate_dst (N := 9) rfl ?_); refine box_event ?hg (N := 9) ?hd (cs := #[.string (⟨#[]⟩ : ByteArray), .string (⟨#[]⟩ : ByteArray), .slice none 0 0, .string (⟨#[]⟩ : ByteArray)]) (t := 30) ?hr ?_; (case hd => rfl); (case hg => rfl); (case hr => first | (go_simp; done) | (go_simp; rfl)); intro gb417 hg w16 hbox hb; have n0_ := Aside0.mk (Kd.R_below (by (with_reducible repeat (first | apply Kd.R_alloc | apply Kd.R_drewN | apply Kd.R_drew)); exact HO395.out) hb); have n1_ := Aside0.mk (Kd.R_below (by (with_reducible repeat (first | apply Kd.R_alloc | apply Kd.R_drewN | apply Kd.R_drew)); exact HO404.out) hb); have n2_ := Aside0.mk (Kd.R_below (by (with_reducible repeat (first | apply Kd.R_alloc | apply Kd.R_drewN | apply Kd.R_drew)); exact HO413.out) hb); have n3_ := Aside0.mk (blk_below (g := gb399) (o := .cells #[.string t391, .string t392, .slice Ao9 t393.length co9, .string t396] 24 (0, 0)) (by (with_reducible repeat (first | refine blk_drewN ?_ _ | refine blk_drew ?_ | refine blk_alloc ?_ _)); exact BK399.out) hb); have n4_ := Aside0.mk (blk_below (g := gb408) (o := .cells #[.string t400, .string t401, .slice Ao14 t402.length co14, .string t405] 24 (0, 0)) (by (with_reducible repeat (first | refine blk_drewN ?_ _ | refine blk_drew ?_ | refine blk_alloc ?_ _)); exact BK408.out) hb); have n5_ := Aside0.mk (below_step (by repeat (first | (with_reducible first | exact HB.out | apply below_alloc | apply pw_below_drewN | apply below_drew1 | refine below_set ?_ GE399.out | refine below_set ?_ GE408.out) | exact HB.out)) hb); have n6_ := Aside0.mk (hbox); have n7_ := Aside0.mk ((by rw [hg]; exact (below_size (by repeat (first | (with_reducible first | exact HB.out | apply below_alloc | apply pw_below_drewN | apply below_drew1 | refine below_set ?_ GE399.out | refine below_set ?_ GE408.out) | exact HB.out))) : w.heap.size ≤ gb417)); have n8_ := Aside0.mk ((by rw [hg]; exact (below_size (by repeat (first | (with_reducible first | exact HB.out | apply below_alloc | apply pw_below_drewN | apply below_drew1 | refine below_set ?_ GE399.out | refine below_set ?_ GE408.out) | exact HB.out))) : w.heap.size ≤ gb417)); have n9_ := Aside0.mk ((by rw [hg]; exact Nat.ne_of_lt (blk_lt (g := gb399) (o := .cells #[.string t391, .string t392, .slice Ao9 t393.length co9, .string t396] 24 (0, 0)) (by (with_reducible repeat (first | refine blk_drewN ?_ _ | refine blk_drew ?_ | refine blk_alloc ?_ _)); exact BK399.out)) : gb399 ≠ gb417)); have n10_ := Aside0.mk ((by rw [hg]; exact Nat.ne_of_gt (blk_lt (g := gb399) (o := .cells #[.string t391, .string t392, .slice Ao9 t393.length co9, .string t396] 24 (0, 0)) (by (with_reducible repeat (first | refine blk_drewN ?_ _ | refine blk_drew ?_ | refine blk_alloc ?_ _)); exact BK399.out)) : gb417 ≠ gb399)); have n11_ := Aside0.mk ((by rw [hg]; exact Nat.ne_of_lt (blk_lt (g := gb408) (o := .cells #[.string t400, .string t401, .slice Ao14 t402.length co14, .string t405] 24 (0, 0)) (by (with_reducible repeat (first | refine blk_drewN ?_ _ | refine blk_drew ?_ | refine blk_alloc ?_ _)); exact BK408.out)) : gb408 ≠ gb417)); have n12_ := Aside0.mk ((by rw [hg]; exact Nat.ne_of_gt (blk_lt (g := gb408) (o := .cells #[.string t400, .string t401, .slice Ao14 t402.length co14, .string t405] 24 (0, 0)) (by (with_reducible repeat (first | refine blk_drewN ?_ _ | refine blk_drew ?_ | refine blk_alloc ?_ _)); exact BK408.out)) : gb417 ≠ gb408)); clear HO395; clear HO404; clear HO413; clear BK399; clear BK408; clear HB; have HO395 := n0_; have HO404 := n1_; have HO413 := n2_; have BK399 := n3_; have BK408 := n4_; have HB := n5_; have BK417 := n6_; have GW417 := n7_; have GE417 := n8_; have NB399_417 := n9_; have NB417_399 := n10_; have NB408_417 := n11_; have NB417_408 := n12_; clear n0_ n1_ n2_ n3_ n4_ n5_ n6_ n7_ n8_ n9_ n10_ n11_ n12_; clear hb hbox hg; have hnb17 := NB417_399.out; have hnc17 := NB399_417.out; have hnb18 := NB417_408.out; have hnc18 := NB408_417.out; have hcz19_0 : w16.cell? ⟨gb417, 0, none⟩ = some (.string (⟨#[]⟩ : ByteArray)) := (blk_cell BK417.out 0).trans rfl; have hcz19_1 : w16.cell? ⟨gb417, 1, none⟩ = some (.string (⟨#[]⟩ : ByteArray)) := (blk_cell BK417.out 1).trans rfl; have hcz19_2 : w16.cell? ⟨gb417, 2, none⟩ = some (.slice none 0 0) := (blk_cell BK417.out 2).trans rfl; have hcz19_3 : w16.cell? ⟨gb417, 3, none⟩ = some (.string (⟨#[]⟩ : ByteArray)) := (blk_cell BK417.out 3).trans rfl; have hfz19_0 := blk_frozen BK417.out 0; have hfz19_1 := blk_frozen BK417.out 1; have hfz19_2 := blk_frozen BK417.out 2; have hfz19_3 := blk_frozen BK417.out 3; obtain ⟨Ao20, co20, eo20⟩ := Kd.R_slice HO413.out; subst eo20))
  (try simp only [Act.put, List.setIfInBounds_toArray, List.set_cons_zero, List.set_cons_succ])
  go_cut [64] (fun v64 wc => ∃ (kq : Nat) (x64_4 : Bool), v64 = .bool x64_4 ∧ Aside0 (wicketlaw15_HttpRequests.j0 kq a0 t415 x64_4 t391 t392 t393 t396 t400 t401 t402 t405 t409 t410 t411 t414 = some r) ∧ Aside0 (kq ≤ k) ∧ Aside0 (Kd.R k80 80 wc w.heap.size (fun k_ => some k_ ≠ ((.slice Ao14 t402.length co14) : Value).ownBlock) (.slice Ao9 t393.length co9) t393) ∧ Aside0 (Kd.R k80 80 wc w.heap.size (fun k_ => some k_ ≠ ((.slice Ao9 t393.length co9) : Value).ownBlock) (.slice Ao14 t402.length co14) t402) ∧ Aside0 (Kd.R k84 84 wc w.heap.size (fun _ => True) (.slice Ao20 t411.length co20) t411) ∧ Aside0 (wc.heap[gb399]? = some (.cells #[.string t391, .string t392, (.slice Ao9 t393.length co9), .string t396] 24 (0, 0))) ∧ Aside0 (wc.heap[gb408]? = some (.cells #[.string t400, .string t401, (.slice Ao14 t402.length co14), .string t405] 24 (0, 0))) ∧ Aside0 (wc.heap[gb417]? = some (.cells #[.string t409, .string t410, (.slice Ao20 t411.length co20), .string t414] 30 (0, 0))) ∧ Aside0 (Below w.heap.size w wc))
  case first =>
    have H := HC5.out
    clear HC5
    replace H := Option.bind_eq_some_iff.mp H
    obtain ⟨t418, A210, H⟩ := H
    obtain rfl : t397 = t418 := Option.some.inj A210
    replace H : (if t397 = t415 then ((wicketlaw15_num.f t406).bind fun t419 => (if t419 = t415 then (if t398 = t416 then (if t407 = t416 then ((wicketlaw15_request.f k t391 t392 t393 t396 t409 t410 t411 t414).bind fun t420 => (if t420 = true then ((wicketlaw15_request.f k t400 t401 t402 t405 t409 t410 t411 t414).bind fun t421 => (wicketlaw15_HttpRequests.j0 k a0 t415 (!t421) t391 t392 t393 t396 t400 t401 t402 t405 t409 t410 t411 t414)) else (wicketlaw15_HttpRequests.j0 k a0 t415 true t391 t392 t393 t396 t400 t401 t402 t405 t409 t410 t411 t414))) else (wicketlaw15_HttpRequests.j0 k a0 t415 true t391 t392 t393 t396 t400 t401 t402 t405 t409 t410 t411 t414)) else (wicketlaw15_HttpRequests.j0 k a0 t415 true t391 t392 t393 t396 t400 t401 t402 t405 t409 t410 t411 t414)) else (wicketlaw15_HttpRequests.j0 k a0 t415 true t391 t392 t393 t396 t400 t401 t402 t405 t409 t410 t411 t414))) else (wicketlaw15_HttpRequests.j0 k a0 t415 true t391 t392 t393 t396 t400 t401 t402 t405 t409 t410 t411 t414)) = some r := H
    have A21 := Aside0.mk A210
    clear A210
    by_cases c22 : t397 = t415
    · rw [if_pos c22] at H
      have c22b0 : (t397 == t415) = true := beq_iff_eq.mpr c22
      have c22b1 : (t397 != t415) = false := bne_eq_false_iff_eq.mpr c22
      clear c22
      (first | rw [c22b0] | (simp only [i64_w, i32_w]; rw [c22b0]) | skip)
      replace H := Option.bind_eq_some_iff.mp H
      obtain ⟨t419, A230, H⟩ := H
      obtain rfl : t406 = t419 := Option.some.inj A230
      replace H : (if t406 = t415 then (if t398 = t416 then (if t407 = t416 then ((wicketlaw15_request.f k t391 t392 t393 t396 t409 t410 t411 t414).bind fun t420 => (if t420 = true then ((wicketlaw15_request.f k t400 t401 t402 t405 t409 t410 t411 t414).bind fun t421 => (wicketlaw15_HttpRequests.j0 k a0 t415 (!t421) t391 t392 t393 t396 t400 t401 t402 t405 t409 t410 t411 t414)) else (wicketlaw15_HttpRequests.j0 k a0 t415 true t391 t392 t393 t396 t400 t401 t402 t405 t409 t410 t411 t414))) else (wicketlaw15_HttpRequests.j0 k a0 t415 true t391 t392 t393 t396 t400 t401 t402 t405 t409 t410 t411 t414)) else (wicketlaw15_HttpRequests.j0 k a0 t415 true t391 t392 t393 t396 t400 t401 t402 t405 t409 t410 t411 t414)) else (wicketlaw15_HttpRequests.j0 k a0 t415 true t391 t392 t393 t396 t400 t401 t402 t405 t409 t410 t411 t414)) = some r := H
      have A23 := Aside0.mk A230
      clear A230
      by_cases c24 : t406 = t415
      · rw [if_pos c24] at H
        have c24b0 : (t406 == t415) = true := beq_iff_eq.mpr c24
        have c24b1 : (t406 != t415) = false := bne_eq_false_iff_eq.mpr c24
        clear c24
        by_cases c25 : t398 = t416
        · rw [if_pos c25] at H
          have c25b0 : (t398 == t416) = true := beq_iff_eq.mpr c25
          have c25b1 : (t398 != t416) = false := bne_eq_false_iff_eq.mpr c25
          clear c25
          by_cases c26 : t407 = t416
          · rw [if_pos c26] at H
            have c26b0 : (t407 == t416) = true := beq_iff_eq.mpr c26
            have c26b1 : (t407 != t416) = false := bne_eq_false_iff_eq.mpr c26
            clear c26
            replace H := Option.bind_eq_some_iff.mp H
            obtain ⟨t420, A270, H⟩ := H
            replace H : (if t420 = true then ((wicketlaw15_request.f k t400 t401 t402 t405 t409 t410 t411 t414).bind fun t421 => (wicketlaw15_HttpRequests.j0 k a0 t415 (!t421) t391 t392 t393 t396 t400 t401 t402 t405 t409 t410 t411 t414)) else (wicketlaw15_HttpRequests.j0 k a0 t415 true t391 t392 t393 t396 t400 t401 t402 t405 t409 t410 t411 t414)) = some r := H
            have A27 := Aside0.mk A270
            clear A270
            by_cases c28 : t420 = true
            · subst c28
              have H1 : ((wicketlaw15_request.f k t400 t401 t402 t405 t409 t410 t411 t414).bind fun t421 => (wicketlaw15_HttpRequests.j0 k a0 t415 (!t421) t391 t392 t393 t396 t400 t401 t402 t405 t409 t410 t411 t414)) = some r := by rw [if_pos rfl] at H; exact H
              clear H
              have H := H1
              clear H1
              replace H := Option.bind_eq_some_iff.mp H
              obtain ⟨t421, A290, H⟩ := H
              replace H : (wicketlaw15_HttpRequests.j0 k a0 t415 (!t421) t391 t392 t393 t396 t400 t401 t402 t405 t409 t410 t411 t414) = some r := H
              have A29 := Aside0.mk A290
              clear A290
              have H' := Aside0.mk H
              clear H
              go_wp2_with (first | ((with_reducible refine gate_callee (f := 10) rfl ?_); refine goesL_ (some 34) rfl rfl Tryz.func10 (by kernel_rfl) rfl #[.int .i64 t397] rfl (by (try simp only [List.map_toArray, List.map_cons, List.map_nil]); first | done | rfl | (simp only [List.length_drop, List.length_take]; rfl)) ?_; (with_reducible refine (wicketlaw15_num.calls t397 t397 _ A21.out).mono ?_); rintro e w' ⟨rfl, ⟨nd, rfl⟩⟩; refine ⟨_, rfl, ?_⟩) | (go_at_call 10; (with_reducible refine (wicketlaw15_num.calls t406 t406 _ A23.out).mono ?_); rintro e w' ⟨rfl, ⟨nd, rfl⟩⟩; have hnb30 := NB399_408.out; have hnc30 := NB408_399.out; have hnb31 := NB399_417.out; have hnc31 := NB417_399.out; have hcz32_0 : w16.cell? ⟨gb399, 0, none⟩ = some (.string t391) := (blk_cell BK399.out 0).trans rfl; have hcz32_1 : w16.cell? ⟨gb399, 1, none⟩ = some (.string t392) := (blk_cell BK399.out 1).trans rfl; have hcz32_2 : w16.cell? ⟨gb399, 2, none⟩ = some (.slice Ao9 t393.length co9) := (blk_cell BK399.out 2).trans rfl; have hcz32_3 : w16.cell? ⟨gb399, 3, none⟩ = some (.string t396) := (blk_cell BK399.out 3).trans rfl; have hfz32_0 := blk_frozen BK399.out 0; have hfz32_1 := blk_frozen BK399.out 1; have hfz32_2 := blk_frozen BK399.out 2; have hfz32_3 := blk_frozen BK399.out 3; have hnb33 := NB417_408.out; have hnc33 := NB408_417.out; have hcz34_0 : w16.cell? ⟨gb417, 0, none⟩ = some (.string (⟨#[]⟩ : ByteArray)) := (blk_cell BK417.out 0).trans rfl; have hcz34_1 : w16.cell? ⟨gb417, 1, none⟩ = some (.string (⟨#[]⟩ : ByteArray)) := (blk_cell BK417.out 1).trans rfl; have hcz34_2 : w16.cell? ⟨gb417, 2, none⟩ = some (.slice none 0 0) := (blk_cell BK417.out 2).trans rfl; have hcz34_3 : w16.cell? ⟨gb417, 3, none⟩ = some (.string (⟨#[]⟩ : ByteArray)) := (blk_cell BK417.out 3).trans rfl; have hfz34_0 := blk_frozen BK417.out 0; have hfz34_1 := blk_frozen BK417.out 1; have hfz34_2 := blk_frozen BK417.out 2; have hfz34_3 := blk_frozen BK417.out 3) | (go_at_call 11; (with_reducible refine (wicketlaw15_request.calls k t391 t392 _ _ t393 t396 t409 t410 _ _ t411 t414 true _ ?side1 ?side2 ?side3 ?side4 A27.out).mono ?_); (case side1 => refine (Kd.R_reads' (e := 80) (base := w.heap.size) (ok := fun k_ => (True ∧ some k_ ≠ (.slice Ao14 t402.length co14 : Value).ownBlock)) (n := t393.length) (c := co9) ?_).2.2; exact (by (with_reducible repeat (first | apply Kd.R_alloc | apply Kd.R_drewN | apply Kd.R_drew)); exact (Kd.R_mono (Kd.R_far (p := ⟨gb417, 3, none⟩) (Kd.R_far (p := ⟨gb417, 2, none⟩) (Kd.R_far (p := ⟨gb417, 1, none⟩) (Kd.R_far (p := ⟨gb417, 0, none⟩) (Kd.R_types HO395.out BK417.out (by decide)) (fun _ hk => hk.2) (.string t409)) (fun _ hk => hk.2) (.string t410)) (fun _ hk => hk.2) (.slice Ao20 t411.length co20)) (fun _ hk => hk.2) (.string t414)) (fun _ h_ => h_.1)))); (case side2 => exact (Kd.R_reads' HO395.out).2.1); (case side3 => refine (Kd.R_reads' (e := 84) (base := w.heap.size) (ok := fun k_ => True) (n := t411.length) (c := co20) ?_).2.2; exact (by (with_reducible repeat (first | apply Kd.R_alloc | apply Kd.R_drewN | apply Kd.R_drew)); exact (Kd.R_mono (Kd.R_far (p := ⟨gb417, 3, none⟩) (Kd.R_far (p := ⟨gb417, 2, none⟩) (Kd.R_far (p := ⟨gb417, 1, none⟩) (Kd.R_far (p := ⟨gb417, 0, none⟩) (Kd.R_types HO413.out BK417.out (by decide)) (fun _ hk => hk.2) (.string t409)) (fun _ hk => hk.2) (.string t410)) (fun _ hk => hk.2) (.slice Ao20 t411.length co20)) (fun _ hk => hk.2) (.string t414)) (fun _ h_ => h_.1)))); (case side4 => exact (Kd.R_reads' HO413.out).2.1); rintro e w35 ⟨rfl, hb⟩; have n0_ := Aside0.mk (Kd.R_below (by (with_reducible repeat (first | apply Kd.R_alloc | apply Kd.R_drewN | apply Kd.R_drew)); exact (Kd.R_mono (Kd.R_far (p := ⟨gb417, 3, none⟩) (Kd.R_far (p := ⟨gb417, 2, none⟩) (Kd.R_far (p := ⟨gb417, 1, none⟩) (Kd.R_far (p := ⟨gb417, 0, none⟩) (Kd.R_types HO395.out BK417.out (by decide)) (fun _ hk => hk.2) (.string t409)) (fun _ hk => hk.2) (.string t410)) (fun _ hk => hk.2) (.slice Ao20 t411.length co20)) (fun _ hk => hk.2) (.string t414)) (fun _ h_ => h_.1))) hb); have n1_ := Aside0.mk (Kd.R_below (by (with_reducible repeat (first | apply Kd.R_alloc | apply Kd.R_drewN | apply Kd.R_drew)); exact (Kd.R_mono (Kd.R_far (p := ⟨gb417, 3, none⟩) (Kd.R_far (p := ⟨gb417, 2, none⟩) (Kd.R_far (p := ⟨gb417, 1, none⟩) (Kd.R_far (p := ⟨gb417, 0, none⟩) (Kd.R_types HO404.out BK417.out (by decide)) (fun _ hk => hk.2) (.string t409)) (fun _ hk => hk.2) (.string t410)) (fun _ hk => hk.2) (.slice Ao20 t411.length co20)) (fun _ hk => hk.2) (.string t414)) (fun _ h_ => h_.1))) hb); have n2_ := Aside0.mk (Kd.R_below (by (with_reducible repeat (first | apply Kd.R_alloc | apply Kd.R_drewN | apply Kd.R_drew)); exact (Kd.R_mono (Kd.R_far (p := ⟨gb417, 3, none⟩) (Kd.R_far (p := ⟨gb417, 2, none⟩) (Kd.R_far (p := ⟨gb417, 1, none⟩) (Kd.R_far (p := ⟨gb417, 0, none⟩) (Kd.R_types HO413.out BK417.out (by decide)) (fun _ hk => hk.2) (.string t409)) (fun _ hk => hk.2) (.string t410)) (fun _ hk => hk.2) (.slice Ao20 t411.length co20)) (fun _ hk => hk.2) (.string t414)) (fun _ h_ => h_.1))) hb); have n3_ := Aside0.mk (blk_below (g := gb399) (o := .cells #[.string t391, .string t392, .slice Ao9 t393.length co9, .string t396] 24 (0, 0)) (by (with_reducible repeat (first | refine blk_drewN ?_ _ | refine blk_drew ?_ | refine blk_alloc ?_ _)); refine blk_far ?_ NB399_417.out _; (with_reducible repeat (first | refine blk_drewN ?_ _ | refine blk_drew ?_ | refine blk_alloc ?_ _)); refine blk_far ?_ NB399_417.out _; (with_reducible repeat (first | refine blk_drewN ?_ _ | refine blk_drew ?_ | refine blk_alloc ?_ _)); refine blk_far ?_ NB399_417.out _; (with_reducible repeat (first | refine blk_drewN ?_ _ | refine blk_drew ?_ | refine blk_alloc ?_ _)); refine blk_far ?_ NB399_417.out _; (with_reducible repeat (first | refine blk_drewN ?_ _ | refine blk_drew ?_ | refine blk_alloc ?_ _)); exact BK399.out) hb); have n4_ := Aside0.mk (blk_below (g := gb408) (o := .cells #[.string t400, .string t401, .slice Ao14 t402.length co14, .string t405] 24 (0, 0)) (by (with_reducible repeat (first | refine blk_drewN ?_ _ | refine blk_drew ?_ | refine blk_alloc ?_ _)); refine blk_far ?_ NB408_417.out _; (with_reducible repeat (first | refine blk_drewN ?_ _ | refine blk_drew ?_ | refine blk_alloc ?_ _)); refine blk_far ?_ NB408_417.out _; (with_reducible repeat (first | refine blk_drewN ?_ _ | refine blk_drew ?_ | refine blk_alloc ?_ _)); refine blk_far ?_ NB408_417.out _; (with_reducible repeat (first | refine blk_drewN ?_ _ | refine blk_drew ?_ | refine blk_alloc ?_ _)); refine blk_far ?_ NB408_417.out _; (with_reducible repeat (first | refine blk_drewN ?_ _ | refine blk_drew ?_ | refine blk_alloc ?_ _)); exact BK408.out) hb); have n5_ := Aside0.mk (blk_below (g := gb417) (o := .cells #[.string t409, .string t410, .slice Ao20 t411.length co20, .string t414] 30 (0, 0)) (by (with_reducible repeat (first | refine blk_drewN ?_ _ | refine blk_drew ?_ | refine blk_alloc ?_ _)); refine blk_put (cs := #[.string t409, .string t410, .slice Ao20 t411.length co20, .string (⟨#[]⟩ : ByteArray)]) ?_ 3 _ rfl; (with_reducible repeat (first | refine blk_drewN ?_ _ | refine blk_drew ?_ | refine blk_alloc ?_ _)); refine blk_put (cs := #[.string t409, .string t410, .slice none 0 0, .string (⟨#[]⟩ : ByteArray)]) ?_ 2 _ rfl; (with_reducible repeat (first | refine blk_drewN ?_ _ | refine blk_drew ?_ | refine blk_alloc ?_ _)); refine blk_put (cs := #[.string t409, .string (⟨#[]⟩ : ByteArray), .slice none 0 0, .string (⟨#[]⟩ : ByteArray)]) ?_ 1 _ rfl; (with_reducible repeat (first | refine blk_drewN ?_ _ | refine blk_drew ?_ | refine blk_alloc ?_ _)); refine blk_put (cs := #[.string (⟨#[]⟩ : ByteArray), .string (⟨#[]⟩ : ByteArray), .slice none 0 0, .string (⟨#[]⟩ : ByteArray)]) ?_ 0 _ rfl; (with_reducible repeat (first | refine blk_drewN ?_ _ | refine blk_drew ?_ | refine blk_alloc ?_ _)); exact BK417.out) hb); have n6_ := Aside0.mk (below_step (by repeat (first | (with_reducible first | exact HB.out | apply below_alloc | apply pw_below_drewN | apply below_drew1 | refine below_set ?_ GE399.out | refine below_set ?_ GE408.out | refine below_set ?_ GE417.out) | exact HB.out)) hb); clear HO395; clear HO404; clear HO413; clear BK399; clear BK408; clear BK417; clear HB; have HO395 := n0_; have HO404 := n1_; have HO413 := n2_; have BK399 := n3_; have BK408 := n4_; have BK417 := n5_; have HB := n6_; clear n0_ n1_ n2_ n3_ n4_ n5_ n6_; (try clear hb); (try clear hb2); (try clear hk); (try clear hi); have hcz36_0 : w35.cell? ⟨gb408, 0, none⟩ = some (.string t400) := (blk_cell BK408.out 0).trans rfl; have hcz36_1 : w35.cell? ⟨gb408, 1, none⟩ = some (.string t401) := (blk_cell BK408.out 1).trans rfl; have hcz36_2 : w35.cell? ⟨gb408, 2, none⟩ = some (.slice Ao14 t402.length co14) := (blk_cell BK408.out 2).trans rfl; have hcz36_3 : w35.cell? ⟨gb408, 3, none⟩ = some (.string t405) := (blk_cell BK408.out 3).trans rfl; have hfz36_0 := blk_frozen BK408.out 0; have hfz36_1 := blk_frozen BK408.out 1; have hfz36_2 := blk_frozen BK408.out 2; have hfz36_3 := blk_frozen BK408.out 3; have hcz37_0 : w35.cell? ⟨gb417, 0, none⟩ = some (.string t409) := (blk_cell BK417.out 0).trans rfl; have hcz37_1 : w35.cell? ⟨gb417, 1, none⟩ = some (.string t410) := (blk_cell BK417.out 1).trans rfl; have hcz37_2 : w35.cell? ⟨gb417, 2, none⟩ = some (.slice Ao20 t411.length co20) := (blk_cell BK417.out 2).trans rfl; have hcz37_3 : w35.cell? ⟨gb417, 3, none⟩ = some (.string t414) := (blk_cell BK417.out 3).trans rfl; have hfz37_0 := blk_frozen BK417.out 0; have hfz37_1 := blk_frozen BK417.out 1; have hfz37_2 := blk_frozen BK417.out 2; have hfz37_3 := blk_frozen BK417.out 3) | (go_at_call 11; (with_reducible refine (wicketlaw15_request.calls k t400 t401 _ _ t402 t405 t409 t410 _ _ t411 t414 t421 _ ?side1 ?side2 ?side3 ?side4 A29.out).mono ?_); (case side1 => repeat (first | exact (Kd.R_reads' HO404.out).2.2 | (with_reducible refine Kd.C_alloc ?_ _) | (with_reducible refine Kd.C_drewN ?_ _) | (with_reducible refine Kd.C_drew ?_))); (case side2 => exact (Kd.R_reads' HO404.out).2.1); (case side3 => repeat (first | exact (Kd.R_reads' HO413.out).2.2 | (with_reducible refine Kd.C_alloc ?_ _) | (with_reducible refine Kd.C_drewN ?_ _) | (with_reducible refine Kd.C_drew ?_))); (case side4 => exact (Kd.R_reads' HO413.out).2.1); rintro e w38 ⟨rfl, hb⟩; have n0_ := Aside0.mk (Kd.R_below (by (with_reducible repeat (first | apply Kd.R_alloc | apply Kd.R_drewN | apply Kd.R_drew)); exact HO395.out) hb); have n1_ := Aside0.mk (Kd.R_below (by (with_reducible repeat (first | apply Kd.R_alloc | apply Kd.R_drewN | apply Kd.R_drew)); exact HO404.out) hb); have n2_ := Aside0.mk (Kd.R_below (by (with_reducible repeat (first | apply Kd.R_alloc | apply Kd.R_drewN | apply Kd.R_drew)); exact HO413.out) hb); have n3_ := Aside0.mk (blk_below (g := gb399) (o := .cells #[.string t391, .string t392, .slice Ao9 t393.length co9, .string t396] 24 (0, 0)) (by (with_reducible repeat (first | refine blk_drewN ?_ _ | refine blk_drew ?_ | refine blk_alloc ?_ _)); exact BK399.out) hb); have n4_ := Aside0.mk (blk_below (g := gb408) (o := .cells #[.string t400, .string t401, .slice Ao14 t402.length co14, .string t405] 24 (0, 0)) (by (with_reducible repeat (first | refine blk_drewN ?_ _ | refine blk_drew ?_ | refine blk_alloc ?_ _)); exact BK408.out) hb); have n5_ := Aside0.mk (blk_below (g := gb417) (o := .cells #[.string t409, .string t410, .slice Ao20 t411.length co20, .string t414] 30 (0, 0)) (by (with_reducible repeat (first | refine blk_drewN ?_ _ | refine blk_drew ?_ | refine blk_alloc ?_ _)); exact BK417.out) hb); have n6_ := Aside0.mk (below_step (by repeat (first | (with_reducible first | exact HB.out | apply below_alloc | apply pw_below_drewN | apply below_drew1 | refine below_set ?_ GE399.out | refine below_set ?_ GE408.out | refine below_set ?_ GE417.out) | exact HB.out)) hb); clear HO395; clear HO404; clear HO413; clear BK399; clear BK408; clear BK417; clear HB; have HO395 := n0_; have HO404 := n1_; have HO413 := n2_; have BK399 := n3_; have BK408 := n4_; have BK417 := n5_; have HB := n6_; clear n0_ n1_ n2_ n3_ n4_ n5_ n6_; (try clear hb); (try clear hb2); (try clear hk); (try clear hi)))
              go_meet
              case rel => exact ⟨_, (!t421), (by first | rfl | (simp; done) | (simp [*]; done)), H', ⟨by first | omega | exact Nat.le_refl _⟩, ⟨by (with_reducible repeat (first | apply Kd.R_alloc | apply Kd.R_drewN | apply Kd.R_drew)); exact Kd.R_mono HO395.out (fun _ hk => hk.2)⟩, ⟨by (with_reducible repeat (first | apply Kd.R_alloc | apply Kd.R_drewN | apply Kd.R_drew)); exact Kd.R_mono HO404.out (fun _ hk => hk.2)⟩, ⟨by (with_reducible repeat (first | apply Kd.R_alloc | apply Kd.R_drewN | apply Kd.R_drew)); exact HO413.out⟩, ⟨by (with_reducible repeat (first | refine blk_drewN ?_ _ | refine blk_drew ?_ | refine blk_alloc ?_ _)); exact BK399.out⟩, ⟨by (with_reducible repeat (first | refine blk_drewN ?_ _ | refine blk_drew ?_ | refine blk_alloc ?_ _)); exact BK408.out⟩, ⟨by (with_reducible repeat (first | refine blk_drewN ?_ _ | refine blk_drew ?_ | refine blk_alloc ?_ _)); exact BK417.out⟩, ⟨by repeat (first | (with_reducible first | exact HB.out | apply below_alloc | apply pw_below_drewN | apply below_drew1 | refine below_set ?_ GE399.out | refine below_set ?_ GE408.out | refine below_set ?_ GE417.out) | exact HB.out)⟩⟩
            · replace c28 := Bool.eq_false_iff.mpr c28
              subst c28
              have H1 : (wicketlaw15_HttpRequests.j0 k a0 t415 true t391 t392 t393 t396 t400 t401 t402 t405 t409 t410 t411 t414) = some r := by rw [if_neg (show ¬ (false = true) by decide)] at H; exact H
              clear H
              have H := H1
              clear H1
              have H' := Aside0.mk H
              clear H
              go_wp2_with (first | ((with_reducible refine gate_callee (f := 10) rfl ?_); refine goesL_ (some 34) rfl rfl Tryz.func10 (by kernel_rfl) rfl #[.int .i64 t397] rfl (by (try simp only [List.map_toArray, List.map_cons, List.map_nil]); first | done | rfl | (simp only [List.length_drop, List.length_take]; rfl)) ?_; (with_reducible refine (wicketlaw15_num.calls t397 t397 _ A21.out).mono ?_); rintro e w' ⟨rfl, ⟨nd, rfl⟩⟩; refine ⟨_, rfl, ?_⟩) | (go_at_call 10; (with_reducible refine (wicketlaw15_num.calls t406 t406 _ A23.out).mono ?_); rintro e w' ⟨rfl, ⟨nd, rfl⟩⟩; have hnb39 := NB399_408.out; have hnc39 := NB408_399.out; have hnb40 := NB399_417.out; have hnc40 := NB417_399.out; have hcz41_0 : w16.cell? ⟨gb399, 0, none⟩ = some (.string t391) := (blk_cell BK399.out 0).trans rfl; have hcz41_1 : w16.cell? ⟨gb399, 1, none⟩ = some (.string t392) := (blk_cell BK399.out 1).trans rfl; have hcz41_2 : w16.cell? ⟨gb399, 2, none⟩ = some (.slice Ao9 t393.length co9) := (blk_cell BK399.out 2).trans rfl; have hcz41_3 : w16.cell? ⟨gb399, 3, none⟩ = some (.string t396) := (blk_cell BK399.out 3).trans rfl; have hfz41_0 := blk_frozen BK399.out 0; have hfz41_1 := blk_frozen BK399.out 1; have hfz41_2 := blk_frozen BK399.out 2; have hfz41_3 := blk_frozen BK399.out 3; have hnb42 := NB417_408.out; have hnc42 := NB408_417.out; have hcz43_0 : w16.cell? ⟨gb417, 0, none⟩ = some (.string (⟨#[]⟩ : ByteArray)) := (blk_cell BK417.out 0).trans rfl; have hcz43_1 : w16.cell? ⟨gb417, 1, none⟩ = some (.string (⟨#[]⟩ : ByteArray)) := (blk_cell BK417.out 1).trans rfl; have hcz43_2 : w16.cell? ⟨gb417, 2, none⟩ = some (.slice none 0 0) := (blk_cell BK417.out 2).trans rfl; have hcz43_3 : w16.cell? ⟨gb417, 3, none⟩ = some (.string (⟨#[]⟩ : ByteArray)) := (blk_cell BK417.out 3).trans rfl; have hfz43_0 := blk_frozen BK417.out 0; have hfz43_1 := blk_frozen BK417.out 1; have hfz43_2 := blk_frozen BK417.out 2; have hfz43_3 := blk_frozen BK417.out 3) | (go_at_call 11; (with_reducible refine (wicketlaw15_request.calls k t391 t392 _ _ t393 t396 t409 t410 _ _ t411 t414 false _ ?side1 ?side2 ?side3 ?side4 A27.out).mono ?_); (case side1 => refine (Kd.R_reads' (e := 80) (base := w.heap.size) (ok := fun k_ => (True ∧ some k_ ≠ (.slice Ao14 t402.length co14 : Value).ownBlock)) (n := t393.length) (c := co9) ?_).2.2; exact (by (with_reducible repeat (first | apply Kd.R_alloc | apply Kd.R_drewN | apply Kd.R_drew)); exact (Kd.R_mono (Kd.R_far (p := ⟨gb417, 3, none⟩) (Kd.R_far (p := ⟨gb417, 2, none⟩) (Kd.R_far (p := ⟨gb417, 1, none⟩) (Kd.R_far (p := ⟨gb417, 0, none⟩) (Kd.R_types HO395.out BK417.out (by decide)) (fun _ hk => hk.2) (.string t409)) (fun _ hk => hk.2) (.string t410)) (fun _ hk => hk.2) (.slice Ao20 t411.length co20)) (fun _ hk => hk.2) (.string t414)) (fun _ h_ => h_.1)))); (case side2 => exact (Kd.R_reads' HO395.out).2.1); (case side3 => refine (Kd.R_reads' (e := 84) (base := w.heap.size) (ok := fun k_ => True) (n := t411.length) (c := co20) ?_).2.2; exact (by (with_reducible repeat (first | apply Kd.R_alloc | apply Kd.R_drewN | apply Kd.R_drew)); exact (Kd.R_mono (Kd.R_far (p := ⟨gb417, 3, none⟩) (Kd.R_far (p := ⟨gb417, 2, none⟩) (Kd.R_far (p := ⟨gb417, 1, none⟩) (Kd.R_far (p := ⟨gb417, 0, none⟩) (Kd.R_types HO413.out BK417.out (by decide)) (fun _ hk => hk.2) (.string t409)) (fun _ hk => hk.2) (.string t410)) (fun _ hk => hk.2) (.slice Ao20 t411.length co20)) (fun _ hk => hk.2) (.string t414)) (fun _ h_ => h_.1)))); (case side4 => exact (Kd.R_reads' HO413.out).2.1); rintro e w44 ⟨rfl, hb⟩; have n0_ := Aside0.mk (Kd.R_below (by (with_reducible repeat (first | apply Kd.R_alloc | apply Kd.R_drewN | apply Kd.R_drew)); exact (Kd.R_mono (Kd.R_far (p := ⟨gb417, 3, none⟩) (Kd.R_far (p := ⟨gb417, 2, none⟩) (Kd.R_far (p := ⟨gb417, 1, none⟩) (Kd.R_far (p := ⟨gb417, 0, none⟩) (Kd.R_types HO395.out BK417.out (by decide)) (fun _ hk => hk.2) (.string t409)) (fun _ hk => hk.2) (.string t410)) (fun _ hk => hk.2) (.slice Ao20 t411.length co20)) (fun _ hk => hk.2) (.string t414)) (fun _ h_ => h_.1))) hb); have n1_ := Aside0.mk (Kd.R_below (by (with_reducible repeat (first | apply Kd.R_alloc | apply Kd.R_drewN | apply Kd.R_drew)); exact (Kd.R_mono (Kd.R_far (p := ⟨gb417, 3, none⟩) (Kd.R_far (p := ⟨gb417, 2, none⟩) (Kd.R_far (p := ⟨gb417, 1, none⟩) (Kd.R_far (p := ⟨gb417, 0, none⟩) (Kd.R_types HO404.out BK417.out (by decide)) (fun _ hk => hk.2) (.string t409)) (fun _ hk => hk.2) (.string t410)) (fun _ hk => hk.2) (.slice Ao20 t411.length co20)) (fun _ hk => hk.2) (.string t414)) (fun _ h_ => h_.1))) hb); have n2_ := Aside0.mk (Kd.R_below (by (with_reducible repeat (first | apply Kd.R_alloc | apply Kd.R_drewN | apply Kd.R_drew)); exact (Kd.R_mono (Kd.R_far (p := ⟨gb417, 3, none⟩) (Kd.R_far (p := ⟨gb417, 2, none⟩) (Kd.R_far (p := ⟨gb417, 1, none⟩) (Kd.R_far (p := ⟨gb417, 0, none⟩) (Kd.R_types HO413.out BK417.out (by decide)) (fun _ hk => hk.2) (.string t409)) (fun _ hk => hk.2) (.string t410)) (fun _ hk => hk.2) (.slice Ao20 t411.length co20)) (fun _ hk => hk.2) (.string t414)) (fun _ h_ => h_.1))) hb); have n3_ := Aside0.mk (blk_below (g := gb399) (o := .cells #[.string t391, .string t392, .slice Ao9 t393.length co9, .string t396] 24 (0, 0)) (by (with_reducible repeat (first | refine blk_drewN ?_ _ | refine blk_drew ?_ | refine blk_alloc ?_ _)); refine blk_far ?_ NB399_417.out _; (with_reducible repeat (first | refine blk_drewN ?_ _ | refine blk_drew ?_ | refine blk_alloc ?_ _)); refine blk_far ?_ NB399_417.out _; (with_reducible repeat (first | refine blk_drewN ?_ _ | refine blk_drew ?_ | refine blk_alloc ?_ _)); refine blk_far ?_ NB399_417.out _; (with_reducible repeat (first | refine blk_drewN ?_ _ | refine blk_drew ?_ | refine blk_alloc ?_ _)); refine blk_far ?_ NB399_417.out _; (with_reducible repeat (first | refine blk_drewN ?_ _ | refine blk_drew ?_ | refine blk_alloc ?_ _)); exact BK399.out) hb); have n4_ := Aside0.mk (blk_below (g := gb408) (o := .cells #[.string t400, .string t401, .slice Ao14 t402.length co14, .string t405] 24 (0, 0)) (by (with_reducible repeat (first | refine blk_drewN ?_ _ | refine blk_drew ?_ | refine blk_alloc ?_ _)); refine blk_far ?_ NB408_417.out _; (with_reducible repeat (first | refine blk_drewN ?_ _ | refine blk_drew ?_ | refine blk_alloc ?_ _)); refine blk_far ?_ NB408_417.out _; (with_reducible repeat (first | refine blk_drewN ?_ _ | refine blk_drew ?_ | refine blk_alloc ?_ _)); refine blk_far ?_ NB408_417.out _; (with_reducible repeat (first | refine blk_drewN ?_ _ | refine blk_drew ?_ | refine blk_alloc ?_ _)); refine blk_far ?_ NB408_417.out _; (with_reducible repeat (first | refine blk_drewN ?_ _ | refine blk_drew ?_ | refine blk_alloc ?_ _)); exact BK408.out) hb); have n5_ := Aside0.mk (blk_below (g := gb417) (o := .cells #[.string t409, .string t410, .slice Ao20 t411.length co20, .string t414] 30 (0, 0)) (by (with_reducible repeat (first | refine blk_drewN ?_ _ | refine blk_drew ?_ | refine blk_alloc ?_ _)); refine blk_put (cs := #[.string t409, .string t410, .slice Ao20 t411.length co20, .string (⟨#[]⟩ : ByteArray)]) ?_ 3 _ rfl; (with_reducible repeat (first | refine blk_drewN ?_ _ | refine blk_drew ?_ | refine blk_alloc ?_ _)); refine blk_put (cs := #[.string t409, .string t410, .slice none 0 0, .string (⟨#[]⟩ : ByteArray)]) ?_ 2 _ rfl; (with_reducible repeat (first | refine blk_drewN ?_ _ | refine blk_drew ?_ | refine blk_alloc ?_ _)); refine blk_put (cs := #[.string t409, .string (⟨#[]⟩ : ByteArray), .slice none 0 0, .string (⟨#[]⟩ : ByteArray)]) ?_ 1 _ rfl; (with_reducible repeat (first | refine blk_drewN ?_ _ | refine blk_drew ?_ | refine blk_alloc ?_ _)); refine blk_put (cs := #[.string (⟨#[]⟩ : ByteArray), .string (⟨#[]⟩ : ByteArray), .slice none 0 0, .string (⟨#[]⟩ : ByteArray)]) ?_ 0 _ rfl; (with_reducible repeat (first | refine blk_drewN ?_ _ | refine blk_drew ?_ | refine blk_alloc ?_ _)); exact BK417.out) hb); have n6_ := Aside0.mk (below_step (by repeat (first | (with_reducible first | exact HB.out | apply below_alloc | apply pw_below_drewN | apply below_drew1 | refine below_set ?_ GE399.out | refine below_set ?_ GE408.out | refine below_set ?_ GE417.out) | exact HB.out)) hb); clear HO395; clear HO404; clear HO413; clear BK399; clear BK408; clear BK417; clear HB; have HO395 := n0_; have HO404 := n1_; have HO413 := n2_; have BK399 := n3_; have BK408 := n4_; have BK417 := n5_; have HB := n6_; clear n0_ n1_ n2_ n3_ n4_ n5_ n6_; (try clear hb); (try clear hb2); (try clear hk); (try clear hi)))
              go_meet
              case rel => exact ⟨_, (true), (by first | rfl | (simp; done) | (simp [*]; done)), H', ⟨by first | omega | exact Nat.le_refl _⟩, ⟨by (with_reducible repeat (first | apply Kd.R_alloc | apply Kd.R_drewN | apply Kd.R_drew)); exact Kd.R_mono HO395.out (fun _ hk => hk.2)⟩, ⟨by (with_reducible repeat (first | apply Kd.R_alloc | apply Kd.R_drewN | apply Kd.R_drew)); exact Kd.R_mono HO404.out (fun _ hk => hk.2)⟩, ⟨by (with_reducible repeat (first | apply Kd.R_alloc | apply Kd.R_drewN | apply Kd.R_drew)); exact HO413.out⟩, ⟨by (with_reducible repeat (first | refine blk_drewN ?_ _ | refine blk_drew ?_ | refine blk_alloc ?_ _)); exact BK399.out⟩, ⟨by (with_reducible repeat (first | refine blk_drewN ?_ _ | refine blk_drew ?_ | refine blk_alloc ?_ _)); exact BK408.out⟩, ⟨by (with_reducible repeat (first | refine blk_drewN ?_ _ | refine blk_drew ?_ | refine blk_alloc ?_ _)); exact BK417.out⟩, ⟨by repeat (first | (with_reducible first | exact HB.out | apply below_alloc | apply pw_below_drewN | apply below_drew1 | refine below_set ?_ GE399.out | refine below_set ?_ GE408.out | refine below_set ?_ GE417.out) | exact HB.out)⟩⟩
          · rw [if_neg c26] at H
            have c26b0 : (t407 == t416) = false := beq_eq_false_iff_ne.mpr c26
            have c26b1 : (t407 != t416) = true := bne_iff_ne.mpr c26
            have H' := Aside0.mk H
            clear H
            go_wp2_with (first | ((with_reducible refine gate_callee (f := 10) rfl ?_); refine goesL_ (some 34) rfl rfl Tryz.func10 (by kernel_rfl) rfl #[.int .i64 t397] rfl (by (try simp only [List.map_toArray, List.map_cons, List.map_nil]); first | done | rfl | (simp only [List.length_drop, List.length_take]; rfl)) ?_; (with_reducible refine (wicketlaw15_num.calls t397 t397 _ A21.out).mono ?_); rintro e w' ⟨rfl, ⟨nd, rfl⟩⟩; refine ⟨_, rfl, ?_⟩) | (go_at_call 10; (with_reducible refine (wicketlaw15_num.calls t406 t406 _ A23.out).mono ?_); rintro e w' ⟨rfl, ⟨nd, rfl⟩⟩))
            go_meet
            case rel => exact ⟨_, (true), (by first | rfl | (simp; done) | (simp [*]; done)), H', ⟨by first | omega | exact Nat.le_refl _⟩, ⟨by (with_reducible repeat (first | apply Kd.R_alloc | apply Kd.R_drewN | apply Kd.R_drew)); exact Kd.R_mono (Kd.R_far (p := ⟨gb417, 3, none⟩) (Kd.R_far (p := ⟨gb417, 2, none⟩) (Kd.R_far (p := ⟨gb417, 1, none⟩) (Kd.R_far (p := ⟨gb417, 0, none⟩) (Kd.R_types HO395.out BK417.out (by decide)) (fun _ hk => hk.2) (.string t409)) (fun _ hk => hk.2) (.string t410)) (fun _ hk => hk.2) (.slice Ao20 t411.length co20)) (fun _ hk => hk.2) (.string t414)) (fun _ hk => hk.1.2)⟩, ⟨by (with_reducible repeat (first | apply Kd.R_alloc | apply Kd.R_drewN | apply Kd.R_drew)); exact Kd.R_mono (Kd.R_far (p := ⟨gb417, 3, none⟩) (Kd.R_far (p := ⟨gb417, 2, none⟩) (Kd.R_far (p := ⟨gb417, 1, none⟩) (Kd.R_far (p := ⟨gb417, 0, none⟩) (Kd.R_types HO404.out BK417.out (by decide)) (fun _ hk => hk.2) (.string t409)) (fun _ hk => hk.2) (.string t410)) (fun _ hk => hk.2) (.slice Ao20 t411.length co20)) (fun _ hk => hk.2) (.string t414)) (fun _ hk => hk.1.2)⟩, ⟨by (with_reducible repeat (first | apply Kd.R_alloc | apply Kd.R_drewN | apply Kd.R_drew)); exact Kd.R_mono (Kd.R_far (p := ⟨gb417, 3, none⟩) (Kd.R_far (p := ⟨gb417, 2, none⟩) (Kd.R_far (p := ⟨gb417, 1, none⟩) (Kd.R_far (p := ⟨gb417, 0, none⟩) (Kd.R_types HO413.out BK417.out (by decide)) (fun _ hk => hk.2) (.string t409)) (fun _ hk => hk.2) (.string t410)) (fun _ hk => hk.2) (.slice Ao20 t411.length co20)) (fun _ hk => hk.2) (.string t414)) (fun _ hk => trivial)⟩, ⟨by (with_reducible repeat (first | refine blk_drewN ?_ _ | refine blk_drew ?_ | refine blk_alloc ?_ _)); refine blk_far ?_ NB399_417.out _; (with_reducible repeat (first | refine blk_drewN ?_ _ | refine blk_drew ?_ | refine blk_alloc ?_ _)); refine blk_far ?_ NB399_417.out _; (with_reducible repeat (first | refine blk_drewN ?_ _ | refine blk_drew ?_ | refine blk_alloc ?_ _)); refine blk_far ?_ NB399_417.out _; (with_reducible repeat (first | refine blk_drewN ?_ _ | refine blk_drew ?_ | refine blk_alloc ?_ _)); refine blk_far ?_ NB399_417.out _; (with_reducible repeat (first | refine blk_drewN ?_ _ | refine blk_drew ?_ | refine blk_alloc ?_ _)); exact BK399.out⟩, ⟨by (with_reducible repeat (first | refine blk_drewN ?_ _ | refine blk_drew ?_ | refine blk_alloc ?_ _)); refine blk_far ?_ NB408_417.out _; (with_reducible repeat (first | refine blk_drewN ?_ _ | refine blk_drew ?_ | refine blk_alloc ?_ _)); refine blk_far ?_ NB408_417.out _; (with_reducible repeat (first | refine blk_drewN ?_ _ | refine blk_drew ?_ | refine blk_alloc ?_ _)); refine blk_far ?_ NB408_417.out _; (with_reducible repeat (first | refine blk_drewN ?_ _ | refine blk_drew ?_ | refine blk_alloc ?_ _)); refine blk_far ?_ NB408_417.out _; (with_reducible repeat (first | refine blk_drewN ?_ _ | refine blk_drew ?_ | refine blk_alloc ?_ _)); exact BK408.out⟩, ⟨by (with_reducible repeat (first | refine blk_drewN ?_ _ | refine blk_drew ?_ | refine blk_alloc ?_ _)); refine blk_put (cs := #[.string t409, .string t410, .slice Ao20 t411.length co20, .string (⟨#[]⟩ : ByteArray)]) ?_ 3 _ rfl; (with_reducible repeat (first | refine blk_drewN ?_ _ | refine blk_drew ?_ | refine blk_alloc ?_ _)); refine blk_put (cs := #[.string t409, .string t410, .slice none 0 0, .string (⟨#[]⟩ : ByteArray)]) ?_ 2 _ rfl; (with_reducible repeat (first | refine blk_drewN ?_ _ | refine blk_drew ?_ | refine blk_alloc ?_ _)); refine blk_put (cs := #[.string t409, .string (⟨#[]⟩ : ByteArray), .slice none 0 0, .string (⟨#[]⟩ : ByteArray)]) ?_ 1 _ rfl; (with_reducible repeat (first | refine blk_drewN ?_ _ | refine blk_drew ?_ | refine blk_alloc ?_ _)); refine blk_put (cs := #[.string (⟨#[]⟩ : ByteArray), .string (⟨#[]⟩ : ByteArray), .slice none 0 0, .string (⟨#[]⟩ : ByteArray)]) ?_ 0 _ rfl; (with_reducible repeat (first | refine blk_drewN ?_ _ | refine blk_drew ?_ | refine blk_alloc ?_ _)); exact BK417.out⟩, ⟨by repeat (first | (with_reducible first | exact HB.out | apply below_alloc | apply pw_below_drewN | apply below_drew1 | refine below_set ?_ GE399.out | refine below_set ?_ GE408.out | refine below_set ?_ GE417.out) | exact HB.out)⟩⟩
        · rw [if_neg c25] at H
          have c25b0 : (t398 == t416) = false := beq_eq_false_iff_ne.mpr c25
          have c25b1 : (t398 != t416) = true := bne_iff_ne.mpr c25
          have H' := Aside0.mk H
          clear H
          go_wp2_with (first | ((with_reducible refine gate_callee (f := 10) rfl ?_); refine goesL_ (some 34) rfl rfl Tryz.func10 (by kernel_rfl) rfl #[.int .i64 t397] rfl (by (try simp only [List.map_toArray, List.map_cons, List.map_nil]); first | done | rfl | (simp only [List.length_drop, List.length_take]; rfl)) ?_; (with_reducible refine (wicketlaw15_num.calls t397 t397 _ A21.out).mono ?_); rintro e w' ⟨rfl, ⟨nd, rfl⟩⟩; refine ⟨_, rfl, ?_⟩) | (go_at_call 10; (with_reducible refine (wicketlaw15_num.calls t406 t406 _ A23.out).mono ?_); rintro e w' ⟨rfl, ⟨nd, rfl⟩⟩))
          go_meet
          case rel => exact ⟨_, (true), (by first | rfl | (simp; done) | (simp [*]; done)), H', ⟨by first | omega | exact Nat.le_refl _⟩, ⟨by (with_reducible repeat (first | apply Kd.R_alloc | apply Kd.R_drewN | apply Kd.R_drew)); exact Kd.R_mono (Kd.R_far (p := ⟨gb417, 3, none⟩) (Kd.R_far (p := ⟨gb417, 2, none⟩) (Kd.R_far (p := ⟨gb417, 1, none⟩) (Kd.R_far (p := ⟨gb417, 0, none⟩) (Kd.R_types HO395.out BK417.out (by decide)) (fun _ hk => hk.2) (.string t409)) (fun _ hk => hk.2) (.string t410)) (fun _ hk => hk.2) (.slice Ao20 t411.length co20)) (fun _ hk => hk.2) (.string t414)) (fun _ hk => hk.1.2)⟩, ⟨by (with_reducible repeat (first | apply Kd.R_alloc | apply Kd.R_drewN | apply Kd.R_drew)); exact Kd.R_mono (Kd.R_far (p := ⟨gb417, 3, none⟩) (Kd.R_far (p := ⟨gb417, 2, none⟩) (Kd.R_far (p := ⟨gb417, 1, none⟩) (Kd.R_far (p := ⟨gb417, 0, none⟩) (Kd.R_types HO404.out BK417.out (by decide)) (fun _ hk => hk.2) (.string t409)) (fun _ hk => hk.2) (.string t410)) (fun _ hk => hk.2) (.slice Ao20 t411.length co20)) (fun _ hk => hk.2) (.string t414)) (fun _ hk => hk.1.2)⟩, ⟨by (with_reducible repeat (first | apply Kd.R_alloc | apply Kd.R_drewN | apply Kd.R_drew)); exact Kd.R_mono (Kd.R_far (p := ⟨gb417, 3, none⟩) (Kd.R_far (p := ⟨gb417, 2, none⟩) (Kd.R_far (p := ⟨gb417, 1, none⟩) (Kd.R_far (p := ⟨gb417, 0, none⟩) (Kd.R_types HO413.out BK417.out (by decide)) (fun _ hk => hk.2) (.string t409)) (fun _ hk => hk.2) (.string t410)) (fun _ hk => hk.2) (.slice Ao20 t411.length co20)) (fun _ hk => hk.2) (.string t414)) (fun _ hk => trivial)⟩, ⟨by (with_reducible repeat (first | refine blk_drewN ?_ _ | refine blk_drew ?_ | refine blk_alloc ?_ _)); refine blk_far ?_ NB399_417.out _; (with_reducible repeat (first | refine blk_drewN ?_ _ | refine blk_drew ?_ | refine blk_alloc ?_ _)); refine blk_far ?_ NB399_417.out _; (with_reducible repeat (first | refine blk_drewN ?_ _ | refine blk_drew ?_ | refine blk_alloc ?_ _)); refine blk_far ?_ NB399_417.out _; (with_reducible repeat (first | refine blk_drewN ?_ _ | refine blk_drew ?_ | refine blk_alloc ?_ _)); refine blk_far ?_ NB399_417.out _; (with_reducible repeat (first | refine blk_drewN ?_ _ | refine blk_drew ?_ | refine blk_alloc ?_ _)); exact BK399.out⟩, ⟨by (with_reducible repeat (first | refine blk_drewN ?_ _ | refine blk_drew ?_ | refine blk_alloc ?_ _)); refine blk_far ?_ NB408_417.out _; (with_reducible repeat (first | refine blk_drewN ?_ _ | refine blk_drew ?_ | refine blk_alloc ?_ _)); refine blk_far ?_ NB408_417.out _; (with_reducible repeat (first | refine blk_drewN ?_ _ | refine blk_drew ?_ | refine blk_alloc ?_ _)); refine blk_far ?_ NB408_417.out _; (with_reducible repeat (first | refine blk_drewN ?_ _ | refine blk_drew ?_ | refine blk_alloc ?_ _)); refine blk_far ?_ NB408_417.out _; (with_reducible repeat (first | refine blk_drewN ?_ _ | refine blk_drew ?_ | refine blk_alloc ?_ _)); exact BK408.out⟩, ⟨by (with_reducible repeat (first | refine blk_drewN ?_ _ | refine blk_drew ?_ | refine blk_alloc ?_ _)); refine blk_put (cs := #[.string t409, .string t410, .slice Ao20 t411.length co20, .string (⟨#[]⟩ : ByteArray)]) ?_ 3 _ rfl; (with_reducible repeat (first | refine blk_drewN ?_ _ | refine blk_drew ?_ | refine blk_alloc ?_ _)); refine blk_put (cs := #[.string t409, .string t410, .slice none 0 0, .string (⟨#[]⟩ : ByteArray)]) ?_ 2 _ rfl; (with_reducible repeat (first | refine blk_drewN ?_ _ | refine blk_drew ?_ | refine blk_alloc ?_ _)); refine blk_put (cs := #[.string t409, .string (⟨#[]⟩ : ByteArray), .slice none 0 0, .string (⟨#[]⟩ : ByteArray)]) ?_ 1 _ rfl; (with_reducible repeat (first | refine blk_drewN ?_ _ | refine blk_drew ?_ | refine blk_alloc ?_ _)); refine blk_put (cs := #[.string (⟨#[]⟩ : ByteArray), .string (⟨#[]⟩ : ByteArray), .slice none 0 0, .string (⟨#[]⟩ : ByteArray)]) ?_ 0 _ rfl; (with_reducible repeat (first | refine blk_drewN ?_ _ | refine blk_drew ?_ | refine blk_alloc ?_ _)); exact BK417.out⟩, ⟨by repeat (first | (with_reducible first | exact HB.out | apply below_alloc | apply pw_below_drewN | apply below_drew1 | refine below_set ?_ GE399.out | refine below_set ?_ GE408.out | refine below_set ?_ GE417.out) | exact HB.out)⟩⟩
      · rw [if_neg c24] at H
        have c24b0 : (t406 == t415) = false := beq_eq_false_iff_ne.mpr c24
        have c24b1 : (t406 != t415) = true := bne_iff_ne.mpr c24
        have H' := Aside0.mk H
        clear H
        go_wp2_with (first | ((with_reducible refine gate_callee (f := 10) rfl ?_); refine goesL_ (some 34) rfl rfl Tryz.func10 (by kernel_rfl) rfl #[.int .i64 t397] rfl (by (try simp only [List.map_toArray, List.map_cons, List.map_nil]); first | done | rfl | (simp only [List.length_drop, List.length_take]; rfl)) ?_; (with_reducible refine (wicketlaw15_num.calls t397 t397 _ A21.out).mono ?_); rintro e w' ⟨rfl, ⟨nd, rfl⟩⟩; refine ⟨_, rfl, ?_⟩) | (go_at_call 10; (with_reducible refine (wicketlaw15_num.calls t406 t406 _ A23.out).mono ?_); rintro e w' ⟨rfl, ⟨nd, rfl⟩⟩))
        go_meet
        case rel => exact ⟨_, (true), (by first | rfl | (simp; done) | (simp [*]; done)), H', ⟨by first | omega | exact Nat.le_refl _⟩, ⟨by (with_reducible repeat (first | apply Kd.R_alloc | apply Kd.R_drewN | apply Kd.R_drew)); exact Kd.R_mono (Kd.R_far (p := ⟨gb417, 3, none⟩) (Kd.R_far (p := ⟨gb417, 2, none⟩) (Kd.R_far (p := ⟨gb417, 1, none⟩) (Kd.R_far (p := ⟨gb417, 0, none⟩) (Kd.R_types HO395.out BK417.out (by decide)) (fun _ hk => hk.2) (.string t409)) (fun _ hk => hk.2) (.string t410)) (fun _ hk => hk.2) (.slice Ao20 t411.length co20)) (fun _ hk => hk.2) (.string t414)) (fun _ hk => hk.1.2)⟩, ⟨by (with_reducible repeat (first | apply Kd.R_alloc | apply Kd.R_drewN | apply Kd.R_drew)); exact Kd.R_mono (Kd.R_far (p := ⟨gb417, 3, none⟩) (Kd.R_far (p := ⟨gb417, 2, none⟩) (Kd.R_far (p := ⟨gb417, 1, none⟩) (Kd.R_far (p := ⟨gb417, 0, none⟩) (Kd.R_types HO404.out BK417.out (by decide)) (fun _ hk => hk.2) (.string t409)) (fun _ hk => hk.2) (.string t410)) (fun _ hk => hk.2) (.slice Ao20 t411.length co20)) (fun _ hk => hk.2) (.string t414)) (fun _ hk => hk.1.2)⟩, ⟨by (with_reducible repeat (first | apply Kd.R_alloc | apply Kd.R_drewN | apply Kd.R_drew)); exact Kd.R_mono (Kd.R_far (p := ⟨gb417, 3, none⟩) (Kd.R_far (p := ⟨gb417, 2, none⟩) (Kd.R_far (p := ⟨gb417, 1, none⟩) (Kd.R_far (p := ⟨gb417, 0, none⟩) (Kd.R_types HO413.out BK417.out (by decide)) (fun _ hk => hk.2) (.string t409)) (fun _ hk => hk.2) (.string t410)) (fun _ hk => hk.2) (.slice Ao20 t411.length co20)) (fun _ hk => hk.2) (.string t414)) (fun _ hk => trivial)⟩, ⟨by (with_reducible repeat (first | refine blk_drewN ?_ _ | refine blk_drew ?_ | refine blk_alloc ?_ _)); refine blk_far ?_ NB399_417.out _; (with_reducible repeat (first | refine blk_drewN ?_ _ | refine blk_drew ?_ | refine blk_alloc ?_ _)); refine blk_far ?_ NB399_417.out _; (with_reducible repeat (first | refine blk_drewN ?_ _ | refine blk_drew ?_ | refine blk_alloc ?_ _)); refine blk_far ?_ NB399_417.out _; (with_reducible repeat (first | refine blk_drewN ?_ _ | refine blk_drew ?_ | refine blk_alloc ?_ _)); refine blk_far ?_ NB399_417.out _; (with_reducible repeat (first | refine blk_drewN ?_ _ | refine blk_drew ?_ | refine blk_alloc ?_ _)); exact BK399.out⟩, ⟨by (with_reducible repeat (first | refine blk_drewN ?_ _ | refine blk_drew ?_ | refine blk_alloc ?_ _)); refine blk_far ?_ NB408_417.out _; (with_reducible repeat (first | refine blk_drewN ?_ _ | refine blk_drew ?_ | refine blk_alloc ?_ _)); refine blk_far ?_ NB408_417.out _; (with_reducible repeat (first | refine blk_drewN ?_ _ | refine blk_drew ?_ | refine blk_alloc ?_ _)); refine blk_far ?_ NB408_417.out _; (with_reducible repeat (first | refine blk_drewN ?_ _ | refine blk_drew ?_ | refine blk_alloc ?_ _)); refine blk_far ?_ NB408_417.out _; (with_reducible repeat (first | refine blk_drewN ?_ _ | refine blk_drew ?_ | refine blk_alloc ?_ _)); exact BK408.out⟩, ⟨by (with_reducible repeat (first | refine blk_drewN ?_ _ | refine blk_drew ?_ | refine blk_alloc ?_ _)); refine blk_put (cs := #[.string t409, .string t410, .slice Ao20 t411.length co20, .string (⟨#[]⟩ : ByteArray)]) ?_ 3 _ rfl; (with_reducible repeat (first | refine blk_drewN ?_ _ | refine blk_drew ?_ | refine blk_alloc ?_ _)); refine blk_put (cs := #[.string t409, .string t410, .slice none 0 0, .string (⟨#[]⟩ : ByteArray)]) ?_ 2 _ rfl; (with_reducible repeat (first | refine blk_drewN ?_ _ | refine blk_drew ?_ | refine blk_alloc ?_ _)); refine blk_put (cs := #[.string t409, .string (⟨#[]⟩ : ByteArray), .slice none 0 0, .string (⟨#[]⟩ : ByteArray)]) ?_ 1 _ rfl; (with_reducible repeat (first | refine blk_drewN ?_ _ | refine blk_drew ?_ | refine blk_alloc ?_ _)); refine blk_put (cs := #[.string (⟨#[]⟩ : ByteArray), .string (⟨#[]⟩ : ByteArray), .slice none 0 0, .string (⟨#[]⟩ : ByteArray)]) ?_ 0 _ rfl; (with_reducible repeat (first | refine blk_drewN ?_ _ | refine blk_drew ?_ | refine blk_alloc ?_ _)); exact BK417.out⟩, ⟨by repeat (first | (with_reducible first | exact HB.out | apply below_alloc | apply pw_below_drewN | apply below_drew1 | refine below_set ?_ GE399.out | refine below_set ?_ GE408.out | refine below_set ?_ GE417.out) | exact HB.out)⟩⟩
    · rw [if_neg c22] at H
      have c22b0 : (t397 == t415) = false := beq_eq_false_iff_ne.mpr c22
      have c22b1 : (t397 != t415) = true := bne_iff_ne.mpr c22
      (first | rw [c22b0] | (simp only [i64_w, i32_w]; rw [c22b0]) | skip)
      have H' := Aside0.mk H
      clear H
      go_wp2_with (first | ((with_reducible refine gate_callee (f := 10) rfl ?_); refine goesL_ (some 34) rfl rfl Tryz.func10 (by kernel_rfl) rfl #[.int .i64 t397] rfl (by (try simp only [List.map_toArray, List.map_cons, List.map_nil]); first | done | rfl | (simp only [List.length_drop, List.length_take]; rfl)) ?_; (with_reducible refine (wicketlaw15_num.calls t397 t397 _ A21.out).mono ?_); rintro e w' ⟨rfl, ⟨nd, rfl⟩⟩; refine ⟨_, rfl, ?_⟩))
      go_meet
      case rel => exact ⟨_, (true), (by first | rfl | (simp; done) | (simp [*]; done)), H', ⟨by first | omega | exact Nat.le_refl _⟩, ⟨by (with_reducible repeat (first | apply Kd.R_alloc | apply Kd.R_drewN | apply Kd.R_drew)); exact Kd.R_mono (Kd.R_far (p := ⟨gb417, 3, none⟩) (Kd.R_far (p := ⟨gb417, 2, none⟩) (Kd.R_far (p := ⟨gb417, 1, none⟩) (Kd.R_far (p := ⟨gb417, 0, none⟩) (Kd.R_types HO395.out BK417.out (by decide)) (fun _ hk => hk.2) (.string t409)) (fun _ hk => hk.2) (.string t410)) (fun _ hk => hk.2) (.slice Ao20 t411.length co20)) (fun _ hk => hk.2) (.string t414)) (fun _ hk => hk.1.2)⟩, ⟨by (with_reducible repeat (first | apply Kd.R_alloc | apply Kd.R_drewN | apply Kd.R_drew)); exact Kd.R_mono (Kd.R_far (p := ⟨gb417, 3, none⟩) (Kd.R_far (p := ⟨gb417, 2, none⟩) (Kd.R_far (p := ⟨gb417, 1, none⟩) (Kd.R_far (p := ⟨gb417, 0, none⟩) (Kd.R_types HO404.out BK417.out (by decide)) (fun _ hk => hk.2) (.string t409)) (fun _ hk => hk.2) (.string t410)) (fun _ hk => hk.2) (.slice Ao20 t411.length co20)) (fun _ hk => hk.2) (.string t414)) (fun _ hk => hk.1.2)⟩, ⟨by (with_reducible repeat (first | apply Kd.R_alloc | apply Kd.R_drewN | apply Kd.R_drew)); exact Kd.R_mono (Kd.R_far (p := ⟨gb417, 3, none⟩) (Kd.R_far (p := ⟨gb417, 2, none⟩) (Kd.R_far (p := ⟨gb417, 1, none⟩) (Kd.R_far (p := ⟨gb417, 0, none⟩) (Kd.R_types HO413.out BK417.out (by decide)) (fun _ hk => hk.2) (.string t409)) (fun _ hk => hk.2) (.string t410)) (fun _ hk => hk.2) (.slice Ao20 t411.length co20)) (fun _ hk => hk.2) (.string t414)) (fun _ hk => trivial)⟩, ⟨by (with_reducible repeat (first | refine blk_drewN ?_ _ | refine blk_drew ?_ | refine blk_alloc ?_ _)); refine blk_far ?_ NB399_417.out _; (with_reducible repeat (first | refine blk_drewN ?_ _ | refine blk_drew ?_ | refine blk_alloc ?_ _)); refine blk_far ?_ NB399_417.out _; (with_reducible repeat (first | refine blk_drewN ?_ _ | refine blk_drew ?_ | refine blk_alloc ?_ _)); refine blk_far ?_ NB399_417.out _; (with_reducible repeat (first | refine blk_drewN ?_ _ | refine blk_drew ?_ | refine blk_alloc ?_ _)); refine blk_far ?_ NB399_417.out _; (with_reducible repeat (first | refine blk_drewN ?_ _ | refine blk_drew ?_ | refine blk_alloc ?_ _)); exact BK399.out⟩, ⟨by (with_reducible repeat (first | refine blk_drewN ?_ _ | refine blk_drew ?_ | refine blk_alloc ?_ _)); refine blk_far ?_ NB408_417.out _; (with_reducible repeat (first | refine blk_drewN ?_ _ | refine blk_drew ?_ | refine blk_alloc ?_ _)); refine blk_far ?_ NB408_417.out _; (with_reducible repeat (first | refine blk_drewN ?_ _ | refine blk_drew ?_ | refine blk_alloc ?_ _)); refine blk_far ?_ NB408_417.out _; (with_reducible repeat (first | refine blk_drewN ?_ _ | refine blk_drew ?_ | refine blk_alloc ?_ _)); refine blk_far ?_ NB408_417.out _; (with_reducible repeat (first | refine blk_drewN ?_ _ | refine blk_drew ?_ | refine blk_alloc ?_ _)); exact BK408.out⟩, ⟨by (with_reducible repeat (first | refine blk_drewN ?_ _ | refine blk_drew ?_ | refine blk_alloc ?_ _)); refine blk_put (cs := #[.string t409, .string t410, .slice Ao20 t411.length co20, .string (⟨#[]⟩ : ByteArray)]) ?_ 3 _ rfl; (with_reducible repeat (first | refine blk_drewN ?_ _ | refine blk_drew ?_ | refine blk_alloc ?_ _)); refine blk_put (cs := #[.string t409, .string t410, .slice none 0 0, .string (⟨#[]⟩ : ByteArray)]) ?_ 2 _ rfl; (with_reducible repeat (first | refine blk_drewN ?_ _ | refine blk_drew ?_ | refine blk_alloc ?_ _)); refine blk_put (cs := #[.string t409, .string (⟨#[]⟩ : ByteArray), .slice none 0 0, .string (⟨#[]⟩ : ByteArray)]) ?_ 1 _ rfl; (with_reducible repeat (first | refine blk_drewN ?_ _ | refine blk_drew ?_ | refine blk_alloc ?_ _)); refine blk_put (cs := #[.string (⟨#[]⟩ : ByteArray), .string (⟨#[]⟩ : ByteArray), .slice none 0 0, .string (⟨#[]⟩ : ByteArray)]) ?_ 0 _ rfl; (with_reducible repeat (first | refine blk_drewN ?_ _ | refine blk_drew ?_ | refine blk_alloc ?_ _)); exact BK417.out⟩, ⟨by repeat (first | (with_reducible first | exact HB.out | apply below_alloc | apply pw_below_drewN | apply below_drew1 | refine below_set ?_ GE399.out | refine below_set ?_ GE408.out | refine below_set ?_ GE417.out) | exact HB.out)⟩⟩
  case rest =>
    clear HC5
    try clear c1
    try clear c2
    try clear p2
    try clear c3
    try clear c4
    try clear c8
    try clear c9
    try clear c10
    try clear c12
    try clear c17
    try clear c18
    try clear c22
    try clear c22b0
    try clear c22b1
    try clear c24
    try clear c24b0
    try clear c24b1
    try clear c25
    try clear c25b0
    try clear c25b1
    try clear c26
    try clear c26b0
    try clear c26b1
    try clear c28
    try clear c30
    try clear c31
    try clear c33
    try clear c39
    try clear c40
    try clear c42
    try clear hcz13_0
    try clear hcz13_1
    try clear hcz13_2
    try clear hcz13_3
    try clear hcz19_0
    try clear hcz19_1
    try clear hcz19_2
    try clear hcz19_3
    try clear hcz32_0
    try clear hcz32_1
    try clear hcz32_2
    try clear hcz32_3
    try clear hcz34_0
    try clear hcz34_1
    try clear hcz34_2
    try clear hcz34_3
    try clear hcz36_0
    try clear hcz36_1
    try clear hcz36_2
    try clear hcz36_3
    try clear hcz37_0
    try clear hcz37_1
    try clear hcz37_2
    try clear hcz37_3
    try clear hcz41_0
    try clear hcz41_1
    try clear hcz41_2
    try clear hcz41_3
    try clear hcz43_0
    try clear hcz43_1
    try clear hcz43_2
    try clear hcz43_3
    try clear hcz8_0
    try clear hcz8_1
    try clear hcz8_2
    try clear hcz8_3
    try clear hfz13_0
    try clear hfz13_1
    try clear hfz13_2
    try clear hfz13_3
    try clear hfz19_0
    try clear hfz19_1
    try clear hfz19_2
    try clear hfz19_3
    try clear hfz32_0
    try clear hfz32_1
    try clear hfz32_2
    try clear hfz32_3
    try clear hfz34_0
    try clear hfz34_1
    try clear hfz34_2
    try clear hfz34_3
    try clear hfz36_0
    try clear hfz36_1
    try clear hfz36_2
    try clear hfz36_3
    try clear hfz37_0
    try clear hfz37_1
    try clear hfz37_2
    try clear hfz37_3
    try clear hfz41_0
    try clear hfz41_1
    try clear hfz41_2
    try clear hfz41_3
    try clear hfz43_0
    try clear hfz43_1
    try clear hfz43_2
    try clear hfz43_3
    try clear hfz8_0
    try clear hfz8_1
    try clear hfz8_2
    try clear hfz8_3
    obtain ⟨kq, x64_4, rfl, HA, HJ4, HO_400002, HO_409002, HO_418002, BK399, BK408, BK417, HB⟩ := hcut
    cases kq with
    | zero => exact absurd HA.out (by simp [wicketlaw15_HttpRequests.j0])
    | succ kj4 =>
      have H := HA.out
      clear HA
      simp only [wicketlaw15_HttpRequests.j0] at H
      by_cases c45 : x64_4 = true
      · subst c45
        have H1 : none = some r := by rw [if_pos rfl] at H; exact H
        clear H
        have H := H1
        clear H1
        cases H
      · replace c45 := Bool.eq_false_iff.mpr c45
        subst c45
        have H1 : ((wicketlaw15_spoil.f kj4 t393).bind fun _ => ((http_ParseRequest.f kj4 a0).bind fun bt422 => ((wicketlaw15_request.f kj4 t400 t401 t402 t405 t409 t410 t411 t414).bind fun t431 => (if t431 = true then ((wicketlaw15_num.f bt422.2.2.2.2.1).bind fun t432 => (if t432 = t415 then ((wicketlaw15_request.f kj4 bt422.1 bt422.2.1 bt422.2.2.1 bt422.2.2.2.1 t409 t410 t411 t414).bind fun t433 => (if t433 = true then ((wicketlaw15_live.f kj4).bind fun t434 => (some t434)) else none)) else none)) else none)))) = some r := by rw [if_neg (show ¬ (false = true) by decide)] at H; exact H
        clear H
        have H := H1
        clear H1
        replace H := Option.bind_eq_some_iff.mp H
        obtain ⟨_, A460, H⟩ := H
        replace H : ((http_ParseRequest.f kj4 a0).bind fun bt422 => ((wicketlaw15_request.f kj4 t400 t401 t402 t405 t409 t410 t411 t414).bind fun t431 => (if t431 = true then ((wicketlaw15_num.f bt422.2.2.2.2.1).bind fun t432 => (if t432 = t415 then ((wicketlaw15_request.f kj4 bt422.1 bt422.2.1 bt422.2.2.1 bt422.2.2.2.1 t409 t410 t411 t414).bind fun t433 => (if t433 = true then ((wicketlaw15_live.f kj4).bind fun t434 => (some t434)) else none)) else none)) else none))) = some r := H
        have A46 := Aside0.mk A460
        clear A460
        replace H := Option.bind_eq_some_iff.mp H
        obtain ⟨⟨t422, t423, t424, t427, t428, t429⟩, A470, H⟩ := H
        replace H : ((wicketlaw15_request.f kj4 t400 t401 t402 t405 t409 t410 t411 t414).bind fun t431 => (if t431 = true then ((wicketlaw15_num.f t428).bind fun t432 => (if t432 = t415 then ((wicketlaw15_request.f kj4 t422 t423 t424 t427 t409 t410 t411 t414).bind fun t433 => (if t433 = true then ((wicketlaw15_live.f kj4).bind fun t434 => (some t434)) else none)) else none)) else none)) = some r := H
        have A47 := Aside0.mk A470
        clear A470
        replace H := Option.bind_eq_some_iff.mp H
        obtain ⟨t431, A480, H⟩ := H
        replace H : (if t431 = true then ((wicketlaw15_num.f t428).bind fun t432 => (if t432 = t415 then ((wicketlaw15_request.f kj4 t422 t423 t424 t427 t409 t410 t411 t414).bind fun t433 => (if t433 = true then ((wicketlaw15_live.f kj4).bind fun t434 => (some t434)) else none)) else none)) else none) = some r := H
        have A48 := Aside0.mk A480
        clear A480
        by_cases c49 : t431 = true
        · subst c49
          have H1 : ((wicketlaw15_num.f t428).bind fun t432 => (if t432 = t415 then ((wicketlaw15_request.f kj4 t422 t423 t424 t427 t409 t410 t411 t414).bind fun t433 => (if t433 = true then ((wicketlaw15_live.f kj4).bind fun t434 => (some t434)) else none)) else none)) = some r := by rw [if_pos rfl] at H; exact H
          clear H
          have H := H1
          clear H1
          replace H := Option.bind_eq_some_iff.mp H
          obtain ⟨t432, A500, H⟩ := H
          obtain rfl : t428 = t432 := Option.some.inj A500
          replace H : (if t428 = t415 then ((wicketlaw15_request.f kj4 t422 t423 t424 t427 t409 t410 t411 t414).bind fun t433 => (if t433 = true then ((wicketlaw15_live.f kj4).bind fun t434 => (some t434)) else none)) else none) = some r := H
          have A50 := Aside0.mk A500
          clear A500
          by_cases c51 : t428 = t415
          · rw [if_pos c51] at H
            have c51b0 : (t428 == t415) = true := beq_iff_eq.mpr c51
            have c51b1 : (t428 != t415) = false := bne_eq_false_iff_eq.mpr c51
            clear c51
            replace H := Option.bind_eq_some_iff.mp H
            obtain ⟨t433, A520, H⟩ := H
            replace H : (if t433 = true then ((wicketlaw15_live.f kj4).bind fun t434 => (some t434)) else none) = some r := H
            have A52 := Aside0.mk A520
            clear A520
            by_cases c53 : t433 = true
            · subst c53
              have H1 : ((wicketlaw15_live.f kj4).bind fun t434 => (some t434)) = some r := by rw [if_pos rfl] at H; exact H
              clear H
              have H := H1
              clear H1
              replace H := Option.bind_eq_some_iff.mp H
              obtain ⟨t434, A540, H⟩ := H
              replace H : (some t434) = some r := H
              have A54 := Aside0.mk A540
              clear A540
              obtain rfl := Option.some.inj H
              have hnb55 := NB399_408.out
              have hnc55 := NB408_399.out
              have hnb56 := NB399_417.out
              have hnc56 := NB417_399.out
              have hcz57_0 : wc.cell? ⟨gb399, 0, none⟩ = some (.string t391) := (blk_cell BK399.out 0).trans rfl
              have hcz57_1 : wc.cell? ⟨gb399, 1, none⟩ = some (.string t392) := (blk_cell BK399.out 1).trans rfl
              have hcz57_2 : wc.cell? ⟨gb399, 2, none⟩ = some (.slice Ao9 t393.length co9) := (blk_cell BK399.out 2).trans rfl
              have hcz57_3 : wc.cell? ⟨gb399, 3, none⟩ = some (.string t396) := (blk_cell BK399.out 3).trans rfl
              have hfz57_0 := blk_frozen BK399.out 0
              have hfz57_1 := blk_frozen BK399.out 1
              have hfz57_2 := blk_frozen BK399.out 2
              have hfz57_3 := blk_frozen BK399.out 3
              go_wp2_with (first | ((with_reducible refine gate_callee (f := 12) rfl ?_); refine goesL_ (some 67) rfl rfl Tryz.func12 (by kernel_rfl) rfl #[.slice Ao9 t393.length co9] rfl (by (try simp only [List.map_toArray, List.map_cons, List.map_nil]); first | done | rfl | (simp only [List.length_drop, List.length_take]; rfl)) ?_; (with_reducible refine (wicketlaw15_spoil.calls kj4 (fun k_ => some k_ = (.slice Ao9 t393.length co9 : Value).ownBlock) (.slice Ao9 t393.length co9) t393  w _ ?side1 ?side2 A46.out).mono ?_); (case side1 => repeat (first | (with_reducible first | exact HB.out | apply below_alloc | apply pw_below_drewN | apply below_drew1 | refine below_set ?_ GE399.out | refine below_set ?_ GE408.out | refine below_set ?_ GE417.out) | exact HB.out)); (case side2 => exact Kd.R_tight rfl HO_400002.out); rintro e w58 ⟨rfl, hb, hkp⟩; refine ⟨_, rfl, ?_⟩; have n0_ := Aside0.mk (Kd.R_mono (ok' := fun k_ => True) (Kd.R_keptB (HO_409002.out) hkp (fun k_ hk_ hs_ => (hk_) hs_)) (fun k_ hk_ => trivial)); have n1_ := Aside0.mk (Kd.R_mono (ok' := fun k_ => True) (Kd.R_keptB ((Kd.R_apart' HO_418002.out (Kd.R_typed HO_400002.out) (by decide))) hkp (fun k_ hk_ hs_ => (hk_.2) hs_)) (fun k_ hk_ => trivial)); have n2_ := Aside0.mk (blk_kept (by (with_reducible repeat (first | refine blk_drewN ?_ _ | refine blk_drew ?_ | refine blk_alloc ?_ _)); exact BK399.out) hkp (fun hs_ => (fun e_ => (Kd.R_ne HO_400002.out BK399.out (by decide)) e_) hs_)); have n3_ := Aside0.mk (blk_kept (by (with_reducible repeat (first | refine blk_drewN ?_ _ | refine blk_drew ?_ | refine blk_alloc ?_ _)); exact BK408.out) hkp (fun hs_ => (fun e_ => (Kd.R_ne HO_400002.out BK408.out (by decide)) e_) hs_)); have n4_ := Aside0.mk (blk_kept (by (with_reducible repeat (first | refine blk_drewN ?_ _ | refine blk_drew ?_ | refine blk_alloc ?_ _)); exact BK417.out) hkp (fun hs_ => (fun e_ => (Kd.R_ne HO_400002.out BK417.out (by decide)) e_) hs_)); have n5_ := Aside0.mk (hb); clear HO_409002; clear HO_418002; clear BK399; clear BK408; clear BK417; clear HB; clear HO_400002; have HO_409002 := n0_; have HO_418002 := n1_; have BK399 := n2_; have BK408 := n3_; have BK417 := n4_; have HB := n5_; clear n0_ n1_ n2_ n3_ n4_ n5_; (try clear hb); (try clear hkp)) | ((with_reducible refine gate_callee (f := 8) rfl ?_); refine goesL_ (some 70) rfl rfl Tryz.func8 (by kernel_rfl) rfl #[.string a0] rfl (by (try simp only [List.map_toArray, List.map_cons, List.map_nil]); first | done | rfl | (simp only [List.length_drop, List.length_take]; rfl)) ?_; (with_reducible refine (http_ParseRequest.calls kj4 a0 t422 t423 t424 t427 t428 t429 _ ?side1 A47.out).mono ?_); (case side1 => exact GL_below HG.out (by repeat (first | (with_reducible first | exact HB.out | apply below_alloc | apply pw_below_drewN | apply below_drew1 | refine below_set ?_ GE399.out | refine below_set ?_ GE408.out | refine below_set ?_ GE417.out) | exact HB.out))); rintro e w59 ⟨v425, rfl, ho0, hb⟩; refine ⟨_, rfl, ?_⟩; have n0_ := Aside0.mk (Kd.R_elder' (by (with_reducible repeat (first | apply Kd.R_alloc | apply Kd.R_drewN | apply Kd.R_drew)); exact HO_409002.out) (Kd.R_base ho0) hb); have n1_ := Aside0.mk (Kd.R_below (by (with_reducible repeat (first | apply Kd.R_alloc | apply Kd.R_drewN | apply Kd.R_drew)); exact HO_418002.out) hb); have n2_ := Aside0.mk (Kd.R_lower (Kd.R_new' ho0 (Kd.R_lt (by (with_reducible repeat (first | apply Kd.R_alloc | apply Kd.R_drewN | apply Kd.R_drew)); exact HO_409002.out))) (below_size (by repeat (first | (with_reducible first | exact HB.out | apply below_alloc | apply pw_below_drewN | apply below_drew1 | refine below_set ?_ GE399.out | refine below_set ?_ GE408.out | refine below_set ?_ GE417.out) | exact HB.out)))); have n3_ := Aside0.mk (blk_below (g := gb399) (o := .cells #[.string t391, .string t392, .slice Ao9 t393.length co9, .string t396] 24 (0, 0)) (by (with_reducible repeat (first | refine blk_drewN ?_ _ | refine blk_drew ?_ | refine blk_alloc ?_ _)); exact BK399.out) hb); have n4_ := Aside0.mk (blk_below (g := gb408) (o := .cells #[.string t400, .string t401, .slice Ao14 t402.length co14, .string t405] 24 (0, 0)) (by (with_reducible repeat (first | refine blk_drewN ?_ _ | refine blk_drew ?_ | refine blk_alloc ?_ _)); exact BK408.out) hb); have n5_ := Aside0.mk (blk_below (g := gb417) (o := .cells #[.string t409, .string t410, .slice Ao20 t411.length co20, .string t414] 30 (0, 0)) (by (with_reducible repeat (first | refine blk_drewN ?_ _ | refine blk_drew ?_ | refine blk_alloc ?_ _)); exact BK417.out) hb); have n6_ := Aside0.mk (below_step (by repeat (first | (with_reducible first | exact HB.out | apply below_alloc | apply pw_below_drewN | apply below_drew1 | refine below_set ?_ GE399.out | refine below_set ?_ GE408.out | refine below_set ?_ GE417.out) | exact HB.out)) hb); clear HO_409002; clear HO_418002; clear BK399; clear BK408; clear BK417; clear HB; have HO_409002 := n0_; have HO_418002 := n1_; have HO426 := n2_; have BK399 := n3_; have BK408 := n4_; have BK417 := n5_; have HB := n6_; clear n0_ n1_ n2_ n3_ n4_ n5_ n6_; (try clear hb); (try clear hb2); (try clear hk); (try clear hi); (try clear ho0)) | ((with_reducible refine gate_dst (N := 12) rfl ?_); refine box_event ?hg (N := 12) ?hd (cs := #[.string (⟨#[]⟩ : ByteArray), .string (⟨#[]⟩ : ByteArray), .slice none 0 0, .string (⟨#[]⟩ : ByteArray)]) (t := 24) ?hr ?_; (case hd => rfl); (case hg => rfl); (case hr => first | (go_simp; done) | (go_simp; rfl)); intro gb430 hg w60 hbox hb; have n0_ := Aside0.mk (Kd.R_below (by (with_reducible repeat (first | apply Kd.R_alloc | apply Kd.R_drewN | apply Kd.R_drew)); exact HO_409002.out) hb); have n1_ := Aside0.mk (Kd.R_below (by (with_reducible repeat (first | apply Kd.R_alloc | apply Kd.R_drewN | apply Kd.R_drew)); exact HO_418002.out) hb); have n2_ := Aside0.mk (Kd.R_below (by (with_reducible repeat (first | apply Kd.R_alloc | apply Kd.R_drewN | apply Kd.R_drew)); exact HO426.out) hb); have n3_ := Aside0.mk (blk_below (g := gb399) (o := .cells #[.string t391, .string t392, .slice Ao9 t393.length co9, .string t396] 24 (0, 0)) (by (with_reducible repeat (first | refine blk_drewN ?_ _ | refine blk_drew ?_ | refine blk_alloc ?_ _)); exact BK399.out) hb); have n4_ := Aside0.mk (blk_below (g := gb408) (o := .cells #[.string t400, .string t401, .slice Ao14 t402.length co14, .string t405] 24 (0, 0)) (by (with_reducible repeat (first | refine blk_drewN ?_ _ | refine blk_drew ?_ | refine blk_alloc ?_ _)); exact BK408.out) hb); have n5_ := Aside0.mk (blk_below (g := gb417) (o := .cells #[.string t409, .string t410, .slice Ao20 t411.length co20, .string t414] 30 (0, 0)) (by (with_reducible repeat (first | refine blk_drewN ?_ _ | refine blk_drew ?_ | refine blk_alloc ?_ _)); exact BK417.out) hb); have n6_ := Aside0.mk (below_step (by repeat (first | (with_reducible first | exact HB.out | apply below_alloc | apply pw_below_drewN | apply below_drew1 | refine below_set ?_ GE399.out | refine below_set ?_ GE408.out | refine below_set ?_ GE417.out) | exact HB.out)) hb); have n7_ := Aside0.mk (hbox); have n8_ := Aside0.mk ((by rw [hg]; exact (below_size (by repeat (first | (with_reducible first | exact HB.out | apply below_alloc | apply pw_below_drewN | apply below_drew1 | refine below_set ?_ GE399.out | refine below_set ?_ GE408.out | refine below_set ?_ GE417.out) | exact HB.out))) : w.heap.size ≤ gb430)); have n9_ := Aside0.mk ((by rw [hg]; exact (below_size (by repeat (first | (with_reducible first | exact HB.out | apply below_alloc | apply pw_below_drewN | apply below_drew1 | refine below_set ?_ GE399.out | refine below_set ?_ GE408.out | refine below_set ?_ GE417.out) | exact HB.out))) : w.heap.size ≤ gb430)); have n10_ := Aside0.mk ((by rw [hg]; exact Nat.ne_of_lt (blk_lt (g := gb399) (o := .cells #[.string t391, .string t392, .slice Ao9 t393.length co9, .string t396] 24 (0, 0)) (by (with_reducible repeat (first | refine blk_drewN ?_ _ | refine blk_drew ?_ | refine blk_alloc ?_ _)); exact BK399.out)) : gb399 ≠ gb430)); have n11_ := Aside0.mk ((by rw [hg]; exact Nat.ne_of_gt (blk_lt (g := gb399) (o := .cells #[.string t391, .string t392, .slice Ao9 t393.length co9, .string t396] 24 (0, 0)) (by (with_reducible repeat (first | refine blk_drewN ?_ _ | refine blk_drew ?_ | refine blk_alloc ?_ _)); exact BK399.out)) : gb430 ≠ gb399)); have n12_ := Aside0.mk ((by rw [hg]; exact Nat.ne_of_lt (blk_lt (g := gb408) (o := .cells #[.string t400, .string t401, .slice Ao14 t402.length co14, .string t405] 24 (0, 0)) (by (with_reducible repeat (first | refine blk_drewN ?_ _ | refine blk_drew ?_ | refine blk_alloc ?_ _)); exact BK408.out)) : gb408 ≠ gb430)); have n13_ := Aside0.mk ((by rw [hg]; exact Nat.ne_of_gt (blk_lt (g := gb408) (o := .cells #[.string t400, .string t401, .slice Ao14 t402.length co14, .string t405] 24 (0, 0)) (by (with_reducible repeat (first | refine blk_drewN ?_ _ | refine blk_drew ?_ | refine blk_alloc ?_ _)); exact BK408.out)) : gb430 ≠ gb408)); have n14_ := Aside0.mk ((by rw [hg]; exact Nat.ne_of_lt (blk_lt (g := gb417) (o := .cells #[.string t409, .string t410, .slice Ao20 t411.length co20, .string t414] 30 (0, 0)) (by (with_reducible repeat (first | refine blk_drewN ?_ _ | refine blk_drew ?_ | refine blk_alloc ?_ _)); exact BK417.out)) : gb417 ≠ gb430)); have n15_ := Aside0.mk ((by rw [hg]; exact Nat.ne_of_gt (blk_lt (g := gb417) (o := .cells #[.string t409, .string t410, .slice Ao20 t411.length co20, .string t414] 30 (0, 0)) (by (with_reducible repeat (first | refine blk_drewN ?_ _ | refine blk_drew ?_ | refine blk_alloc ?_ _)); exact BK417.out)) : gb430 ≠ gb417)); clear HO_409002; clear HO_418002; clear HO426; clear BK399; clear BK408; clear BK417; clear HB; have HO_409002 := n0_; have HO_418002 := n1_; have HO426 := n2_; have BK399 := n3_; have BK408 := n4_; have BK417 := n5_; have HB := n6_; have BK430 := n7_; have GW430 := n8_; have GE430 := n9_; have NB399_430 := n10_; have NB430_399 := n11_; have NB408_430 := n12_; have NB430_408 := n13_; have NB417_430 := n14_; have NB430_417 := n15_; clear n0_ n1_ n2_ n3_ n4_ n5_ n6_ n7_ n8_ n9_ n10_ n11_ n12_ n13_ n14_ n15_; clear hb hbox hg; have hnb61 := NB430_399.out; have hnc61 := NB399_430.out; have hnb62 := NB430_408.out; have hnc62 := NB408_430.out; have hnb63 := NB430_417.out; have hnc63 := NB417_430.out; have hcz64_0 : w60.cell? ⟨gb430, 0, none⟩ = some (.string (⟨#[]⟩ : ByteArray)) := (blk_cell BK430.out 0).trans rfl; have hcz64_1 : w60.cell? ⟨gb430, 1, none⟩ = some (.string (⟨#[]⟩ : ByteArray)) := (blk_cell BK430.out 1).trans rfl; have hcz64_2 : w60.cell? ⟨gb430, 2, none⟩ = some (.slice none 0 0) := (blk_cell BK430.out 2).trans rfl; have hcz64_3 : w60.cell? ⟨gb430, 3, none⟩ = some (.string (⟨#[]⟩ : ByteArray)) := (blk_cell BK430.out 3).trans rfl; have hfz64_0 := blk_frozen BK430.out 0; have hfz64_1 := blk_frozen BK430.out 1; have hfz64_2 := blk_frozen BK430.out 2; have hfz64_3 := blk_frozen BK430.out 3; obtain ⟨Ao65, co65, eo65⟩ := Kd.R_slice HO426.out; subst eo65; have hnb66 := NB408_417.out; have hnc66 := NB417_408.out; have hcz67_0 : w60.cell? ⟨gb408, 0, none⟩ = some (.string t400) := (blk_cell BK408.out 0).trans rfl; have hcz67_1 : w60.cell? ⟨gb408, 1, none⟩ = some (.string t401) := (blk_cell BK408.out 1).trans rfl; have hcz67_2 : w60.cell? ⟨gb408, 2, none⟩ = some (.slice Ao14 t402.length co14) := (blk_cell BK408.out 2).trans rfl; have hcz67_3 : w60.cell? ⟨gb408, 3, none⟩ = some (.string t405) := (blk_cell BK408.out 3).trans rfl; have hfz67_0 := blk_frozen BK408.out 0; have hfz67_1 := blk_frozen BK408.out 1; have hfz67_2 := blk_frozen BK408.out 2; have hfz67_3 := blk_frozen BK408.out 3; have hcz68_0 : w60.cell? ⟨gb417, 0, none⟩ = some (.string t409) := (blk_cell BK417.out 0).trans rfl; have hcz68_1 : w60.cell? ⟨gb417, 1, none⟩ = some (.string t410) := (blk_cell BK417.out 1).trans rfl; have hcz68_2 : w60.cell? ⟨gb417, 2, none⟩ = some (.slice Ao20 t411.length co20) := (blk_cell BK417.out 2).trans rfl; have hcz68_3 : w60.cell? ⟨gb417, 3, none⟩ = some (.string t414) := (blk_cell BK417.out 3).trans rfl; have hfz68_0 := blk_frozen BK417.out 0; have hfz68_1 := blk_frozen BK417.out 1; have hfz68_2 := blk_frozen BK417.out 2; have hfz68_3 := blk_frozen BK417.out 3) | ((with_reducible refine gate_callee (f := 11) rfl ?_); refine goesL_ (some 76) rfl rfl Tryz.func11 (by kernel_rfl) rfl #[.agg #[.string t400, .string t401, .slice Ao14 t402.length co14, .string t405], .agg #[.string t409, .string t410, .slice Ao20 t411.length co20, .string t414]] rfl (by (try simp only [List.map_toArray, List.map_cons, List.map_nil]); first | done | rfl | (simp only [List.length_drop, List.length_take]; rfl)) ?_; (with_reducible refine (wicketlaw15_request.calls kj4 t400 t401 _ _ t402 t405 t409 t410 _ _ t411 t414 true _ ?side1 ?side2 ?side3 ?side4 A48.out).mono ?_); (case side1 => refine (Kd.R_reads' (e := 80) (base := w.heap.size) (ok := fun k_ => (True ∧ some k_ ≠ (.slice Ao65 t424.length co65 : Value).ownBlock)) (n := t402.length) (c := co14) ?_).2.2; exact (by (with_reducible repeat (first | apply Kd.R_alloc | apply Kd.R_drewN | apply Kd.R_drew)); exact (Kd.R_mono (Kd.R_far (p := ⟨gb430, 3, none⟩) (Kd.R_far (p := ⟨gb430, 2, none⟩) (Kd.R_far (p := ⟨gb430, 1, none⟩) (Kd.R_far (p := ⟨gb430, 0, none⟩) (Kd.R_types HO_409002.out BK430.out (by decide)) (fun _ hk => hk.2) (.string t422)) (fun _ hk => hk.2) (.string t423)) (fun _ hk => hk.2) (.slice Ao65 t424.length co65)) (fun _ hk => hk.2) (.string t427)) (fun _ h_ => h_.1)))); (case side2 => exact (Kd.R_reads' HO_409002.out).2.1); (case side3 => refine (Kd.R_reads' (e := 84) (base := w.heap.size) (ok := fun k_ => True) (n := t411.length) (c := co20) ?_).2.2; exact (by (with_reducible repeat (first | apply Kd.R_alloc | apply Kd.R_drewN | apply Kd.R_drew)); exact (Kd.R_mono (Kd.R_far (p := ⟨gb430, 3, none⟩) (Kd.R_far (p := ⟨gb430, 2, none⟩) (Kd.R_far (p := ⟨gb430, 1, none⟩) (Kd.R_far (p := ⟨gb430, 0, none⟩) (Kd.R_types HO_418002.out BK430.out (by decide)) (fun _ hk => hk.2) (.string t422)) (fun _ hk => hk.2) (.string t423)) (fun _ hk => hk.2) (.slice Ao65 t424.length co65)) (fun _ hk => hk.2) (.string t427)) (fun _ h_ => h_.1)))); (case side4 => exact (Kd.R_reads' HO_418002.out).2.1); rintro e w69 ⟨rfl, hb⟩; refine ⟨_, rfl, ?_⟩; have n0_ := Aside0.mk (Kd.R_below (by (with_reducible repeat (first | apply Kd.R_alloc | apply Kd.R_drewN | apply Kd.R_drew)); exact (Kd.R_mono (Kd.R_far (p := ⟨gb430, 3, none⟩) (Kd.R_far (p := ⟨gb430, 2, none⟩) (Kd.R_far (p := ⟨gb430, 1, none⟩) (Kd.R_far (p := ⟨gb430, 0, none⟩) (Kd.R_types HO_409002.out BK430.out (by decide)) (fun _ hk => hk.2) (.string t422)) (fun _ hk => hk.2) (.string t423)) (fun _ hk => hk.2) (.slice Ao65 t424.length co65)) (fun _ hk => hk.2) (.string t427)) (fun _ h_ => h_.1))) hb); have n1_ := Aside0.mk (Kd.R_below (by (with_reducible repeat (first | apply Kd.R_alloc | apply Kd.R_drewN | apply Kd.R_drew)); exact (Kd.R_mono (Kd.R_far (p := ⟨gb430, 3, none⟩) (Kd.R_far (p := ⟨gb430, 2, none⟩) (Kd.R_far (p := ⟨gb430, 1, none⟩) (Kd.R_far (p := ⟨gb430, 0, none⟩) (Kd.R_types HO_418002.out BK430.out (by decide)) (fun _ hk => hk.2) (.string t422)) (fun _ hk => hk.2) (.string t423)) (fun _ hk => hk.2) (.slice Ao65 t424.length co65)) (fun _ hk => hk.2) (.string t427)) (fun _ h_ => h_.1))) hb); have n2_ := Aside0.mk (Kd.R_below (by (with_reducible repeat (first | apply Kd.R_alloc | apply Kd.R_drewN | apply Kd.R_drew)); exact (Kd.R_mono (Kd.R_far (p := ⟨gb430, 3, none⟩) (Kd.R_far (p := ⟨gb430, 2, none⟩) (Kd.R_far (p := ⟨gb430, 1, none⟩) (Kd.R_far (p := ⟨gb430, 0, none⟩) (Kd.R_types HO426.out BK430.out (by decide)) (fun _ hk => hk.2) (.string t422)) (fun _ hk => hk.2) (.string t423)) (fun _ hk => hk.2) (.slice Ao65 t424.length co65)) (fun _ hk => hk.2) (.string t427)) (fun _ h_ => h_.1))) hb); have n3_ := Aside0.mk (blk_below (g := gb399) (o := .cells #[.string t391, .string t392, .slice Ao9 t393.length co9, .string t396] 24 (0, 0)) (by (with_reducible repeat (first | refine blk_drewN ?_ _ | refine blk_drew ?_ | refine blk_alloc ?_ _)); refine blk_far ?_ NB399_430.out _; (with_reducible repeat (first | refine blk_drewN ?_ _ | refine blk_drew ?_ | refine blk_alloc ?_ _)); refine blk_far ?_ NB399_430.out _; (with_reducible repeat (first | refine blk_drewN ?_ _ | refine blk_drew ?_ | refine blk_alloc ?_ _)); refine blk_far ?_ NB399_430.out _; (with_reducible repeat (first | refine blk_drewN ?_ _ | refine blk_drew ?_ | refine blk_alloc ?_ _)); refine blk_far ?_ NB399_430.out _; (with_reducible repeat (first | refine blk_drewN ?_ _ | refine blk_drew ?_ | refine blk_alloc ?_ _)); exact BK399.out) hb); have n4_ := Aside0.mk (blk_below (g := gb408) (o := .cells #[.string t400, .string t401, .slice Ao14 t402.length co14, .string t405] 24 (0, 0)) (by (with_reducible repeat (first | refine blk_drewN ?_ _ | refine blk_drew ?_ | refine blk_alloc ?_ _)); refine blk_far ?_ NB408_430.out _; (with_reducible repeat (first | refine blk_drewN ?_ _ | refine blk_drew ?_ | refine blk_alloc ?_ _)); refine blk_far ?_ NB408_430.out _; (with_reducible repeat (first | refine blk_drewN ?_ _ | refine blk_drew ?_ | refine blk_alloc ?_ _)); refine blk_far ?_ NB408_430.out _; (with_reducible repeat (first | refine blk_drewN ?_ _ | refine blk_drew ?_ | refine blk_alloc ?_ _)); refine blk_far ?_ NB408_430.out _; (with_reducible repeat (first | refine blk_drewN ?_ _ | refine blk_drew ?_ | refine blk_alloc ?_ _)); exact BK408.out) hb); have n5_ := Aside0.mk (blk_below (g := gb417) (o := .cells #[.string t409, .string t410, .slice Ao20 t411.length co20, .string t414] 30 (0, 0)) (by (with_reducible repeat (first | refine blk_drewN ?_ _ | refine blk_drew ?_ | refine blk_alloc ?_ _)); refine blk_far ?_ NB417_430.out _; (with_reducible repeat (first | refine blk_drewN ?_ _ | refine blk_drew ?_ | refine blk_alloc ?_ _)); refine blk_far ?_ NB417_430.out _; (with_reducible repeat (first | refine blk_drewN ?_ _ | refine blk_drew ?_ | refine blk_alloc ?_ _)); refine blk_far ?_ NB417_430.out _; (with_reducible repeat (first | refine blk_drewN ?_ _ | refine blk_drew ?_ | refine blk_alloc ?_ _)); refine blk_far ?_ NB417_430.out _; (with_reducible repeat (first | refine blk_drewN ?_ _ | refine blk_drew ?_ | refine blk_alloc ?_ _)); exact BK417.out) hb); have n6_ := Aside0.mk (blk_below (g := gb430) (o := .cells #[.string t422, .string t423, .slice Ao65 t424.length co65, .string t427] 24 (0, 0)) (by (with_reducible repeat (first | refine blk_drewN ?_ _ | refine blk_drew ?_ | refine blk_alloc ?_ _)); refine blk_put (cs := #[.string t422, .string t423, .slice Ao65 t424.length co65, .string (⟨#[]⟩ : ByteArray)]) ?_ 3 _ rfl; (with_reducible repeat (first | refine blk_drewN ?_ _ | refine blk_drew ?_ | refine blk_alloc ?_ _)); refine blk_put (cs := #[.string t422, .string t423, .slice none 0 0, .string (⟨#[]⟩ : ByteArray)]) ?_ 2 _ rfl; (with_reducible repeat (first | refine blk_drewN ?_ _ | refine blk_drew ?_ | refine blk_alloc ?_ _)); refine blk_put (cs := #[.string t422, .string (⟨#[]⟩ : ByteArray), .slice none 0 0, .string (⟨#[]⟩ : ByteArray)]) ?_ 1 _ rfl; (with_reducible repeat (first | refine blk_drewN ?_ _ | refine blk_drew ?_ | refine blk_alloc ?_ _)); refine blk_put (cs := #[.string (⟨#[]⟩ : ByteArray), .string (⟨#[]⟩ : ByteArray), .slice none 0 0, .string (⟨#[]⟩ : ByteArray)]) ?_ 0 _ rfl; (with_reducible repeat (first | refine blk_drewN ?_ _ | refine blk_drew ?_ | refine blk_alloc ?_ _)); exact BK430.out) hb); have n7_ := Aside0.mk (below_step (by repeat (first | (with_reducible first | exact HB.out | apply below_alloc | apply pw_below_drewN | apply below_drew1 | refine below_set ?_ GE399.out | refine below_set ?_ GE408.out | refine below_set ?_ GE417.out | refine below_set ?_ GE430.out) | exact HB.out)) hb); clear HO_409002; clear HO_418002; clear HO426; clear BK399; clear BK408; clear BK417; clear BK430; clear HB; have HO_409002 := n0_; have HO_418002 := n1_; have HO426 := n2_; have BK399 := n3_; have BK408 := n4_; have BK417 := n5_; have BK430 := n6_; have HB := n7_; clear n0_ n1_ n2_ n3_ n4_ n5_ n6_ n7_; (try clear hb); (try clear hb2); (try clear hk); (try clear hi)) | (go_at_call 10; (with_reducible refine (wicketlaw15_num.calls t428 t428 _ A50.out).mono ?_); rintro e w' ⟨rfl, ⟨nd, rfl⟩⟩; have hcz70_0 : w69.cell? ⟨gb430, 0, none⟩ = some (.string t422) := (blk_cell BK430.out 0).trans rfl; have hcz70_1 : w69.cell? ⟨gb430, 1, none⟩ = some (.string t423) := (blk_cell BK430.out 1).trans rfl; have hcz70_2 : w69.cell? ⟨gb430, 2, none⟩ = some (.slice Ao65 t424.length co65) := (blk_cell BK430.out 2).trans rfl; have hcz70_3 : w69.cell? ⟨gb430, 3, none⟩ = some (.string t427) := (blk_cell BK430.out 3).trans rfl; have hfz70_0 := blk_frozen BK430.out 0; have hfz70_1 := blk_frozen BK430.out 1; have hfz70_2 := blk_frozen BK430.out 2; have hfz70_3 := blk_frozen BK430.out 3; have hcz71_0 : w69.cell? ⟨gb417, 0, none⟩ = some (.string t409) := (blk_cell BK417.out 0).trans rfl; have hcz71_1 : w69.cell? ⟨gb417, 1, none⟩ = some (.string t410) := (blk_cell BK417.out 1).trans rfl; have hcz71_2 : w69.cell? ⟨gb417, 2, none⟩ = some (.slice Ao20 t411.length co20) := (blk_cell BK417.out 2).trans rfl; have hcz71_3 : w69.cell? ⟨gb417, 3, none⟩ = some (.string t414) := (blk_cell BK417.out 3).trans rfl; have hfz71_0 := blk_frozen BK417.out 0; have hfz71_1 := blk_frozen BK417.out 1; have hfz71_2 := blk_frozen BK417.out 2; have hfz71_3 := blk_frozen BK417.out 3) | (go_at_call 11; (with_reducible refine (wicketlaw15_request.calls kj4 t422 t423 _ _ t424 t427 t409 t410 _ _ t411 t414 true _ ?side1 ?side2 ?side3 ?side4 A52.out).mono ?_); (case side1 => repeat (first | exact (Kd.R_reads' HO426.out).2.2 | (with_reducible refine Kd.C_alloc ?_ _) | (with_reducible refine Kd.C_drewN ?_ _) | (with_reducible refine Kd.C_drew ?_))); (case side2 => exact (Kd.R_reads' HO426.out).2.1); (case side3 => repeat (first | exact (Kd.R_reads' HO_418002.out).2.2 | (with_reducible refine Kd.C_alloc ?_ _) | (with_reducible refine Kd.C_drewN ?_ _) | (with_reducible refine Kd.C_drew ?_))); (case side4 => exact (Kd.R_reads' HO_418002.out).2.1); rintro e w72 ⟨rfl, hb⟩; have n0_ := Aside0.mk (Kd.R_below (by (with_reducible repeat (first | apply Kd.R_alloc | apply Kd.R_drewN | apply Kd.R_drew)); exact HO_409002.out) hb); have n1_ := Aside0.mk (Kd.R_below (by (with_reducible repeat (first | apply Kd.R_alloc | apply Kd.R_drewN | apply Kd.R_drew)); exact HO_418002.out) hb); have n2_ := Aside0.mk (Kd.R_below (by (with_reducible repeat (first | apply Kd.R_alloc | apply Kd.R_drewN | apply Kd.R_drew)); exact HO426.out) hb); have n3_ := Aside0.mk (blk_below (g := gb399) (o := .cells #[.string t391, .string t392, .slice Ao9 t393.length co9, .string t396] 24 (0, 0)) (by (with_reducible repeat (first | refine blk_drewN ?_ _ | refine blk_drew ?_ | refine blk_alloc ?_ _)); exact BK399.out) hb); have n4_ := Aside0.mk (blk_below (g := gb408) (o := .cells #[.string t400, .string t401, .slice Ao14 t402.length co14, .string t405] 24 (0, 0)) (by (with_reducible repeat (first | refine blk_drewN ?_ _ | refine blk_drew ?_ | refine blk_alloc ?_ _)); exact BK408.out) hb); have n5_ := Aside0.mk (blk_below (g := gb417) (o := .cells #[.string t409, .string t410, .slice Ao20 t411.length co20, .string t414] 30 (0, 0)) (by (with_reducible repeat (first | refine blk_drewN ?_ _ | refine blk_drew ?_ | refine blk_alloc ?_ _)); exact BK417.out) hb); have n6_ := Aside0.mk (blk_below (g := gb430) (o := .cells #[.string t422, .string t423, .slice Ao65 t424.length co65, .string t427] 24 (0, 0)) (by (with_reducible repeat (first | refine blk_drewN ?_ _ | refine blk_drew ?_ | refine blk_alloc ?_ _)); exact BK430.out) hb); have n7_ := Aside0.mk (below_step (by repeat (first | (with_reducible first | exact HB.out | apply below_alloc | apply pw_below_drewN | apply below_drew1 | refine below_set ?_ GE399.out | refine below_set ?_ GE408.out | refine below_set ?_ GE417.out | refine below_set ?_ GE430.out) | exact HB.out)) hb); clear HO_409002; clear HO_418002; clear HO426; clear BK399; clear BK408; clear BK417; clear BK430; clear HB; have HO_409002 := n0_; have HO_418002 := n1_; have HO426 := n2_; have BK399 := n3_; have BK408 := n4_; have BK417 := n5_; have BK430 := n6_; have HB := n7_; clear n0_ n1_ n2_ n3_ n4_ n5_ n6_ n7_; (try clear hb); (try clear hb2); (try clear hk); (try clear hi)) | (go_at_call 13; (with_reducible refine (wicketlaw15_live.calls kj4  t434 _ ?side1 A54.out).mono ?_); (case side1 => exact GL_below HG.out (by repeat (first | (with_reducible first | exact HB.out | apply below_alloc | apply pw_below_drewN | apply below_drew1 | refine below_set ?_ GE399.out | refine below_set ?_ GE408.out | refine below_set ?_ GE417.out | refine below_set ?_ GE430.out) | exact HB.out))); rintro e w73 ⟨rfl, hb⟩; have n0_ := Aside0.mk (Kd.R_below (by (with_reducible repeat (first | apply Kd.R_alloc | apply Kd.R_drewN | apply Kd.R_drew)); exact HO_409002.out) hb); have n1_ := Aside0.mk (Kd.R_below (by (with_reducible repeat (first | apply Kd.R_alloc | apply Kd.R_drewN | apply Kd.R_drew)); exact HO_418002.out) hb); have n2_ := Aside0.mk (Kd.R_below (by (with_reducible repeat (first | apply Kd.R_alloc | apply Kd.R_drewN | apply Kd.R_drew)); exact HO426.out) hb); have n3_ := Aside0.mk (blk_below (g := gb399) (o := .cells #[.string t391, .string t392, .slice Ao9 t393.length co9, .string t396] 24 (0, 0)) (by (with_reducible repeat (first | refine blk_drewN ?_ _ | refine blk_drew ?_ | refine blk_alloc ?_ _)); exact BK399.out) hb); have n4_ := Aside0.mk (blk_below (g := gb408) (o := .cells #[.string t400, .string t401, .slice Ao14 t402.length co14, .string t405] 24 (0, 0)) (by (with_reducible repeat (first | refine blk_drewN ?_ _ | refine blk_drew ?_ | refine blk_alloc ?_ _)); exact BK408.out) hb); have n5_ := Aside0.mk (blk_below (g := gb417) (o := .cells #[.string t409, .string t410, .slice Ao20 t411.length co20, .string t414] 30 (0, 0)) (by (with_reducible repeat (first | refine blk_drewN ?_ _ | refine blk_drew ?_ | refine blk_alloc ?_ _)); exact BK417.out) hb); have n6_ := Aside0.mk (blk_below (g := gb430) (o := .cells #[.string t422, .string t423, .slice Ao65 t424.length co65, .string t427] 24 (0, 0)) (by (with_reducible repeat (first | refine blk_drewN ?_ _ | refine blk_drew ?_ | refine blk_alloc ?_ _)); exact BK430.out) hb); have n7_ := Aside0.mk (below_step (by repeat (first | (with_reducible first | exact HB.out | apply below_alloc | apply pw_below_drewN | apply below_drew1 | refine below_set ?_ GE399.out | refine below_set ?_ GE408.out | refine below_set ?_ GE417.out | refine below_set ?_ GE430.out) | exact HB.out)) hb); clear HO_409002; clear HO_418002; clear HO426; clear BK399; clear BK408; clear BK417; clear BK430; clear HB; have HO_409002 := n0_; have HO_418002 := n1_; have HO426 := n2_; have BK399 := n3_; have BK408 := n4_; have BK417 := n5_; have BK430 := n6_; have HB := n7_; clear n0_ n1_ n2_ n3_ n4_ n5_ n6_ n7_; (try clear hb); (try clear hb2); (try clear hk); (try clear hi)))
              go_ret
              exact ⟨by first | rfl | (simp [errW_none, errW_some] <;> rfl) | (simp [*, errW_none, errW_some] <;> rfl), by repeat (first | (with_reducible first | exact HB.out | apply below_alloc | apply pw_below_drewN | apply below_drew1 | refine below_set ?_ GE399.out | refine below_set ?_ GE408.out | refine below_set ?_ GE417.out | refine below_set ?_ GE430.out) | exact HB.out)⟩
            · replace c53 := Bool.eq_false_iff.mpr c53
              subst c53
              have H1 : none = some r := by rw [if_neg (show ¬ (false = true) by decide)] at H; exact H
              clear H
              have H := H1
              clear H1
              cases H
          · rw [if_neg c51] at H
            have c51b0 : (t428 == t415) = false := beq_eq_false_iff_ne.mpr c51
            have c51b1 : (t428 != t415) = true := bne_iff_ne.mpr c51
            cases H
        · replace c49 := Bool.eq_false_iff.mpr c49
          subst c49
          have H1 : none = some r := by rw [if_neg (show ¬ (false = true) by decide)] at H; exact H
          clear H
          have H := H1
          clear H1
          cases H
end Go.Proofs.YtmfkgjnlobiobaaGreatDoor.X
namespace Go.Proofs.YtmfkgjnlobiobaaGreatDoor.X
open Go.RowKit Go.Shelf Go.Proofs.YtmfkgjnlobiobaaGreatDoorW.PrintWords
theorem fieldOf_is (l : List (List UInt8 × List UInt8)) : l.map fieldOf = (l.map pairOf).map fF := by
  rw [List.map_map]
  rfl
theorem spoil_l1 (l : List S80) (n : Nat) (hn : n ≤ 1000000) : ∀ (d k i : Nat) (l : List S80), i + d = 64 → d < k → l.length ≤ n + i → wicketlaw15_spoil.l1 k l (i : Int) = some ()
  | _, 0, _, _, _, hk, _ => absurd hk (Nat.not_lt_zero _)
  | 0, k + 1, i, l, hi, _, _ => by rw [wicketlaw15_spoil.l1, if_neg (by omega)]
  | d + 1, k + 1, i, l, hi, hk, hl => by
    rw [wicketlaw15_spoil.l1, if_pos (by omega), if_pos (by omega), wr _ (by omega)]
    exact spoil_l1 l n hn d k (i + 1) _ (by omega) (by omega) (by rw [List.length_append, List.length_singleton]; omega)
theorem spoil_l0 : ∀ (d k i : Nat) (l : List S80), i + d = l.length → d + 66 < k → l.length ≤ 1000 → wicketlaw15_spoil.l0 k l (i : Int) = some ()
  | _, 0, _, _, _, hk, _ => absurd hk (Nat.not_lt_zero _)
  | 0, k + 1, i, l, hi, hk, hl => by
    rw [wicketlaw15_spoil.l0, if_neg (by omega)]
    exact spoil_l1 l l.length (by omega) 64 k 0 l (by omega) (by omega) (by omega)
  | d + 1, k + 1, i, l, hi, hk, hl => by
    rw [wicketlaw15_spoil.l0, if_pos (by omega), if_pos (by omega), wr _ (by omega)]
    exact spoil_l0 d k (i + 1) _ (by rw [List.length_set]; omega) (by omega) (by rw [List.length_set]; exact hl)
theorem spoil_f (k : Nat) (l : List S80) (hl : l.length ≤ 1000) (hk : 2000 ≤ k) : wicketlaw15_spoil.f k l = some () := spoil_l0 l.length k 0 l (by omega) (by omega) hl
theorem parseF_few (raw : List UInt8) : (parseF raw).2.2.1.length ≤ 64 := by
  by_cases h : okP (parseF raw)
  · obtain ⟨m, t, l, b, hp, _, hl, _⟩ := parseF_good raw h
    rw [hp]
    exact hl
  · have : (parseF raw).2.2.1 = [] := by
      revert h
      unfold okP parseF targP tailP
      repeat' split
      all_goals first | (intro _; rfl) | (intro h; exact absurd rfl h)
    rw [this]
    exact Nat.zero_le _
theorem request_f (k : Nat) (r : PR) (hl : r.2.2.1.length ≤ 64) (hk : 100 ≤ k) : wicketlaw15_request.f k (encP r).1 (encP r).2.1 (encP r).2.2.1 (encP r).2.2.2.1 (encQ r).1 (encQ r).2.1 (encQ r).2.2.1 (encQ r).2.2.2.1 = some true := by
  have hf := fields_f k (r.2.2.1.map pairOf) (by rw [List.length_map]; omega) (by rw [List.length_map]; omega)
  unfold wicketlaw15_request.f encP encQ
  rw [if_pos rfl, if_pos rfl, if_pos rfl]
  show (wicketlaw15_fields.f k (r.2.2.1.map pairOf) (r.2.2.1.map fieldOf)).bind _ = _
  rw [fieldOf_is, hf]
  rfl
theorem Requests_f (raw : ByteArray) : wicketlaw15_HttpRequests.f (200000 + 1) raw = some true := by
  have hr := request_f (200000 + 1) (parseF raw.data.toList) (parseF_few _) (by omega)
  have hr0 := request_f 200000 (parseF raw.data.toList) (parseF_few _) (by omega)
  have hs : (encP (parseF raw.data.toList)).2.2.1.length ≤ 1000 := by
    show ((parseF raw.data.toList).2.2.1.map pairOf).length ≤ 1000
    have := parseF_few raw.data.toList
    rw [List.length_map]
    omega
  have hP := ParseRequest_f 200000 raw (by omega)
  unfold wicketlaw15_HttpRequests.f
  rw [ParseRequest_f _ _ (by omega), rParseRequest_f _ _ (by omega)]
  generalize parseF raw.data.toList = r at hr hr0 hs hP ⊢
  simp only [Option.bind_some, wicketlaw15_num.f]
  rw [if_pos (show (encP r).2.2.2.2.1 = (encQ r).2.2.2.2.1 from rfl), if_pos (show (encP r).2.2.2.2.1 = (encQ r).2.2.2.2.1 from rfl), if_pos (show (encP r).2.2.2.2.2 = (encQ r).2.2.2.2.2 from rfl), if_pos (show (encP r).2.2.2.2.2 = (encQ r).2.2.2.2.2 from rfl), hr]
  simp only [Option.bind_some]
  rw [if_pos trivial, wicketlaw15_HttpRequests.j0, if_neg (by decide), spoil_f 200000 _ hs (by omega)]
  simp only [Option.bind_some]
  rw [hP]
  simp only [Option.bind_some, wicketlaw15_num.f]
  rw [hr0]
  simp only [Option.bind_some]
  rw [if_pos trivial, if_pos (show (encP r).2.2.2.2.1 = (encQ r).2.2.2.2.1 from rfl)]
  rw [if_pos trivial, show wicketlaw15_live.f 200000 = some true from live_at 199960]
  rfl
end Go.Proofs.YtmfkgjnlobiobaaGreatDoor.X
namespace Go.Proofs.YtmfkgjnlobiobaaGreatDoor.httpRequests
open Go.ChangeShapes Go.WideShapes Go.ChangeAt Go.RowKit
open Go.ChangeMaps (open_string shut_string)
theorem own : ownKnob Tryz.prog.godebug = none := by kernel_rfl
theorem laidOut : laidOutB Tryz.prog = true := by kernel_rfl
set_option maxRecDepth 100000 in
theorem contract (H : Type) (enc : TypeId × Value → H) (W : World) (base : Nat) (args : Array Value) (ds gs : List (DataW H)) (before : List MemPlace)
    (hval0 : ∀ (j : Nat) t v, Tryz.f3.params[j]? = some t → args[j]? = some v → Value.okWide Tryz.prog W .any base t v)
    (hW : DataW.Whole enc Tryz.prog Tryz.f3.params.toList Rows.httpRequestsSpec.vars false W args.toList ds gs before)
    (hsz0 : (DataW.weightsEach Tryz.prog (Tryz.f3.params.toList ++ Rows.httpRequestsSpec.plain.varTypes Tryz.prog) (ds ++ gs)).all (· ≤ reachBytes) = true) (hG : X.GL W) :
    Calls Tryz.prog 3 args W fun e W' => ∃ v, e = .returned v ∧ Rows.httpRequestsSpec.post enc Tryz.prog Tryz.f3 false true false false W args v W' := by
  have hval := hval0
  have hsz := hsz0
  have hW' := hW
  obtain ⟨p, q, hA0, hV, rfl, hfz, hnd⟩ := hW
  have hA : DataW.TrodAll enc Tryz.prog W 0 (fun _ => true) true Tryz.f3.params.toList args.toList ds p := hA0
  rw [Tryz.params3] at hA hval hsz
  obtain ⟨v0, vs0, d0, ds0, p0, q0, hargs, rfl, rfl, h0, r0⟩ := trodAll_cons hA
  obtain ⟨rfl, rfl, rfl⟩ := trodAll_nil r0
  obtain rfl : args = #[v0] := by cases args; simp_all
  obtain ⟨rfl, rfl⟩ := trodVars_none hV
  obtain ⟨a0, rfl, rfl, rfl, y0⟩ := open_string Tryz.underlying9 (hval 0 9 v0 rfl rfl) h0
  have w0 : a0.size ≤ 140737488351232 := by
    have z := sized_string hsz (j := 0) (t := 9) rfl rfl
    rw [Array.length_toList] at z
    exact z
  clear hA0 hval0 hsz0 hsz
  refine (X.wicketlaw15_HttpRequests.calls (200000 + 1) a0 true W hG (X.Requests_f a0)).mono fun e W' ⟨he, bel⟩ => ?_
  subst he
  exact ⟨_, rfl, _, _, _, [], _, [], hW', trodAll_mk1 (shut_bool Tryz.underlying4 _), (trodAll_cons_mk (shut_string Tryz.underlying9 y0) trodAll_mk0), rfl, bel.frame _, fun h => by cases h⟩
theorem lay_met (os : Os) : laidMetH Tryz.prog Rows.httpRequestsRow.laid ((World.laidAll Tryz.prog os Rows.httpRequestsRow.laid).forCall (fun _ _ => 0) ⟨#[], #[.string ⟨#[]⟩], []⟩).memory := by
  rw [MakeChecks.laidMetH_plain _ _ _ (by kernel_rfl)]
  exact laidMet_laidAll _ (by kernel_rfl) (by kernel_rfl)
theorem reads (os : Os) {H : Type} (enc : TypeId × Value → H) : ∃ places, DataW.whole enc Tryz.prog ((World.laidAll Tryz.prog os Rows.httpRequestsRow.laid).forCall (fun _ _ => 0) ⟨#[], #[.string ⟨#[]⟩], []⟩).memory Tryz.f3.params.toList Rows.httpRequestsSpec.vars false (#[.string ⟨#[]⟩] : Array Value).toList 8 = some ([.lit (.string [])], [], places) := ⟨[], by kernel_rfl⟩
set_option maxRecDepth 100000 in
theorem lifted (os : Os) (started : os.Started) (H : Type) (enc : TypeId × Value → H) (F : Stop.Interp) :
    ReturnsInHanded {} Tryz.checked os 3 .any ((OpenSpec.ofChange Rows.httpRequestsSpec).preRow enc Tryz.prog Tryz.f3 Rows.httpRequestsRow.domain false Rows.httpRequestsRow.laid) (((OpenSpec.ofChange Rows.httpRequestsSpec).at F).post enc Tryz.prog Tryz.f3 false true false false) := by
  obtain ⟨places, hx⟩ := reads os enc
  refine returnsInHanded_of_row (C := Tryz.checked) (s := OpenSpec.ofChange Rows.httpRequestsSpec) own started (by kernel_rfl) Tryz.func3
    (witness_row_atRef (enc := enc) (C := Tryz.checked) false (World.laidAll Tryz.prog os Rows.httpRequestsRow.laid) #[.string ⟨#[]⟩] (World.laidAll_os _ _ _) (by kernel_rfl) (by kernel_rfl) (by kernel_rfl)
      (OpenSpec.preRow_of_cond 8 hx (by kernel_rfl) (fun k hk => by cases hk) (by kernel_rfl) (lay_met os))) ?_
  intro W base args ds gs before hval hW _ _ hsz hL hS _
  exact contract H enc W base args ds gs before hval hW hsz (X.GL_of hL hS)
theorem said : Rows.HttpRequestsSaid :=
  OpenClaim.holds_of_cond 3 Tryz.f3 rfl rfl rfl rfl rfl rfl rfl ⟨rfl, rfl, rfl, rfl, rfl⟩ rfl rfl rfl rfl rfl (by kernel_rfl) Tryz.func3 (by kernel_rfl)
    (of_decide_eq_true (by kernel_rfl)) (by unfold Func.isWrapper; first | (rw [if_pos (by decide +kernel)]; kernel_rfl) | (rw [if_neg (by decide +kernel)]; exact ⟨rfl, rfl⟩))
    (fun os started H enc _ F => by rw [OpenClaim.pre_eq_preRow]; exact lifted os started H enc F)
theorem plain (f : FuncId) (fn : Func) (hf : Tryz.pinned.checked.prog.funcNamed "wicket/wicketlaw15.HttpRequests" = some f) (hfn : Tryz.pinned.checked.prog.funcs[f]? = some fn) :
    true = Tryz.pinned.checked.prog.looks [] ∧ ∀ (j : Nat) t, fn.params[j]? = some t → Tryz.pinned.checked.prog.wantsStandIn t = false := by
  obtain rfl : f = 3 := Option.some.inj ((show Tryz.prog.funcNamed "wicket/wicketlaw15.HttpRequests" = some 3 by kernel_rfl).symm.trans hf) |>.symm
  obtain rfl : fn = Tryz.f3 := (Option.some.inj (Tryz.func3.symm.trans hfn)).symm
  refine ⟨by kernel_rfl, fun j t ht => ?_⟩
  rw [Tryz.params3] at ht
  have hm := Array.mem_of_getElem? ht
  simp only [List.mem_toArray, List.mem_cons, List.not_mem_nil, or_false] at hm
  subst hm
  exact (show Tryz.prog.wantsStandIn 9 = false by kernel_rfl)
theorem card : Rows.HttpRequestsCardSaid :=
  Claim7.holds_tied_plain_at .later [] _ _ _ _ said (fun _ h => by cases h) (by kernel_rfl) (fun _ h => by cases h) httpRequests_row_tie rfl ⟨rfl, rfl⟩ (by kernel_rfl) rfl plain (by kernel_rfl)
#print axioms card
end Go.Proofs.YtmfkgjnlobiobaaGreatDoor.httpRequests
