/- The texts of this work, put together: F1, R1, Rb, P1, Rs, As, P2, F2, F3. -/
import Derived.Test.YtmfkgjnlobiobaaGreatDoorE2
import Derived.Test.YtmfkgjnlobiobaaGreatDoorX0
import Derived.Test.YtmfkgjnlobiobaaGreatDoorE0
import Derived.Test.YtmfkgjnlobiobaaGreatDoorX3
import Derived.IntWalk
import Derived.Lib.Bytes2
import Derived.Test.YtmfkgjnlobiobaaGreatDoorX5
import Derived.Test.YtmfkgjnlobiobaaGreatDoorX6
import Derived.OwnWalk
import Derived.RegionTactic
set_option linter.unusedVariables false
set_option linter.unusedSimpArgs false
namespace Go.Proofs.YtmfkgjnlobiobaaGreatDoor.X
open Go.RowKit Go.Shelf Go.Proofs.YtmfkgjnlobiobaaGreatDoorW.PrintWords
set_option maxHeartbeats 1000000 in
theorem Small_calls (s : ByteArray) (hs : s.size ≤ 140737488351232) (w : World) :
    Calls Tryz.prog 50 #[.string s] w fun e w' => e = .returned (.string (bs (s.data.toList.map low))) ∧ Below w.heap.size w w' := by
  have kb := fun W => print_bytes (P := Tryz.prog) 9 100 5 Tryz.underlying9 Tryz.underlying100 Tryz.underlying5 s W
  have S0 := Aside0.mk (smallW_start w 5 s)
  go_enter Tryz.func50, Tryz.ntmps50
  go_wp2
  go_loopw [4] (fun i wr => ∃ k : Nat, k ≤ s.size ∧ i = .int .i64 k ∧ SmallW w s k wr) (fun i _ => s.size - (intOf i).toNat)
  case atStart => exact ⟨0, Nat.zero_le _, rfl, S0.out⟩
  case round =>
    obtain ⟨k, hk, rfl, hS⟩ := hrel
    have HS := Aside0.mk hS
    clear hS S0 kb
    by_cases hlt : k < s.size
    · have hcell := HS.out.cell k hlt
      have hfree := HS.out.free k hlt
      rw [show lowTo s.data.toList k k = (s[k].toNat : Int) from by unfold lowTo; rw [if_neg (by omega), List.getD_eq_getElem?_getD, List.getElem?_eq_getElem (by simpa using hlt)]; rfl] at hcell
      have hb := s[k].toNat_lt
      by_cases hc : 65 ≤ (s[k]).toNat ∧ (s[k]).toNat ≤ 90
      · have HT := Aside0.mk (show SmallW w s (k + 1) (wr.setCell ⟨w.heap.size, k, none⟩ (.int .u8 ((s[k].toNat : Int) - 65 + 97))) by rw [show (s[k].toNat : Int) - 65 + 97 = s[k].toNat + 97 - 65 by omega]; exact smallW_set HS.out hlt hc)
        obtain ⟨hc1, hc2⟩ := hc
        go_wp2
        go_roundw
        case rel => exact ⟨k + 1, by omega, by go_num, HT.out⟩
        case measure => simp [intOf]; omega
      · have HT := Aside0.mk (smallW_keep HS.out hlt hc)
        by_cases hc1 : 65 ≤ (s[k]).toNat
        · have hc2 : ¬ (s[k]).toNat ≤ 90 := fun h => hc ⟨hc1, h⟩
          clear hc
          go_wp2
          go_roundw
          case rel => exact ⟨k + 1, by omega, by go_num, HT.out⟩
          case measure => simp [intOf]; omega
        · clear hc
          go_wp2
          go_roundw
          case rel => exact ⟨k + 1, by omega, by go_num, HT.out⟩
          case measure => simp [intOf]; omega
    · obtain rfl : k = s.size := by omega
      have kc := run_convert_bytes_arg (P := Tryz.prog) wr 100 5 Tryz.underlying100 Tryz.underlying5 w.heap.size 0 s.size (grownCap w s.size 0 5) ((List.range s.size).map (lowTo s.data.toList s.size)) (by simp) (fun i hi => by
        rw [Nat.zero_add, HS.out.cell i hi]
        simp [List.getD_eq_getElem?_getD, hi]) 9 Tryz.underlying9
      rw [lowTo_str] at kc
      go_wp2
      go_ret
      exact ⟨rfl, HS.out.below⟩
def wicketref15_Small.f (a0 : ByteArray) : Option ByteArray := if a0.size ≤ 140737488351232 then some (bs (a0.data.toList.map low)) else none
theorem wicketref15_Small.calls (a0 : ByteArray) (r : ByteArray) (w : World) (h : wicketref15_Small.f a0 = some r) :
    Calls Tryz.prog 50 #[.string a0] w fun e w' => e = .returned (.string r) ∧ Below w.heap.size w w' := by
  unfold wicketref15_Small.f at h
  split at h
  · rename_i hs
    simp only [Option.some.injEq] at h
    subst h
    exact Small_calls a0 hs w
  · cases h
end Go.Proofs.YtmfkgjnlobiobaaGreatDoor.X
namespace Go.Proofs.YtmfkgjnlobiobaaGreatDoor.X
open Go.RowKit Go.Proofs.YtmfkgjnlobiobaaGreatDoorW.PrintWords Go.Proofs.YtmfkgjnlobiobaaGreatDoorW.PrintLast Go.Proofs.YtmfkgjnlobiobaaGreatDoorW.PrintMore
attribute [local go_sem] max2_int min2_int max_two min_two max_three min_three max_four min_four   -- for this text's walks alone
set_option linter.unusedVariables false
set_option linter.unusedSimpArgs false

/-! ### wicketref15_method: function 40 -/
def wicketref15_method.l0 : Nat → ByteArray → Int → Option (Bool)
  | 0, _, _ => none
  | k + 1, x0, x3 => if x3 < (x0.size : Int) then (if 0 ≤ x3 then (if (bt x0 x3) < 65 then (some false) else (if (bt x0 x3) > 90 then (some false) else (wicketref15_method.l0 k x0 (wrap64 (x3 + 1))))) else (none)) else (if (x0.size : Int) ≥ 1 then (some (decide ((x0.size : Int) ≤ 16))) else (some false))
def wicketref15_method.f (k : Nat) (a0 : ByteArray) : Option (Bool) := wicketref15_method.l0 k a0 0
theorem wicketref15_method.mono_l : ∀ k, (∀ y0 y1, LeO (wicketref15_method.l0 k y0 y1) (wicketref15_method.l0 (k + 1) y0 y1))
  | 0 => fun _ _ r h => by simp [wicketref15_method.l0] at h
  | k + 1 => by
    have ih0 := wicketref15_method.mono_l k
    · intro y0 y1
      unfold wicketref15_method.l0
      repeat' first
      | (with_reducible exact ih0 _ _)
      | (with_reducible exact LeO.refl _)
      | (with_reducible exact LeO.none _)
      | (with_reducible refine LeO.ite ?_ ?_)
      | (with_reducible refine LeO.bind ?_ (fun _ => ?_))
      | exact ih0 _ _
      | exact LeO.none _
      | refine LeO.ite ?_ ?_
      | refine LeO.bind ?_ (fun _ => ?_)
theorem wicketref15_method.mono : ∀ a0 k, LeO (wicketref15_method.f k a0) (wicketref15_method.f (k + 1) a0) := by
  intro a0 k
  have ih0 := wicketref15_method.mono_l k
  unfold wicketref15_method.f
  repeat' first
      | (with_reducible exact ih0 _ _)
      | (with_reducible exact LeO.refl _)
      | (with_reducible exact LeO.none _)
      | (with_reducible refine LeO.ite ?_ ?_)
      | (with_reducible refine LeO.bind ?_ (fun _ => ?_))
      | exact ih0 _ _
      | exact LeO.none _
      | refine LeO.ite ?_ ?_
      | refine LeO.bind ?_ (fun _ => ?_)
set_option maxHeartbeats 8000000 in
set_option maxRecDepth 100000 in
theorem wicketref15_method.calls (k : Nat) (a0 : ByteArray) (r : Bool) (w : World) (h : wicketref15_method.f k a0 = some r) :
    Calls Tryz.prog 40 #[.string a0] w fun e w' => e = .returned (.bool r) ∧ Drawn0 w w' := by
  have H : (wicketref15_method.l0 k a0 0) = some r := h
  clear h
  have H' := Aside0.mk H
  clear H
  go_enter Tryz.func40, Tryz.ntmps40
  go_wp2
  go_loopg [3] k (fun kq v3 w' => ∃ (x3_1 : Int), v3 = .int .i64 x3_1 ∧ Aside0 (wicketref15_method.l0 kq a0 x3_1 = some r) ∧ Aside0 (kq ≤ k) ∧ Drawn0 w w')
  case atStart => exact ⟨(0), (by first | rfl | (simp; done) | (simp [*]; done)), H', ⟨Nat.le_refl _⟩, by repeat (first | exact Drawn0.refl _ | apply Drawn0.step)⟩
  case round =>
    clear H'
    obtain ⟨x3_1, rfl, HA, HK1, ⟨m1, rfl⟩⟩ := hrel
    cases gk with
    | zero => exact absurd HA.out (by simp [wicketref15_method.l0])
    | succ k1 =>
      have H := HA.out
      clear HA
      simp only [wicketref15_method.l0] at H
      by_cases c2 : x3_1 < (a0.size : Int)
      · rw [if_pos c2] at H
        have c2b0 : decide (x3_1 < (a0.size : Int)) = true := decide_eq_true c2
        clear c2
        by_cases c3 : 0 ≤ x3_1
        · rw [if_pos c3] at H
          have c3b0 : decide (0 ≤ x3_1) = true := decide_eq_true c3
          clear c3
          by_cases c5 : (bt a0 x3_1) < 65
          · rw [if_pos c5] at H
            have c5b0 : decide ((bt a0 x3_1) < 65) = true := decide_eq_true c5
            clear c5
            obtain rfl := Option.some.inj H
            have p4 : 0 ≤ (x3_1 : Int) := of_decide_eq_true (by first | (with_reducible assumption) | assumption)
            have q4 : x3_1 < (a0.size : Int) := of_decide_eq_true (by first | (with_reducible assumption) | assumption)
            have hx4 := bt_at a0 x3_1
            replace p4 := eq_true p4
            replace q4 := eq_true q4
            go_wp2
            go_ret
            exact ⟨by first | rfl | (simp; done) | (simp [*]; done), by repeat (first | exact Drawn0.refl _ | apply Drawn0.step)⟩
          · rw [if_neg c5] at H
            have c5b0 : decide ((bt a0 x3_1) < 65) = false := decide_eq_false c5
            clear c5
            by_cases c7 : (bt a0 x3_1) > 90
            · rw [if_pos c7] at H
              have c7b0 : decide (90 < (bt a0 x3_1)) = true := decide_eq_true c7
              clear c7
              obtain rfl := Option.some.inj H
              have p4 : 0 ≤ (x3_1 : Int) := of_decide_eq_true (by first | (with_reducible assumption) | assumption)
              have q4 : x3_1 < (a0.size : Int) := of_decide_eq_true (by first | (with_reducible assumption) | assumption)
              have hx4 := bt_at a0 x3_1
              replace p4 := eq_true p4
              replace q4 := eq_true q4
              have p6 : 0 ≤ (x3_1 : Int) := of_decide_eq_true (by first | (with_reducible assumption) | assumption)
              have q6 : x3_1 < (a0.size : Int) := of_decide_eq_true (by first | (with_reducible assumption) | assumption)
              have hx6 := bt_at a0 x3_1
              replace p6 := eq_true p6
              replace q6 := eq_true q6
              go_wp2
              go_ret
              exact ⟨by first | rfl | (simp; done) | (simp [*]; done), by repeat (first | exact Drawn0.refl _ | apply Drawn0.step)⟩
            · rw [if_neg c7] at H
              have c7b0 : decide (90 < (bt a0 x3_1)) = false := decide_eq_false c7
              clear c7
              have H' := Aside0.mk H
              clear H
              have p4 : 0 ≤ (x3_1 : Int) := of_decide_eq_true (by first | (with_reducible assumption) | assumption)
              have q4 : x3_1 < (a0.size : Int) := of_decide_eq_true (by first | (with_reducible assumption) | assumption)
              have hx4 := bt_at a0 x3_1
              replace p4 := eq_true p4
              replace q4 := eq_true q4
              have p6 : 0 ≤ (x3_1 : Int) := of_decide_eq_true (by first | (with_reducible assumption) | assumption)
              have q6 : x3_1 < (a0.size : Int) := of_decide_eq_true (by first | (with_reducible assumption) | assumption)
              have hx6 := bt_at a0 x3_1
              replace p6 := eq_true p6
              replace q6 := eq_true q6
              go_wp2
              go_roundg k1
              case measure => have := HK1.out; omega
              case rel => exact ⟨(wrap64 (x3_1 + 1)), (by first | rfl | (simp; done) | (simp [*]; done)), H', ⟨by have := HK1.out; omega⟩, by repeat (first | exact Drawn0.refl _ | apply Drawn0.step)⟩
        · rw [if_neg c3] at H
          exact absurd H (by simp)
      · rw [if_neg c2] at H
        have c2b0 : decide (x3_1 < (a0.size : Int)) = false := decide_eq_false c2
        clear c2
        by_cases c8 : (a0.size : Int) ≥ 1
        · rw [if_pos c8] at H
          have c8b0 : decide (1 ≤ (a0.size : Int)) = true := decide_eq_true c8
          have c8b1 : decide (1 ≤ a0.size) = true := decide_eq_true (by omega)
          clear c8
          obtain rfl := Option.some.inj H
          go_wp2
          go_ret
          exact ⟨by first | rfl | (simp; done) | (simp [*]; done), by repeat (first | exact Drawn0.refl _ | apply Drawn0.step)⟩
        · rw [if_neg c8] at H
          have c8b0 : decide (1 ≤ (a0.size : Int)) = false := decide_eq_false c8
          have c8b1 : decide (1 ≤ a0.size) = false := decide_eq_false (by omega)
          clear c8
          obtain rfl := Option.some.inj H
          go_wp2
          go_ret
          exact ⟨by first | rfl | (simp; done) | (simp [*]; done), by repeat (first | exact Drawn0.refl _ | apply Drawn0.step)⟩

/-! ### wicketref15_target: function 41 -/
def wicketref15_target.l0 : Nat → ByteArray → Int → Option (Bool)
  | 0, _, _ => none
  | k + 1, x0, x3 => if x3 < (x0.size : Int) then (if 0 ≤ x3 then (if (bt x0 x3) < 33 then (some false) else (if (bt x0 x3) > 126 then (some false) else (wicketref15_target.l0 k x0 (wrap64 (x3 + 1))))) else (none)) else (if (x0.size : Int) ≥ 1 then (if (x0.size : Int) ≤ 1024 then (if 0 < (x0.size : Int) then (some ((bt x0 0) == 47)) else (none)) else (some false)) else (some false))
def wicketref15_target.f (k : Nat) (a0 : ByteArray) : Option (Bool) := wicketref15_target.l0 k a0 0
theorem wicketref15_target.mono_l : ∀ k, (∀ y0 y1, LeO (wicketref15_target.l0 k y0 y1) (wicketref15_target.l0 (k + 1) y0 y1))
  | 0 => fun _ _ r h => by simp [wicketref15_target.l0] at h
  | k + 1 => by
    have ih0 := wicketref15_target.mono_l k
    · intro y0 y1
      unfold wicketref15_target.l0
      repeat' first
      | (with_reducible exact ih0 _ _)
      | (with_reducible exact LeO.refl _)
      | (with_reducible exact LeO.none _)
      | (with_reducible refine LeO.ite ?_ ?_)
      | (with_reducible refine LeO.bind ?_ (fun _ => ?_))
      | exact ih0 _ _
      | exact LeO.none _
      | refine LeO.ite ?_ ?_
      | refine LeO.bind ?_ (fun _ => ?_)
theorem wicketref15_target.mono : ∀ a0 k, LeO (wicketref15_target.f k a0) (wicketref15_target.f (k + 1) a0) := by
  intro a0 k
  have ih0 := wicketref15_target.mono_l k
  unfold wicketref15_target.f
  repeat' first
      | (with_reducible exact ih0 _ _)
      | (with_reducible exact LeO.refl _)
      | (with_reducible exact LeO.none _)
      | (with_reducible refine LeO.ite ?_ ?_)
      | (with_reducible refine LeO.bind ?_ (fun _ => ?_))
      | exact ih0 _ _
      | exact LeO.none _
      | refine LeO.ite ?_ ?_
      | refine LeO.bind ?_ (fun _ => ?_)
set_option maxHeartbeats 8000000 in
set_option maxRecDepth 100000 in
theorem wicketref15_target.calls (k : Nat) (a0 : ByteArray) (r : Bool) (w : World) (h : wicketref15_target.f k a0 = some r) :
    Calls Tryz.prog 41 #[.string a0] w fun e w' => e = .returned (.bool r) ∧ Drawn0 w w' := by
  have H : (wicketref15_target.l0 k a0 0) = some r := h
  clear h
  have H' := Aside0.mk H
  clear H
  go_enter Tryz.func41, Tryz.ntmps41
  go_wp2
  go_loopg [3] k (fun kq v3 w' => ∃ (x3_1 : Int), v3 = .int .i64 x3_1 ∧ Aside0 (wicketref15_target.l0 kq a0 x3_1 = some r) ∧ Aside0 (kq ≤ k) ∧ Drawn0 w w')
  case atStart => exact ⟨(0), (by first | rfl | (simp; done) | (simp [*]; done)), H', ⟨Nat.le_refl _⟩, by repeat (first | exact Drawn0.refl _ | apply Drawn0.step)⟩
  case round =>
    clear H'
    obtain ⟨x3_1, rfl, HA, HK1, ⟨m1, rfl⟩⟩ := hrel
    cases gk with
    | zero => exact absurd HA.out (by simp [wicketref15_target.l0])
    | succ k1 =>
      have H := HA.out
      clear HA
      simp only [wicketref15_target.l0] at H
      by_cases c2 : x3_1 < (a0.size : Int)
      · rw [if_pos c2] at H
        have c2b0 : decide (x3_1 < (a0.size : Int)) = true := decide_eq_true c2
        clear c2
        by_cases c3 : 0 ≤ x3_1
        · rw [if_pos c3] at H
          have c3b0 : decide (0 ≤ x3_1) = true := decide_eq_true c3
          clear c3
          by_cases c5 : (bt a0 x3_1) < 33
          · rw [if_pos c5] at H
            have c5b0 : decide ((bt a0 x3_1) < 33) = true := decide_eq_true c5
            clear c5
            obtain rfl := Option.some.inj H
            have p4 : 0 ≤ (x3_1 : Int) := of_decide_eq_true (by first | (with_reducible assumption) | assumption)
            have q4 : x3_1 < (a0.size : Int) := of_decide_eq_true (by first | (with_reducible assumption) | assumption)
            have hx4 := bt_at a0 x3_1
            replace p4 := eq_true p4
            replace q4 := eq_true q4
            go_wp2
            go_ret
            exact ⟨by first | rfl | (simp; done) | (simp [*]; done), by repeat (first | exact Drawn0.refl _ | apply Drawn0.step)⟩
          · rw [if_neg c5] at H
            have c5b0 : decide ((bt a0 x3_1) < 33) = false := decide_eq_false c5
            clear c5
            by_cases c7 : (bt a0 x3_1) > 126
            · rw [if_pos c7] at H
              have c7b0 : decide (126 < (bt a0 x3_1)) = true := decide_eq_true c7
              clear c7
              obtain rfl := Option.some.inj H
              have p4 : 0 ≤ (x3_1 : Int) := of_decide_eq_true (by first | (with_reducible assumption) | assumption)
              have q4 : x3_1 < (a0.size : Int) := of_decide_eq_true (by first | (with_reducible assumption) | assumption)
              have hx4 := bt_at a0 x3_1
              replace p4 := eq_true p4
              replace q4 := eq_true q4
              have p6 : 0 ≤ (x3_1 : Int) := of_decide_eq_true (by first | (with_reducible assumption) | assumption)
              have q6 : x3_1 < (a0.size : Int) := of_decide_eq_true (by first | (with_reducible assumption) | assumption)
              have hx6 := bt_at a0 x3_1
              replace p6 := eq_true p6
              replace q6 := eq_true q6
              go_wp2
              go_ret
              exact ⟨by first | rfl | (simp; done) | (simp [*]; done), by repeat (first | exact Drawn0.refl _ | apply Drawn0.step)⟩
            · rw [if_neg c7] at H
              have c7b0 : decide (126 < (bt a0 x3_1)) = false := decide_eq_false c7
              clear c7
              have H' := Aside0.mk H
              clear H
              have p4 : 0 ≤ (x3_1 : Int) := of_decide_eq_true (by first | (with_reducible assumption) | assumption)
              have q4 : x3_1 < (a0.size : Int) := of_decide_eq_true (by first | (with_reducible assumption) | assumption)
              have hx4 := bt_at a0 x3_1
              replace p4 := eq_true p4
              replace q4 := eq_true q4
              have p6 : 0 ≤ (x3_1 : Int) := of_decide_eq_true (by first | (with_reducible assumption) | assumption)
              have q6 : x3_1 < (a0.size : Int) := of_decide_eq_true (by first | (with_reducible assumption) | assumption)
              have hx6 := bt_at a0 x3_1
              replace p6 := eq_true p6
              replace q6 := eq_true q6
              go_wp2
              go_roundg k1
              case measure => have := HK1.out; omega
              case rel => exact ⟨(wrap64 (x3_1 + 1)), (by first | rfl | (simp; done) | (simp [*]; done)), H', ⟨by have := HK1.out; omega⟩, by repeat (first | exact Drawn0.refl _ | apply Drawn0.step)⟩
        · rw [if_neg c3] at H
          exact absurd H (by simp)
      · rw [if_neg c2] at H
        have c2b0 : decide (x3_1 < (a0.size : Int)) = false := decide_eq_false c2
        clear c2
        by_cases c8 : (a0.size : Int) ≥ 1
        · rw [if_pos c8] at H
          have c8b0 : decide (1 ≤ (a0.size : Int)) = true := decide_eq_true c8
          have c8b1 : decide (1 ≤ a0.size) = true := decide_eq_true (by omega)
          clear c8
          by_cases c9 : (a0.size : Int) ≤ 1024
          · rw [if_pos c9] at H
            have c9b0 : decide ((a0.size : Int) ≤ 1024) = true := decide_eq_true c9
            have c9b1 : decide (a0.size ≤ 1024) = true := decide_eq_true (by omega)
            clear c9
            by_cases c10 : 0 < (a0.size : Int)
            · rw [if_pos c10] at H
              have c10b0 : decide (0 < (a0.size : Int)) = true := decide_eq_true c10
              have c10b1 : decide (0 < a0.size) = true := decide_eq_true (by omega)
              clear c10
              obtain rfl := Option.some.inj H
              have p11 : 0 ≤ (0 : Int) := (by omega)
              have q11 : 0 < a0.size := (by have : (0 : Int) < (a0.size : Int) := of_decide_eq_true (by first | (with_reducible assumption) | assumption); omega)
              have hx11 : ∀ h : 0 < a0.size, ((a0[0]'h).toNat : Int) = bt a0 0 := bt_at a0 0
              clear p11
              have qi11 : (0 < (a0.size : Int)) = True := eq_true (of_decide_eq_true (by first | (with_reducible assumption) | assumption))
              replace q11 := eq_true q11
              go_wp2
              go_ret
              exact ⟨by first | rfl | (simp; done) | (simp [*]; done), by repeat (first | exact Drawn0.refl _ | apply Drawn0.step)⟩
            · rw [if_neg c10] at H
              exact absurd H (by simp)
          · rw [if_neg c9] at H
            have c9b0 : decide ((a0.size : Int) ≤ 1024) = false := decide_eq_false c9
            have c9b1 : decide (a0.size ≤ 1024) = false := decide_eq_false (by omega)
            clear c9
            obtain rfl := Option.some.inj H
            go_wp2
            go_ret
            exact ⟨by first | rfl | (simp; done) | (simp [*]; done), by repeat (first | exact Drawn0.refl _ | apply Drawn0.step)⟩
        · rw [if_neg c8] at H
          have c8b0 : decide (1 ≤ (a0.size : Int)) = false := decide_eq_false c8
          have c8b1 : decide (1 ≤ a0.size) = false := decide_eq_false (by omega)
          clear c8
          obtain rfl := Option.some.inj H
          go_wp2
          go_ret
          exact ⟨by first | rfl | (simp; done) | (simp [*]; done), by repeat (first | exact Drawn0.refl _ | apply Drawn0.step)⟩

/-! ### wicketref15_name: function 70 -/
def wicketref15_name.l0 : Nat → ByteArray → Int → Option (Bool)
  | 0, _, _ => none
  | k + 1, x0, x3 => if x3 < (x0.size : Int) then (if 0 ≤ x3 then (if (bt x0 x3) ≥ 97 then (if (bt x0 x3) ≤ 122 then (wicketref15_name.l0 k x0 (wrap64 (x3 + 1))) else (if (bt x0 x3) ≥ 65 then (if (bt x0 x3) ≤ 90 then (wicketref15_name.l0 k x0 (wrap64 (x3 + 1))) else (if (bt x0 x3) ≥ 48 then (if (bt x0 x3) ≤ 57 then (wicketref15_name.l0 k x0 (wrap64 (x3 + 1))) else (if ((bt x0 x3) = 45) then (wicketref15_name.l0 k x0 (wrap64 (x3 + 1))) else (some false))) else (if ((bt x0 x3) = 45) then (wicketref15_name.l0 k x0 (wrap64 (x3 + 1))) else (some false)))) else (if (bt x0 x3) ≥ 48 then (if (bt x0 x3) ≤ 57 then (wicketref15_name.l0 k x0 (wrap64 (x3 + 1))) else (if ((bt x0 x3) = 45) then (wicketref15_name.l0 k x0 (wrap64 (x3 + 1))) else (some false))) else (if ((bt x0 x3) = 45) then (wicketref15_name.l0 k x0 (wrap64 (x3 + 1))) else (some false))))) else (if (bt x0 x3) ≥ 65 then (if (bt x0 x3) ≤ 90 then (wicketref15_name.l0 k x0 (wrap64 (x3 + 1))) else (if (bt x0 x3) ≥ 48 then (if (bt x0 x3) ≤ 57 then (wicketref15_name.l0 k x0 (wrap64 (x3 + 1))) else (if ((bt x0 x3) = 45) then (wicketref15_name.l0 k x0 (wrap64 (x3 + 1))) else (some false))) else (if ((bt x0 x3) = 45) then (wicketref15_name.l0 k x0 (wrap64 (x3 + 1))) else (some false)))) else (if (bt x0 x3) ≥ 48 then (if (bt x0 x3) ≤ 57 then (wicketref15_name.l0 k x0 (wrap64 (x3 + 1))) else (if ((bt x0 x3) = 45) then (wicketref15_name.l0 k x0 (wrap64 (x3 + 1))) else (some false))) else (if ((bt x0 x3) = 45) then (wicketref15_name.l0 k x0 (wrap64 (x3 + 1))) else (some false))))) else (none)) else (if (x0.size : Int) ≥ 1 then (some (decide ((x0.size : Int) ≤ 64))) else (some false))
def wicketref15_name.f (k : Nat) (a0 : ByteArray) : Option (Bool) := wicketref15_name.l0 k a0 0
theorem wicketref15_name.mono_l : ∀ k, (∀ y0 y1, LeO (wicketref15_name.l0 k y0 y1) (wicketref15_name.l0 (k + 1) y0 y1))
  | 0 => fun _ _ r h => by simp [wicketref15_name.l0] at h
  | k + 1 => by
    have ih0 := wicketref15_name.mono_l k
    · intro y0 y1
      unfold wicketref15_name.l0
      repeat' first
      | (with_reducible exact ih0 _ _)
      | (with_reducible exact LeO.refl _)
      | (with_reducible exact LeO.none _)
      | (with_reducible refine LeO.ite ?_ ?_)
      | (with_reducible refine LeO.bind ?_ (fun _ => ?_))
      | exact ih0 _ _
      | exact LeO.none _
      | refine LeO.ite ?_ ?_
      | refine LeO.bind ?_ (fun _ => ?_)
theorem wicketref15_name.mono : ∀ a0 k, LeO (wicketref15_name.f k a0) (wicketref15_name.f (k + 1) a0) := by
  intro a0 k
  have ih0 := wicketref15_name.mono_l k
  unfold wicketref15_name.f
  repeat' first
      | (with_reducible exact ih0 _ _)
      | (with_reducible exact LeO.refl _)
      | (with_reducible exact LeO.none _)
      | (with_reducible refine LeO.ite ?_ ?_)
      | (with_reducible refine LeO.bind ?_ (fun _ => ?_))
      | exact ih0 _ _
      | exact LeO.none _
      | refine LeO.ite ?_ ?_
      | refine LeO.bind ?_ (fun _ => ?_)
set_option maxHeartbeats 8000000 in
set_option maxRecDepth 100000 in
theorem wicketref15_name.calls (k : Nat) (a0 : ByteArray) (r : Bool) (w : World) (h : wicketref15_name.f k a0 = some r) :
    Calls Tryz.prog 70 #[.string a0] w fun e w' => e = .returned (.bool r) ∧ Drawn0 w w' := by
  have H : (wicketref15_name.l0 k a0 0) = some r := h
  clear h
  have H' := Aside0.mk H
  clear H
  go_enter Tryz.func70, Tryz.ntmps70
  go_wp2
  go_loopg [3] k (fun kq v3 w' => ∃ (x3_1 : Int), v3 = .int .i64 x3_1 ∧ Aside0 (wicketref15_name.l0 kq a0 x3_1 = some r) ∧ Aside0 (kq ≤ k) ∧ Drawn0 w w')
  case atStart => exact ⟨(0), (by first | rfl | (simp; done) | (simp [*]; done)), H', ⟨Nat.le_refl _⟩, by repeat (first | exact Drawn0.refl _ | apply Drawn0.step)⟩
  case round =>
    clear H'
    obtain ⟨x3_1, rfl, HA, HK1, ⟨m1, rfl⟩⟩ := hrel
    cases gk with
    | zero => exact absurd HA.out (by simp [wicketref15_name.l0])
    | succ k1 =>
      have H := HA.out
      clear HA
      simp only [wicketref15_name.l0] at H
      by_cases c2 : x3_1 < (a0.size : Int)
      · rw [if_pos c2] at H
        have c2b0 : decide (x3_1 < (a0.size : Int)) = true := decide_eq_true c2
        clear c2
        by_cases c3 : 0 ≤ x3_1
        · rw [if_pos c3] at H
          have c3b0 : decide (0 ≤ x3_1) = true := decide_eq_true c3
          clear c3
          by_cases c5 : (bt a0 x3_1) ≥ 97
          · rw [if_pos c5] at H
            have c5b0 : decide (97 ≤ (bt a0 x3_1)) = true := decide_eq_true c5
            clear c5
            by_cases c6 : (bt a0 x3_1) ≤ 122
            · rw [if_pos c6] at H
              have c6b0 : decide ((bt a0 x3_1) ≤ 122) = true := decide_eq_true c6
              clear c6
              have H' := Aside0.mk H
              clear H
              have p4 : 0 ≤ (x3_1 : Int) := of_decide_eq_true (by first | (with_reducible assumption) | assumption)
              have q4 : x3_1 < (a0.size : Int) := of_decide_eq_true (by first | (with_reducible assumption) | assumption)
              have hx4 := bt_at a0 x3_1
              replace p4 := eq_true p4
              replace q4 := eq_true q4
              go_wp2
              go_roundg k1
              case measure => have := HK1.out; omega
              case rel => exact ⟨(wrap64 (x3_1 + 1)), (by first | rfl | (simp; done) | (simp [*]; done)), H', ⟨by have := HK1.out; omega⟩, by repeat (first | exact Drawn0.refl _ | apply Drawn0.step)⟩
            · rw [if_neg c6] at H
              have c6b0 : decide ((bt a0 x3_1) ≤ 122) = false := decide_eq_false c6
              clear c6
              by_cases c7 : (bt a0 x3_1) ≥ 65
              · rw [if_pos c7] at H
                have c7b0 : decide (65 ≤ (bt a0 x3_1)) = true := decide_eq_true c7
                clear c7
                by_cases c8 : (bt a0 x3_1) ≤ 90
                · rw [if_pos c8] at H
                  have c8b0 : decide ((bt a0 x3_1) ≤ 90) = true := decide_eq_true c8
                  clear c8
                  have H' := Aside0.mk H
                  clear H
                  have p4 : 0 ≤ (x3_1 : Int) := of_decide_eq_true (by first | (with_reducible assumption) | assumption)
                  have q4 : x3_1 < (a0.size : Int) := of_decide_eq_true (by first | (with_reducible assumption) | assumption)
                  have hx4 := bt_at a0 x3_1
                  replace p4 := eq_true p4
                  replace q4 := eq_true q4
                  go_wp2
                  go_roundg k1
                  case measure => have := HK1.out; omega
                  case rel => exact ⟨(wrap64 (x3_1 + 1)), (by first | rfl | (simp; done) | (simp [*]; done)), H', ⟨by have := HK1.out; omega⟩, by repeat (first | exact Drawn0.refl _ | apply Drawn0.step)⟩
                · rw [if_neg c8] at H
                  have c8b0 : decide ((bt a0 x3_1) ≤ 90) = false := decide_eq_false c8
                  clear c8
                  by_cases c9 : (bt a0 x3_1) ≥ 48
                  · rw [if_pos c9] at H
                    have c9b0 : decide (48 ≤ (bt a0 x3_1)) = true := decide_eq_true c9
                    clear c9
                    by_cases c10 : (bt a0 x3_1) ≤ 57
                    · rw [if_pos c10] at H
                      have c10b0 : decide ((bt a0 x3_1) ≤ 57) = true := decide_eq_true c10
                      clear c10
                      have H' := Aside0.mk H
                      clear H
                      have p4 : 0 ≤ (x3_1 : Int) := of_decide_eq_true (by first | (with_reducible assumption) | assumption)
                      have q4 : x3_1 < (a0.size : Int) := of_decide_eq_true (by first | (with_reducible assumption) | assumption)
                      have hx4 := bt_at a0 x3_1
                      replace p4 := eq_true p4
                      replace q4 := eq_true q4
                      go_wp2
                      go_roundg k1
                      case measure => have := HK1.out; omega
                      case rel => exact ⟨(wrap64 (x3_1 + 1)), (by first | rfl | (simp; done) | (simp [*]; done)), H', ⟨by have := HK1.out; omega⟩, by repeat (first | exact Drawn0.refl _ | apply Drawn0.step)⟩
                    · rw [if_neg c10] at H
                      have c10b0 : decide ((bt a0 x3_1) ≤ 57) = false := decide_eq_false c10
                      clear c10
                      by_cases c11 : ((bt a0 x3_1) = 45)
                      · rw [if_pos c11] at H
                        have c11b0 : ((bt a0 x3_1) == 45) = true := beq_iff_eq.mpr c11
                        have c11b1 : ((bt a0 x3_1) != 45) = false := bne_eq_false_iff_eq.mpr c11
                        clear c11
                        have H' := Aside0.mk H
                        clear H
                        have p4 : 0 ≤ (x3_1 : Int) := of_decide_eq_true (by first | (with_reducible assumption) | assumption)
                        have q4 : x3_1 < (a0.size : Int) := of_decide_eq_true (by first | (with_reducible assumption) | assumption)
                        have hx4 := bt_at a0 x3_1
                        replace p4 := eq_true p4
                        replace q4 := eq_true q4
                        go_wp2
                        go_roundg k1
                        case measure => have := HK1.out; omega
                        case rel => exact ⟨(wrap64 (x3_1 + 1)), (by first | rfl | (simp; done) | (simp [*]; done)), H', ⟨by have := HK1.out; omega⟩, by repeat (first | exact Drawn0.refl _ | apply Drawn0.step)⟩
                      · rw [if_neg c11] at H
                        have c11b0 : ((bt a0 x3_1) == 45) = false := beq_eq_false_iff_ne.mpr c11
                        have c11b1 : ((bt a0 x3_1) != 45) = true := bne_iff_ne.mpr c11
                        obtain rfl := Option.some.inj H
                        have p4 : 0 ≤ (x3_1 : Int) := of_decide_eq_true (by first | (with_reducible assumption) | assumption)
                        have q4 : x3_1 < (a0.size : Int) := of_decide_eq_true (by first | (with_reducible assumption) | assumption)
                        have hx4 := bt_at a0 x3_1
                        replace p4 := eq_true p4
                        replace q4 := eq_true q4
                        go_wp2
                        go_ret
                        exact ⟨by first | rfl | (simp; done) | (simp [*]; done), by repeat (first | exact Drawn0.refl _ | apply Drawn0.step)⟩
                  · rw [if_neg c9] at H
                    have c9b0 : decide (48 ≤ (bt a0 x3_1)) = false := decide_eq_false c9
                    clear c9
                    by_cases c12 : ((bt a0 x3_1) = 45)
                    · rw [if_pos c12] at H
                      have c12b0 : ((bt a0 x3_1) == 45) = true := beq_iff_eq.mpr c12
                      have c12b1 : ((bt a0 x3_1) != 45) = false := bne_eq_false_iff_eq.mpr c12
                      clear c12
                      have H' := Aside0.mk H
                      clear H
                      have p4 : 0 ≤ (x3_1 : Int) := of_decide_eq_true (by first | (with_reducible assumption) | assumption)
                      have q4 : x3_1 < (a0.size : Int) := of_decide_eq_true (by first | (with_reducible assumption) | assumption)
                      have hx4 := bt_at a0 x3_1
                      replace p4 := eq_true p4
                      replace q4 := eq_true q4
                      go_wp2
                      go_roundg k1
                      case measure => have := HK1.out; omega
                      case rel => exact ⟨(wrap64 (x3_1 + 1)), (by first | rfl | (simp; done) | (simp [*]; done)), H', ⟨by have := HK1.out; omega⟩, by repeat (first | exact Drawn0.refl _ | apply Drawn0.step)⟩
                    · rw [if_neg c12] at H
                      have c12b0 : ((bt a0 x3_1) == 45) = false := beq_eq_false_iff_ne.mpr c12
                      have c12b1 : ((bt a0 x3_1) != 45) = true := bne_iff_ne.mpr c12
                      obtain rfl := Option.some.inj H
                      have p4 : 0 ≤ (x3_1 : Int) := of_decide_eq_true (by first | (with_reducible assumption) | assumption)
                      have q4 : x3_1 < (a0.size : Int) := of_decide_eq_true (by first | (with_reducible assumption) | assumption)
                      have hx4 := bt_at a0 x3_1
                      replace p4 := eq_true p4
                      replace q4 := eq_true q4
                      go_wp2
                      go_ret
                      exact ⟨by first | rfl | (simp; done) | (simp [*]; done), by repeat (first | exact Drawn0.refl _ | apply Drawn0.step)⟩
              · rw [if_neg c7] at H
                have c7b0 : decide (65 ≤ (bt a0 x3_1)) = false := decide_eq_false c7
                clear c7
                by_cases c13 : (bt a0 x3_1) ≥ 48
                · rw [if_pos c13] at H
                  have c13b0 : decide (48 ≤ (bt a0 x3_1)) = true := decide_eq_true c13
                  clear c13
                  by_cases c14 : (bt a0 x3_1) ≤ 57
                  · rw [if_pos c14] at H
                    have c14b0 : decide ((bt a0 x3_1) ≤ 57) = true := decide_eq_true c14
                    clear c14
                    have H' := Aside0.mk H
                    clear H
                    have p4 : 0 ≤ (x3_1 : Int) := of_decide_eq_true (by first | (with_reducible assumption) | assumption)
                    have q4 : x3_1 < (a0.size : Int) := of_decide_eq_true (by first | (with_reducible assumption) | assumption)
                    have hx4 := bt_at a0 x3_1
                    replace p4 := eq_true p4
                    replace q4 := eq_true q4
                    go_wp2
                    go_roundg k1
                    case measure => have := HK1.out; omega
                    case rel => exact ⟨(wrap64 (x3_1 + 1)), (by first | rfl | (simp; done) | (simp [*]; done)), H', ⟨by have := HK1.out; omega⟩, by repeat (first | exact Drawn0.refl _ | apply Drawn0.step)⟩
                  · rw [if_neg c14] at H
                    have c14b0 : decide ((bt a0 x3_1) ≤ 57) = false := decide_eq_false c14
                    clear c14
                    by_cases c15 : ((bt a0 x3_1) = 45)
                    · rw [if_pos c15] at H
                      have c15b0 : ((bt a0 x3_1) == 45) = true := beq_iff_eq.mpr c15
                      have c15b1 : ((bt a0 x3_1) != 45) = false := bne_eq_false_iff_eq.mpr c15
                      clear c15
                      have H' := Aside0.mk H
                      clear H
                      have p4 : 0 ≤ (x3_1 : Int) := of_decide_eq_true (by first | (with_reducible assumption) | assumption)
                      have q4 : x3_1 < (a0.size : Int) := of_decide_eq_true (by first | (with_reducible assumption) | assumption)
                      have hx4 := bt_at a0 x3_1
                      replace p4 := eq_true p4
                      replace q4 := eq_true q4
                      go_wp2
                      go_roundg k1
                      case measure => have := HK1.out; omega
                      case rel => exact ⟨(wrap64 (x3_1 + 1)), (by first | rfl | (simp; done) | (simp [*]; done)), H', ⟨by have := HK1.out; omega⟩, by repeat (first | exact Drawn0.refl _ | apply Drawn0.step)⟩
                    · rw [if_neg c15] at H
                      have c15b0 : ((bt a0 x3_1) == 45) = false := beq_eq_false_iff_ne.mpr c15
                      have c15b1 : ((bt a0 x3_1) != 45) = true := bne_iff_ne.mpr c15
                      obtain rfl := Option.some.inj H
                      have p4 : 0 ≤ (x3_1 : Int) := of_decide_eq_true (by first | (with_reducible assumption) | assumption)
                      have q4 : x3_1 < (a0.size : Int) := of_decide_eq_true (by first | (with_reducible assumption) | assumption)
                      have hx4 := bt_at a0 x3_1
                      replace p4 := eq_true p4
                      replace q4 := eq_true q4
                      go_wp2
                      go_ret
                      exact ⟨by first | rfl | (simp; done) | (simp [*]; done), by repeat (first | exact Drawn0.refl _ | apply Drawn0.step)⟩
                · rw [if_neg c13] at H
                  have c13b0 : decide (48 ≤ (bt a0 x3_1)) = false := decide_eq_false c13
                  clear c13
                  by_cases c16 : ((bt a0 x3_1) = 45)
                  · rw [if_pos c16] at H
                    have c16b0 : ((bt a0 x3_1) == 45) = true := beq_iff_eq.mpr c16
                    have c16b1 : ((bt a0 x3_1) != 45) = false := bne_eq_false_iff_eq.mpr c16
                    clear c16
                    have H' := Aside0.mk H
                    clear H
                    have p4 : 0 ≤ (x3_1 : Int) := of_decide_eq_true (by first | (with_reducible assumption) | assumption)
                    have q4 : x3_1 < (a0.size : Int) := of_decide_eq_true (by first | (with_reducible assumption) | assumption)
                    have hx4 := bt_at a0 x3_1
                    replace p4 := eq_true p4
                    replace q4 := eq_true q4
                    go_wp2
                    go_roundg k1
                    case measure => have := HK1.out; omega
                    case rel => exact ⟨(wrap64 (x3_1 + 1)), (by first | rfl | (simp; done) | (simp [*]; done)), H', ⟨by have := HK1.out; omega⟩, by repeat (first | exact Drawn0.refl _ | apply Drawn0.step)⟩
                  · rw [if_neg c16] at H
                    have c16b0 : ((bt a0 x3_1) == 45) = false := beq_eq_false_iff_ne.mpr c16
                    have c16b1 : ((bt a0 x3_1) != 45) = true := bne_iff_ne.mpr c16
                    obtain rfl := Option.some.inj H
                    have p4 : 0 ≤ (x3_1 : Int) := of_decide_eq_true (by first | (with_reducible assumption) | assumption)
                    have q4 : x3_1 < (a0.size : Int) := of_decide_eq_true (by first | (with_reducible assumption) | assumption)
                    have hx4 := bt_at a0 x3_1
                    replace p4 := eq_true p4
                    replace q4 := eq_true q4
                    go_wp2
                    go_ret
                    exact ⟨by first | rfl | (simp; done) | (simp [*]; done), by repeat (first | exact Drawn0.refl _ | apply Drawn0.step)⟩
          · rw [if_neg c5] at H
            have c5b0 : decide (97 ≤ (bt a0 x3_1)) = false := decide_eq_false c5
            clear c5
            by_cases c17 : (bt a0 x3_1) ≥ 65
            · rw [if_pos c17] at H
              have c17b0 : decide (65 ≤ (bt a0 x3_1)) = true := decide_eq_true c17
              clear c17
              by_cases c18 : (bt a0 x3_1) ≤ 90
              · rw [if_pos c18] at H
                have c18b0 : decide ((bt a0 x3_1) ≤ 90) = true := decide_eq_true c18
                clear c18
                have H' := Aside0.mk H
                clear H
                have p4 : 0 ≤ (x3_1 : Int) := of_decide_eq_true (by first | (with_reducible assumption) | assumption)
                have q4 : x3_1 < (a0.size : Int) := of_decide_eq_true (by first | (with_reducible assumption) | assumption)
                have hx4 := bt_at a0 x3_1
                replace p4 := eq_true p4
                replace q4 := eq_true q4
                go_wp2
                go_roundg k1
                case measure => have := HK1.out; omega
                case rel => exact ⟨(wrap64 (x3_1 + 1)), (by first | rfl | (simp; done) | (simp [*]; done)), H', ⟨by have := HK1.out; omega⟩, by repeat (first | exact Drawn0.refl _ | apply Drawn0.step)⟩
              · rw [if_neg c18] at H
                have c18b0 : decide ((bt a0 x3_1) ≤ 90) = false := decide_eq_false c18
                clear c18
                by_cases c19 : (bt a0 x3_1) ≥ 48
                · rw [if_pos c19] at H
                  have c19b0 : decide (48 ≤ (bt a0 x3_1)) = true := decide_eq_true c19
                  clear c19
                  by_cases c20 : (bt a0 x3_1) ≤ 57
                  · rw [if_pos c20] at H
                    have c20b0 : decide ((bt a0 x3_1) ≤ 57) = true := decide_eq_true c20
                    clear c20
                    have H' := Aside0.mk H
                    clear H
                    have p4 : 0 ≤ (x3_1 : Int) := of_decide_eq_true (by first | (with_reducible assumption) | assumption)
                    have q4 : x3_1 < (a0.size : Int) := of_decide_eq_true (by first | (with_reducible assumption) | assumption)
                    have hx4 := bt_at a0 x3_1
                    replace p4 := eq_true p4
                    replace q4 := eq_true q4
                    go_wp2
                    go_roundg k1
                    case measure => have := HK1.out; omega
                    case rel => exact ⟨(wrap64 (x3_1 + 1)), (by first | rfl | (simp; done) | (simp [*]; done)), H', ⟨by have := HK1.out; omega⟩, by repeat (first | exact Drawn0.refl _ | apply Drawn0.step)⟩
                  · rw [if_neg c20] at H
                    have c20b0 : decide ((bt a0 x3_1) ≤ 57) = false := decide_eq_false c20
                    clear c20
                    by_cases c21 : ((bt a0 x3_1) = 45)
                    · rw [if_pos c21] at H
                      have c21b0 : ((bt a0 x3_1) == 45) = true := beq_iff_eq.mpr c21
                      have c21b1 : ((bt a0 x3_1) != 45) = false := bne_eq_false_iff_eq.mpr c21
                      clear c21
                      have H' := Aside0.mk H
                      clear H
                      have p4 : 0 ≤ (x3_1 : Int) := of_decide_eq_true (by first | (with_reducible assumption) | assumption)
                      have q4 : x3_1 < (a0.size : Int) := of_decide_eq_true (by first | (with_reducible assumption) | assumption)
                      have hx4 := bt_at a0 x3_1
                      replace p4 := eq_true p4
                      replace q4 := eq_true q4
                      go_wp2
                      go_roundg k1
                      case measure => have := HK1.out; omega
                      case rel => exact ⟨(wrap64 (x3_1 + 1)), (by first | rfl | (simp; done) | (simp [*]; done)), H', ⟨by have := HK1.out; omega⟩, by repeat (first | exact Drawn0.refl _ | apply Drawn0.step)⟩
                    · rw [if_neg c21] at H
                      have c21b0 : ((bt a0 x3_1) == 45) = false := beq_eq_false_iff_ne.mpr c21
                      have c21b1 : ((bt a0 x3_1) != 45) = true := bne_iff_ne.mpr c21
                      obtain rfl := Option.some.inj H
                      have p4 : 0 ≤ (x3_1 : Int) := of_decide_eq_true (by first | (with_reducible assumption) | assumption)
                      have q4 : x3_1 < (a0.size : Int) := of_decide_eq_true (by first | (with_reducible assumption) | assumption)
                      have hx4 := bt_at a0 x3_1
                      replace p4 := eq_true p4
                      replace q4 := eq_true q4
                      go_wp2
                      go_ret
                      exact ⟨by first | rfl | (simp; done) | (simp [*]; done), by repeat (first | exact Drawn0.refl _ | apply Drawn0.step)⟩
                · rw [if_neg c19] at H
                  have c19b0 : decide (48 ≤ (bt a0 x3_1)) = false := decide_eq_false c19
                  clear c19
                  by_cases c22 : ((bt a0 x3_1) = 45)
                  · rw [if_pos c22] at H
                    have c22b0 : ((bt a0 x3_1) == 45) = true := beq_iff_eq.mpr c22
                    have c22b1 : ((bt a0 x3_1) != 45) = false := bne_eq_false_iff_eq.mpr c22
                    clear c22
                    have H' := Aside0.mk H
                    clear H
                    have p4 : 0 ≤ (x3_1 : Int) := of_decide_eq_true (by first | (with_reducible assumption) | assumption)
                    have q4 : x3_1 < (a0.size : Int) := of_decide_eq_true (by first | (with_reducible assumption) | assumption)
                    have hx4 := bt_at a0 x3_1
                    replace p4 := eq_true p4
                    replace q4 := eq_true q4
                    go_wp2
                    go_roundg k1
                    case measure => have := HK1.out; omega
                    case rel => exact ⟨(wrap64 (x3_1 + 1)), (by first | rfl | (simp; done) | (simp [*]; done)), H', ⟨by have := HK1.out; omega⟩, by repeat (first | exact Drawn0.refl _ | apply Drawn0.step)⟩
                  · rw [if_neg c22] at H
                    have c22b0 : ((bt a0 x3_1) == 45) = false := beq_eq_false_iff_ne.mpr c22
                    have c22b1 : ((bt a0 x3_1) != 45) = true := bne_iff_ne.mpr c22
                    obtain rfl := Option.some.inj H
                    have p4 : 0 ≤ (x3_1 : Int) := of_decide_eq_true (by first | (with_reducible assumption) | assumption)
                    have q4 : x3_1 < (a0.size : Int) := of_decide_eq_true (by first | (with_reducible assumption) | assumption)
                    have hx4 := bt_at a0 x3_1
                    replace p4 := eq_true p4
                    replace q4 := eq_true q4
                    go_wp2
                    go_ret
                    exact ⟨by first | rfl | (simp; done) | (simp [*]; done), by repeat (first | exact Drawn0.refl _ | apply Drawn0.step)⟩
            · rw [if_neg c17] at H
              have c17b0 : decide (65 ≤ (bt a0 x3_1)) = false := decide_eq_false c17
              clear c17
              by_cases c23 : (bt a0 x3_1) ≥ 48
              · rw [if_pos c23] at H
                have c23b0 : decide (48 ≤ (bt a0 x3_1)) = true := decide_eq_true c23
                clear c23
                by_cases c24 : (bt a0 x3_1) ≤ 57
                · rw [if_pos c24] at H
                  have c24b0 : decide ((bt a0 x3_1) ≤ 57) = true := decide_eq_true c24
                  clear c24
                  have H' := Aside0.mk H
                  clear H
                  have p4 : 0 ≤ (x3_1 : Int) := of_decide_eq_true (by first | (with_reducible assumption) | assumption)
                  have q4 : x3_1 < (a0.size : Int) := of_decide_eq_true (by first | (with_reducible assumption) | assumption)
                  have hx4 := bt_at a0 x3_1
                  replace p4 := eq_true p4
                  replace q4 := eq_true q4
                  go_wp2
                  go_roundg k1
                  case measure => have := HK1.out; omega
                  case rel => exact ⟨(wrap64 (x3_1 + 1)), (by first | rfl | (simp; done) | (simp [*]; done)), H', ⟨by have := HK1.out; omega⟩, by repeat (first | exact Drawn0.refl _ | apply Drawn0.step)⟩
                · rw [if_neg c24] at H
                  have c24b0 : decide ((bt a0 x3_1) ≤ 57) = false := decide_eq_false c24
                  clear c24
                  by_cases c25 : ((bt a0 x3_1) = 45)
                  · rw [if_pos c25] at H
                    have c25b0 : ((bt a0 x3_1) == 45) = true := beq_iff_eq.mpr c25
                    have c25b1 : ((bt a0 x3_1) != 45) = false := bne_eq_false_iff_eq.mpr c25
                    clear c25
                    have H' := Aside0.mk H
                    clear H
                    have p4 : 0 ≤ (x3_1 : Int) := of_decide_eq_true (by first | (with_reducible assumption) | assumption)
                    have q4 : x3_1 < (a0.size : Int) := of_decide_eq_true (by first | (with_reducible assumption) | assumption)
                    have hx4 := bt_at a0 x3_1
                    replace p4 := eq_true p4
                    replace q4 := eq_true q4
                    go_wp2
                    go_roundg k1
                    case measure => have := HK1.out; omega
                    case rel => exact ⟨(wrap64 (x3_1 + 1)), (by first | rfl | (simp; done) | (simp [*]; done)), H', ⟨by have := HK1.out; omega⟩, by repeat (first | exact Drawn0.refl _ | apply Drawn0.step)⟩
                  · rw [if_neg c25] at H
                    have c25b0 : ((bt a0 x3_1) == 45) = false := beq_eq_false_iff_ne.mpr c25
                    have c25b1 : ((bt a0 x3_1) != 45) = true := bne_iff_ne.mpr c25
                    obtain rfl := Option.some.inj H
                    have p4 : 0 ≤ (x3_1 : Int) := of_decide_eq_true (by first | (with_reducible assumption) | assumption)
                    have q4 : x3_1 < (a0.size : Int) := of_decide_eq_true (by first | (with_reducible assumption) | assumption)
                    have hx4 := bt_at a0 x3_1
                    replace p4 := eq_true p4
                    replace q4 := eq_true q4
                    go_wp2
                    go_ret
                    exact ⟨by first | rfl | (simp; done) | (simp [*]; done), by repeat (first | exact Drawn0.refl _ | apply Drawn0.step)⟩
              · rw [if_neg c23] at H
                have c23b0 : decide (48 ≤ (bt a0 x3_1)) = false := decide_eq_false c23
                clear c23
                by_cases c26 : ((bt a0 x3_1) = 45)
                · rw [if_pos c26] at H
                  have c26b0 : ((bt a0 x3_1) == 45) = true := beq_iff_eq.mpr c26
                  have c26b1 : ((bt a0 x3_1) != 45) = false := bne_eq_false_iff_eq.mpr c26
                  clear c26
                  have H' := Aside0.mk H
                  clear H
                  have p4 : 0 ≤ (x3_1 : Int) := of_decide_eq_true (by first | (with_reducible assumption) | assumption)
                  have q4 : x3_1 < (a0.size : Int) := of_decide_eq_true (by first | (with_reducible assumption) | assumption)
                  have hx4 := bt_at a0 x3_1
                  replace p4 := eq_true p4
                  replace q4 := eq_true q4
                  go_wp2
                  go_roundg k1
                  case measure => have := HK1.out; omega
                  case rel => exact ⟨(wrap64 (x3_1 + 1)), (by first | rfl | (simp; done) | (simp [*]; done)), H', ⟨by have := HK1.out; omega⟩, by repeat (first | exact Drawn0.refl _ | apply Drawn0.step)⟩
                · rw [if_neg c26] at H
                  have c26b0 : ((bt a0 x3_1) == 45) = false := beq_eq_false_iff_ne.mpr c26
                  have c26b1 : ((bt a0 x3_1) != 45) = true := bne_iff_ne.mpr c26
                  obtain rfl := Option.some.inj H
                  have p4 : 0 ≤ (x3_1 : Int) := of_decide_eq_true (by first | (with_reducible assumption) | assumption)
                  have q4 : x3_1 < (a0.size : Int) := of_decide_eq_true (by first | (with_reducible assumption) | assumption)
                  have hx4 := bt_at a0 x3_1
                  replace p4 := eq_true p4
                  replace q4 := eq_true q4
                  go_wp2
                  go_ret
                  exact ⟨by first | rfl | (simp; done) | (simp [*]; done), by repeat (first | exact Drawn0.refl _ | apply Drawn0.step)⟩
        · rw [if_neg c3] at H
          exact absurd H (by simp)
      · rw [if_neg c2] at H
        have c2b0 : decide (x3_1 < (a0.size : Int)) = false := decide_eq_false c2
        clear c2
        by_cases c27 : (a0.size : Int) ≥ 1
        · rw [if_pos c27] at H
          have c27b0 : decide (1 ≤ (a0.size : Int)) = true := decide_eq_true c27
          have c27b1 : decide (1 ≤ a0.size) = true := decide_eq_true (by omega)
          clear c27
          obtain rfl := Option.some.inj H
          go_wp2
          go_ret
          exact ⟨by first | rfl | (simp; done) | (simp [*]; done), by repeat (first | exact Drawn0.refl _ | apply Drawn0.step)⟩
        · rw [if_neg c27] at H
          have c27b0 : decide (1 ≤ (a0.size : Int)) = false := decide_eq_false c27
          have c27b1 : decide (1 ≤ a0.size) = false := decide_eq_false (by omega)
          clear c27
          obtain rfl := Option.some.inj H
          go_wp2
          go_ret
          exact ⟨by first | rfl | (simp; done) | (simp [*]; done), by repeat (first | exact Drawn0.refl _ | apply Drawn0.step)⟩

/-! ### wicketref15_value: function 71 -/
def wicketref15_value.l0 : Nat → ByteArray → Int → Option (Bool)
  | 0, _, _ => none
  | k + 1, x0, x3 => if x3 < (x0.size : Int) then (if 0 ≤ x3 then (if (bt x0 x3) < 32 then (some false) else (if (bt x0 x3) > 126 then (some false) else (wicketref15_value.l0 k x0 (wrap64 (x3 + 1))))) else (none)) else (if (x0.size : Int) > 4096 then (some false) else (if x0.toList = ([] : List UInt8) then (some true) else (if 0 < (x0.size : Int) then (if (bt x0 0) = 32 then (some false) else (if 0 ≤ (wrap64 ((x0.size : Int) - 1)) then (if (wrap64 ((x0.size : Int) - 1)) < (x0.size : Int) then (some ((bt x0 (wrap64 ((x0.size : Int) - 1))) != 32)) else (none)) else (none))) else (none))))
def wicketref15_value.f (k : Nat) (a0 : ByteArray) : Option (Bool) := wicketref15_value.l0 k a0 0
theorem wicketref15_value.mono_l : ∀ k, (∀ y0 y1, LeO (wicketref15_value.l0 k y0 y1) (wicketref15_value.l0 (k + 1) y0 y1))
  | 0 => fun _ _ r h => by simp [wicketref15_value.l0] at h
  | k + 1 => by
    have ih0 := wicketref15_value.mono_l k
    · intro y0 y1
      unfold wicketref15_value.l0
      repeat' first
      | (with_reducible exact ih0 _ _)
      | (with_reducible exact LeO.refl _)
      | (with_reducible exact LeO.none _)
      | (with_reducible refine LeO.ite ?_ ?_)
      | (with_reducible refine LeO.bind ?_ (fun _ => ?_))
      | exact ih0 _ _
      | exact LeO.none _
      | refine LeO.ite ?_ ?_
      | refine LeO.bind ?_ (fun _ => ?_)
theorem wicketref15_value.mono : ∀ a0 k, LeO (wicketref15_value.f k a0) (wicketref15_value.f (k + 1) a0) := by
  intro a0 k
  have ih0 := wicketref15_value.mono_l k
  unfold wicketref15_value.f
  repeat' first
      | (with_reducible exact ih0 _ _)
      | (with_reducible exact LeO.refl _)
      | (with_reducible exact LeO.none _)
      | (with_reducible refine LeO.ite ?_ ?_)
      | (with_reducible refine LeO.bind ?_ (fun _ => ?_))
      | exact ih0 _ _
      | exact LeO.none _
      | refine LeO.ite ?_ ?_
      | refine LeO.bind ?_ (fun _ => ?_)
set_option maxHeartbeats 8000000 in
set_option maxRecDepth 100000 in
theorem wicketref15_value.calls (k : Nat) (a0 : ByteArray) (r : Bool) (w : World) (h : wicketref15_value.f k a0 = some r) :
    Calls Tryz.prog 71 #[.string a0] w fun e w' => e = .returned (.bool r) ∧ Drawn0 w w' := by
  have H : (wicketref15_value.l0 k a0 0) = some r := h
  clear h
  have H' := Aside0.mk H
  clear H
  go_enter Tryz.func71, Tryz.ntmps71
  go_wp2
  go_loopg [3] k (fun kq v3 w' => ∃ (x3_1 : Int), v3 = .int .i64 x3_1 ∧ Aside0 (wicketref15_value.l0 kq a0 x3_1 = some r) ∧ Aside0 (kq ≤ k) ∧ Drawn0 w w')
  case atStart => exact ⟨(0), (by first | rfl | (simp; done) | (simp [*]; done)), H', ⟨Nat.le_refl _⟩, by repeat (first | exact Drawn0.refl _ | apply Drawn0.step)⟩
  case round =>
    clear H'
    obtain ⟨x3_1, rfl, HA, HK1, ⟨m1, rfl⟩⟩ := hrel
    cases gk with
    | zero => exact absurd HA.out (by simp [wicketref15_value.l0])
    | succ k1 =>
      have H := HA.out
      clear HA
      simp only [wicketref15_value.l0] at H
      by_cases c2 : x3_1 < (a0.size : Int)
      · rw [if_pos c2] at H
        have c2b0 : decide (x3_1 < (a0.size : Int)) = true := decide_eq_true c2
        clear c2
        by_cases c3 : 0 ≤ x3_1
        · rw [if_pos c3] at H
          have c3b0 : decide (0 ≤ x3_1) = true := decide_eq_true c3
          clear c3
          by_cases c5 : (bt a0 x3_1) < 32
          · rw [if_pos c5] at H
            have c5b0 : decide ((bt a0 x3_1) < 32) = true := decide_eq_true c5
            clear c5
            obtain rfl := Option.some.inj H
            have p4 : 0 ≤ (x3_1 : Int) := of_decide_eq_true (by first | (with_reducible assumption) | assumption)
            have q4 : x3_1 < (a0.size : Int) := of_decide_eq_true (by first | (with_reducible assumption) | assumption)
            have hx4 := bt_at a0 x3_1
            replace p4 := eq_true p4
            replace q4 := eq_true q4
            go_wp2
            go_ret
            exact ⟨by first | rfl | (simp; done) | (simp [*]; done), by repeat (first | exact Drawn0.refl _ | apply Drawn0.step)⟩
          · rw [if_neg c5] at H
            have c5b0 : decide ((bt a0 x3_1) < 32) = false := decide_eq_false c5
            clear c5
            by_cases c7 : (bt a0 x3_1) > 126
            · rw [if_pos c7] at H
              have c7b0 : decide (126 < (bt a0 x3_1)) = true := decide_eq_true c7
              clear c7
              obtain rfl := Option.some.inj H
              have p4 : 0 ≤ (x3_1 : Int) := of_decide_eq_true (by first | (with_reducible assumption) | assumption)
              have q4 : x3_1 < (a0.size : Int) := of_decide_eq_true (by first | (with_reducible assumption) | assumption)
              have hx4 := bt_at a0 x3_1
              replace p4 := eq_true p4
              replace q4 := eq_true q4
              have p6 : 0 ≤ (x3_1 : Int) := of_decide_eq_true (by first | (with_reducible assumption) | assumption)
              have q6 : x3_1 < (a0.size : Int) := of_decide_eq_true (by first | (with_reducible assumption) | assumption)
              have hx6 := bt_at a0 x3_1
              replace p6 := eq_true p6
              replace q6 := eq_true q6
              go_wp2
              go_ret
              exact ⟨by first | rfl | (simp; done) | (simp [*]; done), by repeat (first | exact Drawn0.refl _ | apply Drawn0.step)⟩
            · rw [if_neg c7] at H
              have c7b0 : decide (126 < (bt a0 x3_1)) = false := decide_eq_false c7
              clear c7
              have H' := Aside0.mk H
              clear H
              have p4 : 0 ≤ (x3_1 : Int) := of_decide_eq_true (by first | (with_reducible assumption) | assumption)
              have q4 : x3_1 < (a0.size : Int) := of_decide_eq_true (by first | (with_reducible assumption) | assumption)
              have hx4 := bt_at a0 x3_1
              replace p4 := eq_true p4
              replace q4 := eq_true q4
              have p6 : 0 ≤ (x3_1 : Int) := of_decide_eq_true (by first | (with_reducible assumption) | assumption)
              have q6 : x3_1 < (a0.size : Int) := of_decide_eq_true (by first | (with_reducible assumption) | assumption)
              have hx6 := bt_at a0 x3_1
              replace p6 := eq_true p6
              replace q6 := eq_true q6
              go_wp2
              go_roundg k1
              case measure => have := HK1.out; omega
              case rel => exact ⟨(wrap64 (x3_1 + 1)), (by first | rfl | (simp; done) | (simp [*]; done)), H', ⟨by have := HK1.out; omega⟩, by repeat (first | exact Drawn0.refl _ | apply Drawn0.step)⟩
        · rw [if_neg c3] at H
          exact absurd H (by simp)
      · rw [if_neg c2] at H
        have c2b0 : decide (x3_1 < (a0.size : Int)) = false := decide_eq_false c2
        clear c2
        by_cases c8 : (a0.size : Int) > 4096
        · rw [if_pos c8] at H
          have c8b0 : decide (4096 < (a0.size : Int)) = true := decide_eq_true c8
          have c8b1 : decide (4096 < a0.size) = true := decide_eq_true (by omega)
          clear c8
          obtain rfl := Option.some.inj H
          go_wp2
          go_ret
          exact ⟨by first | rfl | (simp; done) | (simp [*]; done), by repeat (first | exact Drawn0.refl _ | apply Drawn0.step)⟩
        · rw [if_neg c8] at H
          have c8b0 : decide (4096 < (a0.size : Int)) = false := decide_eq_false c8
          have c8b1 : decide (4096 < a0.size) = false := decide_eq_false (by omega)
          clear c8
          by_cases c9 : a0.toList = ([] : List UInt8)
          · rw [if_pos c9] at H
            have c9b0 : (a0.toList == ([] : List UInt8)) = true := beq_iff_eq.mpr c9
            have c9b1 : (a0.toList != ([] : List UInt8)) = false := bne_eq_false_iff_eq.mpr c9
            clear c9
            obtain rfl := Option.some.inj H
            go_wp2
            go_ret
            exact ⟨by first | rfl | (simp; done) | (simp [*]; done), by repeat (first | exact Drawn0.refl _ | apply Drawn0.step)⟩
          · rw [if_neg c9] at H
            have c9b0 : (a0.toList == ([] : List UInt8)) = false := beq_eq_false_iff_ne.mpr c9
            have c9b1 : (a0.toList != ([] : List UInt8)) = true := bne_iff_ne.mpr c9
            by_cases c10 : 0 < (a0.size : Int)
            · rw [if_pos c10] at H
              have c10b0 : decide (0 < (a0.size : Int)) = true := decide_eq_true c10
              have c10b1 : decide (0 < a0.size) = true := decide_eq_true (by omega)
              clear c10
              by_cases c12 : (bt a0 0) = 32
              · rw [if_pos c12] at H
                have c12b0 : ((bt a0 0) == 32) = true := beq_iff_eq.mpr c12
                have c12b1 : ((bt a0 0) != 32) = false := bne_eq_false_iff_eq.mpr c12
                clear c12
                obtain rfl := Option.some.inj H
                have p11 : 0 ≤ (0 : Int) := (by omega)
                have q11 : 0 < a0.size := (by have : (0 : Int) < (a0.size : Int) := of_decide_eq_true (by first | (with_reducible assumption) | assumption); omega)
                have hx11 : ∀ h : 0 < a0.size, ((a0[0]'h).toNat : Int) = bt a0 0 := bt_at a0 0
                clear p11
                have qi11 : (0 < (a0.size : Int)) = True := eq_true (of_decide_eq_true (by first | (with_reducible assumption) | assumption))
                replace q11 := eq_true q11
                go_wp2
                go_ret
                exact ⟨by first | rfl | (simp; done) | (simp [*]; done), by repeat (first | exact Drawn0.refl _ | apply Drawn0.step)⟩
              · rw [if_neg c12] at H
                have c12b0 : ((bt a0 0) == 32) = false := beq_eq_false_iff_ne.mpr c12
                have c12b1 : ((bt a0 0) != 32) = true := bne_iff_ne.mpr c12
                obtain ⟨ji13, hji13⟩ : ∃ j_ : Int, (wrap64 ((a0.size : Int) - 1)) = j_ := ⟨_, rfl⟩
                replace H : (if 0 ≤ (ji13) then (if (ji13) < (a0.size : Int) then (some ((bt a0 (ji13)) != 32)) else (none)) else (none)) = some r := by first | (rw [hji13] at H; exact H) | (simp only [hji13] at H ⊢; exact H)
                have hji13w : (IntKind.i64.wrap ((a0.size : Int) - 1)) = ji13 := (i64_w _).trans hji13
                by_cases c14 : 0 ≤ (ji13)
                · rw [if_pos c14] at H
                  have c14b0 : decide (0 ≤ (ji13)) = true := decide_eq_true c14
                  clear c14
                  by_cases c15 : (ji13) < (a0.size : Int)
                  · rw [if_pos c15] at H
                    have c15b0 : decide ((ji13) < (a0.size : Int)) = true := decide_eq_true c15
                    clear c15
                    obtain rfl := Option.some.inj H
                    have p11 : 0 ≤ (0 : Int) := (by omega)
                    have q11 : 0 < a0.size := (by have : (0 : Int) < (a0.size : Int) := of_decide_eq_true (by first | (with_reducible assumption) | assumption); omega)
                    have hx11 : ∀ h : 0 < a0.size, ((a0[0]'h).toNat : Int) = bt a0 0 := bt_at a0 0
                    clear p11
                    have qi11 : (0 < (a0.size : Int)) = True := eq_true (of_decide_eq_true (by first | (with_reducible assumption) | assumption))
                    replace q11 := eq_true q11
                    have p16 : 0 ≤ ((ji13) : Int) := of_decide_eq_true (by first | (with_reducible assumption) | assumption)
                    have q16 : (ji13) < (a0.size : Int) := of_decide_eq_true (by first | (with_reducible assumption) | assumption)
                    have hx16 := bt_at a0 (ji13)
                    replace p16 := eq_true p16
                    replace q16 := eq_true q16
                    go_wp2
                    go_ret
                    exact ⟨by first | rfl | (simp; done) | (simp only [← hji13] <;> (first | rfl | simp)) | (simp [*]; done), by repeat (first | exact Drawn0.refl _ | apply Drawn0.step)⟩
                  · rw [if_neg c15] at H
                    exact absurd H (by simp)
                · rw [if_neg c14] at H
                  exact absurd H (by simp)
            · rw [if_neg c10] at H
              exact absurd H (by simp)

/-! ### wicketref15_stands: function 42 -/
def wicketref15_stands.f (a0 : ByteArray) (a1 : Int) (a2 : ByteArray) : Option (Bool) := if (wrap64 (a1 + (a2.size : Int))) ≤ (a0.size : Int) then (if 0 ≤ a1 then (if a1 ≤ (wrap64 (a1 + (a2.size : Int))) then (some ((a0.extract (a1 : Int).toNat ((wrap64 (a1 + (a2.size : Int))) : Int).toNat).toList == a2.toList)) else (none)) else (none)) else (some false)
set_option maxHeartbeats 8000000 in
set_option maxRecDepth 100000 in
theorem wicketref15_stands.calls (a0 : ByteArray) (a1 : Int) (a2 : ByteArray) (r : Bool) (w : World) (h : wicketref15_stands.f a0 a1 a2 = some r) :
    Calls Tryz.prog 42 #[.string a0, .int .i64 a1, .string a2] w fun e w' => e = .returned (.bool r) ∧ Drawn0 w w' := by
  have H : (if (wrap64 (a1 + (a2.size : Int))) ≤ (a0.size : Int) then (if 0 ≤ a1 then (if a1 ≤ (wrap64 (a1 + (a2.size : Int))) then (some ((a0.extract (a1 : Int).toNat ((wrap64 (a1 + (a2.size : Int))) : Int).toNat).toList == a2.toList)) else (none)) else (none)) else (some false)) = some r := h
  clear h
  by_cases c4 : (wrap64 (a1 + (a2.size : Int))) ≤ (a0.size : Int)
  · rw [if_pos c4] at H
    have c4b0 : decide ((wrap64 (a1 + (a2.size : Int))) ≤ (a0.size : Int)) = true := decide_eq_true c4
    clear c4
    by_cases c5 : 0 ≤ a1
    · rw [if_pos c5] at H
      have c5b0 := eq_true c5
      have c5b1 : decide (0 ≤ a1) = true := decide_eq_true c5
      clear c5
      by_cases c6 : a1 ≤ (wrap64 (a1 + (a2.size : Int)))
      · rw [if_pos c6] at H
        have c6b0 := eq_true c6
        have c6b1 : decide (a1 ≤ (wrap64 (a1 + (a2.size : Int)))) = true := decide_eq_true c6
        have c7b0 := eq_true (of_decide_eq_true (by first | (with_reducible assumption) | assumption) : (wrap64 (a1 + (a2.size : Int))) ≤ (a0.size : Int))
        obtain rfl := Option.some.inj H
        go_enter Tryz.func42, Tryz.ntmps42
        go_wp2
        go_ret
        exact ⟨by first | rfl | (simp; done) | (simp [*]; done), by repeat (first | exact Drawn0.refl _ | apply Drawn0.step)⟩
      · rw [if_neg c6] at H
        exact absurd H (by simp)
    · rw [if_neg c5] at H
      exact absurd H (by simp)
  · rw [if_neg c4] at H
    have c4b0 : decide ((wrap64 (a1 + (a2.size : Int))) ≤ (a0.size : Int)) = false := decide_eq_false c4
    clear c4
    obtain rfl := Option.some.inj H
    go_enter Tryz.func42, Tryz.ntmps42
    go_wp2
    go_ret
    exact ⟨by first | rfl | (simp; done) | (simp [*]; done), by repeat (first | exact Drawn0.refl _ | apply Drawn0.step)⟩

/-! ### wicketref15_trim: function 52 -/
mutual
def wicketref15_trim.j1 : Nat → ByteArray → Option (ByteArray)
  | 0, _ => none
  | k + 1, x0 => wicketref15_trim.l1 k x0
def wicketref15_trim.l1 : Nat → ByteArray → Option (ByteArray)
  | 0, _ => none
  | k + 1, x0 => if x0.toList = ([] : List UInt8) then (some x0) else (if 0 ≤ (wrap64 ((x0.size : Int) - 1)) then (if (wrap64 ((x0.size : Int) - 1)) < (x0.size : Int) then (if (bt x0 (wrap64 ((x0.size : Int) - 1))) = 32 then (if (wrap64 ((x0.size : Int) - 1)) ≤ (x0.size : Int) then (wicketref15_trim.l1 k (x0.extract 0 ((wrap64 ((x0.size : Int) - 1)) : Int).toNat)) else (none)) else (if (bt x0 (wrap64 ((x0.size : Int) - 1))) = 9 then (if (wrap64 ((x0.size : Int) - 1)) ≤ (x0.size : Int) then (wicketref15_trim.l1 k (x0.extract 0 ((wrap64 ((x0.size : Int) - 1)) : Int).toNat)) else (none)) else (some x0))) else (none)) else (none))
def wicketref15_trim.l0 : Nat → ByteArray → Option (ByteArray)
  | 0, _ => none
  | k + 1, x0 => if x0.toList = ([] : List UInt8) then (wicketref15_trim.j1 k x0) else (if 0 < (x0.size : Int) then (if (bt x0 0) = 32 then (if 1 ≤ (x0.size : Int) then (wicketref15_trim.l0 k (x0.extract 1 x0.size)) else (none)) else (if (bt x0 0) = 9 then (if 1 ≤ (x0.size : Int) then (wicketref15_trim.l0 k (x0.extract 1 x0.size)) else (none)) else (wicketref15_trim.j1 k x0))) else (none))
end
def wicketref15_trim.f (k : Nat) (a0 : ByteArray) : Option (ByteArray) := wicketref15_trim.l0 k a0
theorem wicketref15_trim.mono_l : ∀ k, (∀ y0, LeO (wicketref15_trim.j1 k y0) (wicketref15_trim.j1 (k + 1) y0)) ∧ (∀ y0, LeO (wicketref15_trim.l1 k y0) (wicketref15_trim.l1 (k + 1) y0)) ∧ (∀ y0, LeO (wicketref15_trim.l0 k y0) (wicketref15_trim.l0 (k + 1) y0))
  | 0 => ⟨fun _ r h => by simp [wicketref15_trim.j1] at h, fun _ r h => by simp [wicketref15_trim.l1] at h, fun _ r h => by simp [wicketref15_trim.l0] at h⟩
  | k + 1 => by
    obtain ⟨ih0, ih1, ih2⟩ := wicketref15_trim.mono_l k
    refine ⟨?_, ?_, ?_⟩
    · intro y0
      unfold wicketref15_trim.j1
      repeat' first
      | (with_reducible exact ih0 _)
      | (with_reducible exact ih1 _)
      | (with_reducible exact ih2 _)
      | (with_reducible exact LeO.refl _)
      | (with_reducible exact LeO.none _)
      | (with_reducible refine LeO.ite ?_ ?_)
      | (with_reducible refine LeO.bind ?_ (fun _ => ?_))
      | exact ih0 _
      | exact ih1 _
      | exact ih2 _
      | exact LeO.none _
      | refine LeO.ite ?_ ?_
      | refine LeO.bind ?_ (fun _ => ?_)
    · intro y0
      unfold wicketref15_trim.l1
      repeat' first
      | (with_reducible exact ih0 _)
      | (with_reducible exact ih1 _)
      | (with_reducible exact ih2 _)
      | (with_reducible exact LeO.refl _)
      | (with_reducible exact LeO.none _)
      | (with_reducible refine LeO.ite ?_ ?_)
      | (with_reducible refine LeO.bind ?_ (fun _ => ?_))
      | exact ih0 _
      | exact ih1 _
      | exact ih2 _
      | exact LeO.none _
      | refine LeO.ite ?_ ?_
      | refine LeO.bind ?_ (fun _ => ?_)
    · intro y0
      unfold wicketref15_trim.l0
      repeat' first
      | (with_reducible exact ih0 _)
      | (with_reducible exact ih1 _)
      | (with_reducible exact ih2 _)
      | (with_reducible exact LeO.refl _)
      | (with_reducible exact LeO.none _)
      | (with_reducible refine LeO.ite ?_ ?_)
      | (with_reducible refine LeO.bind ?_ (fun _ => ?_))
      | exact ih0 _
      | exact ih1 _
      | exact ih2 _
      | exact LeO.none _
      | refine LeO.ite ?_ ?_
      | refine LeO.bind ?_ (fun _ => ?_)
theorem wicketref15_trim.mono : ∀ a0 k, LeO (wicketref15_trim.f k a0) (wicketref15_trim.f (k + 1) a0) := by
  intro a0 k
  obtain ⟨ih0, ih1, ih2⟩ := wicketref15_trim.mono_l k
  unfold wicketref15_trim.f
  repeat' first
      | (with_reducible exact ih0 _)
      | (with_reducible exact ih1 _)
      | (with_reducible exact ih2 _)
      | (with_reducible exact LeO.refl _)
      | (with_reducible exact LeO.none _)
      | (with_reducible refine LeO.ite ?_ ?_)
      | (with_reducible refine LeO.bind ?_ (fun _ => ?_))
      | exact ih0 _
      | exact ih1 _
      | exact ih2 _
      | exact LeO.none _
      | refine LeO.ite ?_ ?_
      | refine LeO.bind ?_ (fun _ => ?_)
set_option maxHeartbeats 8000000 in
set_option maxRecDepth 100000 in
theorem wicketref15_trim.calls (k : Nat) (a0 : ByteArray) (r : ByteArray) (w : World) (h : wicketref15_trim.f k a0 = some r) :
    Calls Tryz.prog 52 #[.string a0] w fun e w' => e = .returned (.string r) ∧ Drawn0 w w' := by
  have H : (wicketref15_trim.l0 k a0) = some r := h
  clear h
  have HC2 := Aside0.mk H
  clear H
  go_enter Tryz.func52, Tryz.ntmps52
  go_upto_block 0 with (fail)
  go_cut [0] (fun v0 wc => ∃ (kq : Nat) (x0_1 : ByteArray), v0 = .string x0_1 ∧ Aside0 (wicketref15_trim.j1 kq x0_1 = some r) ∧ Aside0 (kq ≤ k) ∧ Drawn0 w wc)
  case first =>
    have H := HC2.out
    clear HC2
    have H' := Aside0.mk H
    clear H
    go_wp2
    go_loopg [0] k (fun kq v0 w' => ∃ (x0_1 : ByteArray), v0 = .string x0_1 ∧ Aside0 (wicketref15_trim.l0 kq x0_1 = some r) ∧ Aside0 (kq ≤ k) ∧ Drawn0 w w')
    case atStart => exact ⟨(a0), (by first | rfl | (simp; done) | (simp [*]; done)), H', ⟨Nat.le_refl _⟩, by repeat (first | exact Drawn0.refl _ | apply Drawn0.step)⟩
    case round =>
      clear H'
      try clear p2
      obtain ⟨x0_1, rfl, HA, HK1, ⟨m1, rfl⟩⟩ := hrel
      cases gk with
      | zero => exact absurd HA.out (by simp [wicketref15_trim.l0])
      | succ k1 =>
        have H := HA.out
        clear HA
        simp only [wicketref15_trim.l0] at H
        by_cases c3 : x0_1.toList = ([] : List UInt8)
        · rw [if_pos c3] at H
          have c3b0 : (x0_1.toList == ([] : List UInt8)) = true := beq_iff_eq.mpr c3
          have c3b1 : (x0_1.toList != ([] : List UInt8)) = false := bne_eq_false_iff_eq.mpr c3
          clear c3
          (first | rw [c3b0] | (simp only [i64_w, i32_w]; rw [c3b0]) | skip)
          have H' := Aside0.mk H
          clear H
          go_wp2
          go_meet
          case rel => exact ⟨_, (x0_1), (by first | rfl | (simp; done) | (simp [*]; done)), H', ⟨by have := HK1.out; first | omega | exact Nat.le_refl _⟩, by repeat (first | exact Drawn0.refl _ | apply Drawn0.step)⟩
        · rw [if_neg c3] at H
          have c3b0 : (x0_1.toList == ([] : List UInt8)) = false := beq_eq_false_iff_ne.mpr c3
          have c3b1 : (x0_1.toList != ([] : List UInt8)) = true := bne_iff_ne.mpr c3
          (first | rw [c3b0] | (simp only [i64_w, i32_w]; rw [c3b0]) | skip)
          by_cases c4 : 0 < (x0_1.size : Int)
          · rw [if_pos c4] at H
            have c4b0 : decide (0 < (x0_1.size : Int)) = true := decide_eq_true c4
            have c4b1 : decide (0 < x0_1.size) = true := decide_eq_true (by omega)
            clear c4
            by_cases c6 : (bt x0_1 0) = 32
            · rw [if_pos c6] at H
              have c6b0 : ((bt x0_1 0) == 32) = true := beq_iff_eq.mpr c6
              have c6b1 : ((bt x0_1 0) != 32) = false := bne_eq_false_iff_eq.mpr c6
              clear c6
              by_cases c7 : 1 ≤ (x0_1.size : Int)
              · rw [if_pos c7] at H
                have c7b0 := eq_true c7
                have c7b1 : decide (1 ≤ (x0_1.size : Int)) = true := decide_eq_true c7
                clear c7
                have H' := Aside0.mk H
                clear H
                have p5 : 0 ≤ (0 : Int) := (by omega)
                have q5 : 0 < x0_1.size := (by have : (0 : Int) < (x0_1.size : Int) := of_decide_eq_true (by first | (with_reducible assumption) | assumption); omega)
                have hx5 : ∀ h : 0 < x0_1.size, ((x0_1[0]'h).toNat : Int) = bt x0_1 0 := bt_at x0_1 0
                clear p5
                have qi5 : (0 < (x0_1.size : Int)) = True := eq_true (of_decide_eq_true (by first | (with_reducible assumption) | assumption))
                replace q5 := eq_true q5
                go_wp2
                go_roundg k1
                case measure => have := HK1.out; omega
                case rel => exact ⟨(x0_1.extract 1 x0_1.size), (by first | rfl | (simp; done) | (simp [*]; done)), H', ⟨by have := HK1.out; omega⟩, by repeat (first | exact Drawn0.refl _ | apply Drawn0.step)⟩
              · rw [if_neg c7] at H
                exact absurd H (by simp)
            · rw [if_neg c6] at H
              have c6b0 : ((bt x0_1 0) == 32) = false := beq_eq_false_iff_ne.mpr c6
              have c6b1 : ((bt x0_1 0) != 32) = true := bne_iff_ne.mpr c6
              by_cases c9 : (bt x0_1 0) = 9
              · rw [if_pos c9] at H
                have c9b0 : ((bt x0_1 0) == 9) = true := beq_iff_eq.mpr c9
                have c9b1 : ((bt x0_1 0) != 9) = false := bne_eq_false_iff_eq.mpr c9
                clear c9
                by_cases c10 : 1 ≤ (x0_1.size : Int)
                · rw [if_pos c10] at H
                  have c10b0 := eq_true c10
                  have c10b1 : decide (1 ≤ (x0_1.size : Int)) = true := decide_eq_true c10
                  clear c10
                  have H' := Aside0.mk H
                  clear H
                  have p5 : 0 ≤ (0 : Int) := (by omega)
                  have q5 : 0 < x0_1.size := (by have : (0 : Int) < (x0_1.size : Int) := of_decide_eq_true (by first | (with_reducible assumption) | assumption); omega)
                  have hx5 : ∀ h : 0 < x0_1.size, ((x0_1[0]'h).toNat : Int) = bt x0_1 0 := bt_at x0_1 0
                  clear p5
                  have qi5 : (0 < (x0_1.size : Int)) = True := eq_true (of_decide_eq_true (by first | (with_reducible assumption) | assumption))
                  replace q5 := eq_true q5
                  have p8 : 0 ≤ (0 : Int) := (by omega)
                  have q8 : 0 < x0_1.size := (by have : (0 : Int) < (x0_1.size : Int) := of_decide_eq_true (by first | (with_reducible assumption) | assumption); omega)
                  have hx8 : ∀ h : 0 < x0_1.size, ((x0_1[0]'h).toNat : Int) = bt x0_1 0 := bt_at x0_1 0
                  clear p8
                  have qi8 : (0 < (x0_1.size : Int)) = True := eq_true (of_decide_eq_true (by first | (with_reducible assumption) | assumption))
                  replace q8 := eq_true q8
                  go_wp2
                  go_roundg k1
                  case measure => have := HK1.out; omega
                  case rel => exact ⟨(x0_1.extract 1 x0_1.size), (by first | rfl | (simp; done) | (simp [*]; done)), H', ⟨by have := HK1.out; omega⟩, by repeat (first | exact Drawn0.refl _ | apply Drawn0.step)⟩
                · rw [if_neg c10] at H
                  exact absurd H (by simp)
              · rw [if_neg c9] at H
                have c9b0 : ((bt x0_1 0) == 9) = false := beq_eq_false_iff_ne.mpr c9
                have c9b1 : ((bt x0_1 0) != 9) = true := bne_iff_ne.mpr c9
                have H' := Aside0.mk H
                clear H
                have p5 : 0 ≤ (0 : Int) := (by omega)
                have q5 : 0 < x0_1.size := (by have : (0 : Int) < (x0_1.size : Int) := of_decide_eq_true (by first | (with_reducible assumption) | assumption); omega)
                have hx5 : ∀ h : 0 < x0_1.size, ((x0_1[0]'h).toNat : Int) = bt x0_1 0 := bt_at x0_1 0
                clear p5
                have qi5 : (0 < (x0_1.size : Int)) = True := eq_true (of_decide_eq_true (by first | (with_reducible assumption) | assumption))
                replace q5 := eq_true q5
                have p8 : 0 ≤ (0 : Int) := (by omega)
                have q8 : 0 < x0_1.size := (by have : (0 : Int) < (x0_1.size : Int) := of_decide_eq_true (by first | (with_reducible assumption) | assumption); omega)
                have hx8 : ∀ h : 0 < x0_1.size, ((x0_1[0]'h).toNat : Int) = bt x0_1 0 := bt_at x0_1 0
                clear p8
                have qi8 : (0 < (x0_1.size : Int)) = True := eq_true (of_decide_eq_true (by first | (with_reducible assumption) | assumption))
                replace q8 := eq_true q8
                go_wp2
                go_meet
                case rel => exact ⟨_, (x0_1), (by first | rfl | (simp; done) | (simp [*]; done)), H', ⟨by have := HK1.out; first | omega | exact Nat.le_refl _⟩, by repeat (first | exact Drawn0.refl _ | apply Drawn0.step)⟩
          · rw [if_neg c4] at H
            exact absurd H (by simp)
  case rest =>
    clear HC2
    try clear c1
    try clear p2
    try clear c3
    try clear c3b0
    try clear c3b1
    try clear c4
    try clear c4b0
    try clear c4b1
    try clear c5
    try clear p5
    try clear q5
    try clear hx5
    try clear qi5
    try clear c6
    try clear c6b0
    try clear c6b1
    try clear c7
    try clear c7b0
    try clear c7b1
    try clear p8
    try clear q8
    try clear hx8
    try clear qi8
    try clear c9
    try clear c9b0
    try clear c9b1
    try clear c10
    try clear c10b0
    try clear c10b1
    try clear p2
    try clear p5
    try clear p8
    try clear q5
    try clear q8
    obtain ⟨kq, x0_1, rfl, HA, HJ1, ⟨mc1, rfl⟩⟩ := hcut
    cases kq with
    | zero => exact absurd HA.out (by simp [wicketref15_trim.j1])
    | succ kj1 =>
      have H := HA.out
      clear HA
      simp only [wicketref15_trim.j1] at H
      have H' := Aside0.mk H
      clear H
      go_wp2
      go_loopg [0] kj1 (fun kq v0 w' => ∃ (x0_2 : ByteArray), v0 = .string x0_2 ∧ Aside0 (wicketref15_trim.l1 kq x0_2 = some r) ∧ Aside0 (kq ≤ kj1) ∧ Drawn0 w w')
      case atStart => exact ⟨(x0_1), (by first | rfl | (simp; done) | (simp [*]; done)), H', ⟨Nat.le_refl _⟩, by repeat (first | exact Drawn0.refl _ | apply Drawn0.step)⟩
      case round =>
        clear H'
        try clear c1
        try clear p2
        try clear c3
        try clear c3b0
        try clear c3b1
        try clear c4
        try clear c4b0
        try clear c4b1
        try clear c5
        try clear p5
        try clear q5
        try clear hx5
        try clear qi5
        try clear c6
        try clear c6b0
        try clear c6b1
        try clear c7
        try clear c7b0
        try clear c7b1
        try clear p8
        try clear q8
        try clear hx8
        try clear qi8
        try clear c9
        try clear c9b0
        try clear c9b1
        try clear c10
        try clear c10b0
        try clear c10b1
        try clear p2
        try clear p5
        try clear p8
        try clear q5
        try clear q8
        obtain ⟨x0_2, rfl, HA, HK2, ⟨m2, rfl⟩⟩ := hrel
        cases gk with
        | zero => exact absurd HA.out (by simp [wicketref15_trim.l1])
        | succ k2 =>
          have H := HA.out
          clear HA
          simp only [wicketref15_trim.l1] at H
          by_cases c11 : x0_2.toList = ([] : List UInt8)
          · rw [if_pos c11] at H
            have c11b0 : (x0_2.toList == ([] : List UInt8)) = true := beq_iff_eq.mpr c11
            have c11b1 : (x0_2.toList != ([] : List UInt8)) = false := bne_eq_false_iff_eq.mpr c11
            clear c11
            obtain rfl := Option.some.inj H
            go_wp2
            go_ret
            exact ⟨by first | rfl | (simp; done) | (simp [*]; done), by repeat (first | exact Drawn0.refl _ | apply Drawn0.step)⟩
          · rw [if_neg c11] at H
            have c11b0 : (x0_2.toList == ([] : List UInt8)) = false := beq_eq_false_iff_ne.mpr c11
            have c11b1 : (x0_2.toList != ([] : List UInt8)) = true := bne_iff_ne.mpr c11
            obtain ⟨ji12, hji12⟩ : ∃ j_ : Int, (wrap64 ((x0_2.size : Int) - 1)) = j_ := ⟨_, rfl⟩
            replace H : (if 0 ≤ (ji12) then (if (ji12) < (x0_2.size : Int) then (if (bt x0_2 (ji12)) = 32 then (if (ji12) ≤ (x0_2.size : Int) then (wicketref15_trim.l1 k2 (x0_2.extract 0 ((ji12) : Int).toNat)) else (none)) else (if (bt x0_2 (ji12)) = 9 then (if (ji12) ≤ (x0_2.size : Int) then (wicketref15_trim.l1 k2 (x0_2.extract 0 ((ji12) : Int).toNat)) else (none)) else (some x0_2))) else (none)) else (none)) = some r := by first | (rw [hji12] at H; exact H) | (simp only [hji12] at H ⊢; exact H)
            have hji12w : (IntKind.i64.wrap ((x0_2.size : Int) - 1)) = ji12 := (i64_w _).trans hji12
            by_cases c13 : 0 ≤ (ji12)
            · rw [if_pos c13] at H
              have c13b0 : decide (0 ≤ (ji12)) = true := decide_eq_true c13
              clear c13
              by_cases c14 : (ji12) < (x0_2.size : Int)
              · rw [if_pos c14] at H
                have c14b0 : decide ((ji12) < (x0_2.size : Int)) = true := decide_eq_true c14
                clear c14
                by_cases c16 : (bt x0_2 (ji12)) = 32
                · rw [if_pos c16] at H
                  have c16b0 : ((bt x0_2 (ji12)) == 32) = true := beq_iff_eq.mpr c16
                  have c16b1 : ((bt x0_2 (ji12)) != 32) = false := bne_eq_false_iff_eq.mpr c16
                  clear c16
                  have c17b0 := eq_true (of_decide_eq_true (by first | (with_reducible assumption) | assumption) : 0 ≤ (ji12))
                  by_cases c18 : (ji12) ≤ (x0_2.size : Int)
                  · rw [if_pos c18] at H
                    have c18b0 := eq_true c18
                    have c18b1 : decide ((ji12) ≤ (x0_2.size : Int)) = true := decide_eq_true c18
                    clear c18
                    have H' := Aside0.mk H
                    clear H
                    have p15 : 0 ≤ ((ji12) : Int) := of_decide_eq_true (by first | (with_reducible assumption) | assumption)
                    have q15 : (ji12) < (x0_2.size : Int) := of_decide_eq_true (by first | (with_reducible assumption) | assumption)
                    have hx15 := bt_at x0_2 (ji12)
                    replace p15 := eq_true p15
                    replace q15 := eq_true q15
                    go_wp2
                    go_roundg k2
                    case measure => have := HJ1.out; have := HK2.out; omega
                    case rel => exact ⟨(x0_2.extract 0 ((ji12) : Int).toNat), (by first | rfl | (simp; done) | (simp only [← hji12] <;> (first | rfl | simp)) | (simp [*]; done)), H', ⟨by have := HJ1.out; have := HK2.out; omega⟩, by repeat (first | exact Drawn0.refl _ | apply Drawn0.step)⟩
                  · rw [if_neg c18] at H
                    exact absurd H (by simp)
                · rw [if_neg c16] at H
                  have c16b0 : ((bt x0_2 (ji12)) == 32) = false := beq_eq_false_iff_ne.mpr c16
                  have c16b1 : ((bt x0_2 (ji12)) != 32) = true := bne_iff_ne.mpr c16
                  by_cases c20 : (bt x0_2 (ji12)) = 9
                  · rw [if_pos c20] at H
                    have c20b0 : ((bt x0_2 (ji12)) == 9) = true := beq_iff_eq.mpr c20
                    have c20b1 : ((bt x0_2 (ji12)) != 9) = false := bne_eq_false_iff_eq.mpr c20
                    clear c20
                    have c21b0 := eq_true (of_decide_eq_true (by first | (with_reducible assumption) | assumption) : 0 ≤ (ji12))
                    by_cases c22 : (ji12) ≤ (x0_2.size : Int)
                    · rw [if_pos c22] at H
                      have c22b0 := eq_true c22
                      have c22b1 : decide ((ji12) ≤ (x0_2.size : Int)) = true := decide_eq_true c22
                      clear c22
                      have H' := Aside0.mk H
                      clear H
                      have p15 : 0 ≤ ((ji12) : Int) := of_decide_eq_true (by first | (with_reducible assumption) | assumption)
                      have q15 : (ji12) < (x0_2.size : Int) := of_decide_eq_true (by first | (with_reducible assumption) | assumption)
                      have hx15 := bt_at x0_2 (ji12)
                      replace p15 := eq_true p15
                      replace q15 := eq_true q15
                      have p19 : 0 ≤ ((ji12) : Int) := of_decide_eq_true (by first | (with_reducible assumption) | assumption)
                      have q19 : (ji12) < (x0_2.size : Int) := of_decide_eq_true (by first | (with_reducible assumption) | assumption)
                      have hx19 := bt_at x0_2 (ji12)
                      replace p19 := eq_true p19
                      replace q19 := eq_true q19
                      go_wp2
                      go_roundg k2
                      case measure => have := HJ1.out; have := HK2.out; omega
                      case rel => exact ⟨(x0_2.extract 0 ((ji12) : Int).toNat), (by first | rfl | (simp; done) | (simp only [← hji12] <;> (first | rfl | simp)) | (simp [*]; done)), H', ⟨by have := HJ1.out; have := HK2.out; omega⟩, by repeat (first | exact Drawn0.refl _ | apply Drawn0.step)⟩
                    · rw [if_neg c22] at H
                      exact absurd H (by simp)
                  · rw [if_neg c20] at H
                    have c20b0 : ((bt x0_2 (ji12)) == 9) = false := beq_eq_false_iff_ne.mpr c20
                    have c20b1 : ((bt x0_2 (ji12)) != 9) = true := bne_iff_ne.mpr c20
                    obtain rfl := Option.some.inj H
                    have p15 : 0 ≤ ((ji12) : Int) := of_decide_eq_true (by first | (with_reducible assumption) | assumption)
                    have q15 : (ji12) < (x0_2.size : Int) := of_decide_eq_true (by first | (with_reducible assumption) | assumption)
                    have hx15 := bt_at x0_2 (ji12)
                    replace p15 := eq_true p15
                    replace q15 := eq_true q15
                    have p19 : 0 ≤ ((ji12) : Int) := of_decide_eq_true (by first | (with_reducible assumption) | assumption)
                    have q19 : (ji12) < (x0_2.size : Int) := of_decide_eq_true (by first | (with_reducible assumption) | assumption)
                    have hx19 := bt_at x0_2 (ji12)
                    replace p19 := eq_true p19
                    replace q19 := eq_true q19
                    go_wp2
                    go_ret
                    exact ⟨by first | rfl | (simp; done) | (simp only [← hji12] <;> (first | rfl | simp)) | (simp [*]; done), by repeat (first | exact Drawn0.refl _ | apply Drawn0.step)⟩
              · rw [if_neg c14] at H
                exact absurd H (by simp)
            · rw [if_neg c13] at H
              exact absurd H (by simp)

/-! ### wicketref15_length: function 56 -/
mutual
def wicketref15_length.j0 : Nat → ByteArray → Bool → Option (Int)
  | 0, _, _ => none
  | k + 1, x0, x12 => if x12 = true then (some (-1)) else (wicketref15_length.l0 k x0 0 0)
def wicketref15_length.l0 : Nat → ByteArray → Int → Int → Option (Int)
  | 0, _, _, _ => none
  | k + 1, x0, x3, x4 => if x4 < (x0.size : Int) then (if 0 ≤ x4 then (if (bt x0 x4) < 48 then (some (-1)) else (if (bt x0 x4) > 57 then (some (-1)) else (wicketref15_length.l0 k x0 (wrap64 ((wrap64 (x3 * 10)) + (((bt x0 x4) - 48) % 256))) (wrap64 (x4 + 1))))) else (none)) else (some x3)
end
def wicketref15_length.f (k : Nat) (a0 : ByteArray) : Option (Int) := if (a0.size : Int) < 1 then (wicketref15_length.j0 k a0 true) else (wicketref15_length.j0 k a0 (decide ((a0.size : Int) > 9)))
theorem wicketref15_length.mono_l : ∀ k, (∀ y0 y1, LeO (wicketref15_length.j0 k y0 y1) (wicketref15_length.j0 (k + 1) y0 y1)) ∧ (∀ y0 y1 y2, LeO (wicketref15_length.l0 k y0 y1 y2) (wicketref15_length.l0 (k + 1) y0 y1 y2))
  | 0 => ⟨fun _ _ r h => by simp [wicketref15_length.j0] at h, fun _ _ _ r h => by simp [wicketref15_length.l0] at h⟩
  | k + 1 => by
    obtain ⟨ih0, ih1⟩ := wicketref15_length.mono_l k
    refine ⟨?_, ?_⟩
    · intro y0 y1
      unfold wicketref15_length.j0
      repeat' first
      | (with_reducible exact ih0 _ _)
      | (with_reducible exact ih1 _ _ _)
      | (with_reducible exact LeO.refl _)
      | (with_reducible exact LeO.none _)
      | (with_reducible refine LeO.ite ?_ ?_)
      | (with_reducible refine LeO.bind ?_ (fun _ => ?_))
      | exact ih0 _ _
      | exact ih1 _ _ _
      | exact LeO.none _
      | refine LeO.ite ?_ ?_
      | refine LeO.bind ?_ (fun _ => ?_)
    · intro y0 y1 y2
      unfold wicketref15_length.l0
      repeat' first
      | (with_reducible exact ih0 _ _)
      | (with_reducible exact ih1 _ _ _)
      | (with_reducible exact LeO.refl _)
      | (with_reducible exact LeO.none _)
      | (with_reducible refine LeO.ite ?_ ?_)
      | (with_reducible refine LeO.bind ?_ (fun _ => ?_))
      | exact ih0 _ _
      | exact ih1 _ _ _
      | exact LeO.none _
      | refine LeO.ite ?_ ?_
      | refine LeO.bind ?_ (fun _ => ?_)
theorem wicketref15_length.mono : ∀ a0 k, LeO (wicketref15_length.f k a0) (wicketref15_length.f (k + 1) a0) := by
  intro a0 k
  obtain ⟨ih0, ih1⟩ := wicketref15_length.mono_l k
  unfold wicketref15_length.f
  repeat' first
      | (with_reducible exact ih0 _ _)
      | (with_reducible exact ih1 _ _ _)
      | (with_reducible exact LeO.refl _)
      | (with_reducible exact LeO.none _)
      | (with_reducible refine LeO.ite ?_ ?_)
      | (with_reducible refine LeO.bind ?_ (fun _ => ?_))
      | exact ih0 _ _
      | exact ih1 _ _ _
      | exact LeO.none _
      | refine LeO.ite ?_ ?_
      | refine LeO.bind ?_ (fun _ => ?_)
set_option maxHeartbeats 8000000 in
set_option maxRecDepth 100000 in
theorem wicketref15_length.calls (k : Nat) (a0 : ByteArray) (r : Int) (w : World) (h : wicketref15_length.f k a0 = some r) :
    Calls Tryz.prog 56 #[.string a0] w fun e w' => e = .returned (.int .i64 r) ∧ Drawn0 w w' := by
  have H : (if (a0.size : Int) < 1 then (wicketref15_length.j0 k a0 true) else (wicketref15_length.j0 k a0 (decide ((a0.size : Int) > 9)))) = some r := h
  clear h
  have HC2 := Aside0.mk H
  clear H
  go_enter Tryz.func56, Tryz.ntmps56
  go_upto_region 1 with (fail)
  go_cut [12] (fun v12 wc => ∃ (kq : Nat) (x12_1 : Bool), v12 = .bool x12_1 ∧ Aside0 (wicketref15_length.j0 kq a0 x12_1 = some r) ∧ Aside0 (kq ≤ k) ∧ Drawn0 w wc)
  case first =>
    have H := HC2.out
    clear HC2
    by_cases c3 : (a0.size : Int) < 1
    · rw [if_pos c3] at H
      have c3b0 : decide ((a0.size : Int) < 1) = true := decide_eq_true c3
      have c3b1 : decide (a0.size < 1) = true := decide_eq_true (by omega)
      clear c3
      (first | rw [c3b0] | (simp only [i64_w, i32_w]; rw [c3b0]) | skip)
      have H' := Aside0.mk H
      clear H
      go_wp2
      go_meet
      case rel => exact ⟨_, (true), (by first | rfl | (simp; done) | (simp [*]; done)), H', ⟨by first | omega | exact Nat.le_refl _⟩, by repeat (first | exact Drawn0.refl _ | apply Drawn0.step)⟩
    · rw [if_neg c3] at H
      have c3b0 : decide ((a0.size : Int) < 1) = false := decide_eq_false c3
      have c3b1 : decide (a0.size < 1) = false := decide_eq_false (by omega)
      clear c3
      (first | rw [c3b0] | (simp only [i64_w, i32_w]; rw [c3b0]) | skip)
      have H' := Aside0.mk H
      clear H
      go_wp2
      go_meet
      case rel => exact ⟨_, (decide ((a0.size : Int) > 9)), (by first | rfl | (simp; done) | (simp [*]; done)), H', ⟨by first | omega | exact Nat.le_refl _⟩, by repeat (first | exact Drawn0.refl _ | apply Drawn0.step)⟩
  case rest =>
    clear HC2
    try clear p2
    try clear c3
    try clear c3b0
    try clear c3b1
    obtain ⟨kq, x12_1, rfl, HA, HJ1, ⟨mc1, rfl⟩⟩ := hcut
    cases kq with
    | zero => exact absurd HA.out (by simp [wicketref15_length.j0])
    | succ kj1 =>
      have H := HA.out
      clear HA
      simp only [wicketref15_length.j0] at H
      by_cases c4 : x12_1 = true
      · subst c4
        have H1 : (some (-1)) = some r := by rw [if_pos rfl] at H; exact H
        clear H
        have H := H1
        clear H1
        obtain rfl := Option.some.inj H
        go_wp2
        go_ret
        exact ⟨by first | rfl | (simp; done) | (simp [*]; done), by repeat (first | exact Drawn0.refl _ | apply Drawn0.step)⟩
      · replace c4 := Bool.eq_false_iff.mpr c4
        subst c4
        have H1 : (wicketref15_length.l0 kj1 a0 0 0) = some r := by rw [if_neg (show ¬ (false = true) by decide)] at H; exact H
        clear H
        have H := H1
        clear H1
        have H' := Aside0.mk H
        clear H
        go_wp2
        go_loopg [3, 4] kj1 (fun kq v3 v4 w' => ∃ (x3_2 : Int) (x4_2 : Int), v3 = .int .i64 x3_2 ∧ v4 = .int .i64 x4_2 ∧ Aside0 (wicketref15_length.l0 kq a0 x3_2 x4_2 = some r) ∧ Aside0 (kq ≤ kj1) ∧ Drawn0 w w')
        case atStart => exact ⟨(0), (0), (by first | rfl | (simp; done) | (simp [*]; done)), (by first | rfl | (simp; done) | (simp [*]; done)), H', ⟨Nat.le_refl _⟩, by repeat (first | exact Drawn0.refl _ | apply Drawn0.step)⟩
        case round =>
          clear H'
          try clear c1
          try clear p2
          try clear c3
          try clear c3b0
          try clear c3b1
          try clear c4
          try clear p2
          obtain ⟨x3_2, x4_2, rfl, rfl, HA, HK2, ⟨m2, rfl⟩⟩ := hrel
          cases gk with
          | zero => exact absurd HA.out (by simp [wicketref15_length.l0])
          | succ k2 =>
            have H := HA.out
            clear HA
            simp only [wicketref15_length.l0] at H
            by_cases c5 : x4_2 < (a0.size : Int)
            · rw [if_pos c5] at H
              have c5b0 : decide (x4_2 < (a0.size : Int)) = true := decide_eq_true c5
              clear c5
              by_cases c6 : 0 ≤ x4_2
              · rw [if_pos c6] at H
                have c6b0 : decide (0 ≤ x4_2) = true := decide_eq_true c6
                clear c6
                by_cases c8 : (bt a0 x4_2) < 48
                · rw [if_pos c8] at H
                  have c8b0 : decide ((bt a0 x4_2) < 48) = true := decide_eq_true c8
                  clear c8
                  obtain rfl := Option.some.inj H
                  have p7 : 0 ≤ (x4_2 : Int) := of_decide_eq_true (by first | (with_reducible assumption) | assumption)
                  have q7 : x4_2 < (a0.size : Int) := of_decide_eq_true (by first | (with_reducible assumption) | assumption)
                  have hx7 := bt_at a0 x4_2
                  replace p7 := eq_true p7
                  replace q7 := eq_true q7
                  go_wp2
                  go_ret
                  exact ⟨by first | rfl | (simp; done) | (simp [*]; done), by repeat (first | exact Drawn0.refl _ | apply Drawn0.step)⟩
                · rw [if_neg c8] at H
                  have c8b0 : decide ((bt a0 x4_2) < 48) = false := decide_eq_false c8
                  clear c8
                  by_cases c10 : (bt a0 x4_2) > 57
                  · rw [if_pos c10] at H
                    have c10b0 : decide (57 < (bt a0 x4_2)) = true := decide_eq_true c10
                    clear c10
                    obtain rfl := Option.some.inj H
                    have p7 : 0 ≤ (x4_2 : Int) := of_decide_eq_true (by first | (with_reducible assumption) | assumption)
                    have q7 : x4_2 < (a0.size : Int) := of_decide_eq_true (by first | (with_reducible assumption) | assumption)
                    have hx7 := bt_at a0 x4_2
                    replace p7 := eq_true p7
                    replace q7 := eq_true q7
                    have p9 : 0 ≤ (x4_2 : Int) := of_decide_eq_true (by first | (with_reducible assumption) | assumption)
                    have q9 : x4_2 < (a0.size : Int) := of_decide_eq_true (by first | (with_reducible assumption) | assumption)
                    have hx9 := bt_at a0 x4_2
                    replace p9 := eq_true p9
                    replace q9 := eq_true q9
                    go_wp2
                    go_ret
                    exact ⟨by first | rfl | (simp; done) | (simp [*]; done), by repeat (first | exact Drawn0.refl _ | apply Drawn0.step)⟩
                  · rw [if_neg c10] at H
                    have c10b0 : decide (57 < (bt a0 x4_2)) = false := decide_eq_false c10
                    clear c10
                    have H' := Aside0.mk H
                    clear H
                    have p7 : 0 ≤ (x4_2 : Int) := of_decide_eq_true (by first | (with_reducible assumption) | assumption)
                    have q7 : x4_2 < (a0.size : Int) := of_decide_eq_true (by first | (with_reducible assumption) | assumption)
                    have hx7 := bt_at a0 x4_2
                    replace p7 := eq_true p7
                    replace q7 := eq_true q7
                    have p9 : 0 ≤ (x4_2 : Int) := of_decide_eq_true (by first | (with_reducible assumption) | assumption)
                    have q9 : x4_2 < (a0.size : Int) := of_decide_eq_true (by first | (with_reducible assumption) | assumption)
                    have hx9 := bt_at a0 x4_2
                    replace p9 := eq_true p9
                    replace q9 := eq_true q9
                    have p11 : 0 ≤ (x4_2 : Int) := of_decide_eq_true (by first | (with_reducible assumption) | assumption)
                    have q11 : x4_2 < (a0.size : Int) := of_decide_eq_true (by first | (with_reducible assumption) | assumption)
                    have hx11 := bt_at a0 x4_2
                    replace p11 := eq_true p11
                    replace q11 := eq_true q11
                    go_wp2
                    go_roundg k2
                    case measure => have := HJ1.out; have := HK2.out; omega
                    case rel => exact ⟨(wrap64 ((wrap64 (x3_2 * 10)) + (((bt a0 x4_2) - 48) % 256))), (wrap64 (x4_2 + 1)), (by first | rfl | (simp; done) | (simp [*]; done)), (by first | rfl | (simp; done) | (simp [*]; done)), H', ⟨by have := HJ1.out; have := HK2.out; omega⟩, by repeat (first | exact Drawn0.refl _ | apply Drawn0.step)⟩
              · rw [if_neg c6] at H
                exact absurd H (by simp)
            · rw [if_neg c5] at H
              have c5b0 : decide (x4_2 < (a0.size : Int)) = false := decide_eq_false c5
              clear c5
              obtain rfl := Option.some.inj H
              go_wp2
              go_ret
              exact ⟨by first | rfl | (simp; done) | (simp [*]; done), by repeat (first | exact Drawn0.refl _ | apply Drawn0.step)⟩

/-! ### wicketref15_cut: function 87 -/
mutual
def wicketref15_cut.j1 : Nat → ByteArray → Int → Option (ByteArray × ByteArray × Bool)
  | 0, _, _ => none
  | k + 1, x0, x5 => if x5 = (x0.size : Int) then (wicketref15_cut.j2 k x0 x5 true) else (if 0 ≤ x5 then (if x5 ≤ (x0.size : Int) then ((wicketref15_name.f k (x0.extract 0 (x5 : Int).toNat)).bind fun t486 => (wicketref15_cut.j2 k x0 x5 (!t486))) else (none)) else (none))
def wicketref15_cut.j2 : Nat → ByteArray → Int → Bool → Option (ByteArray × ByteArray × Bool)
  | 0, _, _, _ => none
  | k + 1, x0, x5, x29 => if x29 = true then (some ((⟨#[]⟩ : ByteArray), (⟨#[]⟩ : ByteArray), false)) else (if 0 ≤ (wrap64 (x5 + 1)) then (if (wrap64 (x5 + 1)) ≤ (x0.size : Int) then ((wicketref15_trim.f k (x0.extract ((wrap64 (x5 + 1)) : Int).toNat x0.size)).bind fun t487 => (if 0 ≤ x5 then (if x5 ≤ (x0.size : Int) then ((wicketref15_Small.f (x0.extract 0 (x5 : Int).toNat)).bind fun t488 => ((wicketref15_value.f k t487).bind fun t489 => (some (t488, t487, t489)))) else (none)) else (none))) else (none)) else (none))
def wicketref15_cut.l0 : Nat → ByteArray → Int → Option (ByteArray × ByteArray × Bool)
  | 0, _, _ => none
  | k + 1, x0, x5 => if x5 < (x0.size : Int) then (if 0 ≤ x5 then (if (bt x0 x5) = 58 then (wicketref15_cut.j1 k x0 x5) else (wicketref15_cut.l0 k x0 (wrap64 (x5 + 1)))) else (none)) else (wicketref15_cut.j1 k x0 x5)
end
def wicketref15_cut.f (k : Nat) (a0 : ByteArray) : Option (ByteArray × ByteArray × Bool) := wicketref15_cut.l0 k a0 0
theorem wicketref15_cut.mono_l : ∀ k, (∀ y0 y1, LeO (wicketref15_cut.j1 k y0 y1) (wicketref15_cut.j1 (k + 1) y0 y1)) ∧ (∀ y0 y1 y2, LeO (wicketref15_cut.j2 k y0 y1 y2) (wicketref15_cut.j2 (k + 1) y0 y1 y2)) ∧ (∀ y0 y1, LeO (wicketref15_cut.l0 k y0 y1) (wicketref15_cut.l0 (k + 1) y0 y1))
  | 0 => ⟨fun _ _ r h => by simp [wicketref15_cut.j1] at h, fun _ _ _ r h => by simp [wicketref15_cut.j2] at h, fun _ _ r h => by simp [wicketref15_cut.l0] at h⟩
  | k + 1 => by
    obtain ⟨ih0, ih1, ih2⟩ := wicketref15_cut.mono_l k
    refine ⟨?_, ?_, ?_⟩
    · intro y0 y1
      unfold wicketref15_cut.j1
      repeat' first
      | (with_reducible exact ih0 _ _)
      | (with_reducible exact ih1 _ _ _)
      | (with_reducible exact ih2 _ _)
      | (with_reducible exact wicketref15_name.mono _ _)
      | (with_reducible exact wicketref15_trim.mono _ _)
      | (with_reducible exact wicketref15_value.mono _ _)
      | (with_reducible exact LeO.refl _)
      | (with_reducible exact LeO.none _)
      | (with_reducible refine LeO.ite ?_ ?_)
      | (with_reducible refine LeO.bind ?_ (fun _ => ?_))
      | exact ih0 _ _
      | exact ih1 _ _ _
      | exact ih2 _ _
      | exact wicketref15_name.mono _ _
      | exact wicketref15_trim.mono _ _
      | exact wicketref15_value.mono _ _
      | exact LeO.none _
      | refine LeO.ite ?_ ?_
      | refine LeO.bind ?_ (fun _ => ?_)
    · intro y0 y1 y2
      unfold wicketref15_cut.j2
      repeat' first
      | (with_reducible exact ih0 _ _)
      | (with_reducible exact ih1 _ _ _)
      | (with_reducible exact ih2 _ _)
      | (with_reducible exact wicketref15_name.mono _ _)
      | (with_reducible exact wicketref15_trim.mono _ _)
      | (with_reducible exact wicketref15_value.mono _ _)
      | (with_reducible exact LeO.refl _)
      | (with_reducible exact LeO.none _)
      | (with_reducible refine LeO.ite ?_ ?_)
      | (with_reducible refine LeO.bind ?_ (fun _ => ?_))
      | exact ih0 _ _
      | exact ih1 _ _ _
      | exact ih2 _ _
      | exact wicketref15_name.mono _ _
      | exact wicketref15_trim.mono _ _
      | exact wicketref15_value.mono _ _
      | exact LeO.none _
      | refine LeO.ite ?_ ?_
      | refine LeO.bind ?_ (fun _ => ?_)
    · intro y0 y1
      unfold wicketref15_cut.l0
      repeat' first
      | (with_reducible exact ih0 _ _)
      | (with_reducible exact ih1 _ _ _)
      | (with_reducible exact ih2 _ _)
      | (with_reducible exact wicketref15_name.mono _ _)
      | (with_reducible exact wicketref15_trim.mono _ _)
      | (with_reducible exact wicketref15_value.mono _ _)
      | (with_reducible exact LeO.refl _)
      | (with_reducible exact LeO.none _)
      | (with_reducible refine LeO.ite ?_ ?_)
      | (with_reducible refine LeO.bind ?_ (fun _ => ?_))
      | exact ih0 _ _
      | exact ih1 _ _ _
      | exact ih2 _ _
      | exact wicketref15_name.mono _ _
      | exact wicketref15_trim.mono _ _
      | exact wicketref15_value.mono _ _
      | exact LeO.none _
      | refine LeO.ite ?_ ?_
      | refine LeO.bind ?_ (fun _ => ?_)
theorem wicketref15_cut.mono : ∀ a0 k, LeO (wicketref15_cut.f k a0) (wicketref15_cut.f (k + 1) a0) := by
  intro a0 k
  obtain ⟨ih0, ih1, ih2⟩ := wicketref15_cut.mono_l k
  unfold wicketref15_cut.f
  repeat' first
      | (with_reducible exact ih0 _ _)
      | (with_reducible exact ih1 _ _ _)
      | (with_reducible exact ih2 _ _)
      | (with_reducible exact wicketref15_name.mono _ _)
      | (with_reducible exact wicketref15_trim.mono _ _)
      | (with_reducible exact wicketref15_value.mono _ _)
      | (with_reducible exact LeO.refl _)
      | (with_reducible exact LeO.none _)
      | (with_reducible refine LeO.ite ?_ ?_)
      | (with_reducible refine LeO.bind ?_ (fun _ => ?_))
      | exact ih0 _ _
      | exact ih1 _ _ _
      | exact ih2 _ _
      | exact wicketref15_name.mono _ _
      | exact wicketref15_trim.mono _ _
      | exact wicketref15_value.mono _ _
      | exact LeO.none _
      | refine LeO.ite ?_ ?_
      | refine LeO.bind ?_ (fun _ => ?_)
set_option maxHeartbeats 8000000 in
set_option maxRecDepth 100000 in
theorem wicketref15_cut.calls (k : Nat) (a0 : ByteArray) (r1 : ByteArray) (r2 : ByteArray) (r3 : Bool) (w : World) (h : wicketref15_cut.f k a0 = some (r1, r2, r3)) :
    Calls Tryz.prog 87 #[.string a0] w fun e w' => e = .returned (.tuple #[.string r1, .string r2, .bool r3]) ∧ Below w.heap.size w w' := by
  have HB := Aside0.mk (Below.refl w.heap.size w)
  have H : (wicketref15_cut.l0 k a0 0) = some (r1, r2, r3) := h
  clear h
  have HC2 := Aside0.mk H
  clear H
  go_enter Tryz.func87, Tryz.ntmps87
  go_upto_block 0 with (fail)
  go_cut [5] (fun v5 wc => ∃ (kq : Nat) (x5_1 : Int), v5 = .int .i64 x5_1 ∧ Aside0 (wicketref15_cut.j1 kq a0 x5_1 = some (r1, r2, r3)) ∧ Aside0 (kq ≤ k) ∧ Aside0 (Below w.heap.size w wc))
  case first =>
    have H := HC2.out
    clear HC2
    have H' := Aside0.mk H
    clear H
    go_wp2
    go_loopg [5] k (fun kq v5 w' => ∃ (x5_1 : Int), v5 = .int .i64 x5_1 ∧ Aside0 (wicketref15_cut.l0 kq a0 x5_1 = some (r1, r2, r3)) ∧ Aside0 (kq ≤ k) ∧ Aside0 (Below w.heap.size w w'))
    case atStart => exact ⟨(0), (by first | rfl | (simp; done) | (simp [*]; done)), H', ⟨Nat.le_refl _⟩, ⟨by repeat (first | (with_reducible first | exact HB.out | apply below_alloc | apply pw_below_drewN | apply below_drew1) | exact HB.out)⟩⟩
    case round =>
      clear H'
      try clear p2
      obtain ⟨x5_1, rfl, HA, HK1, HB⟩ := hrel
      cases gk with
      | zero => exact absurd HA.out (by simp [wicketref15_cut.l0])
      | succ k1 =>
        have H := HA.out
        clear HA
        simp only [wicketref15_cut.l0] at H
        by_cases c3 : x5_1 < (a0.size : Int)
        · rw [if_pos c3] at H
          have c3b0 : decide (x5_1 < (a0.size : Int)) = true := decide_eq_true c3
          clear c3
          (first | rw [c3b0] | (simp only [i64_w, i32_w]; rw [c3b0]) | skip)
          by_cases c4 : 0 ≤ x5_1
          · rw [if_pos c4] at H
            have c4b0 : decide (0 ≤ x5_1) = true := decide_eq_true c4
            clear c4
            by_cases c6 : (bt a0 x5_1) = 58
            · rw [if_pos c6] at H
              have c6b0 : ((bt a0 x5_1) == 58) = true := beq_iff_eq.mpr c6
              have c6b1 : ((bt a0 x5_1) != 58) = false := bne_eq_false_iff_eq.mpr c6
              clear c6
              have H' := Aside0.mk H
              clear H
              have p5 : 0 ≤ (x5_1 : Int) := of_decide_eq_true (by first | (with_reducible assumption) | assumption)
              have q5 : x5_1 < (a0.size : Int) := of_decide_eq_true (by first | (with_reducible assumption) | assumption)
              have hx5 := bt_at a0 x5_1
              replace p5 := eq_true p5
              replace q5 := eq_true q5
              go_wp2
              go_meet
              case rel => exact ⟨_, (x5_1), (by first | rfl | (simp; done) | (simp [*]; done)), H', ⟨by have := HK1.out; first | omega | exact Nat.le_refl _⟩, ⟨by repeat (first | (with_reducible first | exact HB.out | apply below_alloc | apply pw_below_drewN | apply below_drew1) | exact HB.out)⟩⟩
            · rw [if_neg c6] at H
              have c6b0 : ((bt a0 x5_1) == 58) = false := beq_eq_false_iff_ne.mpr c6
              have c6b1 : ((bt a0 x5_1) != 58) = true := bne_iff_ne.mpr c6
              have H' := Aside0.mk H
              clear H
              have p5 : 0 ≤ (x5_1 : Int) := of_decide_eq_true (by first | (with_reducible assumption) | assumption)
              have q5 : x5_1 < (a0.size : Int) := of_decide_eq_true (by first | (with_reducible assumption) | assumption)
              have hx5 := bt_at a0 x5_1
              replace p5 := eq_true p5
              replace q5 := eq_true q5
              go_wp2
              go_roundg k1
              case measure => have := HK1.out; omega
              case rel => exact ⟨(wrap64 (x5_1 + 1)), (by first | rfl | (simp; done) | (simp [*]; done)), H', ⟨by have := HK1.out; omega⟩, ⟨by repeat (first | (with_reducible first | exact HB.out | apply below_alloc | apply pw_below_drewN | apply below_drew1) | exact HB.out)⟩⟩
          · rw [if_neg c4] at H
            exact absurd H (by simp)
        · rw [if_neg c3] at H
          have c3b0 : decide (x5_1 < (a0.size : Int)) = false := decide_eq_false c3
          clear c3
          (first | rw [c3b0] | (simp only [i64_w, i32_w]; rw [c3b0]) | skip)
          have H' := Aside0.mk H
          clear H
          go_wp2
          go_meet
          case rel => exact ⟨_, (x5_1), (by first | rfl | (simp; done) | (simp [*]; done)), H', ⟨by have := HK1.out; first | omega | exact Nat.le_refl _⟩, ⟨by repeat (first | (with_reducible first | exact HB.out | apply below_alloc | apply pw_below_drewN | apply below_drew1) | exact HB.out)⟩⟩
  case rest =>
    clear HC2
    try clear p2
    try clear c3
    try clear c3b0
    try clear c4
    try clear c4b0
    try clear p5
    try clear q5
    try clear hx5
    try clear c6
    try clear c6b0
    try clear c6b1
    try clear p6
    try clear p2
    try clear p5
    try clear q5
    obtain ⟨kq, x5_1, rfl, HA, HJ1, HB⟩ := hcut
    cases kq with
    | zero => exact absurd HA.out (by simp [wicketref15_cut.j1])
    | succ kj1 =>
      have H := HA.out
      clear HA
      simp only [wicketref15_cut.j1] at H
      have HC7 := Aside0.mk H
      clear H
      go_upto_region 4 with (fail)
      go_cut [29] (fun v29 wc => ∃ (kq : Nat) (x29_6 : Bool), v29 = .bool x29_6 ∧ Aside0 (wicketref15_cut.j2 kq a0 x5_1 x29_6 = some (r1, r2, r3)) ∧ Aside0 (kq ≤ kj1) ∧ Aside0 (Below w.heap.size w wc))
      case first =>
        have H := HC7.out
        clear HC7
        by_cases c8 : x5_1 = (a0.size : Int)
        · rw [if_pos c8] at H
          have c8b0 : (x5_1 == (a0.size : Int)) = true := beq_iff_eq.mpr c8
          have c8b1 : (x5_1 != (a0.size : Int)) = false := bne_eq_false_iff_eq.mpr c8
          clear c8
          (first | rw [c8b0] | (simp only [i64_w, i32_w]; rw [c8b0]) | skip)
          have H' := Aside0.mk H
          clear H
          go_wp2
          go_meet
          case rel => exact ⟨_, (true), (by first | rfl | (simp; done) | (simp [*]; done)), H', ⟨by have := HJ1.out; first | omega | exact Nat.le_refl _⟩, ⟨by repeat (first | (with_reducible first | exact HB.out | apply below_alloc | apply pw_below_drewN | apply below_drew1) | exact HB.out)⟩⟩
        · rw [if_neg c8] at H
          have c8b0 : (x5_1 == (a0.size : Int)) = false := beq_eq_false_iff_ne.mpr c8
          have c8b1 : (x5_1 != (a0.size : Int)) = true := bne_iff_ne.mpr c8
          (first | rw [c8b0] | (simp only [i64_w, i32_w]; rw [c8b0]) | skip)
          by_cases c9 : 0 ≤ x5_1
          · rw [if_pos c9] at H
            have c9b0 := eq_true c9
            have c9b1 : decide (0 ≤ x5_1) = true := decide_eq_true c9
            clear c9
            by_cases c10 : x5_1 ≤ (a0.size : Int)
            · rw [if_pos c10] at H
              have c10b0 := eq_true c10
              have c10b1 : decide (x5_1 ≤ (a0.size : Int)) = true := decide_eq_true c10
              clear c10
              replace H := Option.bind_eq_some_iff.mp H
              obtain ⟨t486, A110, H⟩ := H
              replace H : (wicketref15_cut.j2 kj1 a0 x5_1 (!t486)) = some (r1, r2, r3) := H
              have A11 := Aside0.mk A110
              clear A110
              have H' := Aside0.mk H
              clear H
              go_wp2_with (first | (go_at_call 70; (with_reducible refine (wicketref15_name.calls kj1 (a0.extract 0 (x5_1 : Int).toNat) t486 _ A11.out).mono ?_); rintro e w' ⟨rfl, ⟨nd, rfl⟩⟩))
              go_meet
              case rel => exact ⟨_, (!t486), (by first | rfl | (simp; done) | (simp [*]; done)), H', ⟨by have := HJ1.out; first | omega | exact Nat.le_refl _⟩, ⟨by repeat (first | (with_reducible first | exact HB.out | apply below_alloc | apply pw_below_drewN | apply below_drew1) | exact HB.out)⟩⟩
            · rw [if_neg c10] at H
              exact absurd H (by simp)
          · rw [if_neg c9] at H
            exact absurd H (by simp)
      case rest =>
        clear HC7
        try clear c1
        try clear p2
        try clear c3
        try clear c3b0
        try clear c4
        try clear c4b0
        try clear p5
        try clear q5
        try clear hx5
        try clear c6
        try clear c6b0
        try clear c6b1
        try clear p6
        try clear c8
        try clear c8b0
        try clear c8b1
        try clear c9
        try clear c9b0
        try clear c9b1
        try clear c10
        try clear c10b0
        try clear c10b1
        try clear p2
        try clear p5
        try clear p6
        try clear q5
        obtain ⟨kq, x29_6, rfl, HA, HJ6, HB⟩ := hcut
        cases kq with
        | zero => exact absurd HA.out (by simp [wicketref15_cut.j2])
        | succ kj6 =>
          have H := HA.out
          clear HA
          simp only [wicketref15_cut.j2] at H
          by_cases c12 : x29_6 = true
          · subst c12
            have H1 : (some ((⟨#[]⟩ : ByteArray), (⟨#[]⟩ : ByteArray), false)) = some (r1, r2, r3) := by rw [if_pos rfl] at H; exact H
            clear H
            have H := H1
            clear H1
            simp only [Option.some.injEq, Prod.mk.injEq] at H
            obtain ⟨rfl, rfl, rfl⟩ := H
            go_wp2
            go_ret3
            exact ⟨by first | rfl | (simp [errW_none, errW_some] <;> rfl) | (simp [*, errW_none, errW_some] <;> rfl), by repeat (first | (with_reducible first | exact HB.out | apply below_alloc | apply pw_below_drewN | apply below_drew1) | exact HB.out)⟩
          · replace c12 := Bool.eq_false_iff.mpr c12
            subst c12
            have H1 : (if 0 ≤ (wrap64 (x5_1 + 1)) then (if (wrap64 (x5_1 + 1)) ≤ (a0.size : Int) then ((wicketref15_trim.f kj6 (a0.extract ((wrap64 (x5_1 + 1)) : Int).toNat a0.size)).bind fun t487 => (if 0 ≤ x5_1 then (if x5_1 ≤ (a0.size : Int) then ((wicketref15_Small.f (a0.extract 0 (x5_1 : Int).toNat)).bind fun t488 => ((wicketref15_value.f kj6 t487).bind fun t489 => (some (t488, t487, t489)))) else (none)) else (none))) else (none)) else (none)) = some (r1, r2, r3) := by rw [if_neg (show ¬ (false = true) by decide)] at H; exact H
            clear H
            have H := H1
            clear H1
            obtain ⟨ji13, hji13⟩ : ∃ j_ : Int, (wrap64 (x5_1 + 1)) = j_ := ⟨_, rfl⟩
            replace H : (if 0 ≤ (ji13) then (if (ji13) ≤ (a0.size : Int) then ((wicketref15_trim.f kj6 (a0.extract ((ji13) : Int).toNat a0.size)).bind fun t487 => (if 0 ≤ x5_1 then (if x5_1 ≤ (a0.size : Int) then ((wicketref15_Small.f (a0.extract 0 (x5_1 : Int).toNat)).bind fun t488 => ((wicketref15_value.f kj6 t487).bind fun t489 => (some (t488, t487, t489)))) else (none)) else (none))) else (none)) else (none)) = some (r1, r2, r3) := by first | (rw [hji13] at H; exact H) | (simp only [hji13] at H ⊢; exact H)
            have hji13w : (IntKind.i64.wrap (x5_1 + 1)) = ji13 := (i64_w _).trans hji13
            by_cases c14 : 0 ≤ (ji13)
            · rw [if_pos c14] at H
              have c14b0 := eq_true c14
              have c14b1 : decide (0 ≤ (ji13)) = true := decide_eq_true c14
              clear c14
              by_cases c15 : (ji13) ≤ (a0.size : Int)
              · rw [if_pos c15] at H
                have c15b0 := eq_true c15
                have c15b1 : decide ((ji13) ≤ (a0.size : Int)) = true := decide_eq_true c15
                clear c15
                replace H := Option.bind_eq_some_iff.mp H
                obtain ⟨t487, A160, H⟩ := H
                replace H : (if 0 ≤ x5_1 then (if x5_1 ≤ (a0.size : Int) then ((wicketref15_Small.f (a0.extract 0 (x5_1 : Int).toNat)).bind fun t488 => ((wicketref15_value.f kj6 t487).bind fun t489 => (some (t488, t487, t489)))) else (none)) else (none)) = some (r1, r2, r3) := H
                have A16 := Aside0.mk A160
                clear A160
                by_cases c17 : 0 ≤ x5_1
                · rw [if_pos c17] at H
                  have c17b0 := eq_true c17
                  have c17b1 : decide (0 ≤ x5_1) = true := decide_eq_true c17
                  clear c17
                  by_cases c18 : x5_1 ≤ (a0.size : Int)
                  · rw [if_pos c18] at H
                    have c18b0 := eq_true c18
                    have c18b1 : decide (x5_1 ≤ (a0.size : Int)) = true := decide_eq_true c18
                    clear c18
                    replace H := Option.bind_eq_some_iff.mp H
                    obtain ⟨t488, A190, H⟩ := H
                    replace H : ((wicketref15_value.f kj6 t487).bind fun t489 => (some (t488, t487, t489))) = some (r1, r2, r3) := H
                    have A19 := Aside0.mk A190
                    clear A190
                    replace H := Option.bind_eq_some_iff.mp H
                    obtain ⟨t489, A200, H⟩ := H
                    replace H : (some (t488, t487, t489)) = some (r1, r2, r3) := H
                    have A20 := Aside0.mk A200
                    clear A200
                    simp only [Option.some.injEq, Prod.mk.injEq] at H
                    obtain ⟨rfl, rfl, rfl⟩ := H
                    go_wp2_with (first | ((with_reducible refine gate_callee (f := 52) rfl ?_); refine goesL_ (some 34) rfl rfl Tryz.func52 (by kernel_rfl) rfl #[.string (a0.extract ((ji13) : Int).toNat a0.size)] rfl (by (try simp only [List.map_toArray, List.map_cons, List.map_nil]); first | done | (simp only [hji13]; rfl) | rfl | (simp only [List.length_drop, List.length_take]; rfl)) ?_; (with_reducible refine (wicketref15_trim.calls kj6 (a0.extract ((ji13) : Int).toNat a0.size) t487 _ A16.out).mono ?_); rintro e w' ⟨rfl, ⟨nd, rfl⟩⟩; refine ⟨_, rfl, ?_⟩) | ((with_reducible refine gate_callee (f := 50) rfl ?_); refine goesL_ (some 38) rfl rfl Tryz.func50 (by kernel_rfl) rfl #[.string (a0.extract 0 (x5_1 : Int).toNat)] rfl (by (try simp only [List.map_toArray, List.map_cons, List.map_nil]); first | done | rfl | (simp only [List.length_drop, List.length_take]; rfl)) ?_; (with_reducible refine (wicketref15_Small.calls (a0.extract 0 (x5_1 : Int).toNat) t488 _ A19.out).mono ?_); rintro e w21 ⟨rfl, hb⟩; refine ⟨_, rfl, ?_⟩; have n0_ := Aside0.mk (below_step (by repeat (first | (with_reducible first | exact HB.out | apply below_alloc | apply pw_below_drewN | apply below_drew1) | exact HB.out)) hb); clear HB; have HB := n0_; clear n0_; (try clear hb); (try clear hb2); (try clear hk); (try clear hi)) | ((with_reducible refine gate_callee (f := 71) rfl ?_); refine goesL_ (some 41) rfl rfl Tryz.func71 (by kernel_rfl) rfl #[.string t487] rfl (by (try simp only [List.map_toArray, List.map_cons, List.map_nil]); first | done | rfl | (simp only [List.length_drop, List.length_take]; rfl)) ?_; (with_reducible refine (wicketref15_value.calls kj6 t487 t489 _ A20.out).mono ?_); rintro e w' ⟨rfl, ⟨nd, rfl⟩⟩; refine ⟨_, rfl, ?_⟩))
                    go_ret3
                    exact ⟨by first | rfl | (simp [errW_none, errW_some] <;> rfl) | (simp only [← hji13]; first | rfl | (simp [errW_none, errW_some] <;> rfl)) | (simp [*, errW_none, errW_some] <;> rfl), by repeat (first | (with_reducible first | exact HB.out | apply below_alloc | apply pw_below_drewN | apply below_drew1) | exact HB.out)⟩
                  · rw [if_neg c18] at H
                    exact absurd H (by simp)
                · rw [if_neg c17] at H
                  exact absurd H (by simp)
              · rw [if_neg c15] at H
                exact absurd H (by simp)
            · rw [if_neg c14] at H
              exact absurd H (by simp)

end Go.Proofs.YtmfkgjnlobiobaaGreatDoor.X
namespace Go.Proofs.YtmfkgjnlobiobaaGreatDoor.X
open Go.RowKit Go.Shelf Go.Proofs.YtmfkgjnlobiobaaGreatDoorW.PrintWords
def methB (l : List UInt8) : Bool := decide (1 ≤ l.length ∧ l.length ≤ 16) && l.all pUp
def targB (l : List UInt8) : Bool := decide (1 ≤ l.length ∧ l.length ≤ 1024) && (decide (l.head? = some 47) && l.all pVis)
theorem isMethod_f (a : ByteArray) : http_isMethod.f a = some (methB a.data.toList) := by
  have hl := size_data a
  unfold http_isMethod.f methB http_all_isMethod_1.f
  split
  · split
    · rw [if_pos (by omega)]
      simp only [Option.bind_some, Option.some.injEq]
      rw [decide_eq_true (by omega), Bool.true_and]
    · rw [decide_eq_false (by omega), Bool.false_and]
  · rw [decide_eq_false (by omega), Bool.false_and]
theorem head_is (a : ByteArray) (h : 0 < a.size) : (bt a 0 = 47) ↔ a.data.toList.head? = some 47 := by
  have e0 : bt a 0 = ((a[0]'h).toNat : Int) := (bt_at a 0 h).symm
  have e : a.data.toList.head? = some (a[0]'h) := by
    rw [List.head?_eq_getElem?, List.getElem?_eq_getElem (by rw [size_data]; exact h)]
    rfl
  rw [e, e0]
  have h47 : (47 : UInt8).toNat = 47 := rfl
  constructor
  · intro h2
    congr 1
    apply UInt8.toNat_inj.1
    omega
  · intro h2
    rw [Option.some.inj h2]
    rfl
theorem isTarget_f (a : ByteArray) : http_isTarget.f a = some (targB a.data.toList) := by
  have hl := size_data a
  unfold http_isTarget.f targB http_all_visible.f
  split
  · split
    · rw [if_pos (by omega), decide_eq_true (by omega), Bool.true_and]
      by_cases h : bt a 0 = 47
      · rw [if_pos h, if_pos (by omega), decide_eq_true ((head_is a (by omega)).1 h)]
        rfl
      · rw [if_neg h, decide_eq_false (fun h2 => h ((head_is a (by omega)).2 h2))]
        rfl
    · rw [decide_eq_false (by omega), Bool.false_and]
  · rw [decide_eq_false (by omega), Bool.false_and]
def sVer : List UInt8 := [32, 72, 84, 84, 80, 47, 49, 46, 49]
def reqF (m t : List UInt8) (l : List (List UInt8 × List UInt8)) (b : List UInt8) : List UInt8 × Int :=
  if methB m = false then ([], 150) else if targB t = false then ([], 151) else restF (m ++ [32] ++ t ++ sVer) l b
theorem methB_len {l : List UInt8} (h : methB l = true) : l.length ≤ 16 := by
  unfold methB at h
  simp only [Bool.and_eq_true, decide_eq_true_eq] at h
  exact h.1.2
theorem targB_len {l : List UInt8} (h : targB l = true) : l.length ≤ 1024 := by
  unfold targB at h
  simp only [Bool.and_eq_true, decide_eq_true_eq] at h
  exact h.1.2
theorem PrintRequest_f (m t : ByteArray) (l : List S80) (b : ByteArray) (hl : ∀ f ∈ l, f.f0.size ≤ 140737488351232) (hb : b.size ≤ 140737488351232) :
    http_PrintRequest.f m t l b = some (bs (reqF m.data.toList t.data.toList (pairsL l) b.data.toList).1, (reqF m.data.toList t.data.toList (pairsL l) b.data.toList).2) := by
  unfold http_PrintRequest.f reqF
  rw [isMethod_f, isTarget_f]
  simp only [Option.bind_some]
  cases hm : methB m.data.toList with
  | false => rfl
  | true =>
    cases ht : targB t.data.toList with
    | false => rfl
    | true =>
      have h1 := methB_len hm
      have h2 := targB_len ht
      rw [size_data] at h1 h2
      have s1 : (m ++ (⟨#[32]⟩ : ByteArray)).size = m.size + 1 := by rw [ByteArray.size_append]; rfl
      have s2 : ((m ++ (⟨#[32]⟩ : ByteArray)) ++ t).size = m.size + 1 + t.size := by rw [ByteArray.size_append, s1]
      have s3 : (((m ++ (⟨#[32]⟩ : ByteArray)) ++ t) ++ (⟨#[32, 72, 84, 84, 80, 47, 49, 46, 49]⟩ : ByteArray)).size = m.size + 1 + t.size + 9 := by rw [ByteArray.size_append, s2]; rfl
      simp only [reduceIte, Option.bind_some, Bool.true_eq_false]
      rw [if_pos (by omega), if_pos (by rw [s1]; omega), if_pos (by rw [s2]; omega)]
      unfold http_rest.f
      rw [if_pos ⟨by rw [s3]; omega, List.all_eq_true.2 (fun f hf => decide_eq_true (hl f hf)), hb⟩]
      simp only [Option.bind_some]
      have e : (((m ++ (⟨#[32]⟩ : ByteArray)) ++ t) ++ (⟨#[32, 72, 84, 84, 80, 47, 49, 46, 49]⟩ : ByteArray)).data.toList = m.data.toList ++ [32] ++ t.data.toList ++ sVer := by
        simp [ByteArray.data_append, sVer]
      rw [e]
/-- Either the request is refused whatever its body, or it is printed so unless it is too long. -/
theorem reqF_two (m t : List UInt8) (l : List (List UInt8 × List UInt8)) : (∃ c : Int, c ≠ 0 ∧ ∀ b, reqF m t l b = ([], c)) ∨
    (∃ pre : List UInt8, ∀ b, reqF m t l b = if (pre ++ clF b ++ [13, 10]).length + b.length > 32768 then ([], 1) else (pre ++ clF b ++ [13, 10] ++ b, 0)) := by
  unfold reqF
  cases hm : methB m with
  | false => exact .inl ⟨150, by decide, fun b => rfl⟩
  | true =>
    cases ht : targB t with
    | false => exact .inl ⟨151, by decide, fun b => rfl⟩
    | true =>
      by_cases h1 : l.length > 64
      · exact .inl ⟨32, by decide, fun b => by unfold restF; rw [if_neg (by decide), if_neg (by decide), if_pos h1]⟩
      · by_cases h2 : l.all (fun f => okF f.1 f.2) = false
        · exact .inl ⟨153, by decide, fun b => by unfold restF; rw [if_neg (by decide), if_neg (by decide), if_neg h1, if_pos h2]⟩
        · exact .inr ⟨(m ++ [32] ++ t ++ sVer) ++ [13, 10] ++ l.flatMap (fun f => lineF f.1 f.2), fun b => by unfold restF headF; rw [if_neg (by decide), if_neg (by decide), if_neg h1, if_neg h2]⟩
theorem live_f : wicketlaw15_live.f 40 = some true := by kernel_rfl
theorem mono_add {α : Type} {g : Nat → Option α} (hm : ∀ k, LeO (g k) (g (k + 1))) {a : Nat} {r : α} (h : g a = some r) : ∀ d, g (a + d) = some r
  | 0 => h
  | d + 1 => hm (a + d) r (mono_add hm h d)
theorem live_at (d : Nat) : wicketlaw15_live.f (40 + d) = some true := mono_add wicketlaw15_live.mono live_f d
theorem wr (n : Int) (h : -9223372036854775808 ≤ n ∧ n ≤ 9223372036854775807) : wrap64 n = n := (IntWalk.i64_left n).symm.trans (IntWalk.i64_in n h)
theorem toList_ext (a : ByteArray) (i j : Nat) : (a.extract i j).toList = (a.data.toList.drop i).take (j - i) := by
  rw [toList_data, Lib.extract_data]
end Go.Proofs.YtmfkgjnlobiobaaGreatDoor.X
namespace Go.Proofs.YtmfkgjnlobiobaaGreatDoor.X
open Go.RowKit Go.Shelf Go.Proofs.YtmfkgjnlobiobaaGreatDoorW.PrintWords
def sV2 : List UInt8 := [72, 84, 84, 80, 47, 49, 46, 49, 13, 10]
abbrev PR := List UInt8 × List UInt8 × List (List UInt8 × List UInt8) × List UInt8 × Nat × Nat
def badP (e a : Nat) : PR := ([], [], [], [], e, a)
def encP (r : PR) : ByteArray × ByteArray × List S80 × ByteArray × Int × Int := (bs r.1, bs r.2.1, r.2.2.1.map pairOf, bs r.2.2.2.1, r.2.2.2.2.1, r.2.2.2.2.2)
/-- Behind the first line. -/
def tailP (raw m t : List UInt8) (place : Nat) : PR :=
  if (parseHeadF raw place).2.2.2.1 = 0 then (m, t, (parseHeadF raw place).1, raw.drop (parseHeadF raw place).2.2.1, 0, 0) else badP (parseHeadF raw place).2.2.2.1 (parseHeadF raw place).2.2.2.2
/-- Behind the target's length. -/
def targP (raw m b : List UInt8) (n : Nat) : PR :=
  if n = b.length then badP 151 (m.length + 1)
  else if b[n]? = some 32 ∧ targB (b.take n) = true then
    (if Lib.hasPrefix (raw.drop (m.length + 1 + n + 1)) sV2 = true then tailP raw m (b.take n) (m.length + 1 + n + 1 + 10) else badP 152 (m.length + 1 + n + 1))
  else badP 151 (m.length + 1)
def parseF (raw : List UInt8) : PR :=
  if raw.length > 32768 then badP 1 0
  else if ((Lib.cut raw [32]).2.2 && methB (Lib.cut raw [32]).1) = true then targP raw (Lib.cut raw [32]).1 (Lib.cut raw [32]).2.1 ((Lib.cut raw [32]).2.1.takeWhile pVis).length
  else badP 150 0
theorem endH_behind (raw : List UInt8) (s : HS) (h : (endH raw s).2.2.2.1 = 0) : (endH raw s).2.2.1 ≤ raw.length := by
  unfold endH at h ⊢
  split
  · simp
  · rename_i h2
    show s.behind ≤ raw.length
    simp only [ne_eq, Decidable.not_not] at h2
    omega
theorem parseHeadF_behind (raw : List UInt8) (p : Nat) (h : (parseHeadF raw p).2.2.2.1 = 0) : (parseHeadF raw p).2.2.1 ≤ raw.length := by
  unfold parseHeadF at h ⊢
  split
  · simp
  · rename_i s hs
    rw [hs] at h
    exact endH_behind raw s h
  · rename_i s hs
    rw [hs] at h
    exact endH_behind raw s h
theorem bs_eq (a : ByteArray) : bs a.data.toList = a := by simp [bs]
theorem extract_bs (a : ByteArray) (i j : Nat) : a.extract i j = bs ((a.data.toList.drop i).take (j - i)) := by
  rw [← bs_eq (a.extract i j), Lib.extract_data]
theorem bt_nat (a : ByteArray) (n : Nat) (h : n < a.size) : ∃ c, a.data.toList[n]? = some c ∧ bt a n = (c.toNat : Int) := by
  refine ⟨a[n]'h, ?_, ?_⟩
  · rw [List.getElem?_eq_getElem (by rw [size_data]; exact h)]; rfl
  · exact (bt_at a n (by simpa using h)).symm
theorem visible_f (c : UInt8) : http_visible.f (c.toNat : Int) = some (pVis c) := by
  unfold http_visible.f pVis
  by_cases h : (c.toNat : Int) ≥ 33
  · rw [if_pos h]
    congr 1
    by_cases h2 : c.toNat ≤ 126
    · rw [decide_eq_true (by omega), decide_eq_true (by omega)]
    · rw [decide_eq_false (by omega), decide_eq_false (by omega)]
  · rw [if_neg h]
    congr 1
    rw [decide_eq_false (by omega)]
theorem j3_bad (k : Nat) (x0 x5 x6 : ByteArray) (x8 x9 : Int) : http_ParseRequest.j3 (k + 1) x0 x5 x6 x8 x9 true = some (⟨#[]⟩, ⟨#[]⟩, [], ⟨#[]⟩, 151, x8) := by
  simp only [http_ParseRequest.j3, if_true]
theorem j3_good (k : Nat) (raw m b : ByteArray) (n : Nat) (hr : raw.size ≤ 32768) (hm : m.size ≤ 32768) (hn : n ≤ b.size) (hb : b.size ≤ 32768) (hpl : m.size + 1 + n + 1 ≤ raw.size) :
    http_ParseRequest.j3 (k + 1) raw m b ((m.size : Int) + 1) n false = some (encP (if Lib.hasPrefix (raw.data.toList.drop (m.data.toList.length + 1 + n + 1)) sV2 = true then tailP raw.data.toList m.data.toList (b.data.toList.take n) (m.data.toList.length + 1 + n + 1 + 10) else badP 152 (m.data.toList.length + 1 + n + 1))) := by
  have hml := size_data m
  have hrl := size_data raw
  simp only [http_ParseRequest.j3]
  rw [if_neg (by decide), wr ((m.size : Int) + 1 + n) (by omega), wr ((m.size : Int) + 1 + n + 1) (by omega), wr ((m.size : Int) + 1 + n + 1 + 10) (by omega)]
  rw [if_pos (by omega), if_pos (by omega)]
  have e1 : ((m.size : Int) + 1 + n + 1).toNat = m.data.toList.length + 1 + n + 1 := by omega
  unfold strings_HasPrefix.f
  simp only [Option.bind_some]
  rw [e1, extract_bs, data_bs, List.take_of_length_le (by rw [List.length_drop]; omega)]
  show (if Lib.hasPrefix _ sV2 = true then _ else _) = _
  by_cases hp : Lib.hasPrefix (raw.data.toList.drop (m.data.toList.length + 1 + n + 1)) sV2 = true
  · rw [if_pos hp, if_pos hp]
    have hlen : m.size + 1 + n + 1 + 10 ≤ raw.size := by
      have h10 := Lib.hasPrefix_le hp
      rw [List.length_drop, hml, hrl] at h10
      have : sV2.length = 10 := rfl
      omega
    unfold http_parseHead.f
    rw [if_pos ⟨hr, by omega, by omega⟩]
    simp only [Option.bind_some]
    have e2 : ((m.size : Int) + 1 + n + 1 + 10).toNat = m.data.toList.length + 1 + n + 1 + 10 := by omega
    rw [e2]
    unfold tailP
    have hbh := parseHeadF_behind raw.data.toList (m.data.toList.length + 1 + n + 1 + 10)
    generalize parseHeadF raw.data.toList (m.data.toList.length + 1 + n + 1 + 10) = r at hbh ⊢
    obtain ⟨f, len, beh, e, at_⟩ := r
    dsimp only at hbh ⊢
    by_cases he : e = 0
    · have := hbh he
      rw [if_pos (by omega), if_pos he, if_pos (by omega), if_pos (by omega), if_pos (by omega), if_pos (by omega)]
      simp only [encP, Int.toNat_natCast, bs_eq]
      rw [extract_bs, extract_bs, List.drop_zero, Nat.sub_zero, List.take_of_length_le (l := List.drop beh raw.data.toList) (by rw [List.length_drop]; omega)]
      rfl
    · rw [if_neg (by omega), if_neg he]
      rfl
  · rw [if_neg hp, if_neg hp]
    simp only [encP, badP, Option.some.injEq, Prod.mk.injEq]
    refine ⟨rfl, rfl, rfl, rfl, rfl, by omega⟩
theorem tw_in {p : UInt8 → Bool} : ∀ (l : List UInt8) (i : Nat) (c : UInt8), i < (l.takeWhile p).length → l[i]? = some c → p c = true
  | a :: r, i, c, h, hc => by
    rw [List.takeWhile_cons] at h
    split at h
    · rename_i ha
      match i, hc, h with
      | 0, hc, _ => simp at hc; rw [← hc]; exact ha
      | i + 1, hc, h => exact tw_in r i c (by simpa using h) (by simpa using hc)
    · simp at h
  | [], i, c, h, _ => by simp at h
theorem tw_out {p : UInt8 → Bool} : ∀ (l : List UInt8) (c : UInt8), l[(l.takeWhile p).length]? = some c → p c = false
  | a :: r, c, h => by
    rw [List.takeWhile_cons] at h
    split at h
    · exact tw_out r c (by simpa using h)
    · rename_i ha
      simp at h
      rw [← h]
      simpa using ha
  | [], c, h => by simp at h
theorem tw_le (p : UInt8 → Bool) (l : List UInt8) : (l.takeWhile p).length ≤ l.length := (List.takeWhile_prefix p).length_le
theorem l0_go (M : Nat) (raw m b : ByteArray) (x8 : Int) (j : Nat) (hj : j < b.size) (hb : b.size ≤ 32768) (h : ∀ c, b.data.toList[j]? = some c → pVis c = true) : http_ParseRequest.l0 (M + 1) raw m b x8 (j : Int) = http_ParseRequest.l0 M raw m b x8 ((j + 1 : Nat) : Int) := by
  obtain ⟨c, hc, hbt⟩ := bt_nat b j hj
  rw [http_ParseRequest.l0, if_pos (show (j : Int) < (b.size : Int) by omega), if_pos (show 0 ≤ (j : Int) by omega), hbt, visible_f, h c hc, Option.bind_some, if_pos rfl, wr _ (by omega)]
  rfl
theorem l0_out (M : Nat) (raw m b : ByteArray) (x8 : Int) (j : Nat) (h : ∀ c, b.data.toList[j]? = some c → pVis c = false) : http_ParseRequest.l0 (M + 1) raw m b x8 (j : Int) = http_ParseRequest.j2 M raw m b x8 (j : Int) := by
  rw [http_ParseRequest.l0]
  by_cases hlt : j < b.size
  · obtain ⟨c, hc, hbt⟩ := bt_nat b j hlt
    rw [if_pos (show (j : Int) < (b.size : Int) by omega), if_pos (show 0 ≤ (j : Int) by omega), hbt, visible_f, h c hc, Option.bind_some, if_neg (by decide)]
  · rw [if_neg (show ¬ (j : Int) < (b.size : Int) by omega)]
theorem l0_run (raw m b : ByteArray) (x8 : Int) (hb : b.size ≤ 32768) (d : Nat) : ∀ (M K j : Nat), M = K + d + 1 → j + d = (b.data.toList.takeWhile pVis).length → http_ParseRequest.l0 M raw m b x8 (j : Int) = http_ParseRequest.j2 K raw m b x8 ((b.data.toList.takeWhile pVis).length : Int) := by
  have hn := tw_le pVis b.data.toList
  rw [size_data] at hn
  induction d with
  | zero =>
    intro M K j hM h
    have hM' : M = K + 1 := by omega
    have hj : j = (b.data.toList.takeWhile pVis).length := by omega
    rw [hM', hj]
    exact l0_out K raw m b x8 _ (fun c hc => tw_out (p := pVis) _ c hc)
  | succ d ih =>
    intro M K j hM h
    obtain ⟨M', hM'⟩ : ∃ M', M = M' + 1 := ⟨K + d + 1, by omega⟩
    rw [hM', l0_go M' raw m b x8 j (by omega) hb (fun c hc => tw_in (p := pVis) _ j c (by omega) hc)]
    exact ih M' K (j + 1) (by omega) (by omega)
theorem j2_run (K : Nat) (raw m b : ByteArray) (n : Nat) (hr : raw.size ≤ 32768) (hm : m.size ≤ 32768) (hn : n ≤ b.size) (hb : b.size ≤ 32768) (hpl : n < b.size → m.size + 1 + n + 1 ≤ raw.size) :
    http_ParseRequest.j2 (K + 1 + 1) raw m b ((m.size : Int) + 1) n = some (encP (targP raw.data.toList m.data.toList b.data.toList n)) := by
  have hml := size_data m
  have hbl := size_data b
  rw [show K + 1 + 1 = (K + 1) + 1 from rfl]
  simp only [http_ParseRequest.j2]
  unfold targP
  have bad : some ((⟨#[]⟩ : ByteArray), (⟨#[]⟩ : ByteArray), ([] : List S80), (⟨#[]⟩ : ByteArray), (151 : Int), (m.size : Int) + 1) = some (encP (badP 151 (m.data.toList.length + 1))) := by
    simp only [encP, badP, Option.some.injEq, Prod.mk.injEq]
    refine ⟨rfl, rfl, rfl, rfl, rfl, by omega⟩
  by_cases hnb : n = b.size
  · rw [if_pos (show (n : Int) = (b.size : Int) by omega), if_pos (show n = b.data.toList.length by omega), j3_bad]
    exact bad
  · rw [if_neg (show ¬ (n : Int) = (b.size : Int) by omega), if_neg (show ¬ n = b.data.toList.length by omega), if_pos (show 0 ≤ (n : Int) by omega), if_pos (show (n : Int) < (b.size : Int) by omega)]
    obtain ⟨c, hc, hbt⟩ := bt_nat b n (by omega)
    rw [hbt, hc]
    by_cases h32 : c = 32
    · subst h32
      rw [if_pos (show ((32 : UInt8).toNat : Int) = 32 by decide), if_pos (show (n : Int) ≤ (b.size : Int) by omega), isTarget_f]
      simp only [Option.bind_some, Int.toNat_natCast]
      have et : (b.extract 0 n).data.toList = b.data.toList.take n := by rw [Lib.extract_data, List.drop_zero, Nat.sub_zero]
      rw [et]
      cases ht : targB (b.data.toList.take n) with
      | true =>
        rw [if_pos ⟨trivial, rfl⟩, Bool.not_true, j3_good K raw m b n hr hm hn hb (hpl (by omega))]
      | false =>
        rw [if_neg (by simp), Bool.not_false, j3_bad]
        exact bad
    · have hne : ¬ ((c.toNat : Int) = 32) := fun h => h32 (UInt8.toNat_inj.1 (by have : (32 : UInt8).toNat = 32 := rfl; omega))
      rw [if_neg hne, if_neg (by simp [h32]), j3_bad]
      exact bad
theorem cut_sum (l : List UInt8) (h : (Lib.cut l [32]).2.2 = true) : (Lib.cut l [32]).1.length + 1 + (Lib.cut l [32]).2.1.length = l.length := by
  have hr := Lib.index_room l [32]
  unfold Lib.cut at h ⊢
  split
  · rename_i h0
    have := hr h0
    have h1 : ([32] : List UInt8).length = 1 := rfl
    rw [h1] at this
    simp only [List.length_take, List.length_drop, h1]
    omega
  · rename_i h0
    rw [if_neg h0] at h
    cases h
theorem ParseRequest_f (K : Nat) (raw : ByteArray) (hK : 40000 ≤ K) : http_ParseRequest.f K raw = some (encP (parseF raw.data.toList)) := by
  have hrl := size_data raw
  unfold http_ParseRequest.f parseF
  by_cases hbig : raw.size > 32768
  · rw [if_pos (by omega), if_pos (by omega)]
    rfl
  · rw [if_neg (by omega), if_neg (by omega)]
    unfold strings_Cut.f
    rw [if_pos (by omega)]
    simp only [Option.bind_some]
    show (if (Lib.cut raw.data.toList [32]).2.2 = true then ((http_isMethod.f (bs (Lib.cut raw.data.toList [32]).1)).bind fun t112 => http_ParseRequest.j0 K raw (bs (Lib.cut raw.data.toList [32]).1) (bs (Lib.cut raw.data.toList [32]).2.1) (!t112)) else http_ParseRequest.j0 K raw (bs (Lib.cut raw.data.toList [32]).1) (bs (Lib.cut raw.data.toList [32]).2.1) true) = _
    have hs := cut_sum raw.data.toList
    have hle := cut_le raw.data.toList [32]
    generalize Lib.cut raw.data.toList [32] = c at hs hle ⊢
    obtain ⟨m, b, f⟩ := c
    dsimp only at hs hle ⊢
    obtain ⟨k, rfl⟩ : ∃ k, K = k + 1 := ⟨K - 1, by omega⟩
    have bad : http_ParseRequest.j0 (k + 1) raw (bs m) (bs b) true = some (encP (badP 150 0)) := by
      simp only [http_ParseRequest.j0, if_true]
      rfl
    cases f with
    | false => rw [if_neg (by decide), if_neg (by simp), bad]
    | true =>
      rw [if_pos rfl, isMethod_f, data_bs]
      simp only [Option.bind_some, Bool.true_and]
      cases hm : methB m with
      | false => rw [if_neg (by decide), Bool.not_false, bad]
      | true =>
        have hsum := hs rfl
        have h16 := methB_len hm
        rw [if_pos rfl, Bool.not_true]
        simp only [http_ParseRequest.j0]
        rw [if_neg (by decide), wr _ (by rw [bs_size]; omega)]
        have hn := tw_le pVis b
        obtain ⟨k', hk'⟩ : ∃ k', k = (k' + 1 + 1) + (b.takeWhile pVis).length + 1 := ⟨k - (b.takeWhile pVis).length - 3, by omega⟩
        have e := l0_run raw (bs m) (bs b) (((bs m).size : Int) + 1) (by rw [bs_size]; omega) (b.takeWhile pVis).length k (k' + 1 + 1) 0 hk' (by rw [data_bs]; omega)
        rw [data_bs] at e
        rw [show ((0 : Nat) : Int) = 0 from rfl] at e
        rw [e, j2_run k' raw (bs m) (bs b) _ (by omega) (by rw [bs_size]; omega) (by rw [bs_size]; exact hn) (by rw [bs_size]; omega) (by rw [bs_size, bs_size]; intro h; omega), data_bs, data_bs]
end Go.Proofs.YtmfkgjnlobiobaaGreatDoor.X
namespace Go.Proofs.YtmfkgjnlobiobaaGreatDoor.X
open Go.RowKit Go.Shelf Go.Proofs.YtmfkgjnlobiobaaGreatDoorW.PrintWords
/-! ### decimal digits -/
theorem digit_toNat (u : Nat) (h : u < 10) : (UInt8.ofNat (48 + u)).toNat = 48 + u := by
  rw [UInt8.toNat_ofNat']
  omega
/-! ### lines -/
def no13 (l : List UInt8) : Prop := ∀ c ∈ l, c ≠ 13
theorem index_line : ∀ (line rest : List UInt8), no13 line → Lib.index (line ++ 13 :: 10 :: rest) crlf = line.length
  | [], rest, _ => by simp [Lib.index, crlf]
  | c :: r, rest, h => by
    have ih := index_line r rest (fun x hx => h x (List.mem_cons_of_mem _ hx))
    have hc : c ≠ 13 := h c List.mem_cons_self
    rw [List.cons_append, Lib.index, ih]
    have hp : crlf.isPrefixOf (c :: (r ++ 13 :: 10 :: rest)) = false := by
      simp [crlf, List.isPrefixOf, Ne.symm hc]
    rw [hp]
    have h1 : ((r.length : Int) == -1) = false := beq_eq_false_iff_ne.2 (by omega)
    rw [h1]
    simp only [if_false, List.length_cons]
    simp
theorem linesL_line (k : Nat) (line rest : List UInt8) (pos : Nat) (h : no13 line) : linesL (k + 1) (line ++ 13 :: 10 :: rest) pos = (pos, line) :: linesL k rest (pos + line.length + 2) := by
  rw [linesL, index_line line rest h, if_neg (by omega), Int.toNat_natCast]
  have e1 : (line ++ 13 :: 10 :: rest).take line.length = line := by simp
  have e2 : (line ++ 13 :: 10 :: rest).drop (line.length + 2) = rest := by
    rw [show line ++ 13 :: 10 :: rest = (line ++ [13, 10]) ++ rest by simp, List.drop_left' (by simp)]
  rw [e1, e2]
/-! ### a text that reads is no beginning of another -/
theorem prefix_app (sub a x : List UInt8) (h : sub.length ≤ a.length) : sub.isPrefixOf (a ++ x) = sub.isPrefixOf a := by
  rw [Bool.eq_iff_iff, List.isPrefixOf_iff_prefix, List.isPrefixOf_iff_prefix]
  exact ⟨fun hp => List.prefix_of_prefix_length_le hp ⟨x, rfl⟩ h, fun hp => hp.trans ⟨x, rfl⟩⟩
theorem index_app (l x sub : List UInt8) (h : 0 ≤ Lib.index l sub) : Lib.index (l ++ x) sub = Lib.index l sub := by
  have hroom := Lib.index_room l sub h
  rcases Lib.index_spec l sub with ⟨e, _⟩ | ⟨i, e, hi, ho, hn⟩
  · omega
  · rw [e] at hroom ⊢
    have hocc : ∀ j, j ≤ i → Lib.occAt (l ++ x) sub j = Lib.occAt l sub j := by
      intro j hj
      unfold Lib.occAt
      rw [List.drop_append_of_le_length (by omega)]
      exact prefix_app _ _ _ (by rw [List.length_drop]; omega)
    exact Lib.index_first (by rw [List.length_append]; omega) (by rw [hocc i (Nat.le_refl _)]; exact ho) (fun j hj => by rw [hocc j (by omega)]; exact hn j hj)
theorem pf10 : (pfF [10]).2.2 = false := by decide
theorem runH_app (x : List UInt8) : ∀ (K : Nat) (s s' : HS) (l : List UInt8) (pos K' : Nat), runH s (linesL K l pos) = .stop s' → (l ++ x).length < K' → runH s (linesL K' (l ++ x) pos) = .stop s'
  | 0, s, s', l, pos, K', h, _ => by simp [linesL, runH] at h
  | K + 1, s, s', l, pos, K', h, hK => by
    obtain ⟨K', rfl⟩ : ∃ m, K' = m + 1 := ⟨K' - 1, by omega⟩
    rw [linesL] at h ⊢
    by_cases hi : Lib.index l crlf < 0
    · rw [if_pos hi] at h
      have hb : stepH s (pos, [10]) = .bad 153 pos := by
        unfold stepH
        rw [if_neg (by simp), if_pos pf10]
      simp [runH, hb] at h
    · rw [if_neg hi] at h
      have hroom := Lib.index_room l crlf (by omega)
      have h2 : crlf.length = 2 := rfl
      rw [h2] at hroom
      rw [index_app l x crlf (by omega), if_neg hi]
      have et : (l ++ x).take (Lib.index l crlf).toNat = l.take (Lib.index l crlf).toNat := List.take_append_of_le_length (by omega)
      have ed : (l ++ x).drop ((Lib.index l crlf).toNat + 2) = l.drop ((Lib.index l crlf).toNat + 2) ++ x := List.drop_append_of_le_length (by omega)
      rw [et, ed]
      simp only [runH] at h ⊢
      cases hst : stepH s (pos, l.take (Lib.index l crlf).toNat) with
      | go s2 =>
        rw [hst] at h
        exact runH_app x K s2 s' _ _ K' h (by simp only [List.length_append, List.length_drop] at hK ⊢; omega)
      | stop s2 =>
        rw [hst] at h
        exact h
      | bad e a =>
        rw [hst] at h
        exact h
theorem runH_no_go : ∀ (K : Nat) (s s' : HS) (l : List UInt8) (pos : Nat), l.length < K → runH s (linesL K l pos) ≠ .go s'
  | K + 1, s, s', l, pos, hK => by
    rw [linesL]
    by_cases hi : Lib.index l crlf < 0
    · rw [if_pos hi]
      have hb : stepH s (pos, [10]) = .bad 153 pos := by
        unfold stepH
        rw [if_neg (by simp), if_pos pf10]
      simp [runH, hb]
    · rw [if_neg hi]
      have hroom := Lib.index_room l crlf (by omega)
      have h2 : crlf.length = 2 := rfl
      rw [h2] at hroom
      simp only [runH]
      split
      · exact runH_no_go K _ s' _ _ (by rw [List.length_drop]; omega)
      · rename_i o hne
        intro e
        exact hne s' e
theorem stepH_bad (s : HS) (x : Nat × List UInt8) (e a : Nat) (h : stepH s x = .bad e a) : e ≠ 0 := by
  unfold stepH at h
  repeat' split at h
  all_goals first | (cases h; done) | (injection h with h1 h2; omega)
theorem bad_ne : ∀ (l : List (Nat × List UInt8)) (s : HS) (a : Nat), runH s l ≠ .bad 0 a
  | [], s, a => by simp [runH]
  | x :: r, s, a => by
    simp only [runH]
    split
    · exact bad_ne r _ a
    · rename_i o hne
      intro e
      exact stepH_bad s x 0 a e rfl
theorem parseHeadF_stop (raw : List UInt8) (p : Nat) (h : (parseHeadF raw p).2.2.2.1 = 0) : ∃ s, runH .start (linesL (raw.length + 1) (raw.drop p) p) = .stop s ∧ parseHeadF raw p = endH raw s := by
  unfold parseHeadF at h ⊢
  have hg := runH_no_go (raw.length + 1) .start
  split
  · rename_i e a he
    rw [he] at h
    exact absurd h (by
      show ¬ e = 0
      intro he0
      subst he0
      exact bad_ne _ _ _ he)
  · rename_i s hs
    exact absurd hs (hg s _ _ (by rw [List.length_drop]; omega))
  · rename_i s hs
    exact ⟨s, hs, rfl⟩
theorem endH_ok (raw : List UInt8) (s : HS) (h : (endH raw s).2.2.2.1 = 0) : (raw.length : Int) - s.behind = s.length := by
  unfold endH at h
  split at h
  · simp at h
  · rename_i hn
    simpa using hn
theorem parseHeadF_app (raw x : List UInt8) (p : Nat) (hp : p ≤ raw.length) (h : (parseHeadF raw p).2.2.2.1 = 0) (hx : x ≠ []) : (parseHeadF (raw ++ x) p).2.2.2.1 ≠ 0 := by
  obtain ⟨s, hs, he⟩ := parseHeadF_stop raw p h
  rw [he] at h
  have hok := endH_ok raw s h
  have hs2 := runH_app x _ _ _ _ _ ((raw ++ x).length + 1) hs (by simp only [List.length_append, List.length_drop]; omega)
  rw [← List.drop_append_of_le_length hp] at hs2
  unfold parseHeadF
  rw [hs2]
  show (endH (raw ++ x) s).2.2.2.1 ≠ 0
  unfold endH
  have hxl : 0 < x.length := List.length_pos_iff.2 hx
  rw [if_pos (by rw [List.length_append]; push_cast; omega)]
  show (155 : Nat) ≠ 0
  decide
def okP (r : PR) : Prop := r.2.2.2.2.1 = 0
theorem tw_app (p : UInt8 → Bool) (l x : List UInt8) (h : (l.takeWhile p).length ≠ l.length) : (l ++ x).takeWhile p = l.takeWhile p := by
  induction l with
  | nil => simp at h
  | cons c r ih =>
    rw [List.cons_append, List.takeWhile_cons, List.takeWhile_cons]
    rw [List.takeWhile_cons] at h
    split
    · rename_i hc
      rw [if_pos hc] at h
      rw [ih (by simpa using h)]
    · rfl
theorem parseF_app (raw x : List UInt8) (h : okP (parseF raw)) (hx : x ≠ []) : ¬ okP (parseF (raw ++ x)) := by
  unfold okP parseF at h ⊢
  by_cases hbig : raw.length > 32768
  · rw [if_pos hbig] at h
    simp [badP] at h
  · rw [if_neg hbig] at h
    by_cases hc : ((Lib.cut raw [32]).2.2 && methB (Lib.cut raw [32]).1) = true
    · rw [if_pos hc] at h
      by_cases hbig2 : (raw ++ x).length > 32768
      · rw [if_pos hbig2]
        simp [badP]
      · rw [if_neg hbig2]
        have hi : 0 ≤ Lib.index raw [32] := by
          simp only [Bool.and_eq_true] at hc
          have := hc.1
          unfold Lib.cut at this
          split at this
          · assumption
          · cases this
        have hroom := Lib.index_room raw [32] hi
        have h1 : ([32] : List UInt8).length = 1 := rfl
        rw [h1] at hroom
        have hcut : Lib.cut (raw ++ x) [32] = ((Lib.cut raw [32]).1, (Lib.cut raw [32]).2.1 ++ x, (Lib.cut raw [32]).2.2) := by
          unfold Lib.cut
          rw [index_app raw x [32] hi, if_pos hi, if_pos hi]
          simp only [Prod.mk.injEq]
          exact ⟨List.take_append_of_le_length (by omega), List.drop_append_of_le_length (by rw [h1]; omega), trivial⟩
        rw [hcut]
        dsimp only
        rw [if_pos hc]
        have hsum := cut_sum raw (by simp only [Bool.and_eq_true] at hc; exact hc.1)
        generalize Lib.cut raw [32] = c at h hc hsum ⊢
        obtain ⟨m, b, f⟩ := c
        dsimp only at h hc hsum ⊢
        have hn := tw_le pVis b
        unfold targP at h ⊢
        by_cases hnb : (b.takeWhile pVis).length = b.length
        · rw [if_pos hnb] at h
          simp [badP] at h
        · rw [if_neg hnb] at h
          rw [tw_app pVis b x hnb, if_neg (by rw [List.length_append]; omega)]
          have e1 : (b ++ x)[(b.takeWhile pVis).length]? = b[(b.takeWhile pVis).length]? := List.getElem?_append_left (by omega)
          have e2 : (b ++ x).take (b.takeWhile pVis).length = b.take (b.takeWhile pVis).length := List.take_append_of_le_length hn
          rw [e1, e2]
          by_cases hq : b[(b.takeWhile pVis).length]? = some 32 ∧ targB (b.take (b.takeWhile pVis).length) = true
          · rw [if_pos hq] at h ⊢
            by_cases hpre : Lib.hasPrefix (raw.drop (m.length + 1 + (b.takeWhile pVis).length + 1)) sV2 = true
            · rw [if_pos hpre] at h
              have hl := Lib.hasPrefix_le hpre
              have h10 : sV2.length = 10 := rfl
              rw [List.length_drop, h10] at hl
              have hpre2 : Lib.hasPrefix ((raw ++ x).drop (m.length + 1 + (b.takeWhile pVis).length + 1)) sV2 = true := by
                rw [List.drop_append_of_le_length (by omega)]
                unfold Lib.hasPrefix at hpre ⊢
                rw [prefix_app _ _ _ (by rw [List.length_drop, h10]; omega)]
                exact hpre
              rw [if_pos hpre2]
              unfold tailP at h ⊢
              by_cases he : (parseHeadF raw (m.length + 1 + (b.takeWhile pVis).length + 1 + 10)).2.2.2.1 = 0
              · have hne := parseHeadF_app raw x _ (by omega) he hx
                rw [if_neg hne]
                exact hne
              · rw [if_neg he] at h
                exact absurd h he
            · rw [if_neg hpre] at h
              simp [badP] at h
          · rw [if_neg hq] at h
            simp [badP] at h
    · rw [if_neg hc] at h
      simp [badP] at h
end Go.Proofs.YtmfkgjnlobiobaaGreatDoor.X
namespace Go.Proofs.YtmfkgjnlobiobaaGreatDoor.X
open Go.RowKit Go.Shelf Go.Proofs.YtmfkgjnlobiobaaGreatDoorW.PrintWords
theorem index_byte (y : UInt8) : ∀ (a rest : List UInt8), (∀ c ∈ a, c ≠ y) → Lib.index (a ++ y :: rest) [y] = a.length
  | [], rest, _ => by simp [Lib.index, List.isPrefixOf]
  | c :: r, rest, h => by
    have ih := index_byte y r rest (fun x hx => h x (List.mem_cons_of_mem _ hx))
    have hc : c ≠ y := h c List.mem_cons_self
    rw [List.cons_append, Lib.index, ih]
    have hp : ([y] : List UInt8).isPrefixOf (c :: (r ++ y :: rest)) = false := by
      simp [List.isPrefixOf, Ne.symm hc]
    rw [hp]
    have h1 : ((r.length : Int) == -1) = false := beq_eq_false_iff_ne.2 (by omega)
    rw [h1]
    simp
theorem cut_byte (y : UInt8) (a rest : List UInt8) (h : ∀ c ∈ a, c ≠ y) : Lib.cut (a ++ y :: rest) [y] = (a, rest, true) := by
  unfold Lib.cut
  rw [index_byte y a rest h, if_pos (by omega), Int.toNat_natCast]
  simp only [Prod.mk.injEq]
  refine ⟨by simp, ?_, trivial⟩
  rw [show a ++ y :: rest = (a ++ [y]) ++ rest by simp, List.drop_left' (by simp)]
theorem pName_ne {c : UInt8} (h : pName c = true) : c ≠ 58 ∧ c ≠ 13 := by
  unfold pName at h
  simp only [decide_eq_true_eq] at h
  refine ⟨?_, ?_⟩ <;> (rintro rfl; revert h; decide)
theorem pVal_ne {c : UInt8} (h : pVal c = true) : c ≠ 9 ∧ c ≠ 13 := by
  unfold pVal at h
  simp only [decide_eq_true_eq] at h
  refine ⟨?_, ?_⟩ <;> (rintro rfl; revert h; decide)
theorem pVal_pField {c : UInt8} (h : pVal c = true) : pField c = true := by
  unfold pVal at h
  unfold pField
  simp only [decide_eq_true_eq] at h ⊢
  exact .inl h
theorem low_low (c : UInt8) : low (low c) = low c := by
  have e := low_toNat c
  have e2 := low_toNat (low c)
  apply UInt8.toNat_inj.1
  split at e <;> split at e2 <;> omega
theorem lows_lows (l : List UInt8) : lows (lows l) = lows l := by
  unfold lows
  rw [List.map_map]
  exact List.map_congr_left (fun c _ => low_low c)
/-- A value as it may be printed has no blank at its ends. -/
theorem valB_parts {v : List UInt8} (h : valB v = true) : v.length ≤ 4096 ∧ (∀ c ∈ v, pVal c = true) ∧ v.head? ≠ some 32 ∧ v.getLast? ≠ some 32 := by
  unfold valB at h
  simp only [Bool.and_eq_true, decide_eq_true_eq, Bool.not_eq_true', List.all_eq_true] at h
  obtain ⟨h1, h2, h3, h4⟩ := h
  refine ⟨h1, h4, ?_, ?_⟩
  · intro e
    match v, e with
    | c :: r, e =>
      simp at e
      subst e
      simp [Lib.hasPrefix, List.isPrefixOf] at h2
  · intro e
    obtain ⟨r, hr⟩ := List.getLast?_eq_some_iff.1 e
    unfold Lib.hasSuffix at h3
    have : ([32] : List UInt8).isSuffixOf v = true := by
      rw [List.isSuffixOf_iff_suffix]
      exact ⟨r, hr.symm⟩
    rw [this] at h3
    cases h3
theorem trim_val (v : List UInt8) (h : valB v = true) : Lib.trimS (if v = [] then [] else 32 :: v) [32, 9] = v := by
  obtain ⟨_, hv, hh, hl⟩ := valB_parts h
  by_cases h0 : v = []
  · subst h0; rfl
  · rw [if_neg h0]
    have inset : ∀ c : UInt8, ([32, 9] : List UInt8).contains c = true → c = 32 ∨ c = 9 := by
      intro c hc
      simpa using hc
    have hr : (32 :: v).reverse.dropWhile (([32, 9] : List UInt8).contains ·) = (32 :: v).reverse := by
      obtain ⟨r, d, hd⟩ : ∃ r d, v = r ++ [d] := ⟨v.dropLast, v.getLast h0, (List.dropLast_concat_getLast h0).symm⟩
      rw [hd] at hl hv ⊢
      have e : (32 :: (r ++ [d])).reverse = d :: (32 :: r).reverse := by simp
      rw [e, List.dropWhile_cons, if_neg]
      intro hc
      rcases inset d hc with rfl | rfl
      · simp at hl
      · exact (pVal_ne (hv 9 (by simp))).1 rfl
    unfold Lib.trimS Lib.trimRightS Lib.trimLeftS
    rw [hr, List.reverse_reverse, List.dropWhile_cons, if_pos (by decide)]
    match v, h0, hh, hv with
    | c :: r, _, hh, hv =>
      rw [List.dropWhile_cons, if_neg]
      intro hc
      rcases inset c hc with rfl | rfl
      · simp at hh
      · exact (pVal_ne (hv 9 (by simp))).1 rfl
def fl (n v : List UInt8) : List UInt8 := n ++ [58] ++ (if v = [] then [] else 32 :: v)
theorem nameB_parts {n : List UInt8} (h : nameB n = true) : 1 ≤ n.length ∧ ∀ c ∈ n, pName c = true := by
  unfold nameB at h
  simp only [Bool.and_eq_true, decide_eq_true_eq, List.all_eq_true] at h
  exact ⟨h.1.1, h.2⟩
theorem fl_no13 {n v : List UInt8} (hn : nameB n = true) (hv : valB v = true) : no13 (fl n v) := by
  obtain ⟨_, h1⟩ := nameB_parts hn
  obtain ⟨_, h2, _, _⟩ := valB_parts hv
  intro c hc
  unfold fl at hc
  simp only [List.mem_append, List.mem_singleton] at hc
  rcases hc with (hc | rfl) | hc
  · exact (pName_ne (h1 c hc)).2
  · decide
  · split at hc
    · cases hc
    · rcases List.mem_cons.1 hc with rfl | hc
      · decide
      · exact (pVal_ne (h2 c hc)).2
theorem contains9 (v : List UInt8) (h : ∀ c ∈ v, pVal c = true) : Lib.contains v [9] = false := by
  unfold Lib.contains
  apply decide_eq_false
  intro h0
  rcases Lib.index_spec v [9] with ⟨e, _⟩ | ⟨i, e, hi, ho, _⟩
  · omega
  · unfold Lib.occAt at ho
    rw [List.isPrefixOf_iff_prefix] at ho
    obtain ⟨t, ht⟩ := ho
    have : (9 : UInt8) ∈ v := by
      have hm : (9 : UInt8) ∈ v.drop i := by rw [← ht]; simp
      exact List.mem_of_mem_drop hm
    exact (pVal_ne (h 9 this)).1 rfl
theorem pfF_fl {n v : List UInt8} (hn : nameB n = true) (hv : valB v = true) : pfF (fl n v) = (lows n, v, true) := by
  obtain ⟨_, h1⟩ := nameB_parts hn
  obtain ⟨hl, h2, _, _⟩ := valB_parts hv
  have hc : Lib.cut (fl n v) [58] = (n, (if v = [] then [] else 32 :: v), true) := by
    unfold fl
    rw [show n ++ [58] ++ (if v = [] then [] else 32 :: v) = n ++ 58 :: (if v = [] then [] else 32 :: v) by simp]
    exact cut_byte 58 n _ (fun c hc => (pName_ne (h1 c hc)).1)
  have hall : (if v = [] then [] else 32 :: v).all pField = true := by
    rw [List.all_eq_true]
    intro c hc
    split at hc
    · cases hc
    · rcases List.mem_cons.1 hc with rfl | hc
      · decide
      · exact pVal_pField (h2 c hc)
  unfold pfF
  rw [hc]
  dsimp only
  rw [hn, hall, if_pos (by decide), trim_val v hv, decide_eq_true hl, contains9 v h2]
  rfl
theorem lineF_fl (n v : List UInt8) : lineF n v = fl (lows n) v ++ [13, 10] := rfl
def lowP (f : List UInt8 × List UInt8) : List UInt8 × List UInt8 := (lows f.1, f.2)
theorem okF_parts {n v : List UInt8} (h : okF n v = true) : nameB (lows n) = true ∧ valB v = true ∧ lows n ≠ sCL ∧ lows n ≠ sTE := by
  unfold okF at h
  simp only [Bool.and_eq_true, Bool.not_eq_true', beq_eq_false_iff_ne] at h
  exact ⟨h.1.1, h.1.2, h.2.1, h.2.2⟩
theorem fl_ne (n v : List UInt8) : fl n v ≠ [] := by
  unfold fl
  simp
theorem run_fields : ∀ (l : List (List UInt8 × List UInt8)) (s : HS) (K pos : Nat) (rest : List UInt8), (∀ f ∈ l, okF f.1 f.2 = true) → s.fields.length + l.length ≤ 64 →
    runH s (linesL (K + l.length) (l.flatMap (fun f => lineF f.1 f.2) ++ rest) pos) = runH { s with fields := s.fields ++ l.map lowP } (linesL K rest (pos + (l.flatMap (fun f => lineF f.1 f.2)).length))
  | [], s, K, pos, rest, _, _ => by simp
  | f :: r, s, K, pos, rest, h, hl => by
    obtain ⟨h1, h2, h3, h4⟩ := okF_parts (h f List.mem_cons_self)
    have ih := run_fields r { s with fields := s.fields ++ [lowP f] } K (pos + (fl (lows f.1) f.2).length + 2) rest (fun g hg => h g (List.mem_cons_of_mem _ hg)) (by simp only [List.length_append, List.length_cons, List.length_nil] at hl ⊢; omega)
    rw [List.flatMap_cons, List.length_cons, ← Nat.add_assoc, lineF_fl, show fl (lows f.1) f.2 ++ [13, 10] ++ r.flatMap (fun f => lineF f.1 f.2) ++ rest = fl (lows f.1) f.2 ++ 13 :: 10 :: (r.flatMap (fun f => lineF f.1 f.2) ++ rest) by simp,
      linesL_line _ _ _ _ (fl_no13 h1 h2)]
    have hs : stepH s (pos, fl (lows f.1) f.2) = .go { s with fields := s.fields ++ [lowP f] } := by
      unfold stepH
      rw [if_neg (fl_ne _ _), pfF_fl h1 h2, lows_lows]
      dsimp only
      rw [if_neg (by decide), if_neg h4, if_neg h3, if_neg (by simp only [List.length_cons] at hl; omega)]
      rfl
    rw [runH_go _ hs, ih]
    simp only [List.length_append, List.map_cons, List.append_assoc, List.cons_append, List.nil_append, List.length_cons, List.length_nil]
    congr 2
    omega
/-! ### numbers -/
theorem dig_all : ∀ (u : Nat), (∀ c ∈ Lib.decDigits u, pDig c = true) ∧ numF (Lib.decDigits u) = u := by
  intro u
  induction u using Nat.strongRecOn with
  | _ u ih =>
    have one : ∀ d, d < 10 → pDig (UInt8.ofNat (48 + d)) = true ∧ (UInt8.ofNat (48 + d)).toNat - 48 = d := by
      intro d hd
      have e := digit_toNat d hd
      unfold pDig
      rw [e]
      exact ⟨by simp; omega, by omega⟩
    by_cases h : u < 10
    · rw [Lib.decDigits_one h]
      obtain ⟨a, b⟩ := one u h
      refine ⟨fun c hc => ?_, ?_⟩
      · rw [List.mem_singleton] at hc
        rw [hc]; exact a
      · simp only [numF, List.foldl_cons, List.foldl_nil]
        omega
    · have e : Lib.decDigits u = Lib.decDigits (u / 10) ++ [UInt8.ofNat (48 + u % 10)] := by
        rw [Lib.decDigits, dif_neg h]
      obtain ⟨a, b⟩ := one (u % 10) (by omega)
      obtain ⟨i1, i2⟩ := ih (u / 10) (by omega)
      rw [e]
      refine ⟨fun c hc => ?_, ?_⟩
      · rcases List.mem_append.1 hc with hc | hc
        · exact i1 c hc
        · rw [List.mem_singleton] at hc
          rw [hc]; exact a
      · unfold numF at i2 ⊢
        rw [List.foldl_append, i2]
        simp only [List.foldl_cons, List.foldl_nil]
        omega
theorem nd_le : ∀ (k u : Nat), u < 10 ^ (k + 1) → Lib.nDigits u ≤ k + 1
  | 0, u, h => by rw [Lib.nDigits_small (by omega)]; omega
  | k + 1, u, h => by
    by_cases h10 : u < 10
    · rw [Lib.nDigits_small h10]; omega
    · rw [Lib.nDigits_big h10]
      have := nd_le k (u / 10) (by rw [Nat.pow_succ] at h; omega)
      omega
theorem itoa_nat (n : Nat) : Lib.itoa (n : Int) = Lib.decDigits n := by
  unfold Lib.itoa
  rw [if_neg (by omega), Int.toNat_natCast]
theorem itoa_facts (n : Nat) (h : n < 1000000000) : digsB (Lib.itoa n) = true ∧ numF (Lib.itoa n) = n ∧ valB (Lib.itoa n) = true := by
  rw [itoa_nat]
  obtain ⟨h1, h2⟩ := dig_all n
  have hlen := Lib.decDigits_length n
  have hp := Lib.nDigits_pos n
  have hle := nd_le 8 n h
  have hall : (Lib.decDigits n).all pDig = true := List.all_eq_true.2 h1
  have hd : ∀ c ∈ Lib.decDigits n, c ≠ 32 ∧ pVal c = true := by
    intro c hc
    have := pDig_is c (h1 c hc)
    refine ⟨?_, ?_⟩
    · rintro rfl; revert this; decide
    · unfold pVal; simp; omega
  refine ⟨?_, h2, ?_⟩
  · unfold digsB
    rw [hall, decide_eq_true (by omega), decide_eq_true (by omega)]
    rfl
  · unfold valB
    rw [decide_eq_true (by omega)]
    simp only [Bool.true_and, Bool.and_eq_true, Bool.not_eq_true', List.all_eq_true]
    refine ⟨?_, ?_, fun c hc => (hd c hc).2⟩
    · unfold Lib.hasPrefix
      rw [Bool.eq_false_iff]
      intro hq
      rw [List.isPrefixOf_iff_prefix] at hq
      obtain ⟨t, ht⟩ := hq
      exact (hd 32 (by rw [← ht]; simp)).1 rfl
    · unfold Lib.hasSuffix
      rw [Bool.eq_false_iff]
      intro hq
      rw [List.isSuffixOf_iff_suffix] at hq
      obtain ⟨t, ht⟩ := hq
      exact (hd 32 (by rw [← ht]; simp)).1 rfl
/-! ### the head -/
theorem sCL_name : nameB sCL = true := by decide
theorem sCL_low : lows sCL = sCL := by decide
theorem run_end (s : HS) (K pos : Nat) (body tail : List UInt8) (hs : s.sized = false) (hl : s.length = 0) (hb : body.length < 1000000000) :
    runH s (linesL (K + 2) (clF body ++ [13, 10] ++ tail) pos) = .stop ⟨s.fields, body.length, pos + (clF body).length + 2, !decide (body = [])⟩ := by
  have hblank : ∀ (s : HS) (K pos : Nat), runH s (linesL (K + 1) ([13, 10] ++ tail) pos) = .stop { s with behind := pos + 2 } := by
    intro s K pos
    have := linesL_line K [] tail pos (fun c hc => by cases hc)
    rw [show [13, 10] ++ tail = [] ++ 13 :: 10 :: tail by simp, this]
    exact runH_stop _ (by unfold stepH; rw [if_pos rfl])
  by_cases h0 : body = []
  · have e : clF body = [] := by unfold clF; rw [if_pos h0]
    rw [e, List.nil_append, show K + 2 = (K + 1) + 1 by omega, hblank]
    obtain ⟨f, len, beh, sz⟩ := s
    dsimp only at hs hl
    subst hs hl
    rw [h0]
    simp
  · obtain ⟨d1, d2, d3⟩ := itoa_facts body.length hb
    have hne : Lib.itoa (body.length : Int) ≠ [] := by
      intro e
      rw [e] at d1
      revert d1; decide
    have e : clF body = fl sCL (Lib.itoa body.length) ++ [13, 10] := by
      unfold clF fl
      rw [if_neg h0, if_neg hne]
      simp
    have hstep : stepH s (pos, fl sCL (Lib.itoa body.length)) = .go { s with sized := true, length := body.length } := by
      unfold stepH
      rw [if_neg (fl_ne _ _), pfF_fl sCL_name d3, sCL_low]
      dsimp only
      rw [if_neg (by decide), if_neg (by decide), if_pos rfl, hs, d1, if_neg (by decide), d2]
    rw [e, show fl sCL (Lib.itoa body.length) ++ [13, 10] ++ [13, 10] ++ tail = fl sCL (Lib.itoa body.length) ++ 13 :: 10 :: ([13, 10] ++ tail) by simp, show K + 2 = (K + 1) + 1 by omega,
      linesL_line _ _ _ _ (fl_no13 sCL_name d3), runH_go _ hstep, hblank]
    simp only [List.length_append, List.length_cons, List.length_nil]
    rw [decide_eq_false h0]
    congr 2
theorem head_reads (first : List UInt8) (l : List (List UInt8 × List UInt8)) (body tail : List UInt8) (hl : l.length ≤ 64) (hok : ∀ f ∈ l, okF f.1 f.2 = true) (hb : body.length < 1000000000) :
    parseHeadF (headF first l body ++ tail) (first.length + 2) = endH (headF first l body ++ tail) ⟨l.map lowP, body.length, (headF first l body).length, !decide (body = [])⟩ := by
  have hlen : l.length ≤ (l.flatMap (fun f => lineF f.1 f.2)).length := by
    clear hl hok
    induction l with
    | nil => simp
    | cons f r ih =>
      rw [List.flatMap_cons, List.length_append, lineF_fl]
      simp only [List.length_cons, List.length_append, List.length_nil]
      omega
  have hdrop : (headF first l body ++ tail).drop (first.length + 2) = l.flatMap (fun f => lineF f.1 f.2) ++ (clF body ++ [13, 10] ++ tail) := by
    unfold headF
    rw [show first ++ [13, 10] ++ l.flatMap (fun f => lineF f.1 f.2) ++ clF body ++ [13, 10] ++ tail = (first ++ [13, 10]) ++ (l.flatMap (fun f => lineF f.1 f.2) ++ (clF body ++ [13, 10] ++ tail)) by simp, List.drop_left' (by simp)]
  obtain ⟨K, hK⟩ : ∃ K, (headF first l body ++ tail).length + 1 = (K + 2) + l.length := by
    refine ⟨(headF first l body ++ tail).length - 1 - l.length, ?_⟩
    unfold headF
    simp only [List.length_append, List.length_cons, List.length_nil]
    omega
  have e := run_fields l .start (K + 2) (first.length + 2) (clF body ++ [13, 10] ++ tail) hok (by simpa [HS.start] using hl)
  rw [run_end _ K _ body tail rfl rfl hb] at e
  unfold parseHeadF
  rw [hK, hdrop, e]
  show endH _ _ = endH _ _
  congr 1
  unfold headF
  simp only [HS.start, List.nil_append, List.length_append, List.length_cons, List.length_nil]
theorem parse_print (m t : List UInt8) (l : List (List UInt8 × List UInt8)) (b : List UInt8) (h : (reqF m t l b).2 = 0) : parseF (reqF m t l b).1 = (m, t, l.map lowP, b, 0, 0) ∧ (reqF m t l b).1.length ≤ 32768 := by
  unfold reqF at h ⊢
  by_cases hm : methB m = false
  · rw [if_pos hm] at h; simp at h
  · rw [if_neg hm] at h ⊢
    by_cases ht : targB t = false
    · rw [if_pos ht] at h; simp at h
    · rw [if_neg ht] at h ⊢
      unfold restF at h ⊢
      by_cases h64 : l.length > 64
      · rw [if_pos h64] at h; simp at h
      · rw [if_neg h64] at h ⊢
        by_cases hall : l.all (fun f => okF f.1 f.2) = false
        · rw [if_pos hall] at h; simp at h
        · rw [if_neg hall] at h ⊢
          by_cases hbig : (headF (m ++ [32] ++ t ++ sVer) l b).length + b.length > 32768
          · rw [if_pos hbig] at h; simp at h
          · rw [if_neg hbig]
            clear h
            rw [Bool.not_eq_false] at hm ht hall
            have hok : ∀ f ∈ l, okF f.1 f.2 = true := List.all_eq_true.1 hall
            have hr := head_reads (m ++ [32] ++ t ++ sVer) l b b (by omega) hok (by omega)
            dsimp only
            refine ⟨?_, by rw [List.length_append]; omega⟩
            have hmu : ∀ c ∈ m, c ≠ 32 := by
              unfold methB at hm
              simp only [Bool.and_eq_true, List.all_eq_true] at hm
              intro c hc
              have := hm.2 c hc
              rintro rfl
              revert this; decide
            have htv : ∀ c ∈ t, pVis c = true := by
              have h2 := ht
              unfold targB at h2
              simp only [Bool.and_eq_true, List.all_eq_true] at h2
              exact h2.2.2
            obtain ⟨R, hR⟩ : ∃ R, R = l.flatMap (fun f => lineF f.1 f.2) ++ clF b ++ [13, 10] ++ b := ⟨_, rfl⟩
            have hraw : headF (m ++ [32] ++ t ++ sVer) l b ++ b = m ++ 32 :: (t ++ 32 :: (sV2 ++ R)) := by
              rw [hR]; unfold headF sVer sV2; simp
            have hcut := cut_byte 32 m (t ++ 32 :: (sV2 ++ R)) hmu
            have htw : (t ++ 32 :: (sV2 ++ R)).takeWhile pVis = t := by
              rw [List.takeWhile_append_of_pos htv, List.takeWhile_cons, if_neg (by decide), List.append_nil]
            have hlen : (headF (m ++ [32] ++ t ++ sVer) l b ++ b).length ≤ 32768 := by rw [List.length_append]; omega
            unfold parseF
            rw [if_neg (by omega), hraw, hcut]
            dsimp only
            rw [hm, if_pos (by decide), htw]
            unfold targP
            rw [if_neg (by simp), if_pos ⟨by simp, by simpa using ht⟩]
            have hd : (m ++ 32 :: (t ++ 32 :: (sV2 ++ R))).drop (m.length + 1 + t.length + 1) = sV2 ++ R := by
              rw [show m ++ 32 :: (t ++ 32 :: (sV2 ++ R)) = (m ++ [32] ++ t ++ [32]) ++ (sV2 ++ R) by simp, List.drop_left' (by simp; omega)]
            rw [hd, if_pos (by unfold Lib.hasPrefix; rw [List.isPrefixOf_iff_prefix]; exact ⟨R, rfl⟩)]
            have hplace : (m ++ [32] ++ t ++ sVer).length + 2 = m.length + 1 + t.length + 1 + 10 := by simp [sVer]; omega
            rw [hplace, hraw] at hr
            unfold tailP
            have hend : endH (m ++ 32 :: (t ++ 32 :: (sV2 ++ R))) ⟨l.map lowP, b.length, (headF (m ++ [32] ++ t ++ sVer) l b).length, !decide (b = [])⟩ = (l.map lowP, b.length, (headF (m ++ [32] ++ t ++ sVer) l b).length, 0, 0) := by
              unfold endH
              rw [if_neg]
              rw [← hraw, List.length_append]
              push_cast
              omega
            rw [hr, hend]
            dsimp only
            rw [if_pos rfl, ← hraw, List.drop_left' rfl]
            simp
end Go.Proofs.YtmfkgjnlobiobaaGreatDoor.X
namespace Go.Proofs.YtmfkgjnlobiobaaGreatDoor.X
open Go.RowKit Go.Shelf Go.Proofs.YtmfkgjnlobiobaaGreatDoorW.PrintWords
/-! ### bytes one by one -/
theorem loop_all (a : ByteArray) (ha : a.size ≤ 140737488351232) (p : UInt8 → Bool) (L : Nat → Int → Option Bool) (E : Option Bool)
    (step : ∀ (k i : Nat) (c : UInt8), i < a.size → bt a (i : Int) = (c.toNat : Int) → L (k + 1) (i : Int) = if p c = true then L k (wrap64 ((i : Int) + 1)) else some false)
    (stop : ∀ k (i : Nat), a.size ≤ i → L (k + 1) (i : Int) = E) : ∀ (d k i : Nat), i + d = a.size → d < k → L k (i : Int) = if (a.data.toList.drop i).all p = true then E else some false
  | _, 0, _, _, hk => absurd hk (Nat.not_lt_zero _)
  | 0, k + 1, i, hi, _ => by
    rw [stop k i (by omega), List.drop_of_length_le (by rw [size_data]; omega)]
    rfl
  | d + 1, k + 1, i, hi, hk => by
    obtain ⟨c, hc, hb⟩ := bt_nat a i (by omega)
    rw [step k i c (by omega) hb, wr _ (by omega)]
    have ih := loop_all a ha p L E step stop d k (i + 1) (by omega) (by omega)
    have hd : a.data.toList.drop i = c :: a.data.toList.drop (i + 1) := by
      obtain ⟨h1, h2⟩ := List.getElem?_eq_some_iff.1 hc
      rw [List.drop_eq_getElem_cons h1, h2]
    rw [hd, List.all_cons]
    cases p c with
    | true => simpa using ih
    | false => rfl
theorem rmethod_f (k : Nat) (a : ByteArray) (ha : a.size ≤ 140737488351232) (hk : a.size < k) : wicketref15_method.f k a = some (methB a.data.toList) := by
  have h := loop_all a ha pUp (fun k i => wicketref15_method.l0 k a i) (if (a.size : Int) ≥ 1 then (some (decide ((a.size : Int) ≤ 16))) else (some false))
    (fun k i c hi hb => by
      show wicketref15_method.l0 (k + 1) a (i : Int) = _
      rw [wicketref15_method.l0, if_pos (by omega), if_pos (by omega), hb]
      by_cases hp : pUp c = true
      · rw [if_pos hp]
        unfold pUp at hp
        rw [decide_eq_true_eq] at hp
        rw [if_neg (by omega), if_neg (by omega)]
      · rw [if_neg hp]
        unfold pUp at hp
        rw [decide_eq_true_eq] at hp
        split
        · rfl
        · rw [if_pos (by omega)])
    (fun k i hi => by
      show wicketref15_method.l0 (k + 1) a (i : Int) = _
      rw [wicketref15_method.l0, if_neg (by omega)]) a.size k 0 (by omega) hk
  show wicketref15_method.l0 k a ((0 : Nat) : Int) = _
  rw [h, List.drop_zero]
  unfold methB
  rw [size_data]
  cases a.data.toList.all pUp with
  | true =>
    rw [if_pos rfl, Bool.and_true]
    by_cases h1 : 1 ≤ a.size
    · rw [if_pos (by omega)]
      congr 1
      exact decide_eq_decide.2 (by omega)
    · rw [if_neg (by omega), decide_eq_false (by omega)]
  | false => rw [Bool.and_false]; rfl
theorem rtarget_f (k : Nat) (a : ByteArray) (ha : a.size ≤ 140737488351232) (hk : a.size < k) : wicketref15_target.f k a = some (targB a.data.toList) := by
  have h := loop_all a ha pVis (fun k i => wicketref15_target.l0 k a i) (if (a.size : Int) ≥ 1 then (if (a.size : Int) ≤ 1024 then (if 0 < (a.size : Int) then (some ((bt a 0) == 47)) else (none)) else (some false)) else (some false))
    (fun k i c hi hb => by
      show wicketref15_target.l0 (k + 1) a (i : Int) = _
      rw [wicketref15_target.l0, if_pos (by omega), if_pos (by omega), hb]
      by_cases hp : pVis c = true
      · rw [if_pos hp]
        unfold pVis at hp
        rw [decide_eq_true_eq] at hp
        rw [if_neg (by omega), if_neg (by omega)]
      · rw [if_neg hp]
        unfold pVis at hp
        rw [decide_eq_true_eq] at hp
        split
        · rfl
        · rw [if_pos (by omega)])
    (fun k i hi => by
      show wicketref15_target.l0 (k + 1) a (i : Int) = _
      rw [wicketref15_target.l0, if_neg (by omega)]) a.size k 0 (by omega) hk
  show wicketref15_target.l0 k a ((0 : Nat) : Int) = _
  rw [h, List.drop_zero]
  unfold targB
  rw [size_data]
  cases a.data.toList.all pVis with
  | true =>
    rw [if_pos rfl, Bool.and_true]
    by_cases h1 : 1 ≤ a.size
    · rw [if_pos (by omega)]
      by_cases h2 : a.size ≤ 1024
      · rw [if_pos (by omega), if_pos (by omega), decide_eq_true ⟨h1, h2⟩, Bool.true_and]
        congr 1
        rw [Bool.eq_iff_iff, beq_iff_eq, decide_eq_true_eq]
        exact head_is a (by omega)
      · rw [if_neg (by omega), decide_eq_false (by omega), Bool.false_and]
    · rw [if_neg (by omega), decide_eq_false (by omega), Bool.false_and]
  | false => rw [Bool.and_false, Bool.and_false]; rfl
theorem rname_f (k : Nat) (a : ByteArray) (ha : a.size ≤ 140737488351232) (hk : a.size < k) : wicketref15_name.f k a = some (nameB a.data.toList) := by
  have h := loop_all a ha pName (fun k i => wicketref15_name.l0 k a i) (if (a.size : Int) ≥ 1 then (some (decide ((a.size : Int) ≤ 64))) else (some false))
    (fun k i c hi hb => by
      show wicketref15_name.l0 (k + 1) a (i : Int) = _
      rw [wicketref15_name.l0, if_pos (by omega), if_pos (by omega), hb]
      by_cases hp : pName c = true
      · rw [if_pos hp]
        unfold pName at hp
        rw [decide_eq_true_eq] at hp
        repeat' split
        all_goals first | rfl | (exfalso; omega)
      · rw [if_neg hp]
        unfold pName at hp
        rw [decide_eq_true_eq] at hp
        repeat' split
        all_goals first | rfl | (exfalso; omega))
    (fun k i hi => by
      show wicketref15_name.l0 (k + 1) a (i : Int) = _
      rw [wicketref15_name.l0, if_neg (by omega)]) a.size k 0 (by omega) hk
  show wicketref15_name.l0 k a ((0 : Nat) : Int) = _
  rw [h, List.drop_zero]
  unfold nameB
  rw [size_data]
  cases a.data.toList.all pName with
  | true =>
    rw [if_pos rfl, Bool.and_true]
    by_cases h1 : 1 ≤ a.size
    · rw [if_pos (by omega)]
      congr 1
      exact decide_eq_decide.2 (by omega)
    · rw [if_neg (by omega), decide_eq_false (by omega)]
  | false => rw [Bool.and_false]; rfl
theorem valB_iff (l : List UInt8) : valB l = true ↔ l.length ≤ 4096 ∧ l.all pVal = true ∧ l.head? ≠ some 32 ∧ l.getLast? ≠ some 32 := by
  constructor
  · intro h
    obtain ⟨h1, h2, h3, h4⟩ := valB_parts h
    exact ⟨h1, List.all_eq_true.2 h2, h3, h4⟩
  · rintro ⟨h1, h2, h3, h4⟩
    unfold valB
    rw [decide_eq_true h1, h2]
    have e1 : Lib.hasPrefix l [32] = false := by
      rw [Bool.eq_false_iff]
      intro e
      unfold Lib.hasPrefix at e
      rw [List.isPrefixOf_iff_prefix] at e
      obtain ⟨t, rfl⟩ := e
      exact h3 rfl
    have e2 : Lib.hasSuffix l [32] = false := by
      rw [Bool.eq_false_iff]
      intro e
      unfold Lib.hasSuffix at e
      rw [List.isSuffixOf_iff_suffix] at e
      obtain ⟨t, rfl⟩ := e
      exact h4 (by simp)
    rw [e1, e2]
    rfl
theorem last_is (a : ByteArray) (h : 0 < a.size) : bt a ((a.size - 1 : Nat) : Int) = 32 ↔ a.data.toList.getLast? = some 32 := by
  obtain ⟨c, hc, hb⟩ := bt_nat a (a.size - 1) (by omega)
  rw [hb, List.getLast?_eq_getElem?, size_data, hc]
  constructor
  · intro e
    have : c = 32 := UInt8.toNat_inj.1 (by have : (32 : UInt8).toNat = 32 := rfl; omega)
    rw [this]
  · intro e
    simp only [Option.some.injEq] at e
    rw [e]
    rfl
theorem first_is (a : ByteArray) (h : 0 < a.size) (y : UInt8) : bt a 0 = (y.toNat : Int) ↔ a.data.toList.head? = some y := by
  obtain ⟨c, hc, hb⟩ := bt_nat a 0 h
  rw [show ((0 : Nat) : Int) = 0 from rfl] at hb
  rw [hb, List.head?_eq_getElem?, hc]
  constructor
  · intro e
    have : c = y := UInt8.toNat_inj.1 (by omega)
    rw [this]
  · intro e
    simp only [Option.some.injEq] at e
    rw [e]
theorem rvalue_f (k : Nat) (a : ByteArray) (ha : a.size ≤ 140737488351232) (hk : a.size < k) : wicketref15_value.f k a = some (valB a.data.toList) := by
  have h := loop_all a ha pVal (fun k i => wicketref15_value.l0 k a i) (if (a.size : Int) > 4096 then (some false) else (if a.toList = ([] : List UInt8) then (some true) else (if 0 < (a.size : Int) then (if (bt a 0) = 32 then (some false) else (if 0 ≤ (wrap64 ((a.size : Int) - 1)) then (if (wrap64 ((a.size : Int) - 1)) < (a.size : Int) then (some ((bt a (wrap64 ((a.size : Int) - 1))) != 32)) else (none)) else (none))) else (none))))
    (fun k i c hi hb => by
      show wicketref15_value.l0 (k + 1) a (i : Int) = _
      rw [wicketref15_value.l0, if_pos (by omega), if_pos (by omega), hb]
      by_cases hp : pVal c = true
      · rw [if_pos hp]
        unfold pVal at hp
        rw [decide_eq_true_eq] at hp
        rw [if_neg (by omega), if_neg (by omega)]
      · rw [if_neg hp]
        unfold pVal at hp
        rw [decide_eq_true_eq] at hp
        split
        · rfl
        · rw [if_pos (by omega)])
    (fun k i hi => by
      show wicketref15_value.l0 (k + 1) a (i : Int) = _
      rw [wicketref15_value.l0, if_neg (by omega)]) a.size k 0 (by omega) hk
  show wicketref15_value.l0 k a ((0 : Nat) : Int) = _
  rw [h, List.drop_zero]
  have hsz := size_data a
  cases hall : a.data.toList.all pVal with
  | false =>
    rw [if_neg (by decide)]
    congr 1
    symm
    rw [Bool.eq_false_iff]
    intro e
    rw [((valB_iff _).1 e).2.1] at hall
    cases hall
  | true =>
    rw [if_pos rfl]
    by_cases h1 : a.size > 4096
    · rw [if_pos (by omega)]
      congr 1
      symm
      rw [Bool.eq_false_iff]
      intro e
      have := ((valB_iff _).1 e).1
      omega
    · rw [if_neg (by omega)]
      by_cases h0 : a.data.toList = []
      · rw [if_pos (by rw [toList_data]; exact h0), h0]
        rfl
      · have hpos : 0 < a.size := by
          have := List.length_pos_iff.2 h0
          omega
        rw [if_neg (by rw [toList_data]; exact h0), if_pos (by omega)]
        by_cases h2 : bt a 0 = 32
        · rw [if_pos h2]
          congr 1
          symm
          rw [Bool.eq_false_iff]
          intro e
          exact ((valB_iff _).1 e).2.2.1 ((first_is a hpos 32).1 h2)
        · rw [if_neg h2, wr _ (by omega), show (a.size : Int) - 1 = ((a.size - 1 : Nat) : Int) by omega, if_pos (by omega), if_pos (by omega)]
          congr 1
          rw [Bool.eq_iff_iff, bne_iff_ne, valB_iff]
          constructor
          · intro e
            exact ⟨by omega, hall, fun e2 => h2 ((first_is a hpos 32).2 e2), fun e2 => e ((last_is a hpos).2 e2)⟩
          · rintro ⟨_, _, _, e⟩ e2
            exact e ((last_is a hpos).1 e2)
theorem rstands_f (a : ByteArray) (n : Nat) (s : ByteArray) (ha : a.size ≤ 140737488351232) (hn : n ≤ 140737488351232) (hs : s.size ≤ 140737488351232) (hs1 : 1 ≤ s.size) : wicketref15_stands.f a (n : Int) s = some (Lib.hasPrefix (a.data.toList.drop n) s.data.toList) := by
  unfold wicketref15_stands.f
  rw [wr _ (by omega)]
  have hsa := size_data a
  have hss := size_data s
  unfold Lib.hasPrefix
  by_cases h : n + s.size ≤ a.size
  · rw [if_pos (by omega), if_pos (by omega), if_pos (by omega), Int.toNat_natCast, show ((n : Int) + (s.size : Int)).toNat = n + s.size by omega, toList_ext, toList_data]
    congr 1
    rw [Bool.eq_iff_iff, beq_iff_eq, List.isPrefixOf_iff_prefix, List.prefix_iff_eq_take, show n + s.size - n = s.data.toList.length by omega]
    exact eq_comm
  · rw [if_neg (by omega)]
    congr 1
    symm
    rw [Bool.eq_false_iff]
    intro e
    rw [List.isPrefixOf_iff_prefix] at e
    have := e.length_le
    rw [List.length_drop] at this
    omega
end Go.Proofs.YtmfkgjnlobiobaaGreatDoor.X
namespace Go.Proofs.YtmfkgjnlobiobaaGreatDoor.X
open Go.RowKit Go.Shelf Go.Proofs.YtmfkgjnlobiobaaGreatDoorW.PrintWords
def sV9 : List UInt8 := [72, 84, 84, 80, 47, 49, 46, 49, 32]
def reasonL (n : Int) : List UInt8 := match http_Reason.f n with
  | some r => r.data.toList
  | none => []
def Told (o : Option ByteArray) : Prop := ∃ r, o = some r ∧ r.data.toList.length ≤ 40
theorem told_ite (c : Prop) [Decidable c] (a b : Option ByteArray) (ha : Told a) (hb : Told b) : Told (if c then a else b) := by
  split
  · exact ha
  · exact hb
theorem Reason_told (n : Int) : Told (http_Reason.f n) := by
  unfold http_Reason.f
  repeat' refine told_ite _ _ _ ?_ ?_
  all_goals exact ⟨_, rfl, by decide⟩
theorem Reason_f (n : Int) : http_Reason.f n = some (bs (reasonL n)) ∧ (reasonL n).length ≤ 40 := by
  unfold reasonL
  obtain ⟨r, hr, hl⟩ := Reason_told n
  rw [hr]
  exact ⟨by rw [bs_eq], hl⟩
def lineR (n : Nat) : List UInt8 := sV9 ++ Lib.itoa n ++ [32] ++ reasonL n
def respF (n : Int) (l : List (List UInt8 × List UInt8)) (b : List UInt8) : List UInt8 × Int :=
  if n < 100 ∨ n > 599 then ([], 156) else restF (lineR n.toNat) l b
theorem PrintResponse_f (K : Nat) (n : Int) (l : List S80) (b : ByteArray) (hl : ∀ f ∈ l, f.f0.size ≤ 140737488351232) (hb : b.size ≤ 140737488351232) :
    http_PrintResponse.f (K + 1) n l b = some (bs (respF n (pairsL l) b.data.toList).1, (respF n (pairsL l) b.data.toList).2) := by
  have bad : http_PrintResponse.j0 (K + 1) true n l b = some (bs [], 156) := by
    rw [http_PrintResponse.j0, if_pos rfl]
    rfl
  unfold http_PrintResponse.f respF
  by_cases h1 : n < 100
  · rw [if_pos h1, if_pos (.inl h1), bad]
  · rw [if_neg h1]
    by_cases h2 : n > 599
    · rw [if_pos (.inr h2), decide_eq_true h2, bad]
    · rw [if_neg (by omega), decide_eq_false h2, http_PrintResponse.j0, if_neg (by decide)]
      obtain ⟨m, rfl⟩ := Int.eq_ofNat_of_zero_le (show 0 ≤ n by omega)
      have hil := Lib.itoa_length_le (m : Int) (by omega) (by omega)
      obtain ⟨hr, hrl⟩ := Reason_f (m : Int)
      unfold strconv_Itoa.f
      rw [if_pos (by omega), hr]
      simp only [Option.bind_some, Int.toNat_natCast]
      have s1 : ((⟨#[72, 84, 84, 80, 47, 49, 46, 49, 32]⟩ : ByteArray) ++ bs (Lib.itoa m)).size = 9 + (Lib.itoa m).length := by rw [ByteArray.size_append, bs_size]; rfl
      have s2 : (((⟨#[72, 84, 84, 80, 47, 49, 46, 49, 32]⟩ : ByteArray) ++ bs (Lib.itoa m)) ++ (⟨#[32]⟩ : ByteArray)).size = 9 + (Lib.itoa m).length + 1 := by rw [ByteArray.size_append, s1]; rfl
      have s3 : ((((⟨#[72, 84, 84, 80, 47, 49, 46, 49, 32]⟩ : ByteArray) ++ bs (Lib.itoa m)) ++ (⟨#[32]⟩ : ByteArray)) ++ bs (reasonL m)).size = 9 + (Lib.itoa m).length + 1 + (reasonL m).length := by rw [ByteArray.size_append, s2, bs_size]
      rw [if_pos (by rw [bs_size]; omega), if_pos (by rw [s1]; omega), if_pos (by rw [s2, bs_size]; omega)]
      unfold http_rest.f
      rw [if_pos ⟨by rw [s3]; omega, List.all_eq_true.2 (fun f hf => decide_eq_true (hl f hf)), hb⟩]
      simp only [Option.bind_some]
      have e : ((((⟨#[72, 84, 84, 80, 47, 49, 46, 49, 32]⟩ : ByteArray) ++ bs (Lib.itoa m)) ++ (⟨#[32]⟩ : ByteArray)) ++ bs (reasonL m)).data.toList = lineR m := by
        simp [ByteArray.data_append, lineR, sV9, bs]
      rw [e]
abbrev PS := Nat × List (List UInt8 × List UInt8) × List UInt8 × Nat × Nat
def badS (e a : Nat) : PS := (0, [], [], e, a)
def encS (r : PS) : Int × List S80 × ByteArray × Int × Int := (r.1, r.2.1.map pairOf, bs r.2.2.1, r.2.2.2.1, r.2.2.2.2)
def statF (text : List UInt8) : Nat := if (decide (3 ≤ text.length) && (text.take 3).all pDig) = true then numF (text.take 3) else 0
def firstS (n : Nat) : List UInt8 := Lib.itoa n ++ [32] ++ reasonL n ++ [13, 10]
def tailS (raw : List UInt8) (n : Nat) (p : Nat) : PS :=
  if (parseHeadF raw p).2.2.2.1 = 0 then (n, (parseHeadF raw p).1, raw.drop (parseHeadF raw p).2.2.1, 0, 0) else badS (parseHeadF raw p).2.2.2.1 (parseHeadF raw p).2.2.2.2
def parseRF (raw : List UInt8) : PS :=
  if raw.length > 32768 then badS 1 0
  else if Lib.hasPrefix raw sV9 = true then
    (if 100 ≤ statF (raw.drop 9) ∧ statF (raw.drop 9) ≤ 599 ∧ Lib.hasPrefix (raw.drop 9) (firstS (statF (raw.drop 9))) = true then tailS raw (statF (raw.drop 9)) (9 + (firstS (statF (raw.drop 9))).length) else badS 156 9)
  else badS 152 0
theorem statF_lt (t : List UInt8) : statF t < 1000 := by
  unfold statF
  split
  · rename_i h
    simp only [Bool.and_eq_true, decide_eq_true_eq] at h
    have := numF_lt _ h.2
    rw [List.length_take, Nat.min_eq_left h.1] at this
    exact this
  · omega
theorem rj2 (K : Nat) (raw : ByteArray) (n : Nat) (fst : ByteArray) (b : Bool) (hr : raw.size ≤ 32768) (hf : b = false → 9 + fst.size ≤ raw.size) :
    http_ParseResponse.j2 (K + 1) raw n fst b = some (encS (if b = false then tailS raw.data.toList n (9 + fst.data.toList.length) else badS 156 9)) := by
  have hrl := size_data raw
  have hfl := size_data fst
  rw [http_ParseResponse.j2]
  cases b with
  | true => rfl
  | false =>
    have hf' := hf rfl
    rw [if_neg (by decide), if_pos rfl, wr _ (by omega)]
    unfold http_parseHead.f
    rw [if_pos ⟨hr, by omega, by omega⟩]
    simp only [Option.bind_some]
    rw [show ((9 : Int) + fst.size).toNat = 9 + fst.data.toList.length by omega]
    unfold tailS
    have hbh := parseHeadF_behind raw.data.toList (9 + fst.data.toList.length)
    generalize parseHeadF raw.data.toList (9 + fst.data.toList.length) = r at hbh ⊢
    obtain ⟨f, len, beh, e, at_⟩ := r
    dsimp only at hbh ⊢
    by_cases he : e = 0
    · have := hbh he
      rw [if_pos (show (e : Int) = 0 by omega), if_pos he, if_pos (show 0 ≤ (beh : Int) by omega), if_pos (show (beh : Int) ≤ (raw.size : Int) by omega)]
      simp only [encS, Int.toNat_natCast]
      rw [extract_bs, List.take_of_length_le (by rw [List.length_drop]; omega)]
      rfl
    · rw [if_neg (show ¬ (e : Int) = 0 by omega), if_neg he]
      rfl
theorem rj1 (K : Nat) (raw text : ByteArray) (n : Nat) (hr : raw.size ≤ 32768) (hn : n < 1000) (ht : text.size + 9 ≤ raw.size) :
    http_ParseResponse.j1 (K + 1 + 1) raw text n = some (encS (if 100 ≤ n ∧ n ≤ 599 ∧ Lib.hasPrefix text.data.toList (firstS n) = true then tailS raw.data.toList n (9 + (firstS n).length) else badS 156 9)) := by
  have htl := size_data text
  have hil := Lib.itoa_length_le (n : Int) (by omega) (by omega)
  obtain ⟨hrs, hrl⟩ := Reason_f (n : Int)
  rw [http_ParseResponse.j1]
  unfold strconv_Itoa.f
  rw [if_pos (by omega), hrs]
  simp only [Option.bind_some]
  have s1 : (bs (Lib.itoa n) ++ (⟨#[32]⟩ : ByteArray)).size = (Lib.itoa n).length + 1 := by rw [ByteArray.size_append, bs_size]; rfl
  have s2 : ((bs (Lib.itoa n) ++ (⟨#[32]⟩ : ByteArray)) ++ bs (reasonL n)).size = (Lib.itoa n).length + 1 + (reasonL n).length := by rw [ByteArray.size_append, s1, bs_size]
  have e : (((bs (Lib.itoa n) ++ (⟨#[32]⟩ : ByteArray)) ++ bs (reasonL n)) ++ (⟨#[13, 10]⟩ : ByteArray)) = bs (firstS n) := by
    rw [← bs_eq (((bs (Lib.itoa n) ++ (⟨#[32]⟩ : ByteArray)) ++ bs (reasonL n)) ++ (⟨#[13, 10]⟩ : ByteArray))]
    congr 1 <;> simp [ByteArray.data_append, firstS, bs]
  rw [if_pos (by rw [bs_size]; omega), if_pos (by rw [s1, bs_size]; omega), if_pos (by rw [s2]; omega), e]
  have bad := fun fst => rj2 K raw n fst true hr (fun h => by cases h)
  simp only [Bool.true_eq_false, if_false] at bad
  by_cases h1 : n < 100
  · rw [if_pos (show (n : Int) < 100 by omega), bad, if_neg (fun h => absurd h.1 (by omega))]
  · rw [if_neg (show ¬ (n : Int) < 100 by omega)]
    by_cases h2 : n > 599
    · rw [if_pos (show (n : Int) > 599 by omega), bad, if_neg (fun h => absurd h.2.1 (by omega))]
    · rw [if_neg (show ¬ (n : Int) > 599 by omega)]
      unfold strings_HasPrefix.f
      simp only [Option.bind_some, data_bs]
      cases hp : Lib.hasPrefix text.data.toList (firstS n) with
      | false =>
        rw [if_neg (fun h => by cases h.2.2)]
        exact bad _
      | true =>
        have hle := Lib.hasPrefix_le hp
        rw [if_pos ⟨by omega, by omega, rfl⟩]
        have := rj2 K raw n (bs (firstS n)) false hr (fun _ => by rw [bs_size]; omega)
        rw [if_pos rfl, data_bs] at this
        exact this
theorem ParseResponse_f (K : Nat) (raw : ByteArray) : http_ParseResponse.f (K + 1 + 1 + 1) raw = some (encS (parseRF raw.data.toList)) := by
  have hrl := size_data raw
  unfold http_ParseResponse.f parseRF
  by_cases hbig : raw.size > 32768
  · rw [if_pos (show (raw.size : Int) > 32768 by omega), if_pos (show raw.data.toList.length > 32768 by omega)]
    rfl
  · rw [if_neg (show ¬ (raw.size : Int) > 32768 by omega), if_neg (show ¬ raw.data.toList.length > 32768 by omega)]
    unfold strings_HasPrefix.f
    simp only [Option.bind_some]
    show (if Lib.hasPrefix raw.data.toList sV9 = true then _ else _) = _
    cases hp : Lib.hasPrefix raw.data.toList sV9 with
    | false => rfl
    | true =>
      have hle := Lib.hasPrefix_le hp
      have h9 : sV9.length = 9 := rfl
      rw [if_pos rfl, if_pos rfl, if_pos (show (9 : Int) ≤ (raw.size : Int) by omega)]
      have ht : (raw.extract 9 raw.size).data.toList = raw.data.toList.drop 9 := Lib.extract_to_end raw 9
      obtain ⟨text, htx⟩ : ∃ text, text = raw.extract 9 raw.size := ⟨_, rfl⟩
      rw [← htx] at ht ⊢
      have hts : text.size = raw.size - 9 := by rw [← size_data text, ht, List.length_drop]; omega
      have htl := size_data text
      rw [← ht]
      have nodig : statF text.data.toList = 0 → http_ParseResponse.j0 (K + 1 + 1 + 1) raw text 0 false = some (encS (if 100 ≤ statF text.data.toList ∧ statF text.data.toList ≤ 599 ∧ Lib.hasPrefix text.data.toList (firstS (statF text.data.toList)) = true then tailS raw.data.toList (statF text.data.toList) (9 + (firstS (statF text.data.toList)).length) else badS 156 9)) := by
        intro h0
        rw [http_ParseResponse.j0, if_neg (by decide), h0]
        exact rj1 K raw text 0 (by omega) (by omega) (by omega)
      by_cases h3 : text.size ≥ 3
      · rw [if_pos (show (text.size : Int) ≥ 3 by omega), if_pos (show (0 : Nat) ≤ 3 by decide), if_pos (show (3 : Int) ≤ (text.size : Int) by omega)]
        unfold http_all_ParseResponse_1.f
        have e3 : (text.extract 0 3).data.toList = text.data.toList.take 3 := by rw [Lib.extract_data, List.drop_zero]
        have es : (text.extract 0 3).size = 3 := by rw [← size_data, e3, List.length_take]; omega
        rw [if_pos (by omega)]
        simp only [Option.bind_some]
        rw [e3]
        cases hd : (text.data.toList.take 3).all pDig with
        | false =>
          exact nodig (by unfold statF; rw [hd, Bool.and_false, if_neg (by decide)])
        | true =>
          have hst : statF text.data.toList = numF (text.data.toList.take 3) := by unfold statF; rw [hd, decide_eq_true (by omega), if_pos (by decide)]
          rw [http_ParseResponse.j0, if_pos rfl, if_pos (show (0 : Nat) ≤ 3 by decide), if_pos (show (3 : Int) ≤ (text.size : Int) by omega)]
          have ha := atoi_f (text.data.toList.take 3) hd (by rw [List.length_take]; omega) (by rw [List.length_take]; omega)
          rw [← e3, bs_eq] at ha
          rw [ha]
          simp only [Option.bind_some]
          rw [e3, ← hst]
          exact rj1 K raw text _ (by omega) (statF_lt _) (by omega)
      · rw [if_neg (show ¬ (text.size : Int) ≥ 3 by omega)]
        exact nodig (by unfold statF; rw [decide_eq_false (by omega), Bool.false_and, if_neg (by decide)])
/-! ### what is printed reads back -/
theorem itoa3 (n : Nat) (h1 : 100 ≤ n) (h2 : n ≤ 599) : (Lib.itoa n).length = 3 := by
  rw [itoa_nat, Lib.decDigits_length]
  exact Lib.nDigits_unique 2 n (by omega) (by omega)
theorem parse_printR (n : Int) (l : List (List UInt8 × List UInt8)) (b : List UInt8) (h : (respF n l b).2 = 0) : ∃ m : Nat, n = m ∧ parseRF (respF n l b).1 = (m, l.map lowP, b, 0, 0) ∧ (respF n l b).1.length ≤ 32768 := by
  unfold respF at h ⊢
  by_cases hn : n < 100 ∨ n > 599
  · rw [if_pos hn] at h; simp at h
  · rw [if_neg hn] at h ⊢
    obtain ⟨m, rfl⟩ := Int.eq_ofNat_of_zero_le (show 0 ≤ n by omega)
    refine ⟨m, rfl, ?_⟩
    rw [Int.toNat_natCast] at h ⊢
    unfold restF at h ⊢
    by_cases h64 : l.length > 64
    · rw [if_pos h64] at h; simp at h
    · rw [if_neg h64] at h ⊢
      by_cases hall : l.all (fun f => okF f.1 f.2) = false
      · rw [if_pos hall] at h; simp at h
      · rw [if_neg hall] at h ⊢
        by_cases hbig : (headF (lineR m) l b).length + b.length > 32768
        · rw [if_pos hbig] at h; simp at h
        · rw [if_neg hbig]
          clear h
          rw [Bool.not_eq_false] at hall
          have hok : ∀ f ∈ l, okF f.1 f.2 = true := List.all_eq_true.1 hall
          have hr := head_reads (lineR m) l b b (by omega) hok (by omega)
          dsimp only
          refine ⟨?_, by rw [List.length_append]; omega⟩
          have h3 := itoa3 m (by omega) (by omega)
          obtain ⟨d1, d2, _⟩ := itoa_facts m (by omega)
          obtain ⟨R, hR⟩ : ∃ R, R = l.flatMap (fun f => lineF f.1 f.2) ++ clF b ++ [13, 10] ++ b := ⟨_, rfl⟩
          have hraw : headF (lineR m) l b ++ b = sV9 ++ (firstS m ++ R) := by
            rw [hR]; unfold headF lineR firstS; simp
          have hlen : (headF (lineR m) l b ++ b).length ≤ 32768 := by rw [List.length_append]; omega
          have hdrop : (sV9 ++ (firstS m ++ R)).drop 9 = firstS m ++ R := List.drop_left' rfl
          have htake : (firstS m ++ R).take 3 = Lib.itoa m := by
            unfold firstS
            rw [show Lib.itoa (m : Int) ++ [32] ++ reasonL m ++ [13, 10] ++ R = Lib.itoa m ++ ([32] ++ reasonL m ++ [13, 10] ++ R) by simp, ← h3, List.take_left' rfl]
          have hst : statF (firstS m ++ R) = m := by
            unfold statF
            unfold digsB at d1
            simp only [Bool.and_eq_true, decide_eq_true_eq] at d1
            rw [htake, d1.2.2, decide_eq_true (by unfold firstS; simp only [List.length_append]; omega), if_pos (by decide), d2]
          unfold parseRF
          rw [if_neg (by omega), hraw, if_pos (by unfold Lib.hasPrefix; rw [List.isPrefixOf_iff_prefix]; exact ⟨_, rfl⟩), hdrop, hst,
            if_pos ⟨by omega, by omega, by unfold Lib.hasPrefix; rw [List.isPrefixOf_iff_prefix]; exact ⟨_, rfl⟩⟩]
          have hplace : (lineR m).length + 2 = 9 + (firstS m).length := by
            unfold lineR firstS sV9
            simp only [List.length_append, List.length_cons, List.length_nil]
            omega
          rw [hplace, hraw] at hr
          unfold tailS
          have hend : endH (sV9 ++ (firstS m ++ R)) ⟨l.map lowP, b.length, (headF (lineR m) l b).length, !decide (b = [])⟩ = (l.map lowP, b.length, (headF (lineR m) l b).length, 0, 0) := by
            unfold endH
            rw [if_neg]
            rw [← hraw, List.length_append]
            push_cast
            omega
          rw [hr, hend]
          dsimp only
          rw [if_pos rfl, ← hraw, List.drop_left' rfl]
def okS (r : PS) : Prop := r.2.2.2.1 = 0
theorem parseRF_app (raw x : List UInt8) (h : okS (parseRF raw)) (hx : x ≠ []) : ¬ okS (parseRF (raw ++ x)) := by
  unfold okS parseRF at h ⊢
  by_cases hbig : raw.length > 32768
  · rw [if_pos hbig] at h
    simp [badS] at h
  · rw [if_neg hbig] at h
    by_cases hp : Lib.hasPrefix raw sV9 = true
    · rw [if_pos hp] at h
      by_cases hbig2 : (raw ++ x).length > 32768
      · rw [if_pos hbig2]
        simp [badS]
      · rw [if_neg hbig2]
        have h9 : sV9.length = 9 := rfl
        have hle := Lib.hasPrefix_le hp
        have hp2 : Lib.hasPrefix (raw ++ x) sV9 = true := by
          unfold Lib.hasPrefix at hp ⊢
          rw [prefix_app _ _ _ hle]
          exact hp
        rw [if_pos hp2, List.drop_append_of_le_length (by omega)]
        by_cases hq : 100 ≤ statF (raw.drop 9) ∧ statF (raw.drop 9) ≤ 599 ∧ Lib.hasPrefix (raw.drop 9) (firstS (statF (raw.drop 9))) = true
        · rw [if_pos hq] at h
          have h3 : 3 ≤ (raw.drop 9).length := by
            have h1 := hq.1
            unfold statF at h1
            split at h1
            · rename_i hh
              simp only [Bool.and_eq_true, decide_eq_true_eq] at hh
              exact hh.1
            · omega
          have hst : statF (raw.drop 9 ++ x) = statF (raw.drop 9) := by
            unfold statF
            rw [List.take_append_of_le_length h3, decide_eq_true h3, decide_eq_true (by rw [List.length_append]; omega)]
          have hl2 := Lib.hasPrefix_le hq.2.2
          rw [List.length_drop] at hl2
          rw [hst, if_pos ⟨hq.1, hq.2.1, by
            have h5 := hq.2.2
            unfold Lib.hasPrefix at h5 ⊢
            rw [prefix_app _ _ _ (by rw [List.length_drop]; exact hl2)]
            exact h5⟩]
          unfold tailS at h ⊢
          by_cases he : (parseHeadF raw (9 + (firstS (statF (raw.drop 9))).length)).2.2.2.1 = 0
          · have hne := parseHeadF_app raw x (9 + (firstS (statF (raw.drop 9))).length) (by omega) he hx
            rw [if_neg hne]
            exact hne
          · rw [if_neg he] at h
            exact absurd h he
        · rw [if_neg hq] at h
          simp [badS] at h
    · rw [if_neg hp] at h
      simp [badS] at h
end Go.Proofs.YtmfkgjnlobiobaaGreatDoor.X
namespace Go.Proofs.YtmfkgjnlobiobaaGreatDoor.X
open Go.RowKit Go.Shelf Go.Proofs.YtmfkgjnlobiobaaGreatDoorW.PrintWords
/-! ### a field's line that reads -/
theorem pName_low {c : UInt8} (h : pName c = true) : pName (low c) = true := by
  have e := low_toNat c
  unfold pName at h ⊢
  simp only [decide_eq_true_eq] at h ⊢
  split at e <;> omega
theorem nameB_lows {l : List UInt8} (h : nameB l = true) : nameB (lows l) = true := by
  unfold nameB at h ⊢
  simp only [Bool.and_eq_true, decide_eq_true_eq, List.all_eq_true] at h ⊢
  refine ⟨by unfold lows; rw [List.length_map]; exact h.1, fun c hc => ?_⟩
  obtain ⟨d, hd, rfl⟩ := List.mem_map.1 hc
  exact pName_low (h.2 d hd)
theorem dropWhile_head (p : UInt8 → Bool) : ∀ (l : List UInt8) (c : UInt8), (l.dropWhile p).head? = some c → p c = false
  | [], c, h => by simp at h
  | a :: r, c, h => by
    rw [List.dropWhile_cons] at h
    split at h
    · exact dropWhile_head p r c h
    · rename_i ha
      simp at h
      rw [← h]
      simpa using ha
theorem dropWhile_sub (p : UInt8 → Bool) (l : List UInt8) : ∀ c ∈ l.dropWhile p, c ∈ l := fun _ hc => (List.dropWhile_sublist p).subset hc
/-- A trimmed text: its bytes are the text's; neither end is in the set. -/
theorem trimS_parts (l cs : List UInt8) : (∀ c ∈ Lib.trimS l cs, c ∈ l) ∧ (∀ c, (Lib.trimS l cs).head? = some c → cs.contains c = false) ∧ (∀ c, (Lib.trimS l cs).getLast? = some c → cs.contains c = false) := by
  unfold Lib.trimS Lib.trimLeftS Lib.trimRightS
  refine ⟨fun c hc => ?_, fun c hc => dropWhile_head _ _ c hc, fun c hc => ?_⟩
  · have h1 := dropWhile_sub _ _ c hc
    rw [List.mem_reverse] at h1
    have h2 := dropWhile_sub _ _ c h1
    rwa [List.mem_reverse] at h2
  · have h3 : ((l.reverse.dropWhile (cs.contains ·)).reverse).getLast? = some c := by
      obtain ⟨t, ht⟩ := List.dropWhile_suffix (cs.contains ·) (l := (l.reverse.dropWhile (cs.contains ·)).reverse)
      rw [← ht, List.getLast?_append, hc]
      rfl
    rw [List.getLast?_reverse] at h3
    exact dropWhile_head _ _ c h3
theorem pfF_good {l : List UInt8} (h : (pfF l).2.2 = true) : nameB (pfF l).1 = true ∧ lows (pfF l).1 = (pfF l).1 ∧ valB (pfF l).2.1 = true ∧ (pfF l).1.length + 1 + (pfF l).2.1.length ≤ l.length := by
  unfold pfF at h ⊢
  split at h
  · rename_i hc
    rw [if_pos hc]
    dsimp only at h ⊢
    simp only [Bool.and_eq_true, decide_eq_true_eq, Bool.not_eq_true', List.all_eq_true] at h hc
    obtain ⟨hl, h9⟩ := h
    obtain ⟨hcut, hname, hall⟩ := hc
    obtain ⟨t1, t2, t3⟩ := trimS_parts (Lib.cut l [58]).2.1 [32, 9]
    have tl := trimS_le (Lib.cut l [58]).2.1 [32, 9]
    have hsum : (Lib.cut l [58]).1.length + 1 + (Lib.cut l [58]).2.1.length = l.length := by
      have hr := Lib.index_room l [58]
      unfold Lib.cut at hcut ⊢
      split
      · rename_i h0
        have := hr h0
        have h1 : ([58] : List UInt8).length = 1 := rfl
        rw [h1] at this
        simp only [List.length_take, List.length_drop, h1]
        omega
      · rename_i h0
        rw [if_neg h0] at hcut
        cases hcut
    have no9 : ∀ c ∈ Lib.trimS (Lib.cut l [58]).2.1 [32, 9], c ≠ 9 := by
      intro c hc e
      subst e
      unfold Lib.contains at h9
      have hn := of_decide_eq_false h9
      obtain ⟨a, b, hab⟩ := List.append_of_mem hc
      apply hn
      rcases Lib.index_spec (Lib.trimS (Lib.cut l [58]).2.1 [32, 9]) [9] with ⟨_, hno⟩ | ⟨i, e, _⟩
      · have := hno a.length (by rw [hab]; simp)
        unfold Lib.occAt at this
        rw [hab, List.drop_left' rfl] at this
        simp [List.isPrefixOf] at this
      · omega
    refine ⟨nameB_lows hname, lows_lows _, ?_, ?_⟩
    · unfold valB
      rw [decide_eq_true hl]
      simp only [Bool.true_and, Bool.and_eq_true, Bool.not_eq_true', List.all_eq_true]
      refine ⟨?_, ?_, fun c hc => ?_⟩
      · unfold Lib.hasPrefix
        rw [Bool.eq_false_iff]
        intro hq
        rw [List.isPrefixOf_iff_prefix] at hq
        obtain ⟨t, ht⟩ := hq
        have := t2 32 (by rw [← ht]; rfl)
        revert this; decide
      · unfold Lib.hasSuffix
        rw [Bool.eq_false_iff]
        intro hq
        rw [List.isSuffixOf_iff_suffix] at hq
        obtain ⟨t, ht⟩ := hq
        have := t3 32 (by rw [← ht]; simp)
        revert this; decide
      · have h1 := hall c (t1 c hc)
        have h2 := no9 c hc
        unfold pField at h1
        unfold pVal
        simp only [decide_eq_true_eq] at h1 ⊢
        rcases h1 with h1 | h1
        · exact h1
        · exact absurd (UInt8.toNat_inj.1 (show c.toNat = (9 : UInt8).toNat from h1)) h2
    · unfold lows
      rw [List.length_map]
      omega
  · cases h
/-! ### what the lines add up to -/
def phi (l : List (List UInt8 × List UInt8)) : Nat := (l.flatMap (fun f => lineF f.1 f.2)).length
def clen (n : Nat) : Nat := if n = 0 then 0 else 18 + (Lib.itoa n).length
theorem clF_len (b : List UInt8) : (clF b).length = clen b.length := by
  unfold clF clen
  by_cases h : b = []
  · subst h; rfl
  · have : b.length ≠ 0 := fun e => h (List.length_eq_zero_iff.1 e)
    rw [if_neg h, if_neg this]
    simp only [sCL, List.length_append, List.length_cons, List.length_nil]
    omega
theorem itoa_num (l : List UInt8) (h : l.all pDig = true) (h1 : 1 ≤ l.length) : (Lib.itoa (numF l)).length ≤ l.length := by
  rw [itoa_nat, Lib.decDigits_length]
  have := nd_le (l.length - 1) (numF l) (by have := numF_lt l h; rwa [Nat.sub_add_cancel h1])
  omega
/-- What has been read so far may be printed. -/
structure Fit (s : HS) : Prop where
  ok : ∀ f ∈ s.fields, okF f.1 f.2 = true ∧ lows f.1 = f.1
  many : s.fields.length ≤ 64
  len : s.sized = false → s.length = 0
  small : s.length < 1000000000
theorem phi_app (l : List (List UInt8 × List UInt8)) (f : List UInt8 × List UInt8) : phi (l ++ [f]) = phi l + (lineF f.1 f.2).length := by
  unfold phi
  rw [List.flatMap_append, List.length_append]
  simp
/-- How much longer than what was read: one a field, one for the length. -/
def extra (s : HS) : Nat := s.fields.length + (if s.sized = true then 1 else 0)
def paid (s : HS) : Nat := phi s.fields + clen s.length
theorem stepH_go {s s' : HS} {p : Nat} {line : List UInt8} (hf : Fit s) (h : stepH s (p, line) = .go s') : Fit s' ∧ paid s' + extra s ≤ paid s + line.length + 2 + extra s' ∧ s'.behind = s.behind := by
  unfold stepH at h
  dsimp only at h
  split at h
  · cases h
  · split at h
    · cases h
    · rename_i hok
      have hok' : (pfF line).2.2 = true := by simpa using hok
      obtain ⟨g1, g2, g3, g4⟩ := pfF_good hok'
      split at h
      · cases h
      · rename_i hte
        split at h
        · rename_i hcl
          split at h
          · cases h
          · rename_i hd
            injection h with h
            subst h
            simp only [Bool.or_eq_true, Bool.not_eq_true', not_or, Bool.not_eq_false, Bool.not_eq_true] at hd
            obtain ⟨hsz, hdg⟩ := hd
            unfold digsB at hdg
            simp only [Bool.and_eq_true, decide_eq_true_eq] at hdg
            have hn := numF_lt _ hdg.2.2
            have hp : numF (pfF line).2.1 < 1000000000 := Nat.lt_of_lt_of_le hn (Nat.pow_le_pow_right (by decide) hdg.2.1)
            refine ⟨⟨hf.ok, hf.many, fun h => (by cases h), hp⟩, ?_, rfl⟩
            have hi := itoa_num _ hdg.2.2 hdg.1
            have hl0 := hf.len hsz
            rw [hcl] at g4
            have h14 : sCL.length = 14 := rfl
            have c1 : clen (numF (pfF line).2.1) ≤ 18 + (pfF line).2.1.length := by unfold clen; split <;> omega
            show phi s.fields + clen (numF (pfF line).2.1) + (s.fields.length + (if s.sized = true then 1 else 0)) ≤ phi s.fields + clen s.length + line.length + 2 + (s.fields.length + (if true = true then 1 else 0))
            rw [hsz, hl0, show clen 0 = 0 from rfl, if_neg (by decide), if_pos rfl]
            omega
        · rename_i hcl
          split at h
          · cases h
          · rename_i h64
            injection h with h
            subst h
            have hm := hf.many
            refine ⟨⟨fun f hfm => ?_, by simp only [List.length_append, List.length_cons, List.length_nil]; omega, hf.len, hf.small⟩, ?_, rfl⟩
            · rcases List.mem_append.1 hfm with hfm | hfm
              · exact hf.ok f hfm
              · rw [List.mem_singleton] at hfm
                subst hfm
                refine ⟨?_, g2⟩
                unfold okF
                dsimp only
                rw [g2, g1, g3]
                have e1 : ((pfF line).1 == sCL) = false := beq_eq_false_iff_ne.2 hcl
                have e2 : ((pfF line).1 == sTE) = false := beq_eq_false_iff_ne.2 hte
                rw [e1, e2]
                rfl
            · unfold paid extra
              rw [phi_app]
              dsimp only
              rw [lineF_fl, g2]
              unfold fl
              simp only [List.length_append, List.length_cons, List.length_nil]
              split <;> simp only [List.length_cons, List.length_nil] <;> omega
theorem runH_fit : ∀ (K : Nat) (s s' : HS) (l : List UInt8) (pos : Nat), Fit s → runH s (linesL K l pos) = .stop s' → Fit s' ∧ paid s' + pos + extra s + 2 ≤ paid s + s'.behind + extra s'
  | 0, s, s', l, pos, _, h => by simp [linesL, runH] at h
  | K + 1, s, s', l, pos, hf, h => by
    rw [linesL] at h
    by_cases hi : Lib.index l crlf < 0
    · rw [if_pos hi] at h
      have hb : stepH s (pos, [10]) = .bad 153 pos := by
        unfold stepH
        rw [if_neg (by simp), if_pos pf10]
      simp [runH, hb] at h
    · rw [if_neg hi] at h
      have hroom := Lib.index_room l crlf (by omega)
      have h2 : crlf.length = 2 := rfl
      rw [h2] at hroom
      simp only [runH] at h
      cases hst : stepH s (pos, l.take (Lib.index l crlf).toNat) with
      | go s2 =>
        rw [hst] at h
        obtain ⟨f2, p2, _⟩ := stepH_go hf hst
        obtain ⟨f3, p3⟩ := runH_fit K s2 s' _ _ f2 h
        rw [List.length_take] at p2
        exact ⟨f3, by omega⟩
      | stop s2 =>
        rw [hst] at h
        injection h with h
        subst h
        have hs : s2 = { s with behind := pos + 2 } := by
          unfold stepH at hst
          dsimp only at hst
          split at hst
          · injection hst with hst
            exact hst.symm
          · repeat' split at hst
            all_goals cases hst
        subst hs
        exact ⟨⟨hf.ok, hf.many, hf.len, hf.small⟩, by unfold paid extra; dsimp only; omega⟩
      | bad e a =>
        rw [hst] at h
        cases h
theorem fit_start : Fit .start := ⟨fun f hf => (by cases hf), (by simp [HS.start]), fun _ => rfl, (by simp [HS.start])⟩
/-- What a head that reads holds. -/
theorem parseHeadF_fit (raw : List UInt8) (p : Nat) (h : (parseHeadF raw p).2.2.2.1 = 0) : (∀ f ∈ (parseHeadF raw p).1, okF f.1 f.2 = true ∧ lows f.1 = f.1) ∧ (parseHeadF raw p).1.length ≤ 64 ∧
    (parseHeadF raw p).2.2.1 ≤ raw.length ∧ p + phi (parseHeadF raw p).1 + clen (raw.drop (parseHeadF raw p).2.2.1).length + 2 ≤ (parseHeadF raw p).2.2.1 + 65 ∧ (raw.drop (parseHeadF raw p).2.2.1).length < 1000000000 := by
  obtain ⟨s, hs, he⟩ := parseHeadF_stop raw p h
  rw [he] at h ⊢
  have hok := endH_ok raw s h
  obtain ⟨f, pd⟩ := runH_fit _ _ _ _ _ fit_start hs
  have e : endH raw s = (s.fields, s.length, s.behind, 0, 0) := by unfold endH; rw [if_neg (by omega)]
  rw [e]
  dsimp only
  have hb : (raw.drop s.behind).length = s.length := by rw [List.length_drop]; omega
  rw [hb]
  have e0 : paid .start = 0 := rfl
  have e1 : extra .start = 0 := rfl
  rw [e0, e1] at pd
  have hm := f.many
  have hx : extra s ≤ 65 := by unfold extra; split <;> omega
  refine ⟨f.ok, f.many, by omega, ?_, f.small⟩
  unfold paid at pd
  omega
theorem headF_len (first : List UInt8) (l : List (List UInt8 × List UInt8)) (b : List UInt8) : (headF first l b).length = first.length + 2 + phi l + clen b.length + 2 := by
  unfold headF
  rw [← clF_len]
  simp only [List.length_append, List.length_cons, List.length_nil, phi]
/-- A request that reads may be printed, unless it is too long then. -/
theorem parseF_good (raw : List UInt8) (h : okP (parseF raw)) : ∃ m t l b, parseF raw = (m, t, l, b, 0, 0) ∧ (∀ f ∈ l, okF f.1 f.2 = true ∧ lows f.1 = f.1) ∧ l.length ≤ 64 ∧ b.length < 1000000000 ∧
    ((reqF m t l b = ([], 1) ∧ 30000 < raw.length) ∨ ((reqF m t l b).2 = 0)) := by
  unfold okP parseF at h
  unfold parseF
  by_cases hbig : raw.length > 32768
  · rw [if_pos hbig] at h
    simp [badP] at h
  · rw [if_neg hbig] at h ⊢
    by_cases hc : ((Lib.cut raw [32]).2.2 && methB (Lib.cut raw [32]).1) = true
    · rw [if_pos hc] at h ⊢
      simp only [Bool.and_eq_true] at hc
      have hsum := cut_sum raw hc.1
      generalize Lib.cut raw [32] = c at h hc hsum ⊢
      obtain ⟨m, b, f⟩ := c
      dsimp only at h hc hsum ⊢
      have hn := tw_le pVis b
      unfold targP at h ⊢
      by_cases hnb : (b.takeWhile pVis).length = b.length
      · rw [if_pos hnb] at h
        simp [badP] at h
      · rw [if_neg hnb] at h ⊢
        by_cases hq : b[(b.takeWhile pVis).length]? = some 32 ∧ targB (b.take (b.takeWhile pVis).length) = true
        · rw [if_pos hq] at h ⊢
          by_cases hpre : Lib.hasPrefix (raw.drop (m.length + 1 + (b.takeWhile pVis).length + 1)) sV2 = true
          · rw [if_pos hpre] at h ⊢
            unfold tailP at h ⊢
            by_cases he : (parseHeadF raw (m.length + 1 + (b.takeWhile pVis).length + 1 + 10)).2.2.2.1 = 0
            · rw [if_pos he]
              obtain ⟨q1, q2, q3, q4, q5⟩ := parseHeadF_fit raw _ he
              refine ⟨m, _, _, _, rfl, q1, q2, q5, ?_⟩
              have hall : (parseHeadF raw (m.length + 1 + (b.takeWhile pVis).length + 1 + 10)).1.all (fun f => okF f.1 f.2) = true := List.all_eq_true.2 (fun f hf => (q1 f hf).1)
              unfold reqF restF
              rw [if_neg (by rw [hc.2]; decide), if_neg (by rw [hq.2]; decide), if_neg (by omega), if_neg (by rw [hall]; decide), headF_len]
              have hfl : (m ++ [32] ++ b.take (b.takeWhile pVis).length ++ sVer).length + 2 = m.length + 1 + (b.takeWhile pVis).length + 1 + 10 := by
                simp only [List.length_append, List.length_take, List.length_cons, List.length_nil, sVer]
                omega
              rw [List.length_drop] at q4
              rw [List.length_drop]
              split
              · rename_i hlong
                exact .inl ⟨rfl, by omega⟩
              · exact .inr rfl
            · rw [if_neg he] at h
              exact absurd h he
          · rw [if_neg hpre] at h
            simp [badP] at h
        · rw [if_neg hq] at h
          simp [badP] at h
    · rw [if_neg hc] at h
      simp [badP] at h
end Go.Proofs.YtmfkgjnlobiobaaGreatDoor.X
namespace Go.Proofs.YtmfkgjnlobiobaaGreatDoor.X
open Go.RowKit Go.Shelf Go.Proofs.YtmfkgjnlobiobaaGreatDoorW.PrintWords
theorem parseRF_good (raw : List UInt8) (h : okS (parseRF raw)) : ∃ (n : Nat) (l : List (List UInt8 × List UInt8)) (b : List UInt8), parseRF raw = (n, l, b, 0, 0) ∧ (∀ f ∈ l, okF f.1 f.2 = true ∧ lows f.1 = f.1) ∧ l.length ≤ 64 ∧ b.length < 1000000000 ∧
    ((respF n l b = ([], 1) ∧ 30000 < raw.length) ∨ ((respF n l b).2 = 0)) := by
  unfold okS parseRF at h
  unfold parseRF
  by_cases hbig : raw.length > 32768
  · rw [if_pos hbig] at h
    simp [badS] at h
  · rw [if_neg hbig] at h ⊢
    by_cases hp : Lib.hasPrefix raw sV9 = true
    · rw [if_pos hp] at h ⊢
      by_cases hq : 100 ≤ statF (raw.drop 9) ∧ statF (raw.drop 9) ≤ 599 ∧ Lib.hasPrefix (raw.drop 9) (firstS (statF (raw.drop 9))) = true
      · rw [if_pos hq] at h ⊢
        unfold tailS at h ⊢
        by_cases he : (parseHeadF raw (9 + (firstS (statF (raw.drop 9))).length)).2.2.2.1 = 0
        · rw [if_pos he]
          obtain ⟨q1, q2, q3, q4, q5⟩ := parseHeadF_fit raw _ he
          refine ⟨statF (raw.drop 9), _, _, rfl, q1, q2, q5, ?_⟩
          have hall : (parseHeadF raw (9 + (firstS (statF (raw.drop 9))).length)).1.all (fun f => okF f.1 f.2) = true := List.all_eq_true.2 (fun f hf => (q1 f hf).1)
          have h1 := hq.1
          have h2 := hq.2.1
          unfold respF restF
          rw [if_neg (by omega), if_neg (by omega), if_neg (by rw [hall]; decide), headF_len, Int.toNat_natCast]
          have hfl : (lineR (statF (raw.drop 9))).length + 2 = 9 + (firstS (statF (raw.drop 9))).length := by
            unfold lineR firstS sV9
            simp only [List.length_append, List.length_cons, List.length_nil]
            omega
          rw [List.length_drop] at q4
          rw [List.length_drop]
          split
          · rename_i hlong
            exact .inl ⟨rfl, by omega⟩
          · exact .inr rfl
        · rw [if_neg he] at h
          exact absurd h he
      · rw [if_neg hq] at h
        simp [badS] at h
    · rw [if_neg hp] at h
      simp [badS] at h
end Go.Proofs.YtmfkgjnlobiobaaGreatDoor.X
namespace Go.Proofs.YtmfkgjnlobiobaaGreatDoor.X
open Go.RowKit Go.Shelf Go.Proofs.YtmfkgjnlobiobaaGreatDoorW.PrintWords
/-! ### trim -/
def pBl (c : UInt8) : Bool := ([32, 9] : List UInt8).contains c
def rstrip (l : List UInt8) : List UInt8 := (l.reverse.dropWhile pBl).reverse
theorem rstrip_cons (a : UInt8) (r : List UInt8) : rstrip (a :: r) = if rstrip r = [] ∧ pBl a = true then [] else a :: rstrip r := by
  unfold rstrip
  rw [List.reverse_cons, List.dropWhile_append]
  cases h : r.reverse.dropWhile pBl with
  | nil =>
    cases ha : pBl a with
    | true => simp [ha]
    | false => simp [ha]
  | cons x y => simp
theorem strip_comm : ∀ l : List UInt8, rstrip (l.dropWhile pBl) = (rstrip l).dropWhile pBl
  | [] => rfl
  | a :: r => by
    have ih := strip_comm r
    rw [rstrip_cons, List.dropWhile_cons]
    cases ha : pBl a with
    | true =>
      rw [if_pos rfl, ih]
      by_cases h : rstrip r = []
      · rw [if_pos ⟨h, rfl⟩, h]
      · rw [if_neg (fun e => h e.1), List.dropWhile_cons, ha, if_pos rfl]
    | false =>
      rw [if_neg (by decide), if_neg (fun e => by cases e.2), List.dropWhile_cons, ha, if_neg (by decide), rstrip_cons, ha, if_neg (fun e => by cases e.2)]
theorem trimS_is (l : List UInt8) : Lib.trimS l [32, 9] = rstrip (l.dropWhile pBl) := (strip_comm l).symm
theorem bt_bs (l : List UInt8) (n : Nat) (h : n < l.length) : bt (bs l) (n : Int) = ((l[n]).toNat : Int) := by
  obtain ⟨c, hc, hb⟩ := bt_nat (bs l) n (by rw [bs_size]; exact h)
  rw [data_bs, List.getElem?_eq_getElem h] at hc
  rw [hb, Option.some.inj hc]
theorem pBl_is (c : UInt8) : pBl c = true ↔ (c.toNat : Int) = 32 ∨ (c.toNat : Int) = 9 := by
  unfold pBl
  rw [List.contains_iff_mem]
  simp only [List.mem_cons, List.not_mem_nil, or_false]
  constructor
  · rintro (rfl | rfl)
    · exact .inl rfl
    · exact .inr rfl
  · rintro (h | h)
    · exact .inl (UInt8.toNat_inj.1 (by have : (32 : UInt8).toNat = 32 := rfl; omega))
    · exact .inr (UInt8.toNat_inj.1 (by have : (9 : UInt8).toNat = 9 := rfl; omega))
theorem ext_bs (l : List UInt8) (i j : Nat) : (bs l).extract i j = bs ((l.drop i).take (j - i)) := by rw [extract_bs, data_bs]
theorem rtrim_l1 : ∀ (n k : Nat) (l : List UInt8), l.length = n → n ≤ 140737488351232 → n < k → wicketref15_trim.l1 k (bs l) = some (bs (rstrip l))
  | _, 0, _, _, _, hk => absurd hk (Nat.not_lt_zero _)
  | 0, k + 1, l, hl, _, _ => by
    obtain rfl := List.length_eq_zero_iff.1 hl
    rw [wicketref15_trim.l1, if_pos (toList_bs [])]
    rfl
  | n + 1, k + 1, l, hl, hn, hk => by
    have hne : l ≠ [] := by intro e; rw [e] at hl; cases hl
    obtain ⟨r, c, rfl⟩ : ∃ r c, l = r ++ [c] := ⟨_, _, (List.dropLast_concat_getLast hne).symm⟩
    have hr : r.length = n := by simpa using hl
    have hg : (r ++ [c])[n]'(by rw [hl]; omega) = c := by simp [hr]
    have hb := bt_bs (r ++ [c]) n (by rw [hl]; omega)
    rw [hg] at hb
    have hsz : ((bs (r ++ [c])).size : Int) = n + 1 := by rw [bs_size, hl]; rfl
    have he : (bs (r ++ [c])).extract 0 (((n : Int)).toNat) = bs r := by
      rw [ext_bs, Int.toNat_natCast, List.drop_zero, Nat.sub_zero, ← hr, List.take_left' rfl]
    have ih := rtrim_l1 n k r hr (by omega) (by omega)
    have hrs : rstrip (r ++ [c]) = if pBl c = true then rstrip r else r ++ [c] := by
      unfold rstrip
      rw [List.reverse_append]
      show (List.dropWhile pBl (c :: r.reverse)).reverse = _
      rw [List.dropWhile_cons]
      cases pBl c with
      | true => rfl
      | false => simp
    rw [wicketref15_trim.l1, if_neg (by rw [toList_bs]; exact hne), hsz, wr _ (by omega), show (n : Int) + 1 - 1 = n by omega, if_pos (by omega), if_pos (by omega), hb, hrs]
    by_cases h1 : (c.toNat : Int) = 32
    · rw [if_pos h1, if_pos (by omega), he, ih, if_pos ((pBl_is c).2 (.inl h1))]
    · rw [if_neg h1]
      by_cases h2 : (c.toNat : Int) = 9
      · rw [if_pos h2, if_pos (by omega), he, ih, if_pos ((pBl_is c).2 (.inr h2))]
      · rw [if_neg h2, if_neg (fun h => by rcases (pBl_is c).1 h with h | h <;> contradiction)]
theorem rtrim_l0 : ∀ (l : List UInt8) (k : Nat), l.length ≤ 140737488351232 → 2 * l.length + 2 < k → wicketref15_trim.l0 k (bs l) = some (bs (rstrip (l.dropWhile pBl)))
  | _, 0, _, hk => absurd hk (Nat.not_lt_zero _)
  | [], k + 1, _, hk => by
    rw [wicketref15_trim.l0, if_pos (toList_bs [])]
    obtain ⟨k, rfl⟩ : ∃ m, k = m + 1 := ⟨k - 1, by omega⟩
    rw [wicketref15_trim.j1, rtrim_l1 0 k [] rfl (by omega) (by have : ([] : List UInt8).length = 0 := rfl; omega)]
    rfl
  | c :: r, k + 1, hn, hk => by
    rw [List.length_cons] at hn hk
    have hb := bt_bs (c :: r) 0 (by simp)
    rw [show ((0 : Nat) : Int) = 0 from rfl, List.getElem_cons_zero] at hb
    have hsz : (bs (c :: r)).size = r.length + 1 := by rw [bs_size, List.length_cons]
    have he : (bs (c :: r)).extract 1 (bs (c :: r)).size = bs r := by
      rw [ext_bs, hsz, List.drop_succ_cons, List.drop_zero, List.take_of_length_le (by omega)]
    have ih := rtrim_l0 r k (by omega) (by omega)
    rw [wicketref15_trim.l0, if_neg (by rw [toList_bs]; exact fun e => by cases e), if_pos (by omega), hb, List.dropWhile_cons]
    by_cases h1 : (c.toNat : Int) = 32
    · rw [if_pos h1, if_pos (by omega), he, ih, if_pos ((pBl_is c).2 (.inl h1))]
    · rw [if_neg h1]
      by_cases h2 : (c.toNat : Int) = 9
      · rw [if_pos h2, if_pos (by omega), he, ih, if_pos ((pBl_is c).2 (.inr h2))]
      · rw [if_neg h2, if_neg (fun h => by rcases (pBl_is c).1 h with h | h <;> contradiction)]
        obtain ⟨k, rfl⟩ : ∃ m, k = m + 1 := ⟨k - 1, by omega⟩
        rw [wicketref15_trim.j1, rtrim_l1 (r.length + 1) k (c :: r) (List.length_cons ..) (by omega) (by omega)]
theorem rtrim_f (k : Nat) (a : ByteArray) (ha : a.size ≤ 140737488351232) (hk : 2 * a.size + 2 < k) : wicketref15_trim.f k a = some (bs (Lib.trimS a.data.toList [32, 9])) := by
  have h := rtrim_l0 a.data.toList k (by rw [size_data]; exact ha) (by rw [size_data]; exact hk)
  rw [bs_eq] at h
  rw [trimS_is]
  exact h
/-! ### length -/
theorem rlength_l0 (a : ByteArray) (ha : a.size ≤ 9) : ∀ (d k i acc : Nat), i + d = a.size → d < k → acc < 10 ^ i → wicketref15_length.l0 k a (acc : Int) (i : Int) = some (if (a.data.toList.drop i).all pDig = true then (((a.data.toList.drop i).foldl (fun a b => a * 10 + (b.toNat - 48)) acc : Nat) : Int) else -1)
  | _, 0, _, _, _, hk, _ => absurd hk (Nat.not_lt_zero _)
  | 0, k + 1, i, acc, hi, _, _ => by
    rw [wicketref15_length.l0, if_neg (by omega), List.drop_of_length_le (by rw [size_data]; omega)]
    rfl
  | d + 1, k + 1, i, acc, hi, hk, hacc => by
    obtain ⟨c, hc, hb⟩ := bt_nat a i (by omega)
    have hd : a.data.toList.drop i = c :: a.data.toList.drop (i + 1) := by
      obtain ⟨h1, h2⟩ := List.getElem?_eq_some_iff.1 hc
      rw [List.drop_eq_getElem_cons h1, h2]
    have hlt := c.toNat_lt
    have hpow : acc < 10 ^ 9 := Nat.lt_of_lt_of_le hacc (Nat.pow_le_pow_right (by omega) (by omega))
    rw [wicketref15_length.l0, if_pos (by omega), if_pos (by omega), hb, hd, List.all_cons, List.foldl_cons]
    by_cases hp : pDig c = true
    · have hp' := pDig_is c hp
      have ih := rlength_l0 a ha d k (i + 1) (acc * 10 + (c.toNat - 48)) (by omega) (by omega) (by rw [Nat.pow_succ]; omega)
      rw [if_neg (by omega), if_neg (by omega), hp, Bool.true_and, wr ((acc : Int) * 10) (by omega), wr _ (by omega), wr _ (by omega)]
      rw [show (acc : Int) * 10 + ((c.toNat : Int) - 48) % 256 = ((acc * 10 + (c.toNat - 48) : Nat) : Int) by omega]
      exact ih
    · have hp' : ¬ (48 ≤ c.toNat ∧ c.toNat ≤ 57) := by
        unfold pDig at hp
        rwa [decide_eq_true_eq] at hp
      rw [Bool.eq_false_iff.2 hp, Bool.false_and, if_neg (by decide : ¬ (false = true))]
      split
      · rfl
      · rw [if_pos (by omega)]
theorem rlength_f (k : Nat) (a : ByteArray) (hk : 11 < k) : wicketref15_length.f k a = some (if digsB a.data.toList = true then (numF a.data.toList : Int) else -1) := by
  obtain ⟨k, rfl⟩ : ∃ m, k = m + 1 := ⟨k - 1, by omega⟩
  unfold wicketref15_length.f digsB
  rw [size_data]
  by_cases h1 : a.size < 1
  · rw [if_pos (by omega), wicketref15_length.j0, if_pos rfl, decide_eq_false (by omega : ¬ 1 ≤ a.size), Bool.false_and]
    rfl
  · rw [if_neg (by omega), wicketref15_length.j0, decide_eq_true (by omega : 1 ≤ a.size), Bool.true_and]
    by_cases h9 : a.size > 9
    · rw [decide_eq_true (by omega : (a.size : Int) > 9), if_pos rfl, decide_eq_false (by omega : ¬ a.size ≤ 9), Bool.false_and]
      rfl
    · rw [decide_eq_false (by omega : ¬ (a.size : Int) > 9), if_neg (by decide), decide_eq_true (by omega : a.size ≤ 9), Bool.true_and]
      exact rlength_l0 a (by omega) a.size k 0 0 (by omega) (by omega) (by decide)
/-! ### cut -/
def rcutF (l : List UInt8) : List UInt8 × List UInt8 × Bool :=
  if ((Lib.cut l [58]).2.2 && nameB (Lib.cut l [58]).1) = true then (lows (Lib.cut l [58]).1, Lib.trimS (Lib.cut l [58]).2.1 [32, 9], valB (Lib.trimS (Lib.cut l [58]).2.1 [32, 9])) else ([], [], false)
theorem index_none (y : UInt8) : ∀ a : List UInt8, (∀ c ∈ a, c ≠ y) → Lib.index a [y] = -1
  | [], _ => by simp [Lib.index]
  | c :: r, h => by
    have ih := index_none y r (fun x hx => h x (List.mem_cons_of_mem _ hx))
    have hc : c ≠ y := h c List.mem_cons_self
    rw [Lib.index, ih]
    have hp : ([y] : List UInt8).isPrefixOf (c :: r) = false := by simp [List.isPrefixOf, Ne.symm hc]
    rw [hp]
    rfl
theorem cut_none (y : UInt8) (a : List UInt8) (h : ∀ c ∈ a, c ≠ y) : (Lib.cut a [y]).2.2 = false := by
  unfold Lib.cut
  rw [index_none y a h, if_neg (by omega)]
def pNC (c : UInt8) : Bool := decide (c.toNat ≠ 58)
theorem rcut_l0 (a : ByteArray) (ha : a.size ≤ 140737488351232) (K : Nat) (d : Nat) : ∀ (M i : Nat), M = K + d + 1 → i + d = (a.data.toList.takeWhile pNC).length → wicketref15_cut.l0 M a (i : Int) = wicketref15_cut.j1 K a ((a.data.toList.takeWhile pNC).length : Int) := by
  induction d with
  | zero =>
    intro M i hM hi
    subst hM
    have hle := tw_le pNC a.data.toList
    rw [size_data] at hle
    rw [wicketref15_cut.l0]
    by_cases h : i < a.size
    · obtain ⟨c, hc, hb⟩ := bt_nat a i h
      have hn := tw_out (p := pNC) a.data.toList c (by rw [← hi]; exact hc)
      unfold pNC at hn
      rw [decide_eq_false_iff_not] at hn
      rw [if_pos (by omega), if_pos (by omega), hb, if_pos (by omega)]
      rw [show (i : Int) = ((a.data.toList.takeWhile pNC).length : Int) by omega]
    · rw [if_neg (by omega), show (i : Int) = ((a.data.toList.takeWhile pNC).length : Int) by omega]
  | succ d ih =>
    intro M i hM hi
    subst hM
    have hle := tw_le pNC a.data.toList
    rw [size_data] at hle
    obtain ⟨c, hc, hb⟩ := bt_nat a i (by omega)
    have hn := tw_in (p := pNC) a.data.toList i c (by omega) hc
    unfold pNC at hn
    rw [decide_eq_true_eq] at hn
    show wicketref15_cut.l0 (K + d + 1 + 1) a (i : Int) = _
    rw [wicketref15_cut.l0, if_pos (by omega), if_pos (by omega), hb, if_neg (by omega), wr _ (by omega)]
    exact ih (K + d + 1) (i + 1) rfl (by omega)
theorem rcut_f (k : Nat) (a : ByteArray) (ha : a.size ≤ 140737488351232) (hk : 3 * a.size + 20 < k) : wicketref15_cut.f k a = some (bs (rcutF a.data.toList).1, bs (rcutF a.data.toList).2.1, (rcutF a.data.toList).2.2) := by
  have hsz := size_data a
  have hle := tw_le pNC a.data.toList
  rw [hsz] at hle
  obtain ⟨K, hK⟩ : ∃ K, k = K + 1 + 1 + (a.data.toList.takeWhile pNC).length + 1 := ⟨k - (a.data.toList.takeWhile pNC).length - 3, by omega⟩
  unfold wicketref15_cut.f
  rw [show (0 : Int) = ((0 : Nat) : Int) from rfl, rcut_l0 a ha (K + 1 + 1) _ k 0 hK (by omega), wicketref15_cut.j1]
  have hnc : ∀ c ∈ a.data.toList.takeWhile pNC, c ≠ 58 := by
    intro c hc e
    have := List.all_eq_true.1 List.all_takeWhile c hc
    unfold pNC at this
    rw [decide_eq_true_eq, e] at this
    exact this rfl
  by_cases h : (a.data.toList.takeWhile pNC).length = a.size
  · have hall : a.data.toList.takeWhile pNC = a.data.toList := by
      have := (List.takeWhile_prefix pNC (l := a.data.toList)).eq_of_length (by omega)
      exact this
    rw [if_pos (by omega), wicketref15_cut.j2, if_pos rfl]
    have hc := cut_none 58 a.data.toList (by rw [← hall]; exact hnc)
    unfold rcutF
    rw [hc, Bool.false_and, if_neg (by decide)]
    rfl
  · obtain ⟨n, hn⟩ : ∃ n, n = (a.data.toList.takeWhile pNC).length := ⟨_, rfl⟩
    rw [← hn] at h hle ⊢
    have htk : a.data.toList.take n = a.data.toList.takeWhile pNC := by
      rw [hn]
      exact (List.prefix_iff_eq_take.1 (List.takeWhile_prefix pNC)).symm
    obtain ⟨c, hc, hb⟩ := bt_nat a n (by omega)
    have hc58 : c = 58 := by
      have hno := tw_out (p := pNC) a.data.toList c (by rw [← hn]; exact hc)
      unfold pNC at hno
      rw [decide_eq_false_iff_not] at hno
      exact UInt8.toNat_inj.1 (by have : (58 : UInt8).toNat = 58 := rfl; omega)
    have hsplit : a.data.toList = a.data.toList.take n ++ 58 :: a.data.toList.drop (n + 1) := by
      obtain ⟨h1, h2⟩ := List.getElem?_eq_some_iff.1 hc
      rw [← hc58, ← h2, ← List.drop_eq_getElem_cons h1, List.take_append_drop]
    have hcut : Lib.cut a.data.toList [58] = (a.data.toList.take n, a.data.toList.drop (n + 1), true) := by
      conv => lhs; rw [hsplit]
      exact cut_byte 58 _ _ (by rw [htk]; exact hnc)
    have he1 : a.extract 0 (n : Int).toNat = bs (a.data.toList.take n) := by rw [extract_bs, Int.toNat_natCast, List.drop_zero, Nat.sub_zero]
    have he2 : a.extract ((n : Int) + 1).toNat a.size = bs (a.data.toList.drop (n + 1)) := by
      rw [extract_bs, show ((n : Int) + 1).toNat = n + 1 by omega, List.take_of_length_le (by rw [List.length_drop]; omega)]
    rw [if_neg (by omega), if_pos (by omega), if_pos (by omega), he1, rname_f _ _ (by rw [bs_size, List.length_take]; omega) (by rw [bs_size, List.length_take]; omega), data_bs]
    simp only [Option.bind_some]
    unfold rcutF
    rw [hcut]
    dsimp only
    rw [Bool.true_and]
    cases hnm : nameB (a.data.toList.take n) with
    | false =>
      rw [wicketref15_cut.j2, if_pos (show (!false) = true from rfl), if_neg (by decide)]
      rfl
    | true =>
      have hb1 : (bs (Lib.trimS (a.data.toList.drop (n + 1)) [32, 9])).size ≤ a.size := by
        rw [bs_size]
        have := trimS_le (a.data.toList.drop (n + 1)) [32, 9]
        rw [List.length_drop] at this
        omega
      rw [wicketref15_cut.j2, if_neg (by decide), wr _ (by omega), if_pos (by omega), if_pos (by omega), he2, rtrim_f _ _ (by rw [bs_size, List.length_drop]; omega) (by rw [bs_size, List.length_drop]; omega), data_bs]
      simp only [Option.bind_some]
      rw [if_pos (by omega), if_pos (by omega), he1]
      unfold wicketref15_Small.f
      rw [if_pos (by rw [bs_size, List.length_take]; omega)]
      simp only [Option.bind_some]
      rw [rvalue_f _ _ (by omega) (by omega), data_bs, data_bs, if_pos trivial]
      rfl
theorem mem_drop (p : UInt8 → Bool) : ∀ (l : List UInt8) (c : UInt8), c ∈ l → c ∈ l.dropWhile p ∨ p c = true
  | [], c, h => by cases h
  | a :: r, c, h => by
    rw [List.dropWhile_cons]
    split
    · rename_i ha
      rcases List.mem_cons.1 h with rfl | h
      · exact .inr ha
      · exact mem_drop p r c h
    · exact .inl h
theorem mem_trim (l : List UInt8) (c : UInt8) (h : c ∈ l) : c ∈ Lib.trimS l [32, 9] ∨ pBl c = true := by
  rw [trimS_is]
  rcases mem_drop pBl l c h with h | h
  · unfold rstrip
    rcases mem_drop pBl (l.dropWhile pBl).reverse c (List.mem_reverse.2 h) with h | h
    · exact .inl (List.mem_reverse.2 h)
    · exact .inr h
  · exact .inr h
/-- The two readings of a line are one. -/
theorem cut_same (l : List UInt8) : (rcutF l).2.2 = (pfF l).2.2 ∧ ((pfF l).2.2 = true → rcutF l = pfF l) := by
  cases hp : (pfF l).2.2 with
  | true =>
    obtain ⟨g1, g2, g3, g4⟩ := pfF_good hp
    have hp' := hp
    unfold pfF at hp' g3
    split at hp'
    · rename_i hc
      rw [if_pos hc] at g3
      dsimp only at g3
      simp only [Bool.and_eq_true] at hc
      have e : rcutF l = pfF l := by
        unfold rcutF
        rw [if_pos (by rw [hc.1, hc.2.1]; rfl), g3, ← hp]
        unfold pfF
        rw [if_pos (by rw [hc.1, hc.2.1, hc.2.2]; rfl)]
      exact ⟨by rw [e, hp], fun _ => e⟩
    · cases hp'
  | false =>
    refine ⟨?_, fun h => by cases h⟩
    rw [Bool.eq_false_iff]
    intro hr
    unfold rcutF at hr
    split at hr
    · rename_i hc
      simp only [Bool.and_eq_true] at hc
      dsimp only at hr
      obtain ⟨v1, v2, v3, v4⟩ := (valB_iff _).1 hr
      have hall : (Lib.cut l [58]).2.1.all pField = true := by
        rw [List.all_eq_true]
        intro c hc'
        rcases mem_trim _ c hc' with h | h
        · exact pVal_pField (List.all_eq_true.1 v2 c h)
        · rcases (pBl_is c).1 h with h | h
          · unfold pField; rw [decide_eq_true_eq]; omega
          · unfold pField; rw [decide_eq_true_eq]; omega
      unfold pfF at hp
      rw [if_pos (by rw [hc.1, hc.2, hall]; rfl)] at hp
      dsimp only at hp
      rw [decide_eq_true v1, contains9 _ (List.all_eq_true.1 v2)] at hp
      cases hp
    · cases hr
end Go.Proofs.YtmfkgjnlobiobaaGreatDoor.X
namespace Go.Proofs.YtmfkgjnlobiobaaGreatDoor.X
open Go.RowKit Go.Shelf Go.Proofs.YtmfkgjnlobiobaaGreatDoorW.PrintWords
structure PW (w : World) (l : List (List UInt8 × List UInt8)) (len at_ : Int) (W : World) : Prop where
  below : Below w.heap.size w W
  b0 : ∃ v, W.heap[w.heap.size]? = some (.cells #[v, .int .i64 len, .int .i64 at_] 98 (0, 0)) ∧ W.ownsRow w.heap.size 84 2 v l.length (cellsP l)
theorem PW.below_step {w W W' : World} {l : List (List UInt8 × List UInt8)} {len at_ : Int} (h : PW w l len at_ W) (hb : Below W.heap.size W W') : PW w l len at_ W' := by
  obtain ⟨v, h0, hv⟩ := h.b0
  exact ⟨h.below.trans (hb.mono h.below.size), v, cells_below hb _ _ _ _ h0, own_cells hv (cells_below hb)⟩
theorem PW.set {w W : World} {l : List (List UInt8 × List UInt8)} {len at_ : Int} (h : PW w l len at_ W) (k : Nat) (u : Value) (len' at' : Int)
    (hc : ∀ v, (#[v, .int .i64 len, .int .i64 at_] : Array Value).setIfInBounds k u = #[v, .int .i64 len', .int .i64 at']) : PW w l len' at' (W.setCell ⟨w.heap.size, k, none⟩ u) := by
  obtain ⟨v, h0, hv⟩ := h.b0
  exact ⟨h.below.setCell (Nat.le_refl _) _, v, by rw [blk_set _ _ h0, hc], own_set hv h0 (by decide) _ _⟩
theorem ref_far {w W W2 : World} {v : Value} {n : Nat} {xs : List Value} (hv : W.ownsRow w.heap.size 84 2 v n xs) (hg : W.grownBy W2 v.ownBlock) {k : Nat} {c : Array Value} {t : TypeId} (hk : W.heap[k]? = some (.cells c t (0, 0))) (ht : t ≠ 84) : W2.heap[k]? = some (.cells c t (0, 0)) := by
  refine (hg.block k (lt_of_block hk) ?_).trans hk
  intro e
  obtain ⟨cells, hc⟩ := own_typed hv k e.symm
  rw [hk] at hc
  injection hc with hc
  injection hc with _ hc
  exact ht hc
theorem info_field : ∃ i0, Tryz.prog.info? 84 = some i0 ∧ i0.zero = some (.agg #[.string ⟨#[]⟩, .string ⟨#[]⟩]) ∧ i0.size = 2 ∧ i0.bytes = 32 := by
  have h : (Tryz.prog.info? 84).map (fun i => (i.zero, i.size, i.bytes)) = some (some (.agg #[(.string ⟨#[]⟩), (.string ⟨#[]⟩)]), 2, 32) := by kernel_rfl
  obtain ⟨i, hi, he⟩ := Option.map_eq_some_iff.1 h
  simp only [Prod.mk.injEq] at he
  exact ⟨i, hi, he.1, he.2.1, he.2.2⟩
def lineP (l : List (List UInt8 × List UInt8)) (len : Int) (s : List UInt8) : List (List UInt8 × List UInt8) × Int × Int :=
  if (rcutF s).2.2 = false then (l, len, 153)
  else if (rcutF s).1 = sTE then (l, len, 154)
  else if (rcutF s).1 = sCL then
    (if digsB (rcutF s).2.1 = false ∨ 0 ≤ len then (l, len, 154) else (l, (numF (rcutF s).2.1 : Int), 0))
  else if l.length = 64 then (l, len, 32)
  else (l ++ [((rcutF s).1, (rcutF s).2.1)], len, 0)
set_option maxHeartbeats 4000000 in
set_option maxRecDepth 100000 in
theorem line_calls (w W : World) (l : List (List UInt8 × List UInt8)) (len at_ : Int) (h : PW w l len at_ W) (hN : w.heap.size < W.heap.size) (hl : l.length ≤ 64) (s : ByteArray) (hs : s.size ≤ 32768) :
    Calls Tryz.prog 63 #[.pointer (some ⟨w.heap.size, 0, none⟩), .string s] W fun e W' => e = .returned (.int .i64 (lineP l len s.data.toList).2.2) ∧ PW w (lineP l len s.data.toList).1 (lineP l len s.data.toList).2.1 at_ W' ∧ Below w.heap.size W W' := by
  have hc := rcut_f 200000 s (by omega) (by omega)
  have HPW := Aside0.mk h
  clear h
  obtain ⟨p, hp⟩ : ∃ p, p = rcutF s.data.toList := ⟨_, rfl⟩
  rw [← hp] at hc
  have hle : p.2.1.length ≤ 32768 := by
    rw [hp]
    unfold rcutF
    split
    · have h1 := trimS_le (Lib.cut s.data.toList [58]).2.1 [32, 9]
      have h2 := (cut_le s.data.toList [58]).2
      rw [size_data] at h2
      show (Lib.trimS (Lib.cut s.data.toList [58]).2.1 [32, 9]).length ≤ 32768
      omega
    · show 0 ≤ 32768
      omega
  obtain ⟨nm, vl, ok⟩ := p
  dsimp only at hc hle
  obtain ⟨nb, hnb⟩ : ∃ nb, nb = bs nm := ⟨_, rfl⟩
  obtain ⟨vb, hvb⟩ : ∃ vb, vb = bs vl := ⟨_, rfl⟩
  rw [← hnb, ← hvb] at hc
  have HC := Aside0.mk hc
  have HN := Aside0.mk hnb
  have HV := Aside0.mk hvb
  have HP := Aside0.mk hp
  clear hc hnb hvb hp
  cases ok with
  | false =>
    have HR := Aside0.mk (show lineP l len s.data.toList = (l, len, 153) by unfold lineP; rw [← HP.out, if_pos rfl])
    go_enter Tryz.func63, Tryz.ntmps63
    go_wp2_with (go_at_call 87; (with_reducible refine (wicketref15_cut.calls 200000 _ _ _ _ _ HC.out).mono ?_); rintro e W1 ⟨rfl, hb1⟩; have HB1 := Aside0.mk hb1; clear hb1)
    go_ret
    rw [HR.out]
    exact ⟨rfl, HPW.out.below_step HB1.out, HB1.out.mono (Nat.le_of_lt hN)⟩
  | true =>
    cases hv3 : (nb.toList == [116, 114, 97, 110, 115, 102, 101, 114, 45, 101, 110, 99, 111, 100, 105, 110, 103]) with
    | true =>
      have HR := Aside0.mk (show lineP l len s.data.toList = (l, len, 154) by
        unfold lineP
        rw [← HP.out, if_neg (fun h => by cases h), if_pos]
        rw [HN.out, toList_bs] at hv3
        exact eq_of_beq hv3)
      go_enter Tryz.func63, Tryz.ntmps63
      go_wp2_with (go_at_call 87; (with_reducible refine (wicketref15_cut.calls 200000 _ _ _ _ _ HC.out).mono ?_); rintro e W1 ⟨rfl, hb1⟩; have HB1 := Aside0.mk hb1; clear hb1)
      go_ret
      rw [HR.out]
      exact ⟨rfl, HPW.out.below_step HB1.out, HB1.out.mono (Nat.le_of_lt hN)⟩
    | false =>
      have HK3 := Aside0.mk (show ¬ nm = sTE by
        rw [HN.out, toList_bs] at hv3
        exact fun h => by rw [show nm = sTE from h] at hv3; revert hv3; decide)
      obtain ⟨v, h0, hv⟩ := HPW.out.b0
      have C0 := Aside0.mk h0
      have HO := Aside0.mk hv
      clear h0 hv
      cases hv4 : (nb.toList == [99, 111, 110, 116, 101, 110, 116, 45, 108, 101, 110, 103, 116, 104]) with
      | true =>
        have HK4 := Aside0.mk (show nm = sCL by
          rw [HN.out, toList_bs] at hv4
          exact eq_of_beq hv4)
        have HS := Aside0.mk (show lineP l len s.data.toList = if digsB vl = false ∨ 0 ≤ len then (l, len, 154) else (l, (numF vl : Int), 0) by
          unfold lineP
          rw [← HP.out, if_neg (fun h => by cases h), if_neg HK3.out, if_pos HK4.out])
        have HL := Aside0.mk (show wicketref15_length.f 12 vb = some (if digsB vl = true then (numF vl : Int) else -1) by rw [rlength_f 12 vb (by omega), HV.out, data_bs])
        cases hd : digsB vl with
        | false =>
          rw [hd, if_neg (by decide)] at HL
          have HR := Aside0.mk (show lineP l len s.data.toList = (l, len, 154) by rw [HS.out, if_pos (.inl hd)])
          go_enter Tryz.func63, Tryz.ntmps63
          go_wp2_with (first | (go_at_call 87; (with_reducible refine (wicketref15_cut.calls 200000 _ _ _ _ _ HC.out).mono ?_); rintro e W1 ⟨rfl, hb1⟩; have HB1 := Aside0.mk hb1; clear hb1) | (go_at_call 56; (with_reducible refine (wicketref15_length.calls 12 _ _ _ HL.out).mono ?_); rintro e W2 ⟨rfl, ⟨n2, rfl⟩⟩))
          go_ret
          rw [HR.out]
          exact ⟨rfl, (HPW.out.below_step HB1.out).below_step (below_drewN (Below.refl _ _) n2), below_drewN (HB1.out.mono (Nat.le_of_lt hN)) n2⟩
        | true =>
          rw [hd, if_pos rfl] at HL
          obtain ⟨n, hn⟩ : ∃ n : Int, n = (numF vl : Int) := ⟨_, rfl⟩
          rw [← hn] at HL
          have hn0 : ¬ (n < 0) := by omega
          have hn1 : decide (n < 0) = false := decide_eq_false hn0
          by_cases hlen : 0 ≤ len
          · have HR := Aside0.mk (show lineP l len s.data.toList = (l, len, 154) by rw [HS.out, if_pos (.inr hlen)])
            have hlen1 : decide (0 ≤ len) = true := decide_eq_true hlen
            go_enter Tryz.func63, Tryz.ntmps63
            go_wp2_with (first | (go_at_call 87; (with_reducible refine (wicketref15_cut.calls 200000 _ _ _ _ _ HC.out).mono ?_); rintro e W1 ⟨rfl, hb1⟩; have HB1 := Aside0.mk hb1; clear hb1; have c0 := cells_below HB1.out _ _ _ _ C0.out; have d0 := blk_cell c0 0; have d1 := blk_cell c0 1; have d2 := blk_cell c0 2; dsimp at d0 d1 d2; clear c0) | (go_at_call 56; (with_reducible refine (wicketref15_length.calls 12 _ _ _ HL.out).mono ?_); rintro e W2 ⟨rfl, ⟨n2, rfl⟩⟩))
            go_ret
            rw [HR.out]
            exact ⟨rfl, (HPW.out.below_step HB1.out).below_step (below_drewN (Below.refl _ _) n2), below_drewN (HB1.out.mono (Nat.le_of_lt hN)) n2⟩
          · have HR := Aside0.mk (show lineP l len s.data.toList = (l, n, 0) by rw [HS.out, if_neg (fun h => h.elim (fun h => by rw [hd] at h; cases h) hlen), hn])
            have hlen1 : decide (0 ≤ len) = false := decide_eq_false hlen
            go_enter Tryz.func63, Tryz.ntmps63
            go_wp2_with (first | (go_at_call 87; (with_reducible refine (wicketref15_cut.calls 200000 _ _ _ _ _ HC.out).mono ?_); rintro e W1 ⟨rfl, hb1⟩; have HB1 := Aside0.mk hb1; clear hb1; have c0 := cells_below HB1.out _ _ _ _ C0.out; have d0 := blk_cell c0 0; have d1 := blk_cell c0 1; have d2 := blk_cell c0 2; have f1 := blk_free c0 1; dsimp at d0 d1 d2; clear c0) | (go_at_call 56; (with_reducible refine (wicketref15_length.calls 12 _ _ _ HL.out).mono ?_); rintro e W2 ⟨rfl, ⟨n2, rfl⟩⟩))
            go_ret
            rw [HR.out]
            exact ⟨rfl, ((HPW.out.below_step HB1.out).below_step (below_drewN (Below.refl _ _) n2)).set 1 _ n at_ (fun v => by simp [hn]), (below_drewN (HB1.out.mono (Nat.le_of_lt hN)) n2).setCell (Nat.le_refl _) _⟩
      | false =>
        have HK4 := Aside0.mk (show ¬ nm = sCL by
          rw [HN.out, toList_bs] at hv4
          exact fun h => by rw [show nm = sCL from h] at hv4; revert hv4; decide)
        obtain ⟨A, cap, hv⟩ := own_slice HO.out
        by_cases gm : l.length = 64
        · have HR := Aside0.mk (show lineP l len s.data.toList = (l, len, 32) by
            unfold lineP
            rw [← HP.out, if_neg (fun h => by cases h), if_neg HK3.out, if_neg HK4.out, if_pos gm])
          rw [hv, gm] at C0
          clear hv
          go_enter Tryz.func63, Tryz.ntmps63
          go_wp2_with (go_at_call 87; (with_reducible refine (wicketref15_cut.calls 200000 _ _ _ _ _ HC.out).mono ?_); rintro e W1 ⟨rfl, hb1⟩; have HB1 := Aside0.mk hb1; clear hb1; have c0 := cells_below HB1.out _ _ _ _ C0.out; have d0 := blk_cell c0 0; dsimp at d0; clear c0)
          go_ret
          rw [HR.out]
          exact ⟨rfl, HPW.out.below_step HB1.out, HB1.out.mono (Nat.le_of_lt hN)⟩
        · have HR := Aside0.mk (show lineP l len s.data.toList = (l ++ [(nm, vl)], len, 0) by
            unfold lineP
            rw [← HP.out, if_neg (fun h => by cases h), if_neg HK3.out, if_neg HK4.out, if_neg gm])
          rw [hv] at C0 HO
          clear hv
          have gm1 : ((l.length : Int) == 64) = false := beq_eq_false_iff_ne.2 (by omega)
          have gm2 : ¬ (l.length : Int) = 64 := by omega
          obtain ⟨i0, hi, hz0, hz1, hz2⟩ := info_field
          go_enter Tryz.func63, Tryz.ntmps63
          go_wp2_with (first | (go_at_call 87; (with_reducible refine (wicketref15_cut.calls 200000 _ _ _ _ _ HC.out).mono ?_); rintro e W1 ⟨rfl, hb1⟩; have HB1 := Aside0.mk hb1; clear hb1; have c0 := cells_below HB1.out _ _ _ _ C0.out; have d0 := blk_cell c0 0; have f0 := blk_free c0 0; dsimp at d0; clear c0; have HO1 := own_cells HO.out (cells_below HB1.out)) | (at_builtin; refine wpList_append_own _ rfl (.tmp 46) (.tmp 50) 28 rfl w.heap.size 84 i0 _ 2 32 Tryz.underlying28 hi hz0 hz1 hz2 rfl (by decide) _ _ _ rfl (HO1.alloc _) ⟨W1.heap.size, 0, none⟩ 1 1 [.string nb, .string vb] rfl rfl (two_cells W1 _ _ _) (by intro u hu; simp at hu; rcases hu with rfl | rfl <;> rfl) (by unfold maxLen; omega) (by omega) (by have := HB1.out.size; rw [World.size_alloc]; omega) ?_))
          intro v' W2 hown' hgrow' hnil'
          obtain ⟨A', cap', rfl⟩ := own_slice hown'
          have HOW := Aside0.mk hown'
          have HGR := Aside0.mk hgrow'
          clear hown' hgrow' hnil'
          have hs1 := HB1.out.size
          have c1 := ref_far (HO1.alloc _) HGR.out ((Below.heap_alloc W1 _ _ (by omega)).trans (cells_below HB1.out _ _ _ _ C0.out)) (by decide)
          have C1 := Aside0.mk c1
          have e0 := blk_cell c1 0
          have h0 := blk_free c1 0
          dsimp at e0
          clear c1
          go_wp2_with (fail)
          go_ret
          have hlb : Below w.heap.size W W2 := (((HB1.out.mono (Nat.le_of_lt hN)).alloc (by omega) _).grown HGR.out (by rw [World.size_alloc]; omega) (own_base HO1))
          have HOW2 := HOW.out
          rw [HN.out, HV.out] at HOW2
          rw [HR.out]
          refine ⟨rfl, ⟨(HPW.out.below.trans hlb).setCell (p := ⟨w.heap.size, 0, none⟩) (Nat.le_refl _) (.slice A' (l.length + 1) cap'), .slice A' (l.length + 1) cap', ?_, ?_⟩, hlb.setCell (p := ⟨w.heap.size, 0, none⟩) (Nat.le_refl _) (.slice A' (l.length + 1) cap')⟩
          · exact blk_set _ _ C1.out
          · have := own_set HOW2 C1.out (by decide) 0 (.slice A' (l.length + 1) cap')
            simpa [cellsP] using this
end Go.Proofs.YtmfkgjnlobiobaaGreatDoor.X
namespace Go.Proofs.YtmfkgjnlobiobaaGreatDoor.X
open Go.RowKit Go.Shelf Go.Proofs.YtmfkgjnlobiobaaGreatDoorW.PrintWords
def lenOf (s : HS) : Int := if s.sized = true then (s.length : Int) else -1
/-- One line: the reference's step is the program's. -/
theorem line_step (s : HS) (pos : Nat) (x : List UInt8) (hx : x ≠ []) :
    (∃ e, stepH s (pos, x) = .bad e pos ∧ (lineP s.fields (lenOf s) x).2.2 = e ∧ ¬ (e : Int) = 0) ∨
    (∃ s', stepH s (pos, x) = .go s' ∧ lineP s.fields (lenOf s) x = (s'.fields, lenOf s', 0) ∧ (s.fields.length ≤ 64 → s'.fields.length ≤ 64) ∧ ((s.sized = false → s.length = 0) → s'.sized = false → s'.length = 0) ∧ (s.length < 1000000000 → s'.length < 1000000000)) := by
  obtain ⟨h1, h2⟩ := cut_same x
  unfold stepH lineP
  dsimp only
  rw [if_neg hx, h1]
  by_cases g1 : (pfF x).2.2 = false
  · rw [if_pos g1, if_pos g1]
    exact .inl ⟨153, rfl, rfl, by decide⟩
  · rw [if_neg g1, if_neg g1, h2 (by cases h : (pfF x).2.2 with | true => rfl | false => exact absurd h g1)]
    by_cases g2 : (pfF x).1 = sTE
    · rw [if_pos g2, if_pos g2]
      exact .inl ⟨154, rfl, rfl, by decide⟩
    · rw [if_neg g2, if_neg g2]
      by_cases g3 : (pfF x).1 = sCL
      · rw [if_pos g3, if_pos g3]
        have hlen : 0 ≤ lenOf s ↔ s.sized = true := by
          unfold lenOf
          cases s.sized with
          | true => simp
          | false => simp
        by_cases g4 : (s.sized || !digsB (pfF x).2.1) = true
        · rw [if_pos g4, if_pos (by
            simp only [Bool.or_eq_true, Bool.not_eq_true'] at g4
            rcases g4 with g | g
            · exact .inr (hlen.2 g)
            · exact .inl g)]
          exact .inl ⟨154, rfl, rfl, by decide⟩
        · rw [if_neg g4, if_neg (by
            simp only [Bool.or_eq_true, Bool.not_eq_true', not_or] at g4
            rintro (g | g)
            · exact g4.2 g
            · exact g4.1 (hlen.1 g))]
          simp only [Bool.or_eq_true, Bool.not_eq_true', not_or] at g4
          have hd : digsB (pfF x).2.1 = true := by cases h : digsB (pfF x).2.1 with | true => rfl | false => exact absurd h g4.2
          refine .inr ⟨_, rfl, rfl, id, (fun _ h => by cases h), fun _ => ?_⟩
          unfold digsB at hd
          simp only [Bool.and_eq_true, decide_eq_true_eq] at hd
          exact Nat.lt_of_lt_of_le (numF_lt _ hd.2.2) (Nat.pow_le_pow_right (by decide) hd.2.1)
      · rw [if_neg g3, if_neg g3]
        by_cases g5 : s.fields.length = 64
        · rw [if_pos g5, if_pos g5]
          exact .inl ⟨32, rfl, rfl, by decide⟩
        · rw [if_neg g5, if_neg g5]
          refine .inr ⟨_, rfl, rfl, fun h => ?_, id, id⟩
          show (s.fields ++ [((pfF x).1, (pfF x).2.1)]).length ≤ 64
          rw [List.length_append, List.length_singleton]
          omega
/-- Where the line that begins at a place ends. -/
def endI (l : List UInt8) : Nat := if Lib.index l crlf < 0 then l.length else (Lib.index l crlf).toNat
theorem endI_le (l : List UInt8) : endI l ≤ l.length := by
  unfold endI
  split
  · exact Nat.le_refl _
  · rcases Lib.index_spec l crlf with ⟨h, _⟩ | ⟨i, h, hi, _⟩ <;> omega
theorem endI_before (l : List UInt8) (j : Nat) (h : j < endI l) : Lib.hasPrefix (l.drop j) crlf = false := by
  unfold endI at h
  rcases Lib.index_spec l crlf with ⟨h1, h2⟩ | ⟨i, h1, h2, h3, h4⟩
  · rw [if_pos (by omega)] at h
    exact h2 j (by omega)
  · rw [if_neg (by omega)] at h
    exact h4 j (by omega)
theorem endI_at (l : List UInt8) (h : endI l < l.length) : Lib.hasPrefix (l.drop (endI l)) crlf = true ∧ ¬ Lib.index l crlf < 0 ∧ (Lib.index l crlf).toNat = endI l ∧ endI l + 2 ≤ l.length := by
  unfold endI at h ⊢
  rcases Lib.index_spec l crlf with ⟨h1, h2⟩ | ⟨i, h1, h2, h3, h4⟩
  · rw [if_pos (by omega)] at h
    omega
  · rw [if_neg (by omega)] at h ⊢
    have hi : (Lib.index l crlf).toNat = i := by omega
    rw [hi]
    refine ⟨h3, by omega, rfl, ?_⟩
    have := Lib.index_room l crlf (by omega)
    have hc : crlf.length = 2 := rfl
    omega
theorem endI_end (l : List UInt8) (h : endI l = l.length) : Lib.index l crlf < 0 := by
  rcases Lib.index_spec l crlf with ⟨h1, h2⟩ | ⟨i, h1, h2, h3, h4⟩
  · omega
  · unfold endI at h
    rw [if_neg (by omega)] at h
    have := Lib.index_room l crlf (by omega)
    have hc : crlf.length = 2 := rfl
    omega
theorem step_lf (s : HS) (pos : Nat) : stepH s (pos, [10]) = .bad 153 pos := by
  unfold stepH
  rw [if_neg (fun h => by cases h), if_pos]
  show (pfF [10]).2.2 = false
  unfold pfF
  rw [if_neg]
  intro h
  rw [cut_none 58 [10] (by decide)] at h
  cases h
/-- What has still to be read. -/
structure Rd (raw : ByteArray) (from_ : Nat) (s : HS) (kq pos : Nat) : Prop where
  le : pos ≤ raw.size
  fuel : raw.size - pos < kq
  run : runH .start (linesL (raw.size + 1) (raw.data.toList.drop from_) from_) = runH s (linesL kq (raw.data.toList.drop pos) pos)
  many : s.fields.length ≤ 64
  none_ : s.sized = false → s.length = 0
  num : s.length < 1000000000
def headPostR (raw : ByteArray) (from_ : Nat) (w : World) (e : Ending) (w' : World) : Prop :=
  ∃ v0, e = .returned (.tuple #[v0, .string (bs (if (parseHeadF raw.data.toList from_).2.2.2.1 = 0 then raw.data.toList.drop (parseHeadF raw.data.toList from_).2.2.1 else [])), .int .i64 (parseHeadF raw.data.toList from_).2.2.2.1, .int .i64 (parseHeadF raw.data.toList from_).2.2.2.2]) ∧
    w'.ownsRow w.heap.size 84 2 v0 (parseHeadF raw.data.toList from_).1.length (cellsP (parseHeadF raw.data.toList from_).1) ∧ Below w.heap.size w w'
theorem rd_bad {raw : ByteArray} {from_ : Nat} {s : HS} {kq pos e : Nat} (h : Rd raw from_ s kq pos) (x : List UInt8) (r : List (Nat × List UInt8)) (hl : linesL kq (raw.data.toList.drop pos) pos = (pos, x) :: r) (hs : stepH s (pos, x) = .bad e pos) :
    parseHeadF raw.data.toList from_ = ([], 0, 0, e, pos) := by
  have hr := h.run
  rw [hl, runH_bad r hs] at hr
  unfold parseHeadF
  rw [size_data, hr]
theorem rd_lines {raw : ByteArray} {from_ : Nat} {s : HS} {kq pos : Nat} (h : Rd raw from_ s (kq + 1) pos) (hi : endI (raw.data.toList.drop pos) < (raw.data.toList.drop pos).length) :
    linesL (kq + 1) (raw.data.toList.drop pos) pos = (pos, (raw.data.toList.drop pos).take (endI (raw.data.toList.drop pos))) :: linesL kq (raw.data.toList.drop (pos + endI (raw.data.toList.drop pos) + 2)) (pos + endI (raw.data.toList.drop pos) + 2) := by
  obtain ⟨_, h2, h3, _⟩ := endI_at _ hi
  rw [linesL, if_neg h2, h3, List.drop_drop]
  rfl
theorem rd_open {raw : ByteArray} {from_ : Nat} {s : HS} {kq pos : Nat} (h : Rd raw from_ s (kq + 1) pos) (hi : endI (raw.data.toList.drop pos) = (raw.data.toList.drop pos).length) : parseHeadF raw.data.toList from_ = ([], 0, 0, 153, pos) :=
  rd_bad h [10] [] (by rw [linesL, if_pos (endI_end _ hi)]) (step_lf s pos)
theorem nil_row (W : World) (base : Nat) : W.ownsRow base 84 2 (.slice none 0 0) ([] : List (List UInt8 × List UInt8)).length (cellsP []) := ⟨rfl, .inl ⟨rfl, rfl⟩⟩
theorem results_four {fn : Func} {t u v x : Tmp} (h : fn.results = #[.tmp t, .tmp u, .tmp v, .tmp x]) (tmps : Array Value) (P : Program) (w : World) :
    (results fn tmps).run P w = .ok (.tuple #[tmps.getD t undef, tmps.getD u undef, tmps.getD v undef, tmps.getD x undef]) w := by
  simp [results, h]
theorem rd_stop {raw : ByteArray} {from_ : Nat} {s : HS} {kq pos : Nat} (h : Rd raw from_ s kq pos) (r : List (Nat × List UInt8)) (hl : linesL kq (raw.data.toList.drop pos) pos = (pos, []) :: r) :
    parseHeadF raw.data.toList from_ = if (raw.size : Int) - ((pos + 2 : Nat) : Int) ≠ (s.length : Int) then ([], 0, 0, 155, pos + 2) else (s.fields, s.length, pos + 2, 0, 0) := by
  have hr := h.run
  rw [hl, runH_stop (s' := { s with behind := pos + 2 }) r (by unfold stepH; rw [if_pos rfl])] at hr
  unfold parseHeadF
  rw [size_data, hr]
  show endH raw.data.toList { s with behind := pos + 2 } = _
  unfold endH
  rw [size_data]
theorem hp_bad {raw : ByteArray} {from_ : Nat} {w W : World} {e a : Nat} (hF : parseHeadF raw.data.toList from_ = ([], 0, 0, e, a)) (he : ¬ e = 0) (hb : Below w.heap.size w W) :
    headPostR raw from_ w (.returned (.tuple #[.slice none 0 0, .string ⟨#[]⟩, .int .i64 e, .int .i64 a])) W := by
  refine ⟨.slice none 0 0, ?_, by rw [hF]; exact nil_row _ _, hb⟩
  rw [hF, if_neg he]
  rfl
theorem hp_ok {raw : ByteArray} {from_ : Nat} {w W : World} {l : List (List UInt8 × List UInt8)} {n p : Nat} {v : Value} (hF : parseHeadF raw.data.toList from_ = (l, n, p, 0, 0)) (ho : W.ownsRow w.heap.size 84 2 v l.length (cellsP l)) (hb : Below w.heap.size w W) :
    headPostR raw from_ w (.returned (.tuple #[v, .string (raw.extract p raw.size), .int .i64 0, .int .i64 0])) W := by
  refine ⟨v, ?_, by rw [hF]; exact ho, hb⟩
  rw [hF, if_pos rfl, extract_bs, List.take_of_length_le (by rw [List.length_drop, size_data]; omega)]
  rfl
set_option maxHeartbeats 8000000 in
set_option maxRecDepth 100000 in
theorem head_calls (raw : ByteArray) (hraw : raw.size ≤ 32768) (from_ : Nat) (hf : from_ ≤ raw.size) (w : World) :
    Calls Tryz.prog 43 #[.string raw, .int .i64 from_] w fun e w' => headPostR raw from_ w e w' := by
  have R0 := Aside0.mk (show Rd raw from_ .start (raw.size + 1) from_ from ⟨hf, by omega, rfl, by simp [HS.start], fun _ => rfl, by simp [HS.start]⟩)
  have P0 := Aside0.mk (show PW w [] (-1) from_ (w.alloc (.cells #[.slice none 0 0, .int .i64 (-1), .int .i64 from_] 98)) from
    ⟨(Below.refl _ _).alloc (Nat.le_refl _) _, .slice none 0 0, World.alloc_heap_new _ _, nil_row _ _⟩)
  have N0 := Aside0.mk (show w.heap.size < (w.alloc (.cells #[.slice none 0 0, .int .i64 (-1), .int .i64 from_] 98)).heap.size by rw [World.size_alloc]; omega)
  go_enter Tryz.func43, Tryz.ntmps43
  go_wp2
  go_loopg [9, 10] (raw.size + 1) (fun kq _ _ wr => ∃ (s : HS) (pos : Nat), Aside0 (Rd raw from_ s kq pos) ∧ Aside0 (PW w s.fields (lenOf s) pos wr) ∧ Aside0 (w.heap.size < wr.heap.size))
  case atStart => exact ⟨.start, from_, R0, P0, N0⟩
  case round =>
    obtain ⟨s, pos, HR, HP, HN⟩ := hrel
    clear R0 P0 N0
    cases gk with
    | zero => exact absurd HR.out.fuel (by omega)
    | succ k1 =>
      have hpos := HR.out.le
      obtain ⟨v, h0, hv⟩ := HP.out.b0
      have C0 := Aside0.mk h0
      have HO := Aside0.mk hv
      have d0 := blk_cell h0 0
      have d1 := blk_cell h0 1
      have d2 := blk_cell h0 2
      dsimp at d0 d1 d2
      clear h0 hv
      obtain ⟨I, hI⟩ : ∃ I, I = endI (raw.data.toList.drop pos) := ⟨_, rfl⟩
      have hIle : I ≤ raw.size - pos := by
        have := endI_le (raw.data.toList.drop pos)
        rw [List.length_drop, size_data] at this
        omega
      have HI := Aside0.mk hI
      clear hI
      have hm := HR.out.many
      go_wp2
      go_loopw [9] (fun i w2 => ∃ q : Nat, pos ≤ q ∧ q ≤ pos + I ∧ i = .int .i64 (q : Int) ∧ Aside0 (Below wr.heap.size wr w2)) (fun i _ => raw.size + 1 - (intOf i).toNat)
      case atStart => exact ⟨pos, Nat.le_refl _, Nat.le_add_right _ _, rfl, ⟨Below.refl _ _⟩⟩
      case round =>
        obtain ⟨q, hq0, hq1, rfl, HB⟩ := hrel
        clear d0 d1 d2
        have c0 := cells_below HB.out _ _ _ _ C0.out
        have d0 := blk_cell c0 0
        have d1 := blk_cell c0 1
        have d2 := blk_cell c0 2
        dsimp at d0 d1 d2
        clear c0
        by_cases hqI : q < pos + I
        · have hlt : (q : Int) < (raw.size : Int) := by omega
          have HST := Aside0.mk (show wicketref15_stands.f raw (q : Int) ⟨#[13, 10]⟩ = some false by
            rw [rstands_f raw q ⟨#[13, 10]⟩ (by omega) (by omega) (by decide) (by decide)]
            have h := endI_before (raw.data.toList.drop pos) (q - pos) (by rw [← HI.out]; omega)
            rw [List.drop_drop, show pos + (q - pos) = q by omega] at h
            exact congrArg some h)
          go_wp2_with (go_at_call 42; (with_reducible refine (wicketref15_stands.calls raw (q : Int) ⟨#[13, 10]⟩ false _ HST.out).mono ?_); rintro e w3 ⟨rfl, ⟨n3, rfl⟩⟩)
          go_roundw
          case rel => exact ⟨q + 1, by omega, by omega, by go_num, ⟨below_drewN HB.out n3⟩⟩
          case measure => simp [intOf]; omega
        · obtain rfl : q = pos + I := by omega
          by_cases hend : pos + I = raw.size
          · have HF := Aside0.mk (rd_open HR.out (show endI (raw.data.toList.drop pos) = (raw.data.toList.drop pos).length by rw [← HI.out, List.length_drop, size_data]; omega))
            rw [hend]
            go_wp2
            go_region
            go_wp2
            ((try simp only [Exit.inBlock, Exit.then]); refine bodyPost_ret (results_four rfl _ _ _) rfl ?_)
            exact hp_bad HF.out (by decide) (below_drew1 (HP.out.below.trans (HB.out.mono HP.out.below.size)))
          · obtain ⟨q, hq⟩ : ∃ q, q = pos + I := ⟨_, rfl⟩
            rw [← hq] at hend hqI ⊢
            have hlt : (q : Int) < (raw.size : Int) := by omega
            have hne0 : ¬ (q : Int) = (raw.size : Int) := by omega
            have hIlt : endI (raw.data.toList.drop pos) < (raw.data.toList.drop pos).length := by rw [← HI.out, List.length_drop, size_data]; omega
            have hat := endI_at _ hIlt
            rw [← HI.out, List.length_drop, size_data] at hat
            have HST := Aside0.mk (show wicketref15_stands.f raw (q : Int) ⟨#[13, 10]⟩ = some true by
              rw [rstands_f raw q ⟨#[13, 10]⟩ (by omega) (by omega) (by decide) (by decide)]
              have h := hat.1
              rw [List.drop_drop, ← hq] at h
              exact congrArg some h)
            have hroom : q + 2 ≤ raw.size := by omega
            have HLn := Aside0.mk (rd_lines HR.out hIlt)
            clear hat hIlt
            have hL0 : lenOf s > 0 → lenOf s = (s.length : Int) := by
              unfold lenOf
              split
              · exact fun _ => rfl
              · intro h; omega
            have hL1 : ¬ lenOf s > 0 → s.length = 0 := by
              have hn := HR.out.none_
              unfold lenOf
              cases hz : s.sized with
              | true => intro h; rw [if_pos rfl] at h; omega
              | false => intro _; exact hn hz
            obtain ⟨A, cap, hv⟩ := own_slice HO.out
            by_cases hI0 : I = 0
            · subst hI0
              obtain rfl : q = pos := hq
              have hst : endI (raw.data.toList.drop q) = 0 := HI.out.symm
              have HE := Aside0.mk (rd_stop HR.out _ (by rw [HLn.out, hst]; rfl))
              clear hst
              by_cases hL : 0 < lenOf s
              · have hLv := hL0 hL
                clear hL0 hL1
                obtain ⟨L, hLL⟩ : ∃ L, L = lenOf s := ⟨_, rfl⟩
                rw [← hLL] at hL hLv d1 C0 HP
                clear hLL
                by_cases hne : (raw.size : Int) - ((q : Int) + 2) = L
                · have HF := Aside0.mk (show parseHeadF raw.data.toList from_ = (s.fields, s.length, q + 2, 0, 0) by rw [HE.out, if_neg (by omega)])
                  rw [hLv] at hne hL d1 C0 HP
                  rw [hv] at d0 HO
                  clear hv
                  go_wp2_with (go_at_call 42; (with_reducible refine (wicketref15_stands.calls raw (q : Int) ⟨#[13, 10]⟩ true _ HST.out).mono ?_); rintro e w3 ⟨rfl, ⟨n3, rfl⟩⟩)
                  go_region
                  go_wp2
                  ((try simp only [Exit.inBlock, Exit.then]); refine bodyPost_ret (results_four rfl _ _ _) rfl ?_)
                  exact hp_ok HF.out (own_cells HO.out (cells_below (below_drew1 (below_drewN HB.out n3)))) (below_drew1 (below_drewN (HP.out.below.trans (HB.out.mono HP.out.below.size)) n3))
                · have HF := Aside0.mk (show parseHeadF raw.data.toList from_ = ([], 0, 0, 155, q + 2) by rw [HE.out, if_pos (by omega)])
                  rw [hLv] at hne hL d1 C0 HP
                  go_wp2_with (go_at_call 42; (with_reducible refine (wicketref15_stands.calls raw (q : Int) ⟨#[13, 10]⟩ true _ HST.out).mono ?_); rintro e w3 ⟨rfl, ⟨n3, rfl⟩⟩)
                  ((try simp only [Exit.inBlock, Exit.then]); refine bodyPost_ret (results_four rfl _ _ _) rfl ?_)
                  exact hp_bad HF.out (by decide) (below_drewN (HP.out.below.trans (HB.out.mono HP.out.below.size)) n3)
              · have hLv := hL1 hL
                clear hL0 hL1
                obtain ⟨L, hLL⟩ : ∃ L, L = lenOf s := ⟨_, rfl⟩
                rw [← hLL] at hL d1 C0 HP
                clear hLL
                by_cases hne : (raw.size : Int) - ((q : Int) + 2) = 0
                · have HF := Aside0.mk (show parseHeadF raw.data.toList from_ = (s.fields, s.length, q + 2, 0, 0) by rw [HE.out, if_neg (by omega)])
                  rw [hv] at d0 HO
                  clear hv
                  go_wp2_with (go_at_call 42; (with_reducible refine (wicketref15_stands.calls raw (q : Int) ⟨#[13, 10]⟩ true _ HST.out).mono ?_); rintro e w3 ⟨rfl, ⟨n3, rfl⟩⟩)
                  go_region
                  go_wp2
                  ((try simp only [Exit.inBlock, Exit.then]); refine bodyPost_ret (results_four rfl _ _ _) rfl ?_)
                  exact hp_ok HF.out (own_cells HO.out (cells_below (below_drew1 (below_drewN HB.out n3)))) (below_drew1 (below_drewN (HP.out.below.trans (HB.out.mono HP.out.below.size)) n3))
                · have HF := Aside0.mk (show parseHeadF raw.data.toList from_ = ([], 0, 0, 155, q + 2) by rw [HE.out, if_pos (by omega)])
                  go_wp2_with (go_at_call 42; (with_reducible refine (wicketref15_stands.calls raw (q : Int) ⟨#[13, 10]⟩ true _ HST.out).mono ?_); rintro e w3 ⟨rfl, ⟨n3, rfl⟩⟩)
                  ((try simp only [Exit.inBlock, Exit.then]); refine bodyPost_ret (results_four rfl _ _ _) rfl ?_)
                  exact hp_bad HF.out (by decide) (below_drewN (HP.out.below.trans (HB.out.mono HP.out.below.size)) n3)
            · clear hL0 hL1
              have hqp : ¬ (q : Int) = (pos : Int) := by omega
              have hqn : pos < q := by omega
              have hpq : (pos : Int) ≤ (q : Int) := by omega
              obtain ⟨x, hx⟩ : ∃ x, x = (raw.data.toList.drop pos).take I := ⟨_, rfl⟩
              have hxl : (raw.extract pos q).data.toList = x := by
                rw [← toList_data, toList_ext, hx, hq, show pos + I - pos = I by omega]
              have hx0 : x ≠ [] := by
                intro e
                have := congrArg List.length e
                rw [hx, List.length_take, List.length_drop, size_data, List.length_nil] at this
                omega
              have hxs : (raw.extract pos q).size ≤ 32768 := by
                rw [← size_data, hxl, hx, List.length_take, List.length_drop, size_data]
                omega
              obtain ⟨l', len', c, hlp⟩ : ∃ l' len' c, lineP s.fields (lenOf s) x = (l', len', c) := ⟨_, _, _, rfl⟩
              have HLC := Aside0.mk (fun W2 (h : PW w s.fields (lenOf s) (pos : Int) W2) (hN : w.heap.size < W2.heap.size) => line_calls w W2 s.fields (lenOf s) (pos : Int) h hN hm (raw.extract pos q) hxs)
              rw [hxl, hlp] at HLC
              rw [← HI.out, ← hx, ← hq] at HLn
              have HPn := Aside0.mk (fun n3 => (HP.out.below_step HB.out).below_step (below_drewN (Below.refl _ _) n3))
              have HNn := Aside0.mk (fun n3 : Nat => show w.heap.size < (World.drewN _ n3).heap.size from Nat.lt_of_lt_of_le HN.out HB.out.size)
              have HX := Aside0.mk (line_step s pos x hx0)
              clear hx hxl hx0 hq
              rcases HX.out with ⟨e, hs, he, hne⟩ | ⟨s', hs, hl, hm', hn', hnum'⟩
              · rw [hlp] at he
                have hc : c = (e : Int) := he
                clear HX he hlp
                have hc0 : ¬ c = 0 := by omega
                have HF := Aside0.mk (rd_bad HR.out x _ HLn.out hs)
                clear hs
                go_wp2_with (first | (go_at_call 42; (with_reducible refine (wicketref15_stands.calls raw (q : Int) ⟨#[13, 10]⟩ true _ HST.out).mono ?_); rintro e w3 ⟨rfl, ⟨n3, rfl⟩⟩) | (go_at_call 63; (with_reducible refine (HLC.out _ (HPn.out _) (HNn.out _)).mono ?_); rintro e4 w4 ⟨rfl, hp4, hb4⟩; obtain ⟨v4, h04, hv4⟩ := hp4.b0; have e2 := blk_cell h04 2; dsimp at e2; have HP4 := Aside0.mk hp4; clear hp4 hb4 h04 hv4))
                go_region
                go_wp2
                ((try simp only [Exit.inBlock, Exit.then]); refine bodyPost_ret (results_four rfl _ _ _) rfl ?_)
                exact hp_bad HF.out (by omega) (below_drew1 HP4.out.below)
              · rw [hlp] at hl
                simp only [Prod.mk.injEq] at hl
                obtain ⟨rfl, rfl, rfl⟩ := hl
                clear HX hlp
                have HR2 := Aside0.mk (show Rd raw from_ s' k1 (q + 2) from ⟨hroom, by have := HR.out.fuel; omega, HR.out.run.trans (by rw [HLn.out, runH_go _ hs]), hm' hm, hn' HR.out.none_, hnum' HR.out.num⟩)
                clear hs hm' hn' hnum'
                go_wp2_with (first | (go_at_call 42; (with_reducible refine (wicketref15_stands.calls raw (q : Int) ⟨#[13, 10]⟩ true _ HST.out).mono ?_); rintro e w3 ⟨rfl, ⟨n3, rfl⟩⟩) | (go_at_call 63; (with_reducible refine (HLC.out _ (HPn.out _) (HNn.out _)).mono ?_); rintro e4 w4 ⟨rfl, hp4, hb4⟩; obtain ⟨v4, h04, hv4⟩ := hp4.b0; have e2 := blk_cell h04 2; have f2 := blk_free h04 2; dsimp at e2; have HP4 := Aside0.mk hp4; have HB4 := Aside0.mk hb4; clear hp4 hb4 h04 hv4))
                go_roundg k1
                case measure => omega
                case rel => exact ⟨s', q + 2, HR2, ⟨HP4.out.set 2 _ _ ((q + 2 : Nat) : Int) (fun v => by simp)⟩, ⟨by have h1 := HNn.out n3; have h2 := HB4.out.size; show w.heap.size < (World.setCell _ _ _).heap.size; rw [World.size_setCell]; omega⟩⟩
def fieldOf (f : List UInt8 × List UInt8) : S84 := ⟨bs f.1, bs f.2⟩
def wicketref15_head.f (a0 : ByteArray) (a1 : Int) : Option (List S84 × ByteArray × Int × Int) :=
  if a0.size ≤ 32768 ∧ 0 ≤ a1 ∧ a1 ≤ a0.size then
    some ((parseHeadF a0.data.toList a1.toNat).1.map fieldOf, bs (if (parseHeadF a0.data.toList a1.toNat).2.2.2.1 = 0 then a0.data.toList.drop (parseHeadF a0.data.toList a1.toNat).2.2.1 else []), (parseHeadF a0.data.toList a1.toNat).2.2.2.1, (parseHeadF a0.data.toList a1.toNat).2.2.2.2) else none
theorem reps_fields (w : World) (base : Nat) (ok : Nat → Prop) : ∀ (l : List (List UInt8 × List UInt8)), Reps (k84.M w base ok) 2 (l.map fieldOf) (cellsP l)
  | [] => Reps.none _ _
  | f :: r => by
    have h1 : Reps (k84.M w base ok) 2 [fieldOf f] [.string (bs f.1), .string (bs f.2)] := by
      refine ⟨rfl, fun j p h => ?_⟩
      match j, h with
      | 0, h =>
        simp only [List.getElem?_cons_zero, Option.some.injEq] at h
        subst h
        exact k84_mkM w base ok (fieldOf f)
      | j + 1, h => simp at h
    exact Kd.reps_append h1 (reps_fields w base ok r)
theorem wicketref15_head.calls (a0 : ByteArray) (a1 : Int) (r1 : List S84) (r2 : ByteArray) (r3 r4 : Int) (w : World) (h : wicketref15_head.f a0 a1 = some (r1, r2, r3, r4)) :
    Calls Tryz.prog 43 #[.string a0, .int .i64 a1] w fun e w' => ∃ v0_ : Value, e = .returned (.tuple #[v0_, .string r2, .int .i64 r3, .int .i64 r4]) ∧ Kd.R k84 84 w' w.heap.size (fun _ => True) v0_ r1 ∧ Below w.heap.size w w' := by
  unfold wicketref15_head.f at h
  split at h
  · rename_i hs
    simp only [Option.some.injEq, Prod.mk.injEq] at h
    obtain ⟨rfl, rfl, rfl, rfl⟩ := h
    obtain ⟨n, rfl⟩ := Int.eq_ofNat_of_zero_le hs.2.1
    refine (head_calls a0 hs.1 n (by omega) w).mono ?_
    rintro e w' ⟨v0, rfl, ho, hb⟩
    exact ⟨v0, rfl, ⟨fun _ _ => trivial, cellsP _, by rw [List.length_map]; exact ho, reps_fields _ _ _ _⟩, hb⟩
  · cases h
end Go.Proofs.YtmfkgjnlobiobaaGreatDoor.X
