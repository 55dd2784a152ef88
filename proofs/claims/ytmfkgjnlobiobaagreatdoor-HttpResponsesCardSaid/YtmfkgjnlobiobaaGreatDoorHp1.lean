/- HttpResponses: for every input the law returns true, and the argument reads as before: the plain law, the row, then the card (what the row lists is tied to the program's text). -/
import Derived.Test.YtmfkgjnlobiobaaGreatDoorX0
import Derived.Test.YtmfkgjnlobiobaaGreatDoorE0
import Derived.Test.YtmfkgjnlobiobaaGreatDoorHq0
import Derived.Test.YtmfkgjnlobiobaaGreatDoorX8
import Derived.Test.YtmfkgjnlobiobaaGreatDoorX7b
import Derived.Test.YtmfkgjnlobiobaaGreatDoorX1
import Derived.Test.YtmfkgjnlobiobaaGreatDoorX3
import Derived.Test.YtmfkgjnlobiobaaGreatDoorX5
import Derived.Test.YtmfkgjnlobiobaaGreatDoorAr
import Derived.WalkKit
import Derived.ProofKit
import Derived.OpenShut
import Derived.ShutString
import Derived.Carry
import Derived.SizedLaws
import Derived.Deep.DeepHandedRow
import Derived.Deep.DeepWitnessRowRef
set_option linter.unusedVariables false
set_option linter.unusedSimpArgs false
namespace Go.Proofs.YtmfkgjnlobiobaaGreatDoor.X
open Go.RowKit Go.Proofs.YtmfkgjnlobiobaaGreatDoorW.PrintWords Go.Proofs.YtmfkgjnlobiobaaGreatDoorW.PrintLast Go.Proofs.YtmfkgjnlobiobaaGreatDoorW.PrintMore
attribute [local go_sem] max2_int min2_int max_two min_two max_three min_three max_four min_four   -- for this text's walks alone
set_option linter.unusedVariables false
set_option linter.unusedSimpArgs false

/-! ### wicketref15_Reason: function 29 -/
def wicketref15_Reason.f (a0 : Int) : Option (ByteArray) := if a0 = 200 then (some (⟨#[79, 75]⟩ : ByteArray)) else (if a0 = 204 then (some (⟨#[78, 111, 32, 67, 111, 110, 116, 101, 110, 116]⟩ : ByteArray)) else (if a0 = 400 then (some (⟨#[66, 97, 100, 32, 82, 101, 113, 117, 101, 115, 116]⟩ : ByteArray)) else (if a0 = 401 then (some (⟨#[85, 110, 97, 117, 116, 104, 111, 114, 105, 122, 101, 100]⟩ : ByteArray)) else (if a0 = 403 then (some (⟨#[70, 111, 114, 98, 105, 100, 100, 101, 110]⟩ : ByteArray)) else (if a0 = 404 then (some (⟨#[78, 111, 116, 32, 70, 111, 117, 110, 100]⟩ : ByteArray)) else (if a0 = 405 then (some (⟨#[77, 101, 116, 104, 111, 100, 32, 78, 111, 116, 32, 65, 108, 108, 111, 119, 101, 100]⟩ : ByteArray)) else (if a0 = 413 then (some (⟨#[67, 111, 110, 116, 101, 110, 116, 32, 84, 111, 111, 32, 76, 97, 114, 103, 101]⟩ : ByteArray)) else (if a0 = 415 then (some (⟨#[85, 110, 115, 117, 112, 112, 111, 114, 116, 101, 100, 32, 77, 101, 100, 105, 97, 32, 84, 121, 112, 101]⟩ : ByteArray)) else (if a0 = 429 then (some (⟨#[84, 111, 111, 32, 77, 97, 110, 121, 32, 82, 101, 113, 117, 101, 115, 116, 115]⟩ : ByteArray)) else (if a0 = 500 then (some (⟨#[73, 110, 116, 101, 114, 110, 97, 108, 32, 83, 101, 114, 118, 101, 114, 32, 69, 114, 114, 111, 114]⟩ : ByteArray)) else (if a0 = 503 then (some (⟨#[83, 101, 114, 118, 105, 99, 101, 32, 85, 110, 97, 118, 97, 105, 108, 97, 98, 108, 101]⟩ : ByteArray)) else (some (⟨#[]⟩ : ByteArray)))))))))))))
set_option maxHeartbeats 8000000 in
set_option maxRecDepth 100000 in
theorem wicketref15_Reason.calls (a0 : Int) (r : ByteArray) (w : World) (h : wicketref15_Reason.f a0 = some r) :
    Calls Tryz.prog 29 #[.int .i64 a0] w fun e w' => e = .returned (.string r) ∧ Drawn0 w w' := by
  have H : (if a0 = 200 then (some (⟨#[79, 75]⟩ : ByteArray)) else (if a0 = 204 then (some (⟨#[78, 111, 32, 67, 111, 110, 116, 101, 110, 116]⟩ : ByteArray)) else (if a0 = 400 then (some (⟨#[66, 97, 100, 32, 82, 101, 113, 117, 101, 115, 116]⟩ : ByteArray)) else (if a0 = 401 then (some (⟨#[85, 110, 97, 117, 116, 104, 111, 114, 105, 122, 101, 100]⟩ : ByteArray)) else (if a0 = 403 then (some (⟨#[70, 111, 114, 98, 105, 100, 100, 101, 110]⟩ : ByteArray)) else (if a0 = 404 then (some (⟨#[78, 111, 116, 32, 70, 111, 117, 110, 100]⟩ : ByteArray)) else (if a0 = 405 then (some (⟨#[77, 101, 116, 104, 111, 100, 32, 78, 111, 116, 32, 65, 108, 108, 111, 119, 101, 100]⟩ : ByteArray)) else (if a0 = 413 then (some (⟨#[67, 111, 110, 116, 101, 110, 116, 32, 84, 111, 111, 32, 76, 97, 114, 103, 101]⟩ : ByteArray)) else (if a0 = 415 then (some (⟨#[85, 110, 115, 117, 112, 112, 111, 114, 116, 101, 100, 32, 77, 101, 100, 105, 97, 32, 84, 121, 112, 101]⟩ : ByteArray)) else (if a0 = 429 then (some (⟨#[84, 111, 111, 32, 77, 97, 110, 121, 32, 82, 101, 113, 117, 101, 115, 116, 115]⟩ : ByteArray)) else (if a0 = 500 then (some (⟨#[73, 110, 116, 101, 114, 110, 97, 108, 32, 83, 101, 114, 118, 101, 114, 32, 69, 114, 114, 111, 114]⟩ : ByteArray)) else (if a0 = 503 then (some (⟨#[83, 101, 114, 118, 105, 99, 101, 32, 85, 110, 97, 118, 97, 105, 108, 97, 98, 108, 101]⟩ : ByteArray)) else (some (⟨#[]⟩ : ByteArray)))))))))))))) = some r := h
  clear h
  by_cases c2 : a0 = 200
  · rw [if_pos c2] at H
    have c2b0 : (a0 == 200) = true := beq_iff_eq.mpr c2
    have c2b1 : (a0 != 200) = false := bne_eq_false_iff_eq.mpr c2
    clear c2
    obtain rfl := Option.some.inj H
    go_enter Tryz.func29, Tryz.ntmps29
    go_wp2
    go_ret
    exact ⟨by first | rfl | (simp; done) | (simp [*]; done), by repeat (first | exact Drawn0.refl _ | apply Drawn0.step)⟩
  · rw [if_neg c2] at H
    have c2b0 : (a0 == 200) = false := beq_eq_false_iff_ne.mpr c2
    have c2b1 : (a0 != 200) = true := bne_iff_ne.mpr c2
    by_cases c3 : a0 = 204
    · rw [if_pos c3] at H
      have c3b0 : (a0 == 204) = true := beq_iff_eq.mpr c3
      have c3b1 : (a0 != 204) = false := bne_eq_false_iff_eq.mpr c3
      clear c3
      obtain rfl := Option.some.inj H
      go_enter Tryz.func29, Tryz.ntmps29
      go_wp2
      go_ret
      exact ⟨by first | rfl | (simp; done) | (simp [*]; done), by repeat (first | exact Drawn0.refl _ | apply Drawn0.step)⟩
    · rw [if_neg c3] at H
      have c3b0 : (a0 == 204) = false := beq_eq_false_iff_ne.mpr c3
      have c3b1 : (a0 != 204) = true := bne_iff_ne.mpr c3
      by_cases c4 : a0 = 400
      · rw [if_pos c4] at H
        have c4b0 : (a0 == 400) = true := beq_iff_eq.mpr c4
        have c4b1 : (a0 != 400) = false := bne_eq_false_iff_eq.mpr c4
        clear c4
        obtain rfl := Option.some.inj H
        go_enter Tryz.func29, Tryz.ntmps29
        go_wp2
        go_ret
        exact ⟨by first | rfl | (simp; done) | (simp [*]; done), by repeat (first | exact Drawn0.refl _ | apply Drawn0.step)⟩
      · rw [if_neg c4] at H
        have c4b0 : (a0 == 400) = false := beq_eq_false_iff_ne.mpr c4
        have c4b1 : (a0 != 400) = true := bne_iff_ne.mpr c4
        by_cases c5 : a0 = 401
        · rw [if_pos c5] at H
          have c5b0 : (a0 == 401) = true := beq_iff_eq.mpr c5
          have c5b1 : (a0 != 401) = false := bne_eq_false_iff_eq.mpr c5
          clear c5
          obtain rfl := Option.some.inj H
          go_enter Tryz.func29, Tryz.ntmps29
          go_wp2
          go_ret
          exact ⟨by first | rfl | (simp; done) | (simp [*]; done), by repeat (first | exact Drawn0.refl _ | apply Drawn0.step)⟩
        · rw [if_neg c5] at H
          have c5b0 : (a0 == 401) = false := beq_eq_false_iff_ne.mpr c5
          have c5b1 : (a0 != 401) = true := bne_iff_ne.mpr c5
          by_cases c6 : a0 = 403
          · rw [if_pos c6] at H
            have c6b0 : (a0 == 403) = true := beq_iff_eq.mpr c6
            have c6b1 : (a0 != 403) = false := bne_eq_false_iff_eq.mpr c6
            clear c6
            obtain rfl := Option.some.inj H
            go_enter Tryz.func29, Tryz.ntmps29
            go_wp2
            go_ret
            exact ⟨by first | rfl | (simp; done) | (simp [*]; done), by repeat (first | exact Drawn0.refl _ | apply Drawn0.step)⟩
          · rw [if_neg c6] at H
            have c6b0 : (a0 == 403) = false := beq_eq_false_iff_ne.mpr c6
            have c6b1 : (a0 != 403) = true := bne_iff_ne.mpr c6
            by_cases c7 : a0 = 404
            · rw [if_pos c7] at H
              have c7b0 : (a0 == 404) = true := beq_iff_eq.mpr c7
              have c7b1 : (a0 != 404) = false := bne_eq_false_iff_eq.mpr c7
              clear c7
              obtain rfl := Option.some.inj H
              go_enter Tryz.func29, Tryz.ntmps29
              go_wp2
              go_ret
              exact ⟨by first | rfl | (simp; done) | (simp [*]; done), by repeat (first | exact Drawn0.refl _ | apply Drawn0.step)⟩
            · rw [if_neg c7] at H
              have c7b0 : (a0 == 404) = false := beq_eq_false_iff_ne.mpr c7
              have c7b1 : (a0 != 404) = true := bne_iff_ne.mpr c7
              by_cases c8 : a0 = 405
              · rw [if_pos c8] at H
                have c8b0 : (a0 == 405) = true := beq_iff_eq.mpr c8
                have c8b1 : (a0 != 405) = false := bne_eq_false_iff_eq.mpr c8
                clear c8
                obtain rfl := Option.some.inj H
                go_enter Tryz.func29, Tryz.ntmps29
                go_wp2
                go_ret
                exact ⟨by first | rfl | (simp; done) | (simp [*]; done), by repeat (first | exact Drawn0.refl _ | apply Drawn0.step)⟩
              · rw [if_neg c8] at H
                have c8b0 : (a0 == 405) = false := beq_eq_false_iff_ne.mpr c8
                have c8b1 : (a0 != 405) = true := bne_iff_ne.mpr c8
                by_cases c9 : a0 = 413
                · rw [if_pos c9] at H
                  have c9b0 : (a0 == 413) = true := beq_iff_eq.mpr c9
                  have c9b1 : (a0 != 413) = false := bne_eq_false_iff_eq.mpr c9
                  clear c9
                  obtain rfl := Option.some.inj H
                  go_enter Tryz.func29, Tryz.ntmps29
                  go_wp2
                  go_ret
                  exact ⟨by first | rfl | (simp; done) | (simp [*]; done), by repeat (first | exact Drawn0.refl _ | apply Drawn0.step)⟩
                · rw [if_neg c9] at H
                  have c9b0 : (a0 == 413) = false := beq_eq_false_iff_ne.mpr c9
                  have c9b1 : (a0 != 413) = true := bne_iff_ne.mpr c9
                  by_cases c10 : a0 = 415
                  · rw [if_pos c10] at H
                    have c10b0 : (a0 == 415) = true := beq_iff_eq.mpr c10
                    have c10b1 : (a0 != 415) = false := bne_eq_false_iff_eq.mpr c10
                    clear c10
                    obtain rfl := Option.some.inj H
                    go_enter Tryz.func29, Tryz.ntmps29
                    go_wp2
                    go_ret
                    exact ⟨by first | rfl | (simp; done) | (simp [*]; done), by repeat (first | exact Drawn0.refl _ | apply Drawn0.step)⟩
                  · rw [if_neg c10] at H
                    have c10b0 : (a0 == 415) = false := beq_eq_false_iff_ne.mpr c10
                    have c10b1 : (a0 != 415) = true := bne_iff_ne.mpr c10
                    by_cases c11 : a0 = 429
                    · rw [if_pos c11] at H
                      have c11b0 : (a0 == 429) = true := beq_iff_eq.mpr c11
                      have c11b1 : (a0 != 429) = false := bne_eq_false_iff_eq.mpr c11
                      clear c11
                      obtain rfl := Option.some.inj H
                      go_enter Tryz.func29, Tryz.ntmps29
                      go_wp2
                      go_ret
                      exact ⟨by first | rfl | (simp; done) | (simp [*]; done), by repeat (first | exact Drawn0.refl _ | apply Drawn0.step)⟩
                    · rw [if_neg c11] at H
                      have c11b0 : (a0 == 429) = false := beq_eq_false_iff_ne.mpr c11
                      have c11b1 : (a0 != 429) = true := bne_iff_ne.mpr c11
                      by_cases c12 : a0 = 500
                      · rw [if_pos c12] at H
                        have c12b0 : (a0 == 500) = true := beq_iff_eq.mpr c12
                        have c12b1 : (a0 != 500) = false := bne_eq_false_iff_eq.mpr c12
                        clear c12
                        obtain rfl := Option.some.inj H
                        go_enter Tryz.func29, Tryz.ntmps29
                        go_wp2
                        go_ret
                        exact ⟨by first | rfl | (simp; done) | (simp [*]; done), by repeat (first | exact Drawn0.refl _ | apply Drawn0.step)⟩
                      · rw [if_neg c12] at H
                        have c12b0 : (a0 == 500) = false := beq_eq_false_iff_ne.mpr c12
                        have c12b1 : (a0 != 500) = true := bne_iff_ne.mpr c12
                        by_cases c13 : a0 = 503
                        · rw [if_pos c13] at H
                          have c13b0 : (a0 == 503) = true := beq_iff_eq.mpr c13
                          have c13b1 : (a0 != 503) = false := bne_eq_false_iff_eq.mpr c13
                          clear c13
                          obtain rfl := Option.some.inj H
                          go_enter Tryz.func29, Tryz.ntmps29
                          go_wp2
                          go_ret
                          exact ⟨by first | rfl | (simp; done) | (simp [*]; done), by repeat (first | exact Drawn0.refl _ | apply Drawn0.step)⟩
                        · rw [if_neg c13] at H
                          have c13b0 : (a0 == 503) = false := beq_eq_false_iff_ne.mpr c13
                          have c13b1 : (a0 != 503) = true := bne_iff_ne.mpr c13
                          obtain rfl := Option.some.inj H
                          go_enter Tryz.func29, Tryz.ntmps29
                          go_wp2
                          go_ret
                          exact ⟨by first | rfl | (simp; done) | (simp [*]; done), by repeat (first | exact Drawn0.refl _ | apply Drawn0.step)⟩

end Go.Proofs.YtmfkgjnlobiobaaGreatDoor.X
namespace Go.Proofs.YtmfkgjnlobiobaaGreatDoor.X
open Go.RowKit Go.Proofs.YtmfkgjnlobiobaaGreatDoorW.PrintWords Go.Proofs.YtmfkgjnlobiobaaGreatDoorW.PrintLast Go.Proofs.YtmfkgjnlobiobaaGreatDoorW.PrintMore
attribute [local go_sem] max2_int min2_int max_two min_two max_three min_three max_four min_four   -- for this text's walks alone
set_option linter.unusedVariables false
set_option linter.unusedSimpArgs false

/-! ### wicketref15_ParseResponse: function 31 -/
mutual
def wicketref15_ParseResponse.j0 : Nat → ByteArray → Int → Option (Int × (List (S84)) × ByteArray × Int × Int)
  | 0, _, _ => none
  | k + 1, x0, x5 => if x5 < 100 then (wicketref15_ParseResponse.j1 k x0 x5 true) else (wicketref15_ParseResponse.j1 k x0 x5 (decide (x5 > 599)))
def wicketref15_ParseResponse.j1 : Nat → ByteArray → Int → Bool → Option (Int × (List (S84)) × ByteArray × Int × Int)
  | 0, _, _, _ => none
  | k + 1, x0, x5, x30 => if x30 = true then (some (0, ([] : List (S84)), (⟨#[]⟩ : ByteArray), 156, 9)) else ((wicketref15_Reason.f x5).bind fun t438 => (if 1 + t438.size ≤ 9223372036854775807 then (if ((⟨#[32]⟩ : ByteArray) ++ t438).size + 2 ≤ 9223372036854775807 then ((wicketref15_stands.f x0 12 (((⟨#[32]⟩ : ByteArray) ++ t438) ++ (⟨#[13, 10]⟩ : ByteArray))).bind fun t439 => (if t439 = true then ((wicketref15_head.f x0 (wrap64 (12 + ((((⟨#[32]⟩ : ByteArray) ++ t438) ++ (⟨#[13, 10]⟩ : ByteArray)).size : Int)))).bind fun bt440 => (if bt440.2.2.1 = 0 then (some (x5, bt440.1, bt440.2.1, 0, 0)) else (some (0, ([] : List (S84)), (⟨#[]⟩ : ByteArray), bt440.2.2.1, bt440.2.2.2)))) else (some (0, ([] : List (S84)), (⟨#[]⟩ : ByteArray), 156, 9)))) else (none)) else (none)))
end
def wicketref15_ParseResponse.f (k : Nat) (a0 : ByteArray) : Option (Int × (List (S84)) × ByteArray × Int × Int) := if (a0.size : Int) > 32768 then (some (0, ([] : List (S84)), (⟨#[]⟩ : ByteArray), 1, 0)) else ((wicketref15_stands.f a0 0 (⟨#[72, 84, 84, 80, 47, 49, 46, 49, 32]⟩ : ByteArray)).bind fun t436 => (if t436 = true then (if (a0.size : Int) ≥ 12 then (if 9 ≤ 12 then (if 12 ≤ (a0.size : Int) then ((wicketref15_length.f k (a0.extract 9 12)).bind fun t437 => (wicketref15_ParseResponse.j0 k a0 t437)) else (none)) else (none)) else (wicketref15_ParseResponse.j0 k a0 (-1))) else (some (0, ([] : List (S84)), (⟨#[]⟩ : ByteArray), 152, 0))))
theorem wicketref15_ParseResponse.mono_l : ∀ k, (∀ y0 y1, LeO (wicketref15_ParseResponse.j0 k y0 y1) (wicketref15_ParseResponse.j0 (k + 1) y0 y1)) ∧ (∀ y0 y1 y2, LeO (wicketref15_ParseResponse.j1 k y0 y1 y2) (wicketref15_ParseResponse.j1 (k + 1) y0 y1 y2))
  | 0 => ⟨fun _ _ r h => by simp [wicketref15_ParseResponse.j0] at h, fun _ _ _ r h => by simp [wicketref15_ParseResponse.j1] at h⟩
  | k + 1 => by
    obtain ⟨ih0, ih1⟩ := wicketref15_ParseResponse.mono_l k
    refine ⟨?_, ?_⟩
    · intro y0 y1
      unfold wicketref15_ParseResponse.j0
      repeat' first
      | (with_reducible exact ih0 _ _)
      | (with_reducible exact ih1 _ _ _)
      | (with_reducible exact wicketref15_length.mono _ _)
      | (with_reducible exact LeO.refl _)
      | (with_reducible exact LeO.none _)
      | (with_reducible refine LeO.ite ?_ ?_)
      | (with_reducible refine LeO.bind ?_ (fun _ => ?_))
      | exact ih0 _ _
      | exact ih1 _ _ _
      | exact wicketref15_length.mono _ _
      | exact LeO.none _
      | refine LeO.ite ?_ ?_
      | refine LeO.bind ?_ (fun _ => ?_)
    · intro y0 y1 y2
      unfold wicketref15_ParseResponse.j1
      repeat' first
      | (with_reducible exact ih0 _ _)
      | (with_reducible exact ih1 _ _ _)
      | (with_reducible exact wicketref15_length.mono _ _)
      | (with_reducible exact LeO.refl _)
      | (with_reducible exact LeO.none _)
      | (with_reducible refine LeO.ite ?_ ?_)
      | (with_reducible refine LeO.bind ?_ (fun _ => ?_))
      | exact ih0 _ _
      | exact ih1 _ _ _
      | exact wicketref15_length.mono _ _
      | exact LeO.none _
      | refine LeO.ite ?_ ?_
      | refine LeO.bind ?_ (fun _ => ?_)
theorem wicketref15_ParseResponse.mono : ∀ a0 k, LeO (wicketref15_ParseResponse.f k a0) (wicketref15_ParseResponse.f (k + 1) a0) := by
  intro a0 k
  obtain ⟨ih0, ih1⟩ := wicketref15_ParseResponse.mono_l k
  unfold wicketref15_ParseResponse.f
  repeat' first
      | (with_reducible exact ih0 _ _)
      | (with_reducible exact ih1 _ _ _)
      | (with_reducible exact wicketref15_length.mono _ _)
      | (with_reducible exact LeO.refl _)
      | (with_reducible exact LeO.none _)
      | (with_reducible refine LeO.ite ?_ ?_)
      | (with_reducible refine LeO.bind ?_ (fun _ => ?_))
      | exact ih0 _ _
      | exact ih1 _ _ _
      | exact wicketref15_length.mono _ _
      | exact LeO.none _
      | refine LeO.ite ?_ ?_
      | refine LeO.bind ?_ (fun _ => ?_)
set_option maxHeartbeats 8000000 in
set_option maxRecDepth 100000 in
theorem wicketref15_ParseResponse.calls (k : Nat) (a0 : ByteArray) (r1 : Int) (r2 : List (S84)) (r3 : ByteArray) (r4 : Int) (r5 : Int) (w : World) (h : wicketref15_ParseResponse.f k a0 = some (r1, r2, r3, r4, r5)) :
    Calls Tryz.prog 31 #[.string a0] w fun e w' => ∃ v1_ : Value, e = .returned (.tuple #[.agg #[.int .i64 r1, v1_, .string r3], .int .i64 r4, .int .i64 r5]) ∧ Kd.R k84 84 w' w.heap.size (fun _ => True) v1_ r2 ∧ Below w.heap.size w w' := by
  have hu48 := Tryz.underlying48
  have HB := Aside0.mk (Below.refl w.heap.size w)
  have H : (if (a0.size : Int) > 32768 then (some (0, ([] : List (S84)), (⟨#[]⟩ : ByteArray), 1, 0)) else ((wicketref15_stands.f a0 0 (⟨#[72, 84, 84, 80, 47, 49, 46, 49, 32]⟩ : ByteArray)).bind fun t436 => (if t436 = true then (if (a0.size : Int) ≥ 12 then (if 9 ≤ 12 then (if 12 ≤ (a0.size : Int) then ((wicketref15_length.f k (a0.extract 9 12)).bind fun t437 => (wicketref15_ParseResponse.j0 k a0 t437)) else (none)) else (none)) else (wicketref15_ParseResponse.j0 k a0 (-1))) else (some (0, ([] : List (S84)), (⟨#[]⟩ : ByteArray), 152, 0))))) = some (r1, r2, r3, r4, r5) := h
  clear h
  by_cases c2 : (a0.size : Int) > 32768
  · rw [if_pos c2] at H
    have c2b0 : decide (32768 < (a0.size : Int)) = true := decide_eq_true c2
    have c2b1 : decide (32768 < a0.size) = true := decide_eq_true (by omega)
    clear c2
    simp only [Option.some.injEq, Prod.mk.injEq] at H
    obtain ⟨rfl, rfl, rfl, rfl, rfl⟩ := H
    go_enter Tryz.func31, Tryz.ntmps31
    go_wp2_with (first | ((with_reducible refine gate_dst (N := 2) rfl ?_); refine box_event ?hg (N := 2) ?hd (cs := #[.int .i64 0, .slice none 0 0, .string (⟨#[]⟩ : ByteArray)]) (t := 48) ?hr ?_; (case hd => rfl); (case hg => rfl); (case hr => first | (go_simp; done) | (go_simp; rfl)); intro gb435 hg w3 hbox hb; have n0_ := Aside0.mk (below_step (by repeat (first | (with_reducible first | exact HB.out | apply below_alloc | apply pw_below_drewN | apply below_drew1) | exact HB.out)) hb); have n1_ := Aside0.mk (hbox); have n2_ := Aside0.mk ((by rw [hg]; exact (below_size (by repeat (first | (with_reducible first | exact HB.out | apply below_alloc | apply pw_below_drewN | apply below_drew1) | exact HB.out))) : w.heap.size ≤ gb435)); have n3_ := Aside0.mk ((by rw [hg]; exact (below_size (by repeat (first | (with_reducible first | exact HB.out | apply below_alloc | apply pw_below_drewN | apply below_drew1) | exact HB.out))) : w.heap.size ≤ gb435)); clear HB; have HB := n0_; have BK435 := n1_; have GW435 := n2_; have GE435 := n3_; clear n0_ n1_ n2_ n3_; clear hb hbox hg; have hcz4_0 : w3.cell? ⟨gb435, 0, none⟩ = some (.int .i64 0) := (blk_cell BK435.out 0).trans rfl; have hcz4_1 : w3.cell? ⟨gb435, 1, none⟩ = some (.slice none 0 0) := (blk_cell BK435.out 1).trans rfl; have hcz4_2 : w3.cell? ⟨gb435, 2, none⟩ = some (.string (⟨#[]⟩ : ByteArray)) := (blk_cell BK435.out 2).trans rfl; have hfz4_0 := blk_frozen BK435.out 0; have hfz4_1 := blk_frozen BK435.out 1; have hfz4_2 := blk_frozen BK435.out 2))
    refine bodyPost_ret (results_ctt rfl _ _ gb435 48 #[.int .i64 0, .slice none 0 0, .string (⟨#[]⟩ : ByteArray)] (0, 0) _ rfl (by (with_reducible repeat (first | refine blk_drewN ?_ _ | refine blk_drew ?_ | refine blk_alloc ?_ _)); refine blk_put (cs := #[.int .i64 0, .slice none 0 0, .string (⟨#[]⟩ : ByteArray)]) ?_ 2 _ rfl; (with_reducible repeat (first | refine blk_drewN ?_ _ | refine blk_drew ?_ | refine blk_alloc ?_ _)); refine blk_put (cs := #[.int .i64 0, .slice none 0 0, .string (⟨#[]⟩ : ByteArray)]) ?_ 1 _ rfl; (with_reducible repeat (first | refine blk_drewN ?_ _ | refine blk_drew ?_ | refine blk_alloc ?_ _)); refine blk_put (cs := #[.int .i64 0, .slice none 0 0, .string (⟨#[]⟩ : ByteArray)]) ?_ 0 _ rfl; (with_reducible repeat (first | refine blk_drewN ?_ _ | refine blk_drew ?_ | refine blk_alloc ?_ _)); exact BK435.out) Tryz.underlying48 rfl (by kernel_rfl)) rfl ?_
    exact ⟨_, by first | rfl | (simp [errW_none, errW_some] <;> rfl) | (simp [*, errW_none, errW_some] <;> rfl), by first | exact Kd.R_nil _ _ _ _ _ | exact Kd.N_nil _ _ _ _ _ | exact Kd.V_nil _ _ _ _ _ | exact Kd.Q_nil _ _ _ _ _ | exact Kd.S_nil _ _ _ _ _, by repeat (first | (with_reducible first | exact HB.out | apply below_alloc | apply pw_below_drewN | apply below_drew1 | refine below_set ?_ GE435.out) | exact HB.out)⟩
  · rw [if_neg c2] at H
    have c2b0 : decide (32768 < (a0.size : Int)) = false := decide_eq_false c2
    have c2b1 : decide (32768 < a0.size) = false := decide_eq_false (by omega)
    clear c2
    replace H := Option.bind_eq_some_iff.mp H
    obtain ⟨t436, A50, H⟩ := H
    replace H : (if t436 = true then (if (a0.size : Int) ≥ 12 then (if 9 ≤ 12 then (if 12 ≤ (a0.size : Int) then ((wicketref15_length.f k (a0.extract 9 12)).bind fun t437 => (wicketref15_ParseResponse.j0 k a0 t437)) else (none)) else (none)) else (wicketref15_ParseResponse.j0 k a0 (-1))) else (some (0, ([] : List (S84)), (⟨#[]⟩ : ByteArray), 152, 0))) = some (r1, r2, r3, r4, r5) := H
    have A5 := Aside0.mk A50
    clear A50
    by_cases c6 : t436 = true
    · subst c6
      have H1 : (if (a0.size : Int) ≥ 12 then (if 9 ≤ 12 then (if 12 ≤ (a0.size : Int) then ((wicketref15_length.f k (a0.extract 9 12)).bind fun t437 => (wicketref15_ParseResponse.j0 k a0 t437)) else (none)) else (none)) else (wicketref15_ParseResponse.j0 k a0 (-1))) = some (r1, r2, r3, r4, r5) := by rw [if_pos rfl] at H; exact H
      clear H
      have H := H1
      clear H1
      have HC7 := Aside0.mk H
      clear H
      go_enter Tryz.func31, Tryz.ntmps31
      go_upto_if 21 with (first | ((with_reducible refine gate_dst (N := 2) rfl ?_); refine box_event ?hg (N := 2) ?hd (cs := #[.int .i64 0, .slice none 0 0, .string (⟨#[]⟩ : ByteArray)]) (t := 48) ?hr ?_; (case hd => rfl); (case hg => rfl); (case hr => first | (go_simp; done) | (go_simp; rfl)); intro gb435 hg w8 hbox hb; have n0_ := Aside0.mk (below_step (by repeat (first | (with_reducible first | exact HB.out | apply below_alloc | apply pw_below_drewN | apply below_drew1) | exact HB.out)) hb); have n1_ := Aside0.mk (hbox); have n2_ := Aside0.mk ((by rw [hg]; exact (below_size (by repeat (first | (with_reducible first | exact HB.out | apply below_alloc | apply pw_below_drewN | apply below_drew1) | exact HB.out))) : w.heap.size ≤ gb435)); have n3_ := Aside0.mk ((by rw [hg]; exact (below_size (by repeat (first | (with_reducible first | exact HB.out | apply below_alloc | apply pw_below_drewN | apply below_drew1) | exact HB.out))) : w.heap.size ≤ gb435)); clear HB; have HB := n0_; have BK435 := n1_; have GW435 := n2_; have GE435 := n3_; clear n0_ n1_ n2_ n3_; clear hb hbox hg) | ((with_reducible refine gate_callee (f := 42) rfl ?_); refine goesL_ (some 16) rfl rfl Tryz.func42 (by kernel_rfl) rfl #[.string a0, .int .i64 0, .string (⟨#[72, 84, 84, 80, 47, 49, 46, 49, 32]⟩ : ByteArray)] rfl (by (try simp only [List.map_toArray, List.map_cons, List.map_nil]); first | done | rfl | (simp only [List.length_drop, List.length_take]; rfl)) ?_; (with_reducible refine (wicketref15_stands.calls a0 0 (⟨#[72, 84, 84, 80, 47, 49, 46, 49, 32]⟩ : ByteArray) true _ A5.out).mono ?_); rintro e w' ⟨rfl, ⟨nd, rfl⟩⟩; refine ⟨_, rfl, ?_⟩))
      (try simp only [Act.put, List.setIfInBounds_toArray, List.set_cons_zero, List.set_cons_succ])
      go_cut [5] (fun v5 wc => ∃ (kq : Nat) (x5_6 : Int), v5 = .int .i64 x5_6 ∧ Aside0 (wicketref15_ParseResponse.j0 kq a0 x5_6 = some (r1, r2, r3, r4, r5)) ∧ Aside0 (kq ≤ k) ∧ Aside0 (wc.heap[gb435]? = some (.cells #[.int .i64 0, (.slice none 0 0), .string (⟨#[]⟩ : ByteArray)] 48 (0, 0))) ∧ Aside0 (Below w.heap.size w wc))
      case first =>
        have H := HC7.out
        clear HC7
        by_cases c9 : (a0.size : Int) ≥ 12
        · rw [if_pos c9] at H
          have c9b0 : decide (12 ≤ (a0.size : Int)) = true := decide_eq_true c9
          have c9b1 : decide (12 ≤ a0.size) = true := decide_eq_true (by omega)
          clear c9
          (first | rw [c9b0] | (simp only [i64_w, i32_w]; rw [c9b0]) | skip)
          by_cases c10 : 9 ≤ 12
          · rw [if_pos c10] at H
            have c10b0 := eq_true c10
            have c10b1 : decide (9 ≤ 12) = true := decide_eq_true c10
            clear c10
            by_cases c11 : 12 ≤ (a0.size : Int)
            · rw [if_pos c11] at H
              have c11b0 := eq_true c11
              have c11b1 : decide (12 ≤ (a0.size : Int)) = true := decide_eq_true c11
              clear c11
              replace H := Option.bind_eq_some_iff.mp H
              obtain ⟨t437, A120, H⟩ := H
              replace H : (wicketref15_ParseResponse.j0 k a0 t437) = some (r1, r2, r3, r4, r5) := H
              have A12 := Aside0.mk A120
              clear A120
              have H' := Aside0.mk H
              clear H
              go_wp2_with (first | ((with_reducible refine gate_callee (f := 56) rfl ?_); refine goesL_ (some 24) rfl rfl Tryz.func56 (by kernel_rfl) rfl #[.string (a0.extract 9 12)] rfl (by (try simp only [List.map_toArray, List.map_cons, List.map_nil]); first | done | rfl | (simp only [List.length_drop, List.length_take]; rfl)) ?_; (with_reducible refine (wicketref15_length.calls k (a0.extract 9 12) t437 _ A12.out).mono ?_); rintro e w' ⟨rfl, ⟨nd, rfl⟩⟩; refine ⟨_, rfl, ?_⟩))
              go_meet
              case rel => exact ⟨_, (t437), (by first | rfl | (simp; done) | (simp [*]; done)), H', ⟨by first | omega | exact Nat.le_refl _⟩, ⟨by (with_reducible repeat (first | refine blk_drewN ?_ _ | refine blk_drew ?_ | refine blk_alloc ?_ _)); exact BK435.out⟩, ⟨by repeat (first | (with_reducible first | exact HB.out | apply below_alloc | apply pw_below_drewN | apply below_drew1 | refine below_set ?_ GE435.out) | exact HB.out)⟩⟩
            · rw [if_neg c11] at H
              exact absurd H (by simp)
          · rw [if_neg c10] at H
            exact absurd H (by simp)
        · rw [if_neg c9] at H
          have c9b0 : decide (12 ≤ (a0.size : Int)) = false := decide_eq_false c9
          have c9b1 : decide (12 ≤ a0.size) = false := decide_eq_false (by omega)
          clear c9
          (first | rw [c9b0] | (simp only [i64_w, i32_w]; rw [c9b0]) | skip)
          have H' := Aside0.mk H
          clear H
          go_wp2
          go_meet
          case rel => exact ⟨_, ((-1)), (by first | rfl | (simp; done) | (simp [*]; done)), H', ⟨by first | omega | exact Nat.le_refl _⟩, ⟨by (with_reducible repeat (first | refine blk_drewN ?_ _ | refine blk_drew ?_ | refine blk_alloc ?_ _)); exact BK435.out⟩, ⟨by repeat (first | (with_reducible first | exact HB.out | apply below_alloc | apply pw_below_drewN | apply below_drew1 | refine below_set ?_ GE435.out) | exact HB.out)⟩⟩
      case rest =>
        clear HC7
        try clear c1
        try clear c2
        try clear c2b0
        try clear c2b1
        try clear p2
        try clear c3
        try clear c4
        try clear c5
        try clear c6
        try clear c9
        try clear c9b0
        try clear c9b1
        try clear c10
        try clear c10b0
        try clear c10b1
        try clear c11
        try clear c11b0
        try clear c11b1
        try clear hcz4_0
        try clear hcz4_1
        try clear hcz4_2
        try clear hfz4_0
        try clear hfz4_1
        try clear hfz4_2
        obtain ⟨kq, x5_6, rfl, HA, HJ6, BK435, HB⟩ := hcut
        cases kq with
        | zero => exact absurd HA.out (by simp [wicketref15_ParseResponse.j0])
        | succ kj6 =>
          have H := HA.out
          clear HA
          simp only [wicketref15_ParseResponse.j0] at H
          have HC13 := Aside0.mk H
          clear H
          go_upto_region 8 with (fail)
          go_cut [30] (fun v30 wc => ∃ (kq : Nat) (x30_12 : Bool), v30 = .bool x30_12 ∧ Aside0 (wicketref15_ParseResponse.j1 kq a0 x5_6 x30_12 = some (r1, r2, r3, r4, r5)) ∧ Aside0 (kq ≤ kj6) ∧ Aside0 (wc.heap[gb435]? = some (.cells #[.int .i64 0, (.slice none 0 0), .string (⟨#[]⟩ : ByteArray)] 48 (0, 0))) ∧ Aside0 (Below w.heap.size w wc))
          case first =>
            have H := HC13.out
            clear HC13
            by_cases c14 : x5_6 < 100
            · rw [if_pos c14] at H
              have c14b0 : decide (x5_6 < 100) = true := decide_eq_true c14
              clear c14
              (first | rw [c14b0] | (simp only [i64_w, i32_w]; rw [c14b0]) | skip)
              have H' := Aside0.mk H
              clear H
              go_wp2
              go_meet
              case rel => exact ⟨_, (true), (by first | rfl | (simp; done) | (simp [*]; done)), H', ⟨by have := HJ6.out; first | omega | exact Nat.le_refl _⟩, ⟨by (with_reducible repeat (first | refine blk_drewN ?_ _ | refine blk_drew ?_ | refine blk_alloc ?_ _)); exact BK435.out⟩, ⟨by repeat (first | (with_reducible first | exact HB.out | apply below_alloc | apply pw_below_drewN | apply below_drew1 | refine below_set ?_ GE435.out) | exact HB.out)⟩⟩
            · rw [if_neg c14] at H
              have c14b0 : decide (x5_6 < 100) = false := decide_eq_false c14
              clear c14
              (first | rw [c14b0] | (simp only [i64_w, i32_w]; rw [c14b0]) | skip)
              have H' := Aside0.mk H
              clear H
              go_wp2
              go_meet
              case rel => exact ⟨_, (decide (x5_6 > 599)), (by first | rfl | (simp; done) | (simp [*]; done)), H', ⟨by have := HJ6.out; first | omega | exact Nat.le_refl _⟩, ⟨by (with_reducible repeat (first | refine blk_drewN ?_ _ | refine blk_drew ?_ | refine blk_alloc ?_ _)); exact BK435.out⟩, ⟨by repeat (first | (with_reducible first | exact HB.out | apply below_alloc | apply pw_below_drewN | apply below_drew1 | refine below_set ?_ GE435.out) | exact HB.out)⟩⟩
          case rest =>
            clear HC13
            try clear c1
            try clear c2
            try clear c2b0
            try clear c2b1
            try clear p2
            try clear c3
            try clear c4
            try clear c5
            try clear c6
            try clear c9
            try clear c9b0
            try clear c9b1
            try clear c10
            try clear c10b0
            try clear c10b1
            try clear c11
            try clear c11b0
            try clear c11b1
            try clear c14
            try clear c14b0
            try clear hcz4_0
            try clear hcz4_1
            try clear hcz4_2
            try clear hfz4_0
            try clear hfz4_1
            try clear hfz4_2
            try clear p2
            obtain ⟨kq, x30_12, rfl, HA, HJ12, BK435, HB⟩ := hcut
            cases kq with
            | zero => exact absurd HA.out (by simp [wicketref15_ParseResponse.j1])
            | succ kj12 =>
              have H := HA.out
              clear HA
              simp only [wicketref15_ParseResponse.j1] at H
              by_cases c15 : x30_12 = true
              · subst c15
                have H1 : (some (0, ([] : List (S84)), (⟨#[]⟩ : ByteArray), 156, 9)) = some (r1, r2, r3, r4, r5) := by rw [if_pos rfl] at H; exact H
                clear H
                have H := H1
                clear H1
                simp only [Option.some.injEq, Prod.mk.injEq] at H
                obtain ⟨rfl, rfl, rfl, rfl, rfl⟩ := H
                have hcz16_0 : wc.cell? ⟨gb435, 0, none⟩ = some (.int .i64 0) := (blk_cell BK435.out 0).trans rfl
                have hcz16_1 : wc.cell? ⟨gb435, 1, none⟩ = some (.slice none 0 0) := (blk_cell BK435.out 1).trans rfl
                have hcz16_2 : wc.cell? ⟨gb435, 2, none⟩ = some (.string (⟨#[]⟩ : ByteArray)) := (blk_cell BK435.out 2).trans rfl
                have hfz16_0 := blk_frozen BK435.out 0
                have hfz16_1 := blk_frozen BK435.out 1
                have hfz16_2 := blk_frozen BK435.out 2
                go_wp2
                refine bodyPost_ret (results_ctt rfl _ _ gb435 48 #[.int .i64 0, .slice none 0 0, .string (⟨#[]⟩ : ByteArray)] (0, 0) _ rfl (by (with_reducible repeat (first | refine blk_drewN ?_ _ | refine blk_drew ?_ | refine blk_alloc ?_ _)); refine blk_put (cs := #[.int .i64 0, .slice none 0 0, .string (⟨#[]⟩ : ByteArray)]) ?_ 2 _ rfl; (with_reducible repeat (first | refine blk_drewN ?_ _ | refine blk_drew ?_ | refine blk_alloc ?_ _)); refine blk_put (cs := #[.int .i64 0, .slice none 0 0, .string (⟨#[]⟩ : ByteArray)]) ?_ 1 _ rfl; (with_reducible repeat (first | refine blk_drewN ?_ _ | refine blk_drew ?_ | refine blk_alloc ?_ _)); refine blk_put (cs := #[.int .i64 0, .slice none 0 0, .string (⟨#[]⟩ : ByteArray)]) ?_ 0 _ rfl; (with_reducible repeat (first | refine blk_drewN ?_ _ | refine blk_drew ?_ | refine blk_alloc ?_ _)); exact BK435.out) Tryz.underlying48 rfl (by kernel_rfl)) rfl ?_
                exact ⟨_, by first | rfl | (simp [errW_none, errW_some] <;> rfl) | (simp [*, errW_none, errW_some] <;> rfl), by first | exact Kd.R_nil _ _ _ _ _ | exact Kd.N_nil _ _ _ _ _ | exact Kd.V_nil _ _ _ _ _ | exact Kd.Q_nil _ _ _ _ _ | exact Kd.S_nil _ _ _ _ _, by repeat (first | (with_reducible first | exact HB.out | apply below_alloc | apply pw_below_drewN | apply below_drew1 | refine below_set ?_ GE435.out) | exact HB.out)⟩
              · replace c15 := Bool.eq_false_iff.mpr c15
                subst c15
                have H1 : ((wicketref15_Reason.f x5_6).bind fun t438 => (if 1 + t438.size ≤ 9223372036854775807 then (if ((⟨#[32]⟩ : ByteArray) ++ t438).size + 2 ≤ 9223372036854775807 then ((wicketref15_stands.f a0 12 (((⟨#[32]⟩ : ByteArray) ++ t438) ++ (⟨#[13, 10]⟩ : ByteArray))).bind fun t439 => (if t439 = true then ((wicketref15_head.f a0 (wrap64 (12 + ((((⟨#[32]⟩ : ByteArray) ++ t438) ++ (⟨#[13, 10]⟩ : ByteArray)).size : Int)))).bind fun bt440 => (if bt440.2.2.1 = 0 then (some (x5_6, bt440.1, bt440.2.1, 0, 0)) else (some (0, ([] : List (S84)), (⟨#[]⟩ : ByteArray), bt440.2.2.1, bt440.2.2.2)))) else (some (0, ([] : List (S84)), (⟨#[]⟩ : ByteArray), 156, 9)))) else (none)) else (none))) = some (r1, r2, r3, r4, r5) := by rw [if_neg (show ¬ (false = true) by decide)] at H; exact H
                clear H
                have H := H1
                clear H1
                replace H := Option.bind_eq_some_iff.mp H
                obtain ⟨t438, A170, H⟩ := H
                replace H : (if 1 + t438.size ≤ 9223372036854775807 then (if ((⟨#[32]⟩ : ByteArray) ++ t438).size + 2 ≤ 9223372036854775807 then ((wicketref15_stands.f a0 12 (((⟨#[32]⟩ : ByteArray) ++ t438) ++ (⟨#[13, 10]⟩ : ByteArray))).bind fun t439 => (if t439 = true then ((wicketref15_head.f a0 (wrap64 (12 + ((((⟨#[32]⟩ : ByteArray) ++ t438) ++ (⟨#[13, 10]⟩ : ByteArray)).size : Int)))).bind fun bt440 => (if bt440.2.2.1 = 0 then (some (x5_6, bt440.1, bt440.2.1, 0, 0)) else (some (0, ([] : List (S84)), (⟨#[]⟩ : ByteArray), bt440.2.2.1, bt440.2.2.2)))) else (some (0, ([] : List (S84)), (⟨#[]⟩ : ByteArray), 156, 9)))) else (none)) else (none)) = some (r1, r2, r3, r4, r5) := H
                have A17 := Aside0.mk A170
                clear A170
                by_cases c18 : 1 + t438.size ≤ 9223372036854775807
                · rw [if_pos c18] at H
                  have c18b0 := eq_true c18
                  have c18b1 : decide (1 + t438.size ≤ 9223372036854775807) = true := decide_eq_true c18
                  try have c18b2 : (9223372036854775807 < 1 + t438.size) = False := eq_false (Nat.not_lt.2 c18)
                  by_cases c19 : ((⟨#[32]⟩ : ByteArray) ++ t438).size + 2 ≤ 9223372036854775807
                  · rw [if_pos c19] at H
                    have c19b0 := eq_true c19
                    have c19b1 : decide (((⟨#[32]⟩ : ByteArray) ++ t438).size + 2 ≤ 9223372036854775807) = true := decide_eq_true c19
                    try have c19b2 : (9223372036854775807 < ((⟨#[32]⟩ : ByteArray) ++ t438).size + 2) = False := eq_false (Nat.not_lt.2 c19)
                    try (have c19s_ : 1 + t438.size + 2 ≤ 9223372036854775807 := (by have h := c19; simp only [ByteArray.size_append] at h; exact h))
                    try (have c19t_ : (9223372036854775807 < 1 + t438.size + 2) = False := eq_false (Nat.not_lt.2 c19s_))
                    replace H := Option.bind_eq_some_iff.mp H
                    obtain ⟨t439, A200, H⟩ := H
                    replace H : (if t439 = true then ((wicketref15_head.f a0 (wrap64 (12 + ((((⟨#[32]⟩ : ByteArray) ++ t438) ++ (⟨#[13, 10]⟩ : ByteArray)).size : Int)))).bind fun bt440 => (if bt440.2.2.1 = 0 then (some (x5_6, bt440.1, bt440.2.1, 0, 0)) else (some (0, ([] : List (S84)), (⟨#[]⟩ : ByteArray), bt440.2.2.1, bt440.2.2.2)))) else (some (0, ([] : List (S84)), (⟨#[]⟩ : ByteArray), 156, 9))) = some (r1, r2, r3, r4, r5) := H
                    have A20 := Aside0.mk A200
                    clear A200
                    by_cases c21 : t439 = true
                    · subst c21
                      have H1 : ((wicketref15_head.f a0 (wrap64 (12 + ((((⟨#[32]⟩ : ByteArray) ++ t438) ++ (⟨#[13, 10]⟩ : ByteArray)).size : Int)))).bind fun bt440 => (if bt440.2.2.1 = 0 then (some (x5_6, bt440.1, bt440.2.1, 0, 0)) else (some (0, ([] : List (S84)), (⟨#[]⟩ : ByteArray), bt440.2.2.1, bt440.2.2.2)))) = some (r1, r2, r3, r4, r5) := by rw [if_pos rfl] at H; exact H
                      clear H
                      have H := H1
                      clear H1
                      replace H := Option.bind_eq_some_iff.mp H
                      obtain ⟨⟨t440, t441, t442, t443⟩, A220, H⟩ := H
                      replace H : (if t442 = 0 then (some (x5_6, t440, t441, 0, 0)) else (some (0, ([] : List (S84)), (⟨#[]⟩ : ByteArray), t442, t443))) = some (r1, r2, r3, r4, r5) := H
                      have A22 := Aside0.mk A220
                      clear A220
                      by_cases c23 : t442 = 0
                      · rw [if_pos c23] at H
                        have c23b0 : (t442 == 0) = true := beq_iff_eq.mpr c23
                        have c23b1 : (t442 != 0) = false := bne_eq_false_iff_eq.mpr c23
                        clear c23
                        simp only [Option.some.injEq, Prod.mk.injEq] at H
                        obtain ⟨rfl, rfl, rfl, rfl, rfl⟩ := H
                        go_wp2_with (first | ((with_reducible refine gate_callee (f := 29) rfl ?_); refine goesL_ (some 33) rfl rfl Tryz.func29 (by kernel_rfl) rfl #[.int .i64 x5_6] rfl (by (try simp only [List.map_toArray, List.map_cons, List.map_nil]); first | done | rfl | (simp only [ByteArray.size_append]; rfl) | (simp only [List.length_drop, List.length_take]; rfl)) ?_; (with_reducible refine (wicketref15_Reason.calls x5_6 t438 _ A17.out).mono ?_); rintro e w' ⟨rfl, ⟨nd, rfl⟩⟩; refine ⟨_, rfl, ?_⟩; (try (rw [drewN_self wc]; generalize hq_ : World.drewN wc _ = wc; have n0_ : Aside0 (wc.heap[gb435]? = some (.cells #[.int .i64 0, .slice none 0 0, .string (⟨#[]⟩ : ByteArray)] 48 (0, 0))) := ⟨by rw [← hq_]; exact (by (with_reducible repeat (first | refine blk_drewN ?_ _ | refine blk_drew ?_ | refine blk_alloc ?_ _)); exact BK435.out)⟩; have n1_ : Aside0 (Below w.heap.size w wc) := ⟨by rw [← hq_]; exact (by repeat (first | (with_reducible first | exact HB.out | apply below_alloc | apply pw_below_drewN | apply below_drew1 | refine below_set ?_ GE435.out) | exact HB.out))⟩; clear BK435 HB hq_; have BK435 := n0_; have HB := n1_; clear n0_ n1_))) | ((with_reducible refine gate_callee (f := 42) rfl ?_); refine goesL_ (some 38) rfl rfl Tryz.func42 (by kernel_rfl) rfl #[.string a0, .int .i64 12, .string (((⟨#[32]⟩ : ByteArray) ++ t438) ++ (⟨#[13, 10]⟩ : ByteArray))] rfl (by (try simp only [List.map_toArray, List.map_cons, List.map_nil]); first | done | rfl | (simp only [ByteArray.size_append]; rfl) | (simp only [List.length_drop, List.length_take]; rfl)) ?_; (with_reducible refine (wicketref15_stands.calls a0 12 (((⟨#[32]⟩ : ByteArray) ++ t438) ++ (⟨#[13, 10]⟩ : ByteArray)) true _ A20.out).mono ?_); rintro e w' ⟨rfl, ⟨nd, rfl⟩⟩; refine ⟨_, rfl, ?_⟩; (try (rw [drewN_self wc]; generalize hq_ : World.drewN wc _ = wc; have n0_ : Aside0 (wc.heap[gb435]? = some (.cells #[.int .i64 0, .slice none 0 0, .string (⟨#[]⟩ : ByteArray)] 48 (0, 0))) := ⟨by rw [← hq_]; exact (by (with_reducible repeat (first | refine blk_drewN ?_ _ | refine blk_drew ?_ | refine blk_alloc ?_ _)); exact BK435.out)⟩; have n1_ : Aside0 (Below w.heap.size w wc) := ⟨by rw [← hq_]; exact (by repeat (first | (with_reducible first | exact HB.out | apply below_alloc | apply pw_below_drewN | apply below_drew1 | refine below_set ?_ GE435.out) | exact HB.out))⟩; clear BK435 HB hq_; have BK435 := n0_; have HB := n1_; clear n0_ n1_))) | ((with_reducible refine gate_callee (f := 43) rfl ?_); refine goesL_ (some 46) rfl rfl Tryz.func43 (by kernel_rfl) rfl #[.string a0, .int .i64 (wrap64 (12 + ((((⟨#[32]⟩ : ByteArray) ++ t438) ++ (⟨#[13, 10]⟩ : ByteArray)).size : Int)))] rfl (by (try simp only [List.map_toArray, List.map_cons, List.map_nil]); first | done | rfl | (simp only [ByteArray.size_append]; rfl) | (simp only [List.length_drop, List.length_take]; rfl)) ?_; (with_reducible refine (wicketref15_head.calls a0 (wrap64 (12 + ((((⟨#[32]⟩ : ByteArray) ++ t438) ++ (⟨#[13, 10]⟩ : ByteArray)).size : Int))) t440 t441 t442 t443 _ A22.out).mono ?_); rintro e w24 ⟨v444, rfl, ho0, hb⟩; refine ⟨_, rfl, ?_⟩; have n0_ := Aside0.mk (Kd.R_lower ho0 (below_size (by repeat (first | (with_reducible first | exact HB.out | apply below_alloc | apply pw_below_drewN | apply below_drew1 | refine below_set ?_ GE435.out) | exact HB.out)))); have n1_ := Aside0.mk (blk_below (g := gb435) (o := .cells #[.int .i64 0, .slice none 0 0, .string (⟨#[]⟩ : ByteArray)] 48 (0, 0)) (by (with_reducible repeat (first | refine blk_drewN ?_ _ | refine blk_drew ?_ | refine blk_alloc ?_ _)); exact BK435.out) hb); have n2_ := Aside0.mk (below_step (by repeat (first | (with_reducible first | exact HB.out | apply below_alloc | apply pw_below_drewN | apply below_drew1 | refine below_set ?_ GE435.out) | exact HB.out)) hb); clear BK435; clear HB; have HO445 := n0_; have BK435 := n1_; have HB := n2_; clear n0_ n1_ n2_; (try clear hb); (try clear hb2); (try clear hk); (try clear hi); (try clear ho0); obtain ⟨Ao25, co25, eo25⟩ := Kd.R_slice HO445.out; subst eo25; have hcz26_0 : w24.cell? ⟨gb435, 0, none⟩ = some (.int .i64 0) := (blk_cell BK435.out 0).trans rfl; have hcz26_1 : w24.cell? ⟨gb435, 1, none⟩ = some (.slice none 0 0) := (blk_cell BK435.out 1).trans rfl; have hcz26_2 : w24.cell? ⟨gb435, 2, none⟩ = some (.string (⟨#[]⟩ : ByteArray)) := (blk_cell BK435.out 2).trans rfl; have hfz26_0 := blk_frozen BK435.out 0; have hfz26_1 := blk_frozen BK435.out 1; have hfz26_2 := blk_frozen BK435.out 2))
                        refine bodyPost_ret (results_ctt rfl _ _ gb435 48 #[.int .i64 x5_6, .slice Ao25 t440.length co25, .string t441] (0, 0) _ rfl (by (with_reducible repeat (first | refine blk_drewN ?_ _ | refine blk_drew ?_ | refine blk_alloc ?_ _)); refine blk_put (cs := #[.int .i64 x5_6, .slice Ao25 t440.length co25, .string (⟨#[]⟩ : ByteArray)]) ?_ 2 _ rfl; (with_reducible repeat (first | refine blk_drewN ?_ _ | refine blk_drew ?_ | refine blk_alloc ?_ _)); refine blk_put (cs := #[.int .i64 x5_6, .slice none 0 0, .string (⟨#[]⟩ : ByteArray)]) ?_ 1 _ rfl; (with_reducible repeat (first | refine blk_drewN ?_ _ | refine blk_drew ?_ | refine blk_alloc ?_ _)); refine blk_put (cs := #[.int .i64 0, .slice none 0 0, .string (⟨#[]⟩ : ByteArray)]) ?_ 0 _ rfl; (with_reducible repeat (first | refine blk_drewN ?_ _ | refine blk_drew ?_ | refine blk_alloc ?_ _)); exact BK435.out) Tryz.underlying48 rfl (by kernel_rfl)) rfl ?_
                        exact ⟨_, by first | rfl | (simp [errW_none, errW_some] <;> rfl) | (simp [*, errW_none, errW_some] <;> rfl), by (with_reducible repeat (first | apply Kd.R_alloc | apply Kd.R_drewN | apply Kd.R_drew)); exact Kd.R_mono (Kd.R_far (p := ⟨gb435, 2, none⟩) (Kd.R_far (p := ⟨gb435, 1, none⟩) (Kd.R_far (p := ⟨gb435, 0, none⟩) (Kd.R_types HO445.out BK435.out (by decide)) (fun _ hk => hk.2) (.int .i64 x5_6)) (fun _ hk => hk.2) (.slice Ao25 t440.length co25)) (fun _ hk => hk.2) (.string t441)) (fun _ hk => trivial), by repeat (first | (with_reducible first | exact HB.out | apply below_alloc | apply pw_below_drewN | apply below_drew1 | refine below_set ?_ GE435.out) | exact HB.out)⟩
                      · rw [if_neg c23] at H
                        have c23b0 : (t442 == 0) = false := beq_eq_false_iff_ne.mpr c23
                        have c23b1 : (t442 != 0) = true := bne_iff_ne.mpr c23
                        simp only [Option.some.injEq, Prod.mk.injEq] at H
                        obtain ⟨rfl, rfl, rfl, rfl, rfl⟩ := H
                        go_wp2_with (first | ((with_reducible refine gate_callee (f := 29) rfl ?_); refine goesL_ (some 33) rfl rfl Tryz.func29 (by kernel_rfl) rfl #[.int .i64 x5_6] rfl (by (try simp only [List.map_toArray, List.map_cons, List.map_nil]); first | done | rfl | (simp only [ByteArray.size_append]; rfl) | (simp only [List.length_drop, List.length_take]; rfl)) ?_; (with_reducible refine (wicketref15_Reason.calls x5_6 t438 _ A17.out).mono ?_); rintro e w' ⟨rfl, ⟨nd, rfl⟩⟩; refine ⟨_, rfl, ?_⟩; (try (rw [drewN_self wc]; generalize hq_ : World.drewN wc _ = wc; have n0_ : Aside0 (wc.heap[gb435]? = some (.cells #[.int .i64 0, .slice none 0 0, .string (⟨#[]⟩ : ByteArray)] 48 (0, 0))) := ⟨by rw [← hq_]; exact (by (with_reducible repeat (first | refine blk_drewN ?_ _ | refine blk_drew ?_ | refine blk_alloc ?_ _)); exact BK435.out)⟩; have n1_ : Aside0 (Below w.heap.size w wc) := ⟨by rw [← hq_]; exact (by repeat (first | (with_reducible first | exact HB.out | apply below_alloc | apply pw_below_drewN | apply below_drew1 | refine below_set ?_ GE435.out) | exact HB.out))⟩; clear BK435 HB hq_; have BK435 := n0_; have HB := n1_; clear n0_ n1_))) | ((with_reducible refine gate_callee (f := 42) rfl ?_); refine goesL_ (some 38) rfl rfl Tryz.func42 (by kernel_rfl) rfl #[.string a0, .int .i64 12, .string (((⟨#[32]⟩ : ByteArray) ++ t438) ++ (⟨#[13, 10]⟩ : ByteArray))] rfl (by (try simp only [List.map_toArray, List.map_cons, List.map_nil]); first | done | rfl | (simp only [ByteArray.size_append]; rfl) | (simp only [List.length_drop, List.length_take]; rfl)) ?_; (with_reducible refine (wicketref15_stands.calls a0 12 (((⟨#[32]⟩ : ByteArray) ++ t438) ++ (⟨#[13, 10]⟩ : ByteArray)) true _ A20.out).mono ?_); rintro e w' ⟨rfl, ⟨nd, rfl⟩⟩; refine ⟨_, rfl, ?_⟩; (try (rw [drewN_self wc]; generalize hq_ : World.drewN wc _ = wc; have n0_ : Aside0 (wc.heap[gb435]? = some (.cells #[.int .i64 0, .slice none 0 0, .string (⟨#[]⟩ : ByteArray)] 48 (0, 0))) := ⟨by rw [← hq_]; exact (by (with_reducible repeat (first | refine blk_drewN ?_ _ | refine blk_drew ?_ | refine blk_alloc ?_ _)); exact BK435.out)⟩; have n1_ : Aside0 (Below w.heap.size w wc) := ⟨by rw [← hq_]; exact (by repeat (first | (with_reducible first | exact HB.out | apply below_alloc | apply pw_below_drewN | apply below_drew1 | refine below_set ?_ GE435.out) | exact HB.out))⟩; clear BK435 HB hq_; have BK435 := n0_; have HB := n1_; clear n0_ n1_))) | ((with_reducible refine gate_callee (f := 43) rfl ?_); refine goesL_ (some 46) rfl rfl Tryz.func43 (by kernel_rfl) rfl #[.string a0, .int .i64 (wrap64 (12 + ((((⟨#[32]⟩ : ByteArray) ++ t438) ++ (⟨#[13, 10]⟩ : ByteArray)).size : Int)))] rfl (by (try simp only [List.map_toArray, List.map_cons, List.map_nil]); first | done | rfl | (simp only [ByteArray.size_append]; rfl) | (simp only [List.length_drop, List.length_take]; rfl)) ?_; (with_reducible refine (wicketref15_head.calls a0 (wrap64 (12 + ((((⟨#[32]⟩ : ByteArray) ++ t438) ++ (⟨#[13, 10]⟩ : ByteArray)).size : Int))) t440 t441 t442 t443 _ A22.out).mono ?_); rintro e w27 ⟨v444, rfl, ho0, hb⟩; refine ⟨_, rfl, ?_⟩; have n0_ := Aside0.mk (Kd.R_lower ho0 (below_size (by repeat (first | (with_reducible first | exact HB.out | apply below_alloc | apply pw_below_drewN | apply below_drew1 | refine below_set ?_ GE435.out) | exact HB.out)))); have n1_ := Aside0.mk (blk_below (g := gb435) (o := .cells #[.int .i64 0, .slice none 0 0, .string (⟨#[]⟩ : ByteArray)] 48 (0, 0)) (by (with_reducible repeat (first | refine blk_drewN ?_ _ | refine blk_drew ?_ | refine blk_alloc ?_ _)); exact BK435.out) hb); have n2_ := Aside0.mk (below_step (by repeat (first | (with_reducible first | exact HB.out | apply below_alloc | apply pw_below_drewN | apply below_drew1 | refine below_set ?_ GE435.out) | exact HB.out)) hb); clear BK435; clear HB; have HO445 := n0_; have BK435 := n1_; have HB := n2_; clear n0_ n1_ n2_; (try clear hb); (try clear hb2); (try clear hk); (try clear hi); (try clear ho0); have hcz28_0 : w27.cell? ⟨gb435, 0, none⟩ = some (.int .i64 0) := (blk_cell BK435.out 0).trans rfl; have hcz28_1 : w27.cell? ⟨gb435, 1, none⟩ = some (.slice none 0 0) := (blk_cell BK435.out 1).trans rfl; have hcz28_2 : w27.cell? ⟨gb435, 2, none⟩ = some (.string (⟨#[]⟩ : ByteArray)) := (blk_cell BK435.out 2).trans rfl; have hfz28_0 := blk_frozen BK435.out 0; have hfz28_1 := blk_frozen BK435.out 1; have hfz28_2 := blk_frozen BK435.out 2))
                        refine bodyPost_ret (results_ctt rfl _ _ gb435 48 #[.int .i64 0, .slice none 0 0, .string (⟨#[]⟩ : ByteArray)] (0, 0) _ rfl (by (with_reducible repeat (first | refine blk_drewN ?_ _ | refine blk_drew ?_ | refine blk_alloc ?_ _)); refine blk_put (cs := #[.int .i64 0, .slice none 0 0, .string (⟨#[]⟩ : ByteArray)]) ?_ 2 _ rfl; (with_reducible repeat (first | refine blk_drewN ?_ _ | refine blk_drew ?_ | refine blk_alloc ?_ _)); refine blk_put (cs := #[.int .i64 0, .slice none 0 0, .string (⟨#[]⟩ : ByteArray)]) ?_ 1 _ rfl; (with_reducible repeat (first | refine blk_drewN ?_ _ | refine blk_drew ?_ | refine blk_alloc ?_ _)); refine blk_put (cs := #[.int .i64 0, .slice none 0 0, .string (⟨#[]⟩ : ByteArray)]) ?_ 0 _ rfl; (with_reducible repeat (first | refine blk_drewN ?_ _ | refine blk_drew ?_ | refine blk_alloc ?_ _)); exact BK435.out) Tryz.underlying48 rfl (by kernel_rfl)) rfl ?_
                        exact ⟨_, by first | rfl | (simp [errW_none, errW_some] <;> rfl) | (simp [*, errW_none, errW_some] <;> rfl), by first | exact Kd.R_nil _ _ _ _ _ | exact Kd.N_nil _ _ _ _ _ | exact Kd.V_nil _ _ _ _ _ | exact Kd.Q_nil _ _ _ _ _ | exact Kd.S_nil _ _ _ _ _, by repeat (first | (with_reducible first | exact HB.out | apply below_alloc | apply pw_below_drewN | apply below_drew1 | refine below_set ?_ GE435.out) | exact HB.out)⟩
                    · replace c21 := Bool.eq_false_iff.mpr c21
                      subst c21
                      have H1 : (some (0, ([] : List (S84)), (⟨#[]⟩ : ByteArray), 156, 9)) = some (r1, r2, r3, r4, r5) := by rw [if_neg (show ¬ (false = true) by decide)] at H; exact H
                      clear H
                      have H := H1
                      clear H1
                      simp only [Option.some.injEq, Prod.mk.injEq] at H
                      obtain ⟨rfl, rfl, rfl, rfl, rfl⟩ := H
                      go_wp2_with (first | ((with_reducible refine gate_callee (f := 29) rfl ?_); refine goesL_ (some 33) rfl rfl Tryz.func29 (by kernel_rfl) rfl #[.int .i64 x5_6] rfl (by (try simp only [List.map_toArray, List.map_cons, List.map_nil]); first | done | rfl | (simp only [List.length_drop, List.length_take]; rfl)) ?_; (with_reducible refine (wicketref15_Reason.calls x5_6 t438 _ A17.out).mono ?_); rintro e w' ⟨rfl, ⟨nd, rfl⟩⟩; refine ⟨_, rfl, ?_⟩; (try (rw [drewN_self wc]; generalize hq_ : World.drewN wc _ = wc; have n0_ : Aside0 (wc.heap[gb435]? = some (.cells #[.int .i64 0, .slice none 0 0, .string (⟨#[]⟩ : ByteArray)] 48 (0, 0))) := ⟨by rw [← hq_]; exact (by (with_reducible repeat (first | refine blk_drewN ?_ _ | refine blk_drew ?_ | refine blk_alloc ?_ _)); exact BK435.out)⟩; have n1_ : Aside0 (Below w.heap.size w wc) := ⟨by rw [← hq_]; exact (by repeat (first | (with_reducible first | exact HB.out | apply below_alloc | apply pw_below_drewN | apply below_drew1 | refine below_set ?_ GE435.out) | exact HB.out))⟩; clear BK435 HB hq_; have BK435 := n0_; have HB := n1_; clear n0_ n1_))) | ((with_reducible refine gate_callee (f := 42) rfl ?_); refine goesL_ (some 38) rfl rfl Tryz.func42 (by kernel_rfl) rfl #[.string a0, .int .i64 12, .string (((⟨#[32]⟩ : ByteArray) ++ t438) ++ (⟨#[13, 10]⟩ : ByteArray))] rfl (by (try simp only [List.map_toArray, List.map_cons, List.map_nil]); first | done | rfl | (simp only [List.length_drop, List.length_take]; rfl)) ?_; (with_reducible refine (wicketref15_stands.calls a0 12 (((⟨#[32]⟩ : ByteArray) ++ t438) ++ (⟨#[13, 10]⟩ : ByteArray)) false _ A20.out).mono ?_); rintro e w' ⟨rfl, ⟨nd, rfl⟩⟩; refine ⟨_, rfl, ?_⟩; (try (rw [drewN_self wc]; generalize hq_ : World.drewN wc _ = wc; have n0_ : Aside0 (wc.heap[gb435]? = some (.cells #[.int .i64 0, .slice none 0 0, .string (⟨#[]⟩ : ByteArray)] 48 (0, 0))) := ⟨by rw [← hq_]; exact (by (with_reducible repeat (first | refine blk_drewN ?_ _ | refine blk_drew ?_ | refine blk_alloc ?_ _)); exact BK435.out)⟩; have n1_ : Aside0 (Below w.heap.size w wc) := ⟨by rw [← hq_]; exact (by repeat (first | (with_reducible first | exact HB.out | apply below_alloc | apply pw_below_drewN | apply below_drew1 | refine below_set ?_ GE435.out) | exact HB.out))⟩; clear BK435 HB hq_; have BK435 := n0_; have HB := n1_; clear n0_ n1_)); have hcz29_0 : wc.cell? ⟨gb435, 0, none⟩ = some (.int .i64 0) := (blk_cell BK435.out 0).trans rfl; have hcz29_1 : wc.cell? ⟨gb435, 1, none⟩ = some (.slice none 0 0) := (blk_cell BK435.out 1).trans rfl; have hcz29_2 : wc.cell? ⟨gb435, 2, none⟩ = some (.string (⟨#[]⟩ : ByteArray)) := (blk_cell BK435.out 2).trans rfl; have hfz29_0 := blk_frozen BK435.out 0; have hfz29_1 := blk_frozen BK435.out 1; have hfz29_2 := blk_frozen BK435.out 2))
                      refine bodyPost_ret (results_ctt rfl _ _ gb435 48 #[.int .i64 0, .slice none 0 0, .string (⟨#[]⟩ : ByteArray)] (0, 0) _ rfl (by (with_reducible repeat (first | refine blk_drewN ?_ _ | refine blk_drew ?_ | refine blk_alloc ?_ _)); refine blk_put (cs := #[.int .i64 0, .slice none 0 0, .string (⟨#[]⟩ : ByteArray)]) ?_ 2 _ rfl; (with_reducible repeat (first | refine blk_drewN ?_ _ | refine blk_drew ?_ | refine blk_alloc ?_ _)); refine blk_put (cs := #[.int .i64 0, .slice none 0 0, .string (⟨#[]⟩ : ByteArray)]) ?_ 1 _ rfl; (with_reducible repeat (first | refine blk_drewN ?_ _ | refine blk_drew ?_ | refine blk_alloc ?_ _)); refine blk_put (cs := #[.int .i64 0, .slice none 0 0, .string (⟨#[]⟩ : ByteArray)]) ?_ 0 _ rfl; (with_reducible repeat (first | refine blk_drewN ?_ _ | refine blk_drew ?_ | refine blk_alloc ?_ _)); exact BK435.out) Tryz.underlying48 rfl (by kernel_rfl)) rfl ?_
                      exact ⟨_, by first | rfl | (simp [errW_none, errW_some] <;> rfl) | (simp [*, errW_none, errW_some] <;> rfl), by first | exact Kd.R_nil _ _ _ _ _ | exact Kd.N_nil _ _ _ _ _ | exact Kd.V_nil _ _ _ _ _ | exact Kd.Q_nil _ _ _ _ _ | exact Kd.S_nil _ _ _ _ _, by repeat (first | (with_reducible first | exact HB.out | apply below_alloc | apply pw_below_drewN | apply below_drew1 | refine below_set ?_ GE435.out) | exact HB.out)⟩
                  · rw [if_neg c19] at H
                    exact absurd H (by simp)
                · rw [if_neg c18] at H
                  exact absurd H (by simp)
    · replace c6 := Bool.eq_false_iff.mpr c6
      subst c6
      have H1 : (some (0, ([] : List (S84)), (⟨#[]⟩ : ByteArray), 152, 0)) = some (r1, r2, r3, r4, r5) := by rw [if_neg (show ¬ (false = true) by decide)] at H; exact H
      clear H
      have H := H1
      clear H1
      simp only [Option.some.injEq, Prod.mk.injEq] at H
      obtain ⟨rfl, rfl, rfl, rfl, rfl⟩ := H
      go_enter Tryz.func31, Tryz.ntmps31
      go_wp2_with (first | ((with_reducible refine gate_dst (N := 2) rfl ?_); refine box_event ?hg (N := 2) ?hd (cs := #[.int .i64 0, .slice none 0 0, .string (⟨#[]⟩ : ByteArray)]) (t := 48) ?hr ?_; (case hd => rfl); (case hg => rfl); (case hr => first | (go_simp; done) | (go_simp; rfl)); intro gb435 hg w30 hbox hb; have n0_ := Aside0.mk (below_step (by repeat (first | (with_reducible first | exact HB.out | apply below_alloc | apply pw_below_drewN | apply below_drew1) | exact HB.out)) hb); have n1_ := Aside0.mk (hbox); have n2_ := Aside0.mk ((by rw [hg]; exact (below_size (by repeat (first | (with_reducible first | exact HB.out | apply below_alloc | apply pw_below_drewN | apply below_drew1) | exact HB.out))) : w.heap.size ≤ gb435)); have n3_ := Aside0.mk ((by rw [hg]; exact (below_size (by repeat (first | (with_reducible first | exact HB.out | apply below_alloc | apply pw_below_drewN | apply below_drew1) | exact HB.out))) : w.heap.size ≤ gb435)); clear HB; have HB := n0_; have BK435 := n1_; have GW435 := n2_; have GE435 := n3_; clear n0_ n1_ n2_ n3_; clear hb hbox hg) | ((with_reducible refine gate_callee (f := 42) rfl ?_); refine goesL_ (some 16) rfl rfl Tryz.func42 (by kernel_rfl) rfl #[.string a0, .int .i64 0, .string (⟨#[72, 84, 84, 80, 47, 49, 46, 49, 32]⟩ : ByteArray)] rfl (by (try simp only [List.map_toArray, List.map_cons, List.map_nil]); first | done | rfl | (simp only [List.length_drop, List.length_take]; rfl)) ?_; (with_reducible refine (wicketref15_stands.calls a0 0 (⟨#[72, 84, 84, 80, 47, 49, 46, 49, 32]⟩ : ByteArray) false _ A5.out).mono ?_); rintro e w' ⟨rfl, ⟨nd, rfl⟩⟩; refine ⟨_, rfl, ?_⟩; (try (rw [drewN_self w30]; generalize hq_ : World.drewN w30 _ = w30; have n0_ : Aside0 (w30.heap[gb435]? = some (.cells #[.int .i64 0, .slice none 0 0, .string (⟨#[]⟩ : ByteArray)] 48 (0, 0))) := ⟨by rw [← hq_]; exact (by (with_reducible repeat (first | refine blk_drewN ?_ _ | refine blk_drew ?_ | refine blk_alloc ?_ _)); exact BK435.out)⟩; have n1_ : Aside0 (Below w.heap.size w w30) := ⟨by rw [← hq_]; exact (by repeat (first | (with_reducible first | exact HB.out | apply below_alloc | apply pw_below_drewN | apply below_drew1 | refine below_set ?_ GE435.out) | exact HB.out))⟩; clear BK435 HB hq_; have BK435 := n0_; have HB := n1_; clear n0_ n1_)); have hcz31_0 : w30.cell? ⟨gb435, 0, none⟩ = some (.int .i64 0) := (blk_cell BK435.out 0).trans rfl; have hcz31_1 : w30.cell? ⟨gb435, 1, none⟩ = some (.slice none 0 0) := (blk_cell BK435.out 1).trans rfl; have hcz31_2 : w30.cell? ⟨gb435, 2, none⟩ = some (.string (⟨#[]⟩ : ByteArray)) := (blk_cell BK435.out 2).trans rfl; have hfz31_0 := blk_frozen BK435.out 0; have hfz31_1 := blk_frozen BK435.out 1; have hfz31_2 := blk_frozen BK435.out 2))
      refine bodyPost_ret (results_ctt rfl _ _ gb435 48 #[.int .i64 0, .slice none 0 0, .string (⟨#[]⟩ : ByteArray)] (0, 0) _ rfl (by (with_reducible repeat (first | refine blk_drewN ?_ _ | refine blk_drew ?_ | refine blk_alloc ?_ _)); refine blk_put (cs := #[.int .i64 0, .slice none 0 0, .string (⟨#[]⟩ : ByteArray)]) ?_ 2 _ rfl; (with_reducible repeat (first | refine blk_drewN ?_ _ | refine blk_drew ?_ | refine blk_alloc ?_ _)); refine blk_put (cs := #[.int .i64 0, .slice none 0 0, .string (⟨#[]⟩ : ByteArray)]) ?_ 1 _ rfl; (with_reducible repeat (first | refine blk_drewN ?_ _ | refine blk_drew ?_ | refine blk_alloc ?_ _)); refine blk_put (cs := #[.int .i64 0, .slice none 0 0, .string (⟨#[]⟩ : ByteArray)]) ?_ 0 _ rfl; (with_reducible repeat (first | refine blk_drewN ?_ _ | refine blk_drew ?_ | refine blk_alloc ?_ _)); exact BK435.out) Tryz.underlying48 rfl (by kernel_rfl)) rfl ?_
      exact ⟨_, by first | rfl | (simp [errW_none, errW_some] <;> rfl) | (simp [*, errW_none, errW_some] <;> rfl), by first | exact Kd.R_nil _ _ _ _ _ | exact Kd.N_nil _ _ _ _ _ | exact Kd.V_nil _ _ _ _ _ | exact Kd.Q_nil _ _ _ _ _ | exact Kd.S_nil _ _ _ _ _, by repeat (first | (with_reducible first | exact HB.out | apply below_alloc | apply pw_below_drewN | apply below_drew1 | refine below_set ?_ GE435.out) | exact HB.out)⟩

end Go.Proofs.YtmfkgjnlobiobaaGreatDoor.X
namespace Go.Proofs.YtmfkgjnlobiobaaGreatDoor.X
open Go.RowKit Go.Shelf Go.Proofs.YtmfkgjnlobiobaaGreatDoorW.PrintWords
def encT (r : PS) : Int × List S84 × ByteArray × Int × Int := (r.1, r.2.1.map fieldOf, bs r.2.2.1, r.2.2.2.1, r.2.2.2.2)
theorem rReason_f (n : Int) : wicketref15_Reason.f n = http_Reason.f n := rfl
theorem dig3 {x y : List UInt8} (hx : x.length = 3) (hy : y.length = 3) (ax : x.all pDig = true) (ay : y.all pDig = true) (h : numF x = numF y) : x = y := by
  match x, y, hx, hy with
  | [a, b, c], [a', b', c'], _, _ =>
    simp only [List.all_cons, List.all_nil, Bool.and_eq_true, and_true] at ax ay
    have h1 := pDig_is a ax.1
    have h2 := pDig_is b ax.2.1
    have h3 := pDig_is c ax.2.2
    have h1' := pDig_is a' ay.1
    have h2' := pDig_is b' ay.2.1
    have h3' := pDig_is c' ay.2.2
    unfold numF at h
    simp only [List.foldl_cons, List.foldl_nil] at h
    have e1 : a = a' := UInt8.toNat_inj.1 (by omega)
    have e2 : b = b' := UInt8.toNat_inj.1 (by omega)
    have e3 : c = c' := UInt8.toNat_inj.1 (by omega)
    rw [e1, e2, e3]
theorem resp_bad (e a : Nat) : (some ((0 : Int), ([] : List S84), (⟨#[]⟩ : ByteArray), (e : Int), (a : Int))) = some (encT (badS e a)) := rfl
theorem rresp_j0 (K : Nat) (a : ByteArray) (ha : a.size ≤ 32768) (h12 : 12 ≤ a.size) (hall : ((a.data.toList.drop 9).take 3).all pDig = true) :
    wicketref15_ParseResponse.j0 (K + 1 + 1) a ((numF ((a.data.toList.drop 9).take 3) : Nat) : Int) = some (encT (if 100 ≤ statF (a.data.toList.drop 9) ∧ statF (a.data.toList.drop 9) ≤ 599 ∧ Lib.hasPrefix (a.data.toList.drop 9) (firstS (statF (a.data.toList.drop 9))) = true then tailS a.data.toList (statF (a.data.toList.drop 9)) (9 + (firstS (statF (a.data.toList.drop 9))).length) else badS 156 9)) := by
  have hsz := size_data a
  have h3 : ((a.data.toList.drop 9).take 3).length = 3 := by rw [List.length_take, List.length_drop]; omega
  have hst : statF (a.data.toList.drop 9) = numF ((a.data.toList.drop 9).take 3) := by
    unfold statF
    rw [if_pos (by rw [hall, decide_eq_true (by rw [List.length_drop]; omega)]; rfl)]
  rw [hst]
  obtain ⟨v, hv⟩ : ∃ v, v = numF ((a.data.toList.drop 9).take 3) := ⟨_, rfl⟩
  rw [← hv]
  rw [wicketref15_ParseResponse.j0]
  by_cases h1 : v < 100
  · rw [if_pos (by omega), wicketref15_ParseResponse.j1, if_pos rfl, if_neg (by omega)]
    rfl
  · rw [if_neg (by omega), wicketref15_ParseResponse.j1]
    by_cases h2 : v > 599
    · rw [if_pos (by rw [decide_eq_true_eq]; omega), if_neg (by omega)]
      rfl
    · rw [if_neg (by rw [decide_eq_true_eq]; omega), rReason_f, (Reason_f v).1]
      have hrl := (Reason_f v).2
      simp only [Option.bind_some]
      have hfs : ((⟨#[32]⟩ : ByteArray) ++ bs (reasonL v) ++ (⟨#[13, 10]⟩ : ByteArray)) = bs ([32] ++ reasonL v ++ [13, 10]) := by
        exact ByteArray.ext (by simp [bs, ByteArray.data_append])
      have hit : Lib.itoa (v : Int) = (a.data.toList.drop 9).take 3 := by
        have hd := dig_all v
        have hi3 := itoa3 v (by omega) (by omega)
        rw [itoa_nat] at hi3 ⊢
        exact dig3 hi3 h3 (List.all_eq_true.2 hd.1) hall (by rw [hd.2, hv])
      have hdrop : a.data.toList.drop 9 = (a.data.toList.drop 9).take 3 ++ a.data.toList.drop 12 := by
        conv => lhs; rw [← List.take_append_drop 3 (a.data.toList.drop 9)]
        rw [List.drop_drop]
      have hpre : Lib.hasPrefix (a.data.toList.drop 9) (firstS v) = Lib.hasPrefix (a.data.toList.drop 12) ([32] ++ reasonL v ++ [13, 10]) := by
        unfold Lib.hasPrefix firstS
        rw [Bool.eq_iff_iff, List.isPrefixOf_iff_prefix, List.isPrefixOf_iff_prefix, hit, show (a.data.toList.drop 9).take 3 ++ [32] ++ reasonL v ++ [13, 10] = (a.data.toList.drop 9).take 3 ++ ([32] ++ reasonL v ++ [13, 10]) by simp]
        conv => lhs; rhs; rw [hdrop]
        exact List.prefix_append_right_inj _
      have hfl : (firstS v).length = 3 + ([32] ++ reasonL v ++ [13, 10]).length := by
        unfold firstS
        rw [hit]
        simp only [List.length_append, h3]
        omega
      have hll : ([32] ++ reasonL v ++ [13, 10]).length ≤ 100 := by
        simp only [List.length_append, List.length_cons, List.length_nil]
        omega
      have hsb : (1 : Nat) + (bs (reasonL v)).size ≤ 9223372036854775807 := by rw [bs_size]; omega
      have hsc : ((⟨#[32]⟩ : ByteArray) ++ bs (reasonL v)).size + 2 ≤ 9223372036854775807 := by
        rw [ByteArray.size_append, bs_size]
        have : (⟨#[32]⟩ : ByteArray).size = 1 := rfl
        omega
      rw [if_pos hsb, if_pos hsc, hfs, hpre, hfl, show (12 : Int) = ((12 : Nat) : Int) from rfl, rstands_f a 12 _ (by omega) (by omega) (by rw [bs_size]; omega) (by rw [bs_size]; simp), data_bs]
      simp only [Option.bind_some]
      generalize hg : ([32] ++ reasonL v ++ [13, 10] : List UInt8) = fs at hll
      by_cases hp : Lib.hasPrefix (a.data.toList.drop 12) fs = true
      · have hlen : 12 + fs.length ≤ a.size := by
          unfold Lib.hasPrefix at hp
          have h := (List.isPrefixOf_iff_prefix.1 hp).length_le
          rw [List.length_drop] at h
          omega
        rw [if_pos hp, if_pos ⟨by omega, by omega, hp⟩, bs_size, wr _ (by omega), show ((12 : Nat) : Int) + (fs.length : Int) = ((12 + fs.length : Nat) : Int) by omega]
        unfold wicketref15_head.f
        rw [if_pos ⟨ha, by omega, by omega⟩, Int.toNat_natCast, show 9 + (3 + fs.length) = 12 + fs.length by omega]
        simp only [Option.bind_some]
        unfold tailS
        generalize parseHeadF a.data.toList (12 + fs.length) = r
        obtain ⟨fl, n, p, ec, ap⟩ := r
        dsimp only
        by_cases h0 : ec = 0
        · rw [if_pos (by omega), if_pos h0, if_pos h0]
          rfl
        · rw [if_neg (by omega), if_neg h0]
          rfl
      · rw [if_neg hp, if_neg (fun h => hp h.2.2)]
        rfl
theorem rresp_no (K : Nat) (a : ByteArray) (h : statF (a.data.toList.drop 9) = 0) : wicketref15_ParseResponse.j0 (K + 1 + 1) a (-1) = some (encT (if 100 ≤ statF (a.data.toList.drop 9) ∧ statF (a.data.toList.drop 9) ≤ 599 ∧ Lib.hasPrefix (a.data.toList.drop 9) (firstS (statF (a.data.toList.drop 9))) = true then tailS a.data.toList (statF (a.data.toList.drop 9)) (9 + (firstS (statF (a.data.toList.drop 9))).length) else badS 156 9)) := by
  rw [wicketref15_ParseResponse.j0, if_pos (by omega), wicketref15_ParseResponse.j1, if_pos rfl, h, if_neg (by omega)]
  rfl
theorem rParseResponse_f (K : Nat) (a : ByteArray) (hK : 20 ≤ K) : wicketref15_ParseResponse.f K a = some (encT (parseRF a.data.toList)) := by
  have hsz := size_data a
  obtain ⟨K, rfl⟩ : ∃ m, K = m + 1 + 1 := ⟨K - 2, by omega⟩
  unfold wicketref15_ParseResponse.f parseRF
  by_cases hbig : a.size > 32768
  · rw [if_pos (by omega), if_pos (by omega)]
    rfl
  · rw [if_neg (show ¬ (a.size : Int) > 32768 by omega), if_neg (show ¬ a.data.toList.length > 32768 by omega), show (0 : Int) = ((0 : Nat) : Int) from rfl, rstands_f a 0 _ (by omega) (by omega) (by decide) (by decide), List.drop_zero]
    simp only [Option.bind_some]
    rw [show ([72, 84, 84, 80, 47, 49, 46, 49, 32] : List UInt8) = sV9 from rfl]
    by_cases hp : Lib.hasPrefix a.data.toList sV9 = true
    · rw [if_pos hp, if_pos hp]
      by_cases h12 : 12 ≤ a.size
      · have h3 : ((a.data.toList.drop 9).take 3).length = 3 := by rw [List.length_take, List.length_drop]; omega
        have he : a.extract 9 12 = bs ((a.data.toList.drop 9).take 3) := by rw [extract_bs]
        rw [if_pos (by omega), if_pos (by omega), if_pos (by omega), he, rlength_f _ _ (by omega), data_bs]
        simp only [Option.bind_some]
        have hdg : digsB ((a.data.toList.drop 9).take 3) = ((a.data.toList.drop 9).take 3).all pDig := by
          unfold digsB
          rw [h3]
          rfl
        rw [hdg]
        cases hall : ((a.data.toList.drop 9).take 3).all pDig with
        | true =>
          rw [if_pos rfl]
          exact rresp_j0 K a (by omega) h12 hall
        | false =>
          rw [if_neg (by decide)]
          refine rresp_no K a ?_
          unfold statF
          rw [hall, Bool.and_false, if_neg (by decide)]
      · rw [if_neg (by omega)]
        refine rresp_no K a ?_
        unfold statF
        rw [decide_eq_false (by rw [List.length_drop]; omega), Bool.false_and, if_neg (by decide)]
    · rw [if_neg hp, if_neg hp]
      rfl
end Go.Proofs.YtmfkgjnlobiobaaGreatDoor.X
namespace Go.Proofs.YtmfkgjnlobiobaaGreatDoor.X
open Go.RowKit Go.Shelf Go.Proofs.YtmfkgjnlobiobaaGreatDoorW.PrintWords
def fF (p : S80) : S84 := ⟨p.f0, p.f1⟩
theorem rd_pair (l : List S80) (i : Nat) (h : i < l.length) : rd_T80 l (i : Int) = l[i] := by
  unfold rd_T80
  rw [Int.toNat_natCast]
  simp [h]
theorem rd_field (l : List S80) (i : Nat) (h : i < l.length) : rd_T84 (l.map fF) (i : Int) = fF l[i] := by
  unfold rd_T84
  rw [Int.toNat_natCast]
  simp [h]
theorem ours_l0 (l : List S80) (hl : l.length < 4398046511104) : ∀ (d k i : Nat), i + d = l.length → d < k → wicketlaw15_ours.l0 k l ((l.take i).map fF) (i : Int) = some (l.map fF)
  | _, 0, _, _, hk => absurd hk (Nat.not_lt_zero _)
  | 0, k + 1, i, hi, hk => by
    rw [wicketlaw15_ours.l0, if_neg (by omega), List.take_of_length_le (by omega)]
  | d + 1, k + 1, i, hi, hk => by
    rw [wicketlaw15_ours.l0, if_pos (by omega), if_pos (by omega), if_pos (by rw [List.length_map, List.length_take]; omega), rd_pair l i (by omega), wr _ (by omega)]
    have h := ours_l0 l hl d k (i + 1) (by omega) (by omega)
    rw [List.take_succ_eq_append_getElem (by omega), List.map_append] at h
    exact h
theorem ours_f (k : Nat) (l : List S80) (hl : l.length < 4398046511104) (hk : l.length < k) : wicketlaw15_ours.f k l = some (l.map fF) := ours_l0 l hl l.length k 0 (by omega) hk
theorem fields_l0 (l : List S80) (hl : l.length < 4398046511104) : ∀ (d k i : Nat), i + d = l.length → d < k → wicketlaw15_fields.l0 k l (l.map fF) (i : Int) = some true
  | _, 0, _, _, hk => absurd hk (Nat.not_lt_zero _)
  | 0, k + 1, i, hi, hk => by
    rw [wicketlaw15_fields.l0, if_neg (by omega)]
  | d + 1, k + 1, i, hi, hk => by
    rw [wicketlaw15_fields.l0, if_pos (by omega), if_pos (by omega), if_pos (by rw [List.length_map]; omega), rd_pair l i (by omega), rd_field l i (by omega), if_pos (show (l[i]).f0.toList = (fF l[i]).f0.toList from rfl), if_pos (show (l[i]).f1.toList = (fF l[i]).f1.toList from rfl), wr _ (by omega)]
    exact fields_l0 l hl d k (i + 1) (by omega) (by omega)
theorem fields_f (k : Nat) (l : List S80) (hl : l.length < 4398046511104) (hk : l.length < k) : wicketlaw15_fields.f k l (l.map fF) = some true := by
  unfold wicketlaw15_fields.f
  rw [if_pos (by rw [List.length_map])]
  exact fields_l0 l hl l.length k 0 (by omega) hk
theorem pairs_back (l : List (List UInt8 × List UInt8)) : pairsL (l.map pairOf) = l := by
  unfold pairsL
  rw [List.map_map]
  conv => rhs; rw [← List.map_id l]
  exact List.map_congr_left (fun f _ => by simp only [Function.comp, pairOf, data_bs]; rfl)
theorem low_same {l : List (List UInt8 × List UInt8)} (h : ∀ f ∈ l, lows f.1 = f.1) : l.map lowP = l := by
  conv => rhs; rw [← List.map_id l]
  exact List.map_congr_left (fun f hf => by show (lows f.1, f.2) = f; rw [h f hf])
theorem small_pairs {l : List (List UInt8 × List UInt8)} (h : ∀ f ∈ l, okF f.1 f.2 = true ∧ lows f.1 = f.1) : ∀ f ∈ l.map pairOf, f.f0.size ≤ 140737488351232 := by
  intro f hf
  obtain ⟨g, hg, rfl⟩ := List.mem_map.1 hf
  obtain ⟨h1, h2⟩ := h g hg
  have h3 := (okF_parts h1).1
  rw [h2] at h3
  unfold nameB at h3
  simp only [Bool.and_eq_true, decide_eq_true_eq] at h3
  show (bs g.1).size ≤ _
  rw [bs_size]
  omega
theorem encS_ok (n : Nat) (l : List (List UInt8 × List UInt8)) (b : List UInt8) : encS (n, l, b, 0, 0) = ((n : Int), l.map pairOf, bs b, 0, 0) := rfl
theorem encP_ok (m t : List UInt8) (l : List (List UInt8 × List UInt8)) (b : List UInt8) : encP (m, t, l, b, 0, 0) = (bs m, bs t, l.map pairOf, bs b, 0, 0) := rfl
theorem parseF_bad (raw : List UInt8) (h : ¬ okP (parseF raw)) : (parseF raw).1 = [] ∧ ¬ (parseF raw).2.2.2.2.1 = 0 := by
  refine ⟨?_, h⟩
  revert h
  unfold okP parseF targP tailP
  repeat' split
  all_goals first | (intro _; rfl) | (intro h; exact absurd rfl h)
theorem parseRF_bad (raw : List UInt8) (h : ¬ okS (parseRF raw)) : (parseRF raw).1 = 0 ∧ ¬ (parseRF raw).2.2.2.1 = 0 := by
  refine ⟨?_, h⟩
  revert h
  unfold okS parseRF tailS
  repeat' split
  all_goals first | (intro _; rfl) | (intro h; exact absurd rfl h)
end Go.Proofs.YtmfkgjnlobiobaaGreatDoor.X
namespace Go.Proofs.YtmfkgjnlobiobaaGreatDoor.X
open Go.RowKit Go.Proofs.YtmfkgjnlobiobaaGreatDoorW.PrintWords Go.Proofs.YtmfkgjnlobiobaaGreatDoorW.PrintLast Go.Proofs.YtmfkgjnlobiobaaGreatDoorW.PrintMore
attribute [local go_sem] max2_int min2_int max_two min_two max_three min_three max_four min_four   -- for this text's walks alone
set_option linter.unusedVariables false
set_option linter.unusedSimpArgs false

/-! ### wicketlaw15_spoil: function 12 -/
mutual
def wicketlaw15_spoil.l0 : Nat → List (S80) → Int → Option (Unit)
  | 0, _, _ => none
  | k + 1, x0, x2 => if x2 < (x0.length : Int) then (if 0 ≤ x2 then (wicketlaw15_spoil.l0 k (x0.set (x2 : Int).toNat (⟨(⟨#[63]⟩ : ByteArray), (⟨#[63]⟩ : ByteArray)⟩ : S80)) (wrap64 (x2 + 1))) else (none)) else (wicketlaw15_spoil.l1 k x0 0)
def wicketlaw15_spoil.l1 : Nat → List (S80) → Int → Option (Unit)
  | 0, _, _ => none
  | k + 1, x0, x3 => if x3 < 64 then (if x0.length < 4398046511104 then (wicketlaw15_spoil.l1 k (x0 ++ [(⟨(⟨#[63, 63]⟩ : ByteArray), (⟨#[]⟩ : ByteArray)⟩ : S80)]) (wrap64 (x3 + 1))) else (none)) else (some ())
end
def wicketlaw15_spoil.f (k : Nat) (l0 : List (S80)) : Option (Unit) := wicketlaw15_spoil.l0 k l0 0
theorem wicketlaw15_spoil.mono_l : ∀ k, (∀ y0 y1, LeO (wicketlaw15_spoil.l0 k y0 y1) (wicketlaw15_spoil.l0 (k + 1) y0 y1)) ∧ (∀ y0 y1, LeO (wicketlaw15_spoil.l1 k y0 y1) (wicketlaw15_spoil.l1 (k + 1) y0 y1))
  | 0 => ⟨fun _ _ r h => by simp [wicketlaw15_spoil.l0] at h, fun _ _ r h => by simp [wicketlaw15_spoil.l1] at h⟩
  | k + 1 => by
    obtain ⟨ih0, ih1⟩ := wicketlaw15_spoil.mono_l k
    refine ⟨?_, ?_⟩
    · intro y0 y1
      unfold wicketlaw15_spoil.l0
      repeat' first
      | (with_reducible exact ih0 _ _)
      | (with_reducible exact ih1 _ _)
      | (with_reducible exact LeO.refl _)
      | (with_reducible exact LeO.none _)
      | (with_reducible refine LeO.ite ?_ ?_)
      | (with_reducible refine LeO.bind ?_ (fun _ => ?_))
      | exact ih0 _ _
      | exact ih1 _ _
      | exact LeO.none _
      | refine LeO.ite ?_ ?_
      | refine LeO.bind ?_ (fun _ => ?_)
    · intro y0 y1
      unfold wicketlaw15_spoil.l1
      repeat' first
      | (with_reducible exact ih0 _ _)
      | (with_reducible exact ih1 _ _)
      | (with_reducible exact LeO.refl _)
      | (with_reducible exact LeO.none _)
      | (with_reducible refine LeO.ite ?_ ?_)
      | (with_reducible refine LeO.bind ?_ (fun _ => ?_))
      | exact ih0 _ _
      | exact ih1 _ _
      | exact LeO.none _
      | refine LeO.ite ?_ ?_
      | refine LeO.bind ?_ (fun _ => ?_)
theorem wicketlaw15_spoil.mono : ∀ a0 k, LeO (wicketlaw15_spoil.f k a0) (wicketlaw15_spoil.f (k + 1) a0) := by
  intro a0 k
  obtain ⟨ih0, ih1⟩ := wicketlaw15_spoil.mono_l k
  unfold wicketlaw15_spoil.f
  repeat' first
      | (with_reducible exact ih0 _ _)
      | (with_reducible exact ih1 _ _)
      | (with_reducible exact LeO.refl _)
      | (with_reducible exact LeO.none _)
      | (with_reducible refine LeO.ite ?_ ?_)
      | (with_reducible refine LeO.bind ?_ (fun _ => ?_))
      | exact ih0 _ _
      | exact ih1 _ _
      | exact LeO.none _
      | refine LeO.ite ?_ ?_
      | refine LeO.bind ?_ (fun _ => ?_)
set_option maxHeartbeats 8000000 in
set_option maxRecDepth 100000 in
theorem wicketlaw15_spoil.calls (k : Nat) (P0_ : Nat → Prop) (u9000_ : Value) (l0 : List (S80)) (w0 w : World) (hB : Below w0.heap.size w0 w) (ho0 : Kd.R k80 80 w w0.heap.size P0_ u9000_ l0) (h : wicketlaw15_spoil.f k l0 = some ()) :
    Calls Tryz.prog 12 #[u9000_] w fun e w' => e = .returned (.tuple #[]) ∧ Below w0.heap.size w0 w' ∧ Kept w w' (fun k_ => P0_ k_) := by
  have hu80 := Tryz.underlying80
  have HO0 := Aside0.mk (show Kd.R k80 80 w w0.heap.size (fun k_ => (P0_ k_ ∨ w.heap.size ≤ k_)) u9000_ l0 from Kd.R_mono ho0 (fun k_ hk => (.inl hk)))
  have HK := Aside0.mk (Kept.refl w (fun k_ => P0_ k_))
  have HW0 := Aside0.mk hB.size
  have HB := Aside0.mk hB
  clear hB
  have H : (wicketlaw15_spoil.l0 k l0 0) = some () := h
  clear h
  have H' := Aside0.mk H
  clear H
  go_enter Tryz.func12, Tryz.ntmps12
  go_wp2
  go_loopg [2] k (fun kq v2 w' => ∃ (x0_1 : List (S80)) (x2_1 : Int), v2 = .int .i64 x2_1 ∧ Aside0 (wicketlaw15_spoil.l0 kq x0_1 x2_1 = some ()) ∧ Aside0 (kq ≤ k) ∧ Aside0 (Kd.R k80 80 w' w0.heap.size (fun k_ => (P0_ k_ ∨ w.heap.size ≤ k_)) u9000_ x0_1) ∧ Aside0 (Kept w w' (fun k_ => P0_ k_)) ∧ Aside0 (Below w0.heap.size w0 w'))
  case atStart => exact ⟨(l0), (0), (by first | rfl | (simp; done) | (simp [*]; done)), H', ⟨Nat.le_refl _⟩, ⟨by (with_reducible repeat (first | apply Kd.R_alloc | apply Kd.R_drewN | apply Kd.R_drew)); exact HO0.out⟩, ⟨by repeat (first | (with_reducible first | exact HK.out | apply Kept.alloc | apply Kept.drewN | apply Kept.drew) | exact HK.out)⟩, ⟨by repeat (first | (with_reducible first | exact HB.out | apply below_alloc | apply pw_below_drewN | apply below_drew1) | exact HB.out)⟩⟩
  case round =>
    clear H'
    try clear c1
    obtain ⟨x0_1, x2_1, rfl, HA, HK1, HO_0, HK, HB⟩ := hrel
    cases gk with
    | zero => exact absurd HA.out (by simp [wicketlaw15_spoil.l0])
    | succ k1 =>
      have H := HA.out
      clear HA
      simp only [wicketlaw15_spoil.l0] at H
      by_cases c2 : x2_1 < (x0_1.length : Int)
      · rw [if_pos c2] at H
        have c2b0 : decide (x2_1 < (x0_1.length : Int)) = true := decide_eq_true c2
        clear c2
        by_cases c3 : 0 ≤ x2_1
        · rw [if_pos c3] at H
          have c3b0 : decide (0 ≤ x2_1) = true := decide_eq_true c3
          clear c3
          obtain ⟨y387, hy387⟩ : ∃ y_ : List (S80), y_ = (x0_1.set (x2_1 : Int).toNat (⟨(⟨#[63]⟩ : ByteArray), (⟨#[63]⟩ : ByteArray)⟩ : S80)) := ⟨_, rfl⟩
          replace H : (wicketlaw15_spoil.l0 k1 y387 (wrap64 (x2_1 + 1))) = some () := by first | (rw [hy387]; with_reducible exact H) | (have H2_ := (Option.bind_some _ _).symm.trans H; rw [hy387]; with_reducible exact H2_) | (have H2_ := (Option.bind_some _ _).symm.trans H; with_reducible exact H2_) | with_reducible exact H | (rw [hy387]; exact H) | exact H
          have Ny387 := Aside0.mk hy387
          clear hy387
          have H' := Aside0.mk H
          clear H
          obtain ⟨Ao5, co5, eo5⟩ := Kd.R_slice HO_0.out
          subst eo5
          have p4 : 0 ≤ (x2_1 : Int) := of_decide_eq_true (by first | (with_reducible assumption) | assumption)
          have q4 : (x2_1 : Int) < ((x0_1.length : Int) : Int) := of_decide_eq_true (by first | (with_reducible assumption) | assumption)
          obtain ⟨go4, co4, eo4, gb4, gl4, cl4, HG4⟩ := Kd.R_form HO_0.out (by omega)
          (first | cases eo4 | (injection eo4 with ea_ en_ ec_; (first | subst ea_ | (injection ea_ with ea_; subst ea_)); subst ec_; clear en_))
          have GB4 := Aside0.mk gb4
          have GG4 := Aside0.mk HG4
          clear gb4 gl4 HG4
          have HMgo4 := Aside0.mk (show (P0_ go4 ∨ w.heap.size ≤ go4) from (HO_0.out.1 _ rfl))
          obtain ⟨ce4, hcl4, hM4, hcc4, hfr4⟩ := Kd.R_elem HO_0.out z80 (x2_1 : Int) p4 q4
          obtain rfl := k80_openM hM4
          have hx4_0 : wr.cell? ⟨go4, (x2_1 : Int).toNat * 2, none⟩ = some (.string ((rd_T80 x0_1 x2_1).f0)) := hcc4 0 _ rfl
          have hx4_1 : wr.cell? ⟨go4, (x2_1 : Int).toNat * 2 + 1, none⟩ = some (.string ((rd_T80 x0_1 x2_1).f1)) := hcc4 1 _ rfl
          have hf4_0 : wr.frozen? ⟨go4, (x2_1 : Int).toNat * 2, none⟩ = false := hfr4 0
          have hf4_1 : wr.frozen? ⟨go4, (x2_1 : Int).toNat * 2 + 1, none⟩ = false := hfr4 1
          clear hcl4 hcc4 hfr4 hM4
          replace p4 := eq_true p4
          replace q4 := eq_true q4
          have HX6 := Aside0.mk (show Kd.R k80 80 wr w0.heap.size (fun k_ => (P0_ k_ ∨ w.heap.size ≤ k_)) (.slice (some ⟨go4, 0, none⟩) x0_1.length co5) x0_1 from (by (with_reducible repeat (first | apply Kd.R_alloc | apply Kd.R_drewN | apply Kd.R_drew)); exact HO_0.out))
          obtain ⟨ce6, hcl6, hM6, hcc6, hfr6⟩ := Kd.R_elem HX6.out z80 (x2_1 : Int) (of_decide_eq_true (by first | (with_reducible assumption) | assumption)) (by have h_ : (x2_1 : Int) < ((x0_1.length : Int) : Int) := of_decide_eq_true (by first | (with_reducible assumption) | assumption); first | exact h_ | (have e_ := (Kd.R_reads' HO_0.out).1; omega) | simpa using h_)
          obtain rfl := k80_openM hM6
          have HP6 := Kd.R_seg HX6.out (x2_1 : Int) (of_decide_eq_true (by first | (with_reducible assumption) | assumption)) (by have h_ : (x2_1 : Int) < ((x0_1.length : Int) : Int) := of_decide_eq_true (by first | (with_reducible assumption) | assumption); first | exact h_ | (have e_ := (Kd.R_reads' HO_0.out).1; omega) | simpa using h_) (seg := [.string (⟨#[63]⟩ : ByteArray), .string (⟨#[63]⟩ : ByteArray)]) (j := 0) hcl6 hcc6 (show 2 ≤ 2 from by decide) (x' := (⟨(⟨#[63]⟩ : ByteArray), (⟨#[63]⟩ : ByteArray)⟩ : S80)) (k80_mkM _ _ _ (⟨(⟨#[63]⟩ : ByteArray), (⟨#[63]⟩ : ByteArray)⟩ : S80) ) (fun _ hk => hk)
          have hx6_0 := hcc6 0 _ rfl
          (try simp only [show (k80).sz = 2 from rfl, Nat.mul_one, Nat.add_zero] at hx6_0)
          have hf6_0 := hfr6 0
          (try simp only [show (k80).sz = 2 from rfl, Nat.mul_one, Nat.add_zero] at hf6_0)
          have hx6_1 := hcc6 1 _ rfl
          (try simp only [show (k80).sz = 2 from rfl, Nat.mul_one, Nat.add_zero] at hx6_1)
          have hf6_1 := hfr6 1
          (try simp only [show (k80).sz = 2 from rfl, Nat.mul_one, Nat.add_zero] at hf6_1)
          clear hcl6 hcc6 hfr6 hM6
          go_wp2_with (first | ((with_reducible refine gate_store (t := 80) (p := 13) rfl ?_); refine store_event (t := 80) (p := 13) (v := ?vo_w7) (w1 := ((wr.setCell ⟨go4, (x2_1 : Int).toNat * 2, none⟩ (.string (⟨#[63]⟩ : ByteArray))).setCell ⟨go4, (x2_1 : Int).toNat * 2 + 1, none⟩ (.string (⟨#[63]⟩ : ByteArray)))) ?hg ?ho ?hn ?hr ?_; (case ho => rfl); (case hg => rfl); (case hn => rfl); (case hr => first | (go_simp; done) | (go_simp; rfl)); intro w7 hw; have hg : wr.grownBy w7 (some go4) := (by rw [hw]; exact HP6.2); have hp_ : Kd.R k80 80 w7 w0.heap.size (fun k_ => (P0_ k_ ∨ w.heap.size ≤ k_)) (.slice (some ⟨go4, 0, none⟩) x0_1.length co5) y387 := (by rw [hw, Ny387.out]; exact HP6.1); clear HP6; have n0_ := Aside0.mk (hp_); have n1_ := Aside0.mk ((by rw [hw]; exact below_set (below_set (HB.out) GB4.out) GB4.out : Below w0.heap.size w0 w7)); have n2_ := Aside0.mk (Kept.of_grown (S := (fun k_ => P0_ k_)) hg (by repeat (first | (with_reducible first | exact HK.out | apply Kept.alloc | apply Kept.drewN | apply Kept.drew) | exact HK.out)) (fun k_ e_ => (HO_0.out.1 k_ e_))); clear HO_0; clear HB; clear HK; have HO_0 := n0_; have HB := n1_; have HK := n2_; clear n0_ n1_ n2_; clear hg hw hp_))
          go_roundg k1
          case measure => have := HK1.out; omega
          case rel => exact ⟨(y387), (wrap64 (x2_1 + 1)), (by first | rfl | (simp; done) | (simp [*]; done)), H', ⟨by have := HK1.out; omega⟩, ⟨by (with_reducible repeat (first | apply Kd.R_alloc | apply Kd.R_drewN | apply Kd.R_drew)); exact HO_0.out⟩, ⟨by repeat (first | (with_reducible first | exact HK.out | apply Kept.alloc | apply Kept.drewN | apply Kept.drew) | exact HK.out)⟩, ⟨by repeat (first | (with_reducible first | exact HB.out | apply below_alloc | apply pw_below_drewN | apply below_drew1) | exact HB.out)⟩⟩
        · rw [if_neg c3] at H
          exact absurd H (by simp)
      · rw [if_neg c2] at H
        have c2b0 : decide (x2_1 < (x0_1.length : Int)) = false := decide_eq_false c2
        clear c2
        have H' := Aside0.mk H
        clear H
        obtain ⟨Ao8, co8, eo8⟩ := Kd.R_slice HO_0.out
        subst eo8
        go_wp2
        go_loopg [0, 3] k1 (fun kq v0 v3 w' => ∃ (x0_2 : List (S80)) (x3_2 : Int), v3 = .int .i64 x3_2 ∧ Aside0 (wicketlaw15_spoil.l1 kq x0_2 x3_2 = some ()) ∧ Aside0 (kq ≤ k1) ∧ Aside0 (Kd.R k80 80 w' w0.heap.size (fun k_ => (P0_ k_ ∨ w.heap.size ≤ k_)) v0 x0_2) ∧ Aside0 (Kept w w' (fun k_ => P0_ k_)) ∧ Aside0 (Below w0.heap.size w0 w'))
        case atStart => exact ⟨(x0_1), (0), (by first | rfl | (simp; done) | (simp [*]; done)), H', ⟨Nat.le_refl _⟩, ⟨by (with_reducible repeat (first | apply Kd.R_alloc | apply Kd.R_drewN | apply Kd.R_drew)); exact HO_0.out⟩, ⟨by repeat (first | (with_reducible first | exact HK.out | apply Kept.alloc | apply Kept.drewN | apply Kept.drew) | exact HK.out)⟩, ⟨by repeat (first | (with_reducible first | exact HB.out | apply below_alloc | apply pw_below_drewN | apply below_drew1) | exact HB.out)⟩⟩
        case round =>
          clear H'
          try clear c1
          try clear c2
          try clear c2b0
          try clear p2
          try clear c3
          try clear c3b0
          try clear c4
          try clear p4
          try clear q4
          try clear hx4
          try clear hf4
          try clear c6
          try clear p6
          try clear hx6
          try clear hf6
          try clear hx4_0
          try clear hx4_1
          try clear hx6_0
          try clear hx6_1
          try clear p4
          try clear q4
          obtain ⟨x0_2, x3_2, rfl, HA, HK2, HO_0, HK, HB⟩ := hrel
          cases gk with
          | zero => exact absurd HA.out (by simp [wicketlaw15_spoil.l1])
          | succ k2 =>
            have H := HA.out
            clear HA
            simp only [wicketlaw15_spoil.l1] at H
            by_cases c9 : x3_2 < 64
            · rw [if_pos c9] at H
              have c9b0 : decide (x3_2 < 64) = true := decide_eq_true c9
              clear c9
              by_cases c10 : x0_2.length < 4398046511104
              · rw [if_pos c10] at H
                have LMc10 := Aside0.mk c10
                clear c10
                obtain ⟨y388, hy388⟩ : ∃ y_ : List (S80), y_ = (x0_2 ++ [(⟨(⟨#[63, 63]⟩ : ByteArray), (⟨#[]⟩ : ByteArray)⟩ : S80)]) := ⟨_, rfl⟩
                replace H : (wicketlaw15_spoil.l1 k2 y388 (wrap64 (x3_2 + 1))) = some () := by first | (rw [hy388]; with_reducible exact H) | (have H2_ := (Option.bind_some _ _).symm.trans H; rw [hy388]; with_reducible exact H2_) | (have H2_ := (Option.bind_some _ _).symm.trans H; with_reducible exact H2_) | with_reducible exact H | (rw [hy388]; exact H) | exact H
                have Ny388 := Aside0.mk hy388
                clear hy388
                have H' := Aside0.mk H
                clear H
                go_wp2_with (first | ((with_reducible refine gate_builtin (b := .append) (xs := #[.tmp 18, .tmp 20]) rfl ?_); at_builtin; refine Kd.R_append k80 (w0 := w0) w0.heap.size rfl (.tmp 18) (.tmp 20) 22 80 (.agg #[(.string ⟨#[]⟩), (.string ⟨#[]⟩)]) 32 rfl Tryz.underlying22 info80 rfl (by decide) (by omega) u0 x0_2 (⟨(⟨#[63, 63]⟩ : ByteArray), (⟨#[]⟩ : ByteArray)⟩ : S80) [.string (⟨#[63, 63]⟩ : ByteArray), .string (⟨#[]⟩ : ByteArray)] (fun k_ => (P0_ k_ ∨ w.heap.size ≤ k_)) (fun _ => False) rfl rfl ?aP (fun _ hk => hk.elim) ?aF ?aO ?aB ?aS ?aL ?_; (case aP => exact k80_mkM _ _ _ (⟨(⟨#[63, 63]⟩ : ByteArray), (⟨#[]⟩ : ByteArray)⟩ : S80)); (case aB => exact (by repeat (first | (with_reducible first | exact HB.out | apply below_alloc | apply pw_below_drewN | apply below_drew1) | exact HB.out))); (case aF => exact (fun k_ hk => (.inr (Nat.le_trans (by first | exact HK.out.1 | exact (show Kept w _ (fun k_ => P0_ k_) from by repeat (first | (with_reducible first | exact HK.out | apply Kept.alloc | apply Kept.drewN | apply Kept.drew) | exact HK.out)).1) hk)))); (case aO => exact (by (with_reducible repeat (first | apply Kd.R_alloc | apply Kd.R_drewN | apply Kd.R_drew)); exact HO_0.out)); (case aS => exact (below_size (by repeat (first | (with_reducible first | exact HB.out | apply below_alloc | apply pw_below_drewN | apply below_drew1) | exact HB.out)))); (case aL => have := LMc10.out; omega); intro v389 w11 ho hb hg hat; rw [← Ny388.out] at ho; have n0_ := Aside0.mk (hb); have n1_ := Aside0.mk (Kept.of_grown (S := (fun k_ => P0_ k_)) hg (by repeat (first | (with_reducible first | exact HK.out | apply Kept.alloc | apply Kept.drewN | apply Kept.drew) | exact HK.out)) (fun k_ e_ => (HO_0.out.1 k_ e_))); have n2_ := Aside0.mk (ho); clear HB; clear HK; clear HO_0; have HB := n0_; have HK := n1_; have HO390 := n2_; clear n0_ n1_ n2_; clear ho hb hg hat))
                go_roundg k2
                case measure => have := HK1.out; have := HK2.out; omega
                case rel => exact ⟨(y388), (wrap64 (x3_2 + 1)), (by first | rfl | (simp; done) | (simp [*]; done)), H', ⟨by have := HK1.out; have := HK2.out; omega⟩, ⟨by (with_reducible repeat (first | apply Kd.R_alloc | apply Kd.R_drewN | apply Kd.R_drew)); exact HO390.out⟩, ⟨by repeat (first | (with_reducible first | exact HK.out | apply Kept.alloc | apply Kept.drewN | apply Kept.drew) | exact HK.out)⟩, ⟨by repeat (first | (with_reducible first | exact HB.out | apply below_alloc | apply pw_below_drewN | apply below_drew1) | exact HB.out)⟩⟩
              · rw [if_neg c10] at H
                exact absurd H (by simp)
            · rw [if_neg c9] at H
              have c9b0 : decide (x3_2 < 64) = false := decide_eq_false c9
              clear c9
              go_wp2
              first | go_end0 | ((try simp only [Exit.inBlock, Exit.then]); refine bodyPost_ret (results_none rfl _ _ _) rfl ?_)
              exact ⟨by first | rfl | (simp [errW_none, errW_some] <;> rfl) | (simp [*, errW_none, errW_some] <;> rfl), by repeat (first | (with_reducible first | exact HB.out | apply below_alloc | apply pw_below_drewN | apply below_drew1) | exact HB.out), by repeat (first | (with_reducible first | exact HK.out | apply Kept.alloc | apply Kept.drewN | apply Kept.drew) | exact HK.out)⟩

end Go.Proofs.YtmfkgjnlobiobaaGreatDoor.X
namespace Go.Proofs.YtmfkgjnlobiobaaGreatDoor.X
open Go.RowKit Go.Proofs.YtmfkgjnlobiobaaGreatDoorW.PrintWords Go.Proofs.YtmfkgjnlobiobaaGreatDoorW.PrintLast Go.Proofs.YtmfkgjnlobiobaaGreatDoorW.PrintMore
attribute [local go_sem] max2_int min2_int max_two min_two max_three min_three max_four min_four   -- for this text's walks alone
set_option linter.unusedVariables false
set_option linter.unusedSimpArgs false

/-! ### wicketlaw15_HttpResponses: function 6 -/
def wicketlaw15_HttpResponses.j0 : Nat → ByteArray → Int → Bool → Int → List (S80) → ByteArray → Int → List (S80) → ByteArray → Int → List (S84) → ByteArray → Option (Bool)
  | 0, _, _, _, _, _, _, _, _, _, _, _, _ => none
  | k + 1, x0, x10, x64, x454000, x454001, x454002, x462000, x462001, x462002, x470000, x470001, x470002 => if x64 = true then none else ((wicketlaw15_spoil.f k x454001).bind fun _ => ((http_ParseResponse.f k x0).bind fun bt474 => ((wicketlaw15_response.f k x462000 x462001 x462002 x470000 x470001 x470002).bind fun t482 => (if t482 = true then ((wicketlaw15_num.f bt474.2.2.2.1).bind fun t483 => (if t483 = x10 then ((wicketlaw15_response.f k bt474.1 bt474.2.1 bt474.2.2.1 x470000 x470001 x470002).bind fun t484 => (if t484 = true then ((wicketlaw15_live.f k).bind fun t485 => (some t485)) else none)) else none)) else none))))
def wicketlaw15_HttpResponses.f (k : Nat) (a0 : ByteArray) : Option (Bool) := (http_ParseResponse.f k a0).bind fun bt446 => ((http_ParseResponse.f k a0).bind fun bt454 => ((wicketref15_ParseResponse.f k a0).bind fun bt462 => ((wicketlaw15_num.f bt446.2.2.2.1).bind fun t470 => (if t470 = bt462.2.2.2.1 then ((wicketlaw15_num.f bt454.2.2.2.1).bind fun t471 => (if t471 = bt462.2.2.2.1 then (if bt446.2.2.2.2 = bt462.2.2.2.2 then (if bt454.2.2.2.2 = bt462.2.2.2.2 then ((wicketlaw15_response.f k bt446.1 bt446.2.1 bt446.2.2.1 bt462.1 bt462.2.1 bt462.2.2.1).bind fun t472 => (if t472 = true then ((wicketlaw15_response.f k bt454.1 bt454.2.1 bt454.2.2.1 bt462.1 bt462.2.1 bt462.2.2.1).bind fun t473 => (wicketlaw15_HttpResponses.j0 k a0 bt462.2.2.2.1 (!t473) bt446.1 bt446.2.1 bt446.2.2.1 bt454.1 bt454.2.1 bt454.2.2.1 bt462.1 bt462.2.1 bt462.2.2.1)) else (wicketlaw15_HttpResponses.j0 k a0 bt462.2.2.2.1 true bt446.1 bt446.2.1 bt446.2.2.1 bt454.1 bt454.2.1 bt454.2.2.1 bt462.1 bt462.2.1 bt462.2.2.1))) else (wicketlaw15_HttpResponses.j0 k a0 bt462.2.2.2.1 true bt446.1 bt446.2.1 bt446.2.2.1 bt454.1 bt454.2.1 bt454.2.2.1 bt462.1 bt462.2.1 bt462.2.2.1)) else (wicketlaw15_HttpResponses.j0 k a0 bt462.2.2.2.1 true bt446.1 bt446.2.1 bt446.2.2.1 bt454.1 bt454.2.1 bt454.2.2.1 bt462.1 bt462.2.1 bt462.2.2.1)) else (wicketlaw15_HttpResponses.j0 k a0 bt462.2.2.2.1 true bt446.1 bt446.2.1 bt446.2.2.1 bt454.1 bt454.2.1 bt454.2.2.1 bt462.1 bt462.2.1 bt462.2.2.1))) else (wicketlaw15_HttpResponses.j0 k a0 bt462.2.2.2.1 true bt446.1 bt446.2.1 bt446.2.2.1 bt454.1 bt454.2.1 bt454.2.2.1 bt462.1 bt462.2.1 bt462.2.2.1)))))
theorem wicketlaw15_HttpResponses.mono_l : ∀ k, (∀ y0 y1 y2 y3 y4 y5 y6 y7 y8 y9 y10 y11, LeO (wicketlaw15_HttpResponses.j0 k y0 y1 y2 y3 y4 y5 y6 y7 y8 y9 y10 y11) (wicketlaw15_HttpResponses.j0 (k + 1) y0 y1 y2 y3 y4 y5 y6 y7 y8 y9 y10 y11))
  | 0 => fun _ _ _ _ _ _ _ _ _ _ _ _ r h => by simp [wicketlaw15_HttpResponses.j0] at h
  | k + 1 => by
    have ih0 := wicketlaw15_HttpResponses.mono_l k
    · intro y0 y1 y2 y3 y4 y5 y6 y7 y8 y9 y10 y11
      unfold wicketlaw15_HttpResponses.j0
      repeat' first
      | (with_reducible exact ih0 _ _ _ _ _ _ _ _ _ _ _ _)
      | (with_reducible exact http_ParseResponse.mono _ _)
      | (with_reducible exact wicketlaw15_live.mono _)
      | (with_reducible exact wicketlaw15_response.mono _ _ _ _ _ _ _)
      | (with_reducible exact wicketlaw15_spoil.mono _ _)
      | (with_reducible exact wicketref15_ParseResponse.mono _ _)
      | (with_reducible exact LeO.refl _)
      | (with_reducible exact LeO.none _)
      | (with_reducible refine LeO.ite ?_ ?_)
      | (with_reducible refine LeO.bind ?_ (fun _ => ?_))
      | exact ih0 _ _ _ _ _ _ _ _ _ _ _ _
      | exact http_ParseResponse.mono _ _
      | exact wicketlaw15_live.mono _
      | exact wicketlaw15_response.mono _ _ _ _ _ _ _
      | exact wicketlaw15_spoil.mono _ _
      | exact wicketref15_ParseResponse.mono _ _
      | exact LeO.none _
      | refine LeO.ite ?_ ?_
      | refine LeO.bind ?_ (fun _ => ?_)
theorem wicketlaw15_HttpResponses.mono : ∀ a0 k, LeO (wicketlaw15_HttpResponses.f k a0) (wicketlaw15_HttpResponses.f (k + 1) a0) := by
  intro a0 k
  have ih0 := wicketlaw15_HttpResponses.mono_l k
  unfold wicketlaw15_HttpResponses.f
  repeat' first
      | (with_reducible exact ih0 _ _ _ _ _ _ _ _ _ _ _ _)
      | (with_reducible exact http_ParseResponse.mono _ _)
      | (with_reducible exact wicketlaw15_live.mono _)
      | (with_reducible exact wicketlaw15_response.mono _ _ _ _ _ _ _)
      | (with_reducible exact wicketlaw15_spoil.mono _ _)
      | (with_reducible exact wicketref15_ParseResponse.mono _ _)
      | (with_reducible exact LeO.refl _)
      | (with_reducible exact LeO.none _)
      | (with_reducible refine LeO.ite ?_ ?_)
      | (with_reducible refine LeO.bind ?_ (fun _ => ?_))
      | exact ih0 _ _ _ _ _ _ _ _ _ _ _ _
      | exact http_ParseResponse.mono _ _
      | exact wicketlaw15_live.mono _
      | exact wicketlaw15_response.mono _ _ _ _ _ _ _
      | exact wicketlaw15_spoil.mono _ _
      | exact wicketref15_ParseResponse.mono _ _
      | exact LeO.none _
      | refine LeO.ite ?_ ?_
      | refine LeO.bind ?_ (fun _ => ?_)
set_option maxHeartbeats 8000000 in
set_option maxRecDepth 100000 in
theorem wicketlaw15_HttpResponses.calls (k : Nat) (a0 : ByteArray) (r : Bool) (w : World) (hG : GL w) (h : wicketlaw15_HttpResponses.f k a0 = some r) :
    Calls Tryz.prog 6 #[.string a0] w fun e w' => e = .returned (.bool r) ∧ Below w.heap.size w w' := by
  have hu39 := Tryz.underlying39
  have hu48 := Tryz.underlying48
  have HB := Aside0.mk (Below.refl w.heap.size w)
  have HG := Aside0.mk hG
  clear hG
  have H : ((http_ParseResponse.f k a0).bind fun bt446 => ((http_ParseResponse.f k a0).bind fun bt454 => ((wicketref15_ParseResponse.f k a0).bind fun bt462 => ((wicketlaw15_num.f bt446.2.2.2.1).bind fun t470 => (if t470 = bt462.2.2.2.1 then ((wicketlaw15_num.f bt454.2.2.2.1).bind fun t471 => (if t471 = bt462.2.2.2.1 then (if bt446.2.2.2.2 = bt462.2.2.2.2 then (if bt454.2.2.2.2 = bt462.2.2.2.2 then ((wicketlaw15_response.f k bt446.1 bt446.2.1 bt446.2.2.1 bt462.1 bt462.2.1 bt462.2.2.1).bind fun t472 => (if t472 = true then ((wicketlaw15_response.f k bt454.1 bt454.2.1 bt454.2.2.1 bt462.1 bt462.2.1 bt462.2.2.1).bind fun t473 => (wicketlaw15_HttpResponses.j0 k a0 bt462.2.2.2.1 (!t473) bt446.1 bt446.2.1 bt446.2.2.1 bt454.1 bt454.2.1 bt454.2.2.1 bt462.1 bt462.2.1 bt462.2.2.1)) else (wicketlaw15_HttpResponses.j0 k a0 bt462.2.2.2.1 true bt446.1 bt446.2.1 bt446.2.2.1 bt454.1 bt454.2.1 bt454.2.2.1 bt462.1 bt462.2.1 bt462.2.2.1))) else (wicketlaw15_HttpResponses.j0 k a0 bt462.2.2.2.1 true bt446.1 bt446.2.1 bt446.2.2.1 bt454.1 bt454.2.1 bt454.2.2.1 bt462.1 bt462.2.1 bt462.2.2.1)) else (wicketlaw15_HttpResponses.j0 k a0 bt462.2.2.2.1 true bt446.1 bt446.2.1 bt446.2.2.1 bt454.1 bt454.2.1 bt454.2.2.1 bt462.1 bt462.2.1 bt462.2.2.1)) else (wicketlaw15_HttpResponses.j0 k a0 bt462.2.2.2.1 true bt446.1 bt446.2.1 bt446.2.2.1 bt454.1 bt454.2.1 bt454.2.2.1 bt462.1 bt462.2.1 bt462.2.2.1))) else (wicketlaw15_HttpResponses.j0 k a0 bt462.2.2.2.1 true bt446.1 bt446.2.1 bt446.2.2.1 bt454.1 bt454.2.1 bt454.2.2.1 bt462.1 bt462.2.1 bt462.2.2.1)))))) = some r := h
  clear h
  replace H := Option.bind_eq_some_iff.mp H
  obtain ⟨⟨t446, t447, t450, t451, t452⟩, A20, H⟩ := H
  replace H : ((http_ParseResponse.f k a0).bind fun bt454 => ((wicketref15_ParseResponse.f k a0).bind fun bt462 => ((wicketlaw15_num.f t451).bind fun t470 => (if t470 = bt462.2.2.2.1 then ((wicketlaw15_num.f bt454.2.2.2.1).bind fun t471 => (if t471 = bt462.2.2.2.1 then (if t452 = bt462.2.2.2.2 then (if bt454.2.2.2.2 = bt462.2.2.2.2 then ((wicketlaw15_response.f k t446 t447 t450 bt462.1 bt462.2.1 bt462.2.2.1).bind fun t472 => (if t472 = true then ((wicketlaw15_response.f k bt454.1 bt454.2.1 bt454.2.2.1 bt462.1 bt462.2.1 bt462.2.2.1).bind fun t473 => (wicketlaw15_HttpResponses.j0 k a0 bt462.2.2.2.1 (!t473) t446 t447 t450 bt454.1 bt454.2.1 bt454.2.2.1 bt462.1 bt462.2.1 bt462.2.2.1)) else (wicketlaw15_HttpResponses.j0 k a0 bt462.2.2.2.1 true t446 t447 t450 bt454.1 bt454.2.1 bt454.2.2.1 bt462.1 bt462.2.1 bt462.2.2.1))) else (wicketlaw15_HttpResponses.j0 k a0 bt462.2.2.2.1 true t446 t447 t450 bt454.1 bt454.2.1 bt454.2.2.1 bt462.1 bt462.2.1 bt462.2.2.1)) else (wicketlaw15_HttpResponses.j0 k a0 bt462.2.2.2.1 true t446 t447 t450 bt454.1 bt454.2.1 bt454.2.2.1 bt462.1 bt462.2.1 bt462.2.2.1)) else (wicketlaw15_HttpResponses.j0 k a0 bt462.2.2.2.1 true t446 t447 t450 bt454.1 bt454.2.1 bt454.2.2.1 bt462.1 bt462.2.1 bt462.2.2.1))) else (wicketlaw15_HttpResponses.j0 k a0 bt462.2.2.2.1 true t446 t447 t450 bt454.1 bt454.2.1 bt454.2.2.1 bt462.1 bt462.2.1 bt462.2.2.1))))) = some r := H
  have A2 := Aside0.mk A20
  clear A20
  replace H := Option.bind_eq_some_iff.mp H
  obtain ⟨⟨t454, t455, t458, t459, t460⟩, A30, H⟩ := H
  replace H : ((wicketref15_ParseResponse.f k a0).bind fun bt462 => ((wicketlaw15_num.f t451).bind fun t470 => (if t470 = bt462.2.2.2.1 then ((wicketlaw15_num.f t459).bind fun t471 => (if t471 = bt462.2.2.2.1 then (if t452 = bt462.2.2.2.2 then (if t460 = bt462.2.2.2.2 then ((wicketlaw15_response.f k t446 t447 t450 bt462.1 bt462.2.1 bt462.2.2.1).bind fun t472 => (if t472 = true then ((wicketlaw15_response.f k t454 t455 t458 bt462.1 bt462.2.1 bt462.2.2.1).bind fun t473 => (wicketlaw15_HttpResponses.j0 k a0 bt462.2.2.2.1 (!t473) t446 t447 t450 t454 t455 t458 bt462.1 bt462.2.1 bt462.2.2.1)) else (wicketlaw15_HttpResponses.j0 k a0 bt462.2.2.2.1 true t446 t447 t450 t454 t455 t458 bt462.1 bt462.2.1 bt462.2.2.1))) else (wicketlaw15_HttpResponses.j0 k a0 bt462.2.2.2.1 true t446 t447 t450 t454 t455 t458 bt462.1 bt462.2.1 bt462.2.2.1)) else (wicketlaw15_HttpResponses.j0 k a0 bt462.2.2.2.1 true t446 t447 t450 t454 t455 t458 bt462.1 bt462.2.1 bt462.2.2.1)) else (wicketlaw15_HttpResponses.j0 k a0 bt462.2.2.2.1 true t446 t447 t450 t454 t455 t458 bt462.1 bt462.2.1 bt462.2.2.1))) else (wicketlaw15_HttpResponses.j0 k a0 bt462.2.2.2.1 true t446 t447 t450 t454 t455 t458 bt462.1 bt462.2.1 bt462.2.2.1)))) = some r := H
  have A3 := Aside0.mk A30
  clear A30
  replace H := Option.bind_eq_some_iff.mp H
  obtain ⟨⟨t462, t463, t466, t467, t468⟩, A40, H⟩ := H
  replace H : ((wicketlaw15_num.f t451).bind fun t470 => (if t470 = t467 then ((wicketlaw15_num.f t459).bind fun t471 => (if t471 = t467 then (if t452 = t468 then (if t460 = t468 then ((wicketlaw15_response.f k t446 t447 t450 t462 t463 t466).bind fun t472 => (if t472 = true then ((wicketlaw15_response.f k t454 t455 t458 t462 t463 t466).bind fun t473 => (wicketlaw15_HttpResponses.j0 k a0 t467 (!t473) t446 t447 t450 t454 t455 t458 t462 t463 t466)) else (wicketlaw15_HttpResponses.j0 k a0 t467 true t446 t447 t450 t454 t455 t458 t462 t463 t466))) else (wicketlaw15_HttpResponses.j0 k a0 t467 true t446 t447 t450 t454 t455 t458 t462 t463 t466)) else (wicketlaw15_HttpResponses.j0 k a0 t467 true t446 t447 t450 t454 t455 t458 t462 t463 t466)) else (wicketlaw15_HttpResponses.j0 k a0 t467 true t446 t447 t450 t454 t455 t458 t462 t463 t466))) else (wicketlaw15_HttpResponses.j0 k a0 t467 true t446 t447 t450 t454 t455 t458 t462 t463 t466))) = some r := H
  have A4 := Aside0.mk A40
  clear A40
  have HC5 := Aside0.mk H
  clear H
  go_enter Tryz.func6, Tryz.ntmps6
  go_upto_region 4 with (first | ((with_reducible refine gate_callee (f := 30) rfl ?_); refine goesL_ (some 17) rfl rfl Tryz.func30 (by kernel_rfl) rfl #[.string a0] rfl (by (try simp only [List.map_toArray, List.map_cons, List.map_nil]); first | done | rfl | (simp only [List.length_drop, List.length_take]; rfl)) ?_; (with_reducible refine (http_ParseResponse.calls k a0 t446 t447 t450 t451 t452 _ ?side1 A2.out).mono ?_); (case side1 => exact GL_below HG.out (by repeat (first | (with_reducible first | exact HB.out | apply below_alloc | apply pw_below_drewN | apply below_drew1) | exact HB.out))); rintro e w6 ⟨v448, rfl, ho0, hb⟩; refine ⟨_, rfl, ?_⟩; have n0_ := Aside0.mk (Kd.R_lower ho0 (below_size (by repeat (first | (with_reducible first | exact HB.out | apply below_alloc | apply pw_below_drewN | apply below_drew1) | exact HB.out)))); have n1_ := Aside0.mk (below_step (by repeat (first | (with_reducible first | exact HB.out | apply below_alloc | apply pw_below_drewN | apply below_drew1) | exact HB.out)) hb); clear HB; have HO449 := n0_; have HB := n1_; clear n0_ n1_; (try clear hb); (try clear hb2); (try clear hk); (try clear hi); (try clear ho0)) | ((with_reducible refine gate_dst (N := 3) rfl ?_); refine box_event ?hg (N := 3) ?hd (cs := #[.int .i64 0, .slice none 0 0, .string (⟨#[]⟩ : ByteArray)]) (t := 39) ?hr ?_; (case hd => rfl); (case hg => rfl); (case hr => first | (go_simp; done) | (go_simp; rfl)); intro gb453 hg w7 hbox hb; have n0_ := Aside0.mk (Kd.R_below (by (with_reducible repeat (first | apply Kd.R_alloc | apply Kd.R_drewN | apply Kd.R_drew)); exact HO449.out) hb); have n1_ := Aside0.mk (below_step (by repeat (first | (with_reducible first | exact HB.out | apply below_alloc | apply pw_below_drewN | apply below_drew1) | exact HB.out)) hb); have n2_ := Aside0.mk (hbox); have n3_ := Aside0.mk ((by rw [hg]; exact (below_size (by repeat (first | (with_reducible first | exact HB.out | apply below_alloc | apply pw_below_drewN | apply below_drew1) | exact HB.out))) : w.heap.size ≤ gb453)); have n4_ := Aside0.mk ((by rw [hg]; exact (below_size (by repeat (first | (with_reducible first | exact HB.out | apply below_alloc | apply pw_below_drewN | apply below_drew1) | exact HB.out))) : w.heap.size ≤ gb453)); clear HO449; clear HB; have HO449 := n0_; have HB := n1_; have BK453 := n2_; have GW453 := n3_; have GE453 := n4_; clear n0_ n1_ n2_ n3_ n4_; clear hb hbox hg; have hcz8_0 : w7.cell? ⟨gb453, 0, none⟩ = some (.int .i64 0) := (blk_cell BK453.out 0).trans rfl; have hcz8_1 : w7.cell? ⟨gb453, 1, none⟩ = some (.slice none 0 0) := (blk_cell BK453.out 1).trans rfl; have hcz8_2 : w7.cell? ⟨gb453, 2, none⟩ = some (.string (⟨#[]⟩ : ByteArray)) := (blk_cell BK453.out 2).trans rfl; have hfz8_0 := blk_frozen BK453.out 0; have hfz8_1 := blk_frozen BK453.out 1; have hfz8_2 := blk_frozen BK453.out 2; obtain ⟨Ao9, co9, eo9⟩ := Kd.R_slice HO449.out; subst eo9) | ((with_reducible refine gate_callee (f := 30) rfl ?_); refine goesL_ (some 23) rfl rfl Tryz.func30 (by kernel_rfl) rfl #[.string a0] rfl (by (try simp only [List.map_toArray, List.map_cons, List.map_nil]); first | done | rfl | (simp only [List.length_drop, List.length_take]; rfl)) ?_; (with_reducible refine (http_ParseResponse.calls k a0 t454 t455 t458 t459 t460 _ ?side1 A3.out).mono ?_); (case side1 => exact GL_below HG.out (by repeat (first | (with_reducible first | exact HB.out | apply below_alloc | apply pw_below_drewN | apply below_drew1 | refine below_set ?_ GE453.out) | exact HB.out))); rintro e w10 ⟨v456, rfl, ho0, hb⟩; refine ⟨_, rfl, ?_⟩; have n0_ := Aside0.mk (Kd.R_elder' (by (with_reducible repeat (first | apply Kd.R_alloc | apply Kd.R_drewN | apply Kd.R_drew)); exact (Kd.R_mono (Kd.R_far (p := ⟨gb453, 2, none⟩) (Kd.R_far (p := ⟨gb453, 1, none⟩) (Kd.R_far (p := ⟨gb453, 0, none⟩) (Kd.R_types HO449.out BK453.out (by decide)) (fun _ hk => hk.2) (.int .i64 t446)) (fun _ hk => hk.2) (.slice Ao9 t447.length co9)) (fun _ hk => hk.2) (.string t450)) (fun _ h_ => h_.1))) (Kd.R_base ho0) hb); have n1_ := Aside0.mk (Kd.R_lower (Kd.R_new' ho0 (Kd.R_lt (by (with_reducible repeat (first | apply Kd.R_alloc | apply Kd.R_drewN | apply Kd.R_drew)); exact (Kd.R_mono (Kd.R_far (p := ⟨gb453, 2, none⟩) (Kd.R_far (p := ⟨gb453, 1, none⟩) (Kd.R_far (p := ⟨gb453, 0, none⟩) (Kd.R_types HO449.out BK453.out (by decide)) (fun _ hk => hk.2) (.int .i64 t446)) (fun _ hk => hk.2) (.slice Ao9 t447.length co9)) (fun _ hk => hk.2) (.string t450)) (fun _ h_ => h_.1))))) (below_size (by repeat (first | (with_reducible first | exact HB.out | apply below_alloc | apply pw_below_drewN | apply below_drew1 | refine below_set ?_ GE453.out) | exact HB.out)))); have n2_ := Aside0.mk (blk_below (g := gb453) (o := .cells #[.int .i64 t446, .slice Ao9 t447.length co9, .string t450] 39 (0, 0)) (by (with_reducible repeat (first | refine blk_drewN ?_ _ | refine blk_drew ?_ | refine blk_alloc ?_ _)); refine blk_put (cs := #[.int .i64 t446, .slice Ao9 t447.length co9, .string (⟨#[]⟩ : ByteArray)]) ?_ 2 _ rfl; (with_reducible repeat (first | refine blk_drewN ?_ _ | refine blk_drew ?_ | refine blk_alloc ?_ _)); refine blk_put (cs := #[.int .i64 t446, .slice none 0 0, .string (⟨#[]⟩ : ByteArray)]) ?_ 1 _ rfl; (with_reducible repeat (first | refine blk_drewN ?_ _ | refine blk_drew ?_ | refine blk_alloc ?_ _)); refine blk_put (cs := #[.int .i64 0, .slice none 0 0, .string (⟨#[]⟩ : ByteArray)]) ?_ 0 _ rfl; (with_reducible repeat (first | refine blk_drewN ?_ _ | refine blk_drew ?_ | refine blk_alloc ?_ _)); exact BK453.out) hb); have n3_ := Aside0.mk (below_step (by repeat (first | (with_reducible first | exact HB.out | apply below_alloc | apply pw_below_drewN | apply below_drew1 | refine below_set ?_ GE453.out) | exact HB.out)) hb); clear HO449; clear BK453; clear HB; have HO449 := n0_; have HO457 := n1_; have BK453 := n2_; have HB := n3_; clear n0_ n1_ n2_ n3_; (try clear hb); (try clear hb2); (try clear hk); (try clear hi); (try clear ho0)) | ((with_reducible refine gate_dst (N := 6) rfl ?_); refine box_event ?hg (N := 6) ?hd (cs := #[.int .i64 0, .slice none 0 0, .string (⟨#[]⟩ : ByteArray)]) (t := 39) ?hr ?_; (case hd => rfl); (case hg => rfl); (case hr => first | (go_simp; done) | (go_simp; rfl)); intro gb461 hg w11 hbox hb; have n0_ := Aside0.mk (Kd.R_below (by (with_reducible repeat (first | apply Kd.R_alloc | apply Kd.R_drewN | apply Kd.R_drew)); exact HO449.out) hb); have n1_ := Aside0.mk (Kd.R_below (by (with_reducible repeat (first | apply Kd.R_alloc | apply Kd.R_drewN | apply Kd.R_drew)); exact HO457.out) hb); have n2_ := Aside0.mk (blk_below (g := gb453) (o := .cells #[.int .i64 t446, .slice Ao9 t447.length co9, .string t450] 39 (0, 0)) (by (with_reducible repeat (first | refine blk_drewN ?_ _ | refine blk_drew ?_ | refine blk_alloc ?_ _)); exact BK453.out) hb); have n3_ := Aside0.mk (below_step (by repeat (first | (with_reducible first | exact HB.out | apply below_alloc | apply pw_below_drewN | apply below_drew1 | refine below_set ?_ GE453.out) | exact HB.out)) hb); have n4_ := Aside0.mk (hbox); have n5_ := Aside0.mk ((by rw [hg]; exact (below_size (by repeat (first | (with_reducible first | exact HB.out | apply below_alloc | apply pw_below_drewN | apply below_drew1 | refine below_set ?_ GE453.out) | exact HB.out))) : w.heap.size ≤ gb461)); have n6_ := Aside0.mk ((by rw [hg]; exact (below_size (by repeat (first | (with_reducible first | exact HB.out | apply below_alloc | apply pw_below_drewN | apply below_drew1 | refine below_set ?_ GE453.out) | exact HB.out))) : w.heap.size ≤ gb461)); have n7_ := Aside0.mk ((by rw [hg]; exact Nat.ne_of_lt (blk_lt (g := gb453) (o := .cells #[.int .i64 t446, .slice Ao9 t447.length co9, .string t450] 39 (0, 0)) (by (with_reducible repeat (first | refine blk_drewN ?_ _ | refine blk_drew ?_ | refine blk_alloc ?_ _)); exact BK453.out)) : gb453 ≠ gb461)); have n8_ := Aside0.mk ((by rw [hg]; exact Nat.ne_of_gt (blk_lt (g := gb453) (o := .cells #[.int .i64 t446, .slice Ao9 t447.length co9, .string t450] 39 (0, 0)) (by (with_reducible repeat (first | refine blk_drewN ?_ _ | refine blk_drew ?_ | refine blk_alloc ?_ _)); exact BK453.out)) : gb461 ≠ gb453)); clear HO449; clear HO457; clear BK453; clear HB; have HO449 := n0_; have HO457 := n1_; have BK453 := n2_; have HB := n3_; have BK461 := n4_; have GW461 := n5_; have GE461 := n6_; have NB453_461 := n7_; have NB461_453 := n8_; clear n0_ n1_ n2_ n3_ n4_ n5_ n6_ n7_ n8_; clear hb hbox hg; have hnb12 := NB461_453.out; have hnc12 := NB453_461.out; have hcz13_0 : w11.cell? ⟨gb461, 0, none⟩ = some (.int .i64 0) := (blk_cell BK461.out 0).trans rfl; have hcz13_1 : w11.cell? ⟨gb461, 1, none⟩ = some (.slice none 0 0) := (blk_cell BK461.out 1).trans rfl; have hcz13_2 : w11.cell? ⟨gb461, 2, none⟩ = some (.string (⟨#[]⟩ : ByteArray)) := (blk_cell BK461.out 2).trans rfl; have hfz13_0 := blk_frozen BK461.out 0; have hfz13_1 := blk_frozen BK461.out 1; have hfz13_2 := blk_frozen BK461.out 2; obtain ⟨Ao14, co14, eo14⟩ := Kd.R_slice HO457.out; subst eo14) | ((with_reducible refine gate_callee (f := 31) rfl ?_); refine goesL_ (some 29) rfl rfl Tryz.func31 (by kernel_rfl) rfl #[.string a0] rfl (by (try simp only [List.map_toArray, List.map_cons, List.map_nil]); first | done | rfl | (simp only [List.length_drop, List.length_take]; rfl)) ?_; (with_reducible refine (wicketref15_ParseResponse.calls k a0 t462 t463 t466 t467 t468 _ A4.out).mono ?_); rintro e w15 ⟨v464, rfl, ho0, hb⟩; refine ⟨_, rfl, ?_⟩; have n0_ := Aside0.mk (Kd.R_below (by (with_reducible repeat (first | apply Kd.R_alloc | apply Kd.R_drewN | apply Kd.R_drew)); exact (Kd.R_mono (Kd.R_far (p := ⟨gb461, 2, none⟩) (Kd.R_far (p := ⟨gb461, 1, none⟩) (Kd.R_far (p := ⟨gb461, 0, none⟩) (Kd.R_types HO449.out BK461.out (by decide)) (fun _ hk => hk.2) (.int .i64 t454)) (fun _ hk => hk.2) (.slice Ao14 t455.length co14)) (fun _ hk => hk.2) (.string t458)) (fun _ h_ => h_.1))) hb); have n1_ := Aside0.mk (Kd.R_below (by (with_reducible repeat (first | apply Kd.R_alloc | apply Kd.R_drewN | apply Kd.R_drew)); exact (Kd.R_mono (Kd.R_far (p := ⟨gb461, 2, none⟩) (Kd.R_far (p := ⟨gb461, 1, none⟩) (Kd.R_far (p := ⟨gb461, 0, none⟩) (Kd.R_types HO457.out BK461.out (by decide)) (fun _ hk => hk.2) (.int .i64 t454)) (fun _ hk => hk.2) (.slice Ao14 t455.length co14)) (fun _ hk => hk.2) (.string t458)) (fun _ h_ => h_.1))) hb); have n2_ := Aside0.mk (Kd.R_lower ho0 (below_size (by repeat (first | (with_reducible first | exact HB.out | apply below_alloc | apply pw_below_drewN | apply below_drew1 | refine below_set ?_ GE453.out | refine below_set ?_ GE461.out) | exact HB.out)))); have n3_ := Aside0.mk (blk_below (g := gb453) (o := .cells #[.int .i64 t446, .slice Ao9 t447.length co9, .string t450] 39 (0, 0)) (by (with_reducible repeat (first | refine blk_drewN ?_ _ | refine blk_drew ?_ | refine blk_alloc ?_ _)); refine blk_far ?_ NB453_461.out _; (with_reducible repeat (first | refine blk_drewN ?_ _ | refine blk_drew ?_ | refine blk_alloc ?_ _)); refine blk_far ?_ NB453_461.out _; (with_reducible repeat (first | refine blk_drewN ?_ _ | refine blk_drew ?_ | refine blk_alloc ?_ _)); refine blk_far ?_ NB453_461.out _; (with_reducible repeat (first | refine blk_drewN ?_ _ | refine blk_drew ?_ | refine blk_alloc ?_ _)); exact BK453.out) hb); have n4_ := Aside0.mk (blk_below (g := gb461) (o := .cells #[.int .i64 t454, .slice Ao14 t455.length co14, .string t458] 39 (0, 0)) (by (with_reducible repeat (first | refine blk_drewN ?_ _ | refine blk_drew ?_ | refine blk_alloc ?_ _)); refine blk_put (cs := #[.int .i64 t454, .slice Ao14 t455.length co14, .string (⟨#[]⟩ : ByteArray)]) ?_ 2 _ rfl; (with_reducible repeat (first | refine blk_drewN ?_ _ | refine blk_drew ?_ | refine blk_alloc ?_ _)); refine blk_put (cs := #[.int .i64 t454, .slice none 0 0, .string (⟨#[]⟩ : ByteArray)]) ?_ 1 _ rfl; (with_reducible repeat (first | refine blk_drewN ?_ _ | refine blk_drew ?_ | refine blk_alloc ?_ _)); refine blk_put (cs := #[.int .i64 0, .slice none 0 0, .string (⟨#[]⟩ : ByteArray)]) ?_ 0 _ rfl; (with_reducible repeat (first | refine blk_drewN ?_ _ | refine blk_drew ?_ | refine blk_alloc ?_ _)); exact BK461.out) hb); have n5_ := Aside0.mk (below_step (by repeat (first | (with_reducible first | exact HB.out | apply below_alloc | apply pw_below_drewN | apply below_drew1 | refine below_set ?_ GE453.out | refine below_set ?_ GE461.out) | exact HB.out)) hb); clear HO449; clear HO457; clear BK453; clear BK461; clear HB; have HO449 := n0_; have HO457 := n1_; have HO465 := n2_; have BK453 := n3_; have BK461 := n4_; have HB := n5_; clear n0_ n1_ n2_ n3_ n4_ n5_; (try clear hb); (try clear hb2); (try clear hk); (try clear hi); (try clear ho0)) | ((with_reducible refine gate_dst (N := 9) rfl ?_); refine box_event ?hg (N := 9) ?hd (cs := #[.int .i64 0, .slice none 0 0, .string (⟨#[]⟩ : ByteArray)]) (t := 48) ?hr ?_; (case hd => rfl); (case hg => rfl); (case hr => first | (go_simp; done) | (go_simp; rfl)); intro gb469 hg w16 hbox hb; have n0_ := Aside0.mk (Kd.R_below (by (with_reducible repeat (first | apply Kd.R_alloc | apply Kd.R_drewN | apply Kd.R_drew)); exact HO449.out) hb); have n1_ := Aside0.mk (Kd.R_below (by (with_reducible repeat (first | apply Kd.R_alloc | apply Kd.R_drewN | apply Kd.R_drew)); exact HO457.out) hb); have n2_ := Aside0.mk (Kd.R_below (by (with_reducible repeat (first | apply Kd.R_alloc | apply Kd.R_drewN | apply Kd.R_drew)); exact HO465.out) hb); have n3_ := Aside0.mk (blk_below (g := gb453) (o := .cells #[.int .i64 t446, .slice Ao9 t447.length co9, .string t450] 39 (0, 0)) (by (with_reducible repeat (first | refine blk_drewN ?_ _ | refine blk_drew ?_ | refine blk_alloc ?_ _)); exact BK453.out) hb); have n4_ := Aside0.mk (blk_below (g := gb461) (o := .cells #[.int .i64 t454, .slice Ao14 t455.length co14, .string t458] 39 (0, 0)) (by (with_reducible repeat (first | refine blk_drewN ?_ _ | refine blk_drew ?_ | refine blk_alloc ?_ _)); exact BK461.out) hb); have n5_ := Aside0.mk (below_step (by repeat (first | (with_reducible first | exact HB.out | apply below_alloc | apply pw_below_drewN | apply below_drew1 | refine below_set ?_ GE453.out | refine below_set ?_ GE461.out) | exact HB.out)) hb); have n6_ := Aside0.mk (hbox); have n7_ := Aside0.mk ((by rw [hg]; exact (below_size (by repeat (first | (with_reducible first | exact HB.out | apply below_alloc | apply pw_below_drewN | apply below_drew1 | refine below_set ?_ GE453.out | refine below_set ?_ GE461.out) | exact HB.out))) : w.heap.size ≤ gb469)); have n8_ := Aside0.mk ((by rw [hg]; exact (below_size (by repeat (first | (with_reducible first | exact HB.out | apply below_alloc | apply pw_below_drewN | apply below_drew1 | refine below_set ?_ GE453.out | refine below_set ?_ GE461.out) | exact HB.out))) : w.heap.size ≤ gb469)); have n9_ := Aside0.mk ((by rw [hg]; exact Nat.ne_of_lt (blk_lt (g := gb453) (o := .cells #[.int .i64 t446, .slice Ao9 t447.length co9, .string t450] 39 (0, 0)) (by (with_reducible repeat (first | refine blk_drewN ?_ _ | refine blk_drew ?_ | refine blk_alloc ?_ _)); exact BK453.out)) : gb453 ≠ gb469)); have n10_ := Aside0.mk ((by rw [hg]; exact Nat.ne_of_gt (blk_lt (g := gb453) (o := .cells #[.int .i64 t446, .slice Ao9 t447.length co9, .string t450] 39 (0, 0)) (by (with_reducible repeat (first | refine blk_drewN ?_ _ | refine blk_drew ?_ | refine blk_alloc ?_ _)); exact BK453.out)) : gb469 ≠ gb453)); have n11_ := Aside0.mk ((by rw [hg]; exact Nat.ne_of_lt (blk_lt (g := gb461) (o := .cells #[.int .i64 t454, .slice Ao14 t455.length co14, .string t458] 39 (0, 0)) (by (with_reducible repeat (first | refine blk_drewN ?_ _ | refine blk_drew ?_ | refine blk_alloc ?_ _)); exact BK461.out)) : gb461 ≠ gb469)); have n12_ := Aside0.mk ((by rw [hg]; exact Nat.ne_of_gt (blk_lt (g := gb461) (o := .cells #[.int .i64 t454, .slice Ao14 t455.length co14, .string t458] 39 (0, 0)) (by (with_reducible repeat (first | refine blk_drewN ?_ _ | refine blk_drew ?_ | refine blk_alloc ?_ _)); exact BK461.out)) : gb469 ≠ gb461)); clear HO449; clear HO457; clear HO465; clear BK453; clear BK461; clear HB; have HO449 := n0_; have HO457 := n1_; have HO465 := n2_; have BK453 := n3_; have BK461 := n4_; have HB := n5_; have BK469 := n6_; have GW469 := n7_; have GE469 := n8_; have NB453_469 := n9_; have NB469_453 := n10_; have NB461_469 := n11_; have NB469_461 := n12_; clear n0_ n1_ n2_ n3_ n4_ n5_ n6_ n7_ n8_ n9_ n10_ n11_ n12_; clear hb hbox hg; have hnb17 := NB469_453.out; have hnc17 := NB453_469.out; have hnb18 := NB469_461.out; have hnc18 := NB461_469.out; have hcz19_0 : w16.cell? ⟨gb469, 0, none⟩ = some (.int .i64 0) := (blk_cell BK469.out 0).trans rfl; have hcz19_1 : w16.cell? ⟨gb469, 1, none⟩ = some (.slice none 0 0) := (blk_cell BK469.out 1).trans rfl; have hcz19_2 : w16.cell? ⟨gb469, 2, none⟩ = some (.string (⟨#[]⟩ : ByteArray)) := (blk_cell BK469.out 2).trans rfl; have hfz19_0 := blk_frozen BK469.out 0; have hfz19_1 := blk_frozen BK469.out 1; have hfz19_2 := blk_frozen BK469.out 2; obtain ⟨Ao20, co20, eo20⟩ := Kd.R_slice HO465.out; subst eo20))
  (try simp only [Act.put, List.setIfInBounds_toArray, List.set_cons_zero, List.set_cons_succ])
  go_cut [64] (fun v64 wc => ∃ (kq : Nat) (x64_4 : Bool), v64 = .bool x64_4 ∧ Aside0 (wicketlaw15_HttpResponses.j0 kq a0 t467 x64_4 t446 t447 t450 t454 t455 t458 t462 t463 t466 = some r) ∧ Aside0 (kq ≤ k) ∧ Aside0 (Kd.R k80 80 wc w.heap.size (fun k_ => some k_ ≠ ((.slice Ao14 t455.length co14) : Value).ownBlock) (.slice Ao9 t447.length co9) t447) ∧ Aside0 (Kd.R k80 80 wc w.heap.size (fun k_ => some k_ ≠ ((.slice Ao9 t447.length co9) : Value).ownBlock) (.slice Ao14 t455.length co14) t455) ∧ Aside0 (Kd.R k84 84 wc w.heap.size (fun _ => True) (.slice Ao20 t463.length co20) t463) ∧ Aside0 (wc.heap[gb453]? = some (.cells #[.int .i64 t446, (.slice Ao9 t447.length co9), .string t450] 39 (0, 0))) ∧ Aside0 (wc.heap[gb461]? = some (.cells #[.int .i64 t454, (.slice Ao14 t455.length co14), .string t458] 39 (0, 0))) ∧ Aside0 (wc.heap[gb469]? = some (.cells #[.int .i64 t462, (.slice Ao20 t463.length co20), .string t466] 48 (0, 0))) ∧ Aside0 (Below w.heap.size w wc))
  case first =>
    have H := HC5.out
    clear HC5
    replace H := Option.bind_eq_some_iff.mp H
    obtain ⟨t470, A210, H⟩ := H
    obtain rfl : t451 = t470 := Option.some.inj A210
    replace H : (if t451 = t467 then ((wicketlaw15_num.f t459).bind fun t471 => (if t471 = t467 then (if t452 = t468 then (if t460 = t468 then ((wicketlaw15_response.f k t446 t447 t450 t462 t463 t466).bind fun t472 => (if t472 = true then ((wicketlaw15_response.f k t454 t455 t458 t462 t463 t466).bind fun t473 => (wicketlaw15_HttpResponses.j0 k a0 t467 (!t473) t446 t447 t450 t454 t455 t458 t462 t463 t466)) else (wicketlaw15_HttpResponses.j0 k a0 t467 true t446 t447 t450 t454 t455 t458 t462 t463 t466))) else (wicketlaw15_HttpResponses.j0 k a0 t467 true t446 t447 t450 t454 t455 t458 t462 t463 t466)) else (wicketlaw15_HttpResponses.j0 k a0 t467 true t446 t447 t450 t454 t455 t458 t462 t463 t466)) else (wicketlaw15_HttpResponses.j0 k a0 t467 true t446 t447 t450 t454 t455 t458 t462 t463 t466))) else (wicketlaw15_HttpResponses.j0 k a0 t467 true t446 t447 t450 t454 t455 t458 t462 t463 t466)) = some r := H
    have A21 := Aside0.mk A210
    clear A210
    by_cases c22 : t451 = t467
    · rw [if_pos c22] at H
      have c22b0 : (t451 == t467) = true := beq_iff_eq.mpr c22
      have c22b1 : (t451 != t467) = false := bne_eq_false_iff_eq.mpr c22
      clear c22
      (first | rw [c22b0] | (simp only [i64_w, i32_w]; rw [c22b0]) | skip)
      replace H := Option.bind_eq_some_iff.mp H
      obtain ⟨t471, A230, H⟩ := H
      obtain rfl : t459 = t471 := Option.some.inj A230
      replace H : (if t459 = t467 then (if t452 = t468 then (if t460 = t468 then ((wicketlaw15_response.f k t446 t447 t450 t462 t463 t466).bind fun t472 => (if t472 = true then ((wicketlaw15_response.f k t454 t455 t458 t462 t463 t466).bind fun t473 => (wicketlaw15_HttpResponses.j0 k a0 t467 (!t473) t446 t447 t450 t454 t455 t458 t462 t463 t466)) else (wicketlaw15_HttpResponses.j0 k a0 t467 true t446 t447 t450 t454 t455 t458 t462 t463 t466))) else (wicketlaw15_HttpResponses.j0 k a0 t467 true t446 t447 t450 t454 t455 t458 t462 t463 t466)) else (wicketlaw15_HttpResponses.j0 k a0 t467 true t446 t447 t450 t454 t455 t458 t462 t463 t466)) else (wicketlaw15_HttpResponses.j0 k a0 t467 true t446 t447 t450 t454 t455 t458 t462 t463 t466)) = some r := H
      have A23 := Aside0.mk A230
      clear A230
      by_cases c24 : t459 = t467
      · rw [if_pos c24] at H
        have c24b0 : (t459 == t467) = true := beq_iff_eq.mpr c24
        have c24b1 : (t459 != t467) = false := bne_eq_false_iff_eq.mpr c24
        clear c24
        by_cases c25 : t452 = t468
        · rw [if_pos c25] at H
          have c25b0 : (t452 == t468) = true := beq_iff_eq.mpr c25
          have c25b1 : (t452 != t468) = false := bne_eq_false_iff_eq.mpr c25
          clear c25
          by_cases c26 : t460 = t468
          · rw [if_pos c26] at H
            have c26b0 : (t460 == t468) = true := beq_iff_eq.mpr c26
            have c26b1 : (t460 != t468) = false := bne_eq_false_iff_eq.mpr c26
            clear c26
            replace H := Option.bind_eq_some_iff.mp H
            obtain ⟨t472, A270, H⟩ := H
            replace H : (if t472 = true then ((wicketlaw15_response.f k t454 t455 t458 t462 t463 t466).bind fun t473 => (wicketlaw15_HttpResponses.j0 k a0 t467 (!t473) t446 t447 t450 t454 t455 t458 t462 t463 t466)) else (wicketlaw15_HttpResponses.j0 k a0 t467 true t446 t447 t450 t454 t455 t458 t462 t463 t466)) = some r := H
            have A27 := Aside0.mk A270
            clear A270
            by_cases c28 : t472 = true
            · subst c28
              have H1 : ((wicketlaw15_response.f k t454 t455 t458 t462 t463 t466).bind fun t473 => (wicketlaw15_HttpResponses.j0 k a0 t467 (!t473) t446 t447 t450 t454 t455 t458 t462 t463 t466)) = some r := by rw [if_pos rfl] at H; exact H
              clear H
              have H := H1
              clear H1
              replace H := Option.bind_eq_some_iff.mp H
              obtain ⟨t473, A290, H⟩ := H
              replace H : (wicketlaw15_HttpResponses.j0 k a0 t467 (!t473) t446 t447 t450 t454 t455 t458 t462 t463 t466) = some r := H
              have A29 := Aside0.mk A290
              clear A290
              have H' := Aside0.mk H
              clear H
              go_wp2_with (first | ((with_reducible refine gate_callee (f := 10) rfl ?_); refine goesL_ (some 34) rfl rfl Tryz.func10 (by kernel_rfl) rfl #[.int .i64 t451] rfl (by (try simp only [List.map_toArray, List.map_cons, List.map_nil]); first | done | rfl | (simp only [List.length_drop, List.length_take]; rfl)) ?_; (with_reducible refine (wicketlaw15_num.calls t451 t451 _ A21.out).mono ?_); rintro e w' ⟨rfl, ⟨nd, rfl⟩⟩; refine ⟨_, rfl, ?_⟩) | (go_at_call 10; (with_reducible refine (wicketlaw15_num.calls t459 t459 _ A23.out).mono ?_); rintro e w' ⟨rfl, ⟨nd, rfl⟩⟩; have hnb30 := NB453_461.out; have hnc30 := NB461_453.out; have hnb31 := NB453_469.out; have hnc31 := NB469_453.out; have hcz32_0 : w16.cell? ⟨gb453, 0, none⟩ = some (.int .i64 t446) := (blk_cell BK453.out 0).trans rfl; have hcz32_1 : w16.cell? ⟨gb453, 1, none⟩ = some (.slice Ao9 t447.length co9) := (blk_cell BK453.out 1).trans rfl; have hcz32_2 : w16.cell? ⟨gb453, 2, none⟩ = some (.string t450) := (blk_cell BK453.out 2).trans rfl; have hfz32_0 := blk_frozen BK453.out 0; have hfz32_1 := blk_frozen BK453.out 1; have hfz32_2 := blk_frozen BK453.out 2; have hnb33 := NB469_461.out; have hnc33 := NB461_469.out; have hcz34_0 : w16.cell? ⟨gb469, 0, none⟩ = some (.int .i64 0) := (blk_cell BK469.out 0).trans rfl; have hcz34_1 : w16.cell? ⟨gb469, 1, none⟩ = some (.slice none 0 0) := (blk_cell BK469.out 1).trans rfl; have hcz34_2 : w16.cell? ⟨gb469, 2, none⟩ = some (.string (⟨#[]⟩ : ByteArray)) := (blk_cell BK469.out 2).trans rfl; have hfz34_0 := blk_frozen BK469.out 0; have hfz34_1 := blk_frozen BK469.out 1; have hfz34_2 := blk_frozen BK469.out 2) | (go_at_call 32; (with_reducible refine (wicketlaw15_response.calls k t446 _ _ t447 t450 t462 _ _ t463 t466 true _ ?side1 ?side2 ?side3 ?side4 A27.out).mono ?_); (case side1 => refine (Kd.R_reads' (e := 80) (base := w.heap.size) (ok := fun k_ => (True ∧ some k_ ≠ (.slice Ao14 t455.length co14 : Value).ownBlock)) (n := t447.length) (c := co9) ?_).2.2; exact (by (with_reducible repeat (first | apply Kd.R_alloc | apply Kd.R_drewN | apply Kd.R_drew)); exact (Kd.R_mono (Kd.R_far (p := ⟨gb469, 2, none⟩) (Kd.R_far (p := ⟨gb469, 1, none⟩) (Kd.R_far (p := ⟨gb469, 0, none⟩) (Kd.R_types HO449.out BK469.out (by decide)) (fun _ hk => hk.2) (.int .i64 t462)) (fun _ hk => hk.2) (.slice Ao20 t463.length co20)) (fun _ hk => hk.2) (.string t466)) (fun _ h_ => h_.1)))); (case side2 => exact (Kd.R_reads' HO449.out).2.1); (case side3 => refine (Kd.R_reads' (e := 84) (base := w.heap.size) (ok := fun k_ => True) (n := t463.length) (c := co20) ?_).2.2; exact (by (with_reducible repeat (first | apply Kd.R_alloc | apply Kd.R_drewN | apply Kd.R_drew)); exact (Kd.R_mono (Kd.R_far (p := ⟨gb469, 2, none⟩) (Kd.R_far (p := ⟨gb469, 1, none⟩) (Kd.R_far (p := ⟨gb469, 0, none⟩) (Kd.R_types HO465.out BK469.out (by decide)) (fun _ hk => hk.2) (.int .i64 t462)) (fun _ hk => hk.2) (.slice Ao20 t463.length co20)) (fun _ hk => hk.2) (.string t466)) (fun _ h_ => h_.1)))); (case side4 => exact (Kd.R_reads' HO465.out).2.1); rintro e w35 ⟨rfl, hb⟩; have n0_ := Aside0.mk (Kd.R_below (by (with_reducible repeat (first | apply Kd.R_alloc | apply Kd.R_drewN | apply Kd.R_drew)); exact (Kd.R_mono (Kd.R_far (p := ⟨gb469, 2, none⟩) (Kd.R_far (p := ⟨gb469, 1, none⟩) (Kd.R_far (p := ⟨gb469, 0, none⟩) (Kd.R_types HO449.out BK469.out (by decide)) (fun _ hk => hk.2) (.int .i64 t462)) (fun _ hk => hk.2) (.slice Ao20 t463.length co20)) (fun _ hk => hk.2) (.string t466)) (fun _ h_ => h_.1))) hb); have n1_ := Aside0.mk (Kd.R_below (by (with_reducible repeat (first | apply Kd.R_alloc | apply Kd.R_drewN | apply Kd.R_drew)); exact (Kd.R_mono (Kd.R_far (p := ⟨gb469, 2, none⟩) (Kd.R_far (p := ⟨gb469, 1, none⟩) (Kd.R_far (p := ⟨gb469, 0, none⟩) (Kd.R_types HO457.out BK469.out (by decide)) (fun _ hk => hk.2) (.int .i64 t462)) (fun _ hk => hk.2) (.slice Ao20 t463.length co20)) (fun _ hk => hk.2) (.string t466)) (fun _ h_ => h_.1))) hb); have n2_ := Aside0.mk (Kd.R_below (by (with_reducible repeat (first | apply Kd.R_alloc | apply Kd.R_drewN | apply Kd.R_drew)); exact (Kd.R_mono (Kd.R_far (p := ⟨gb469, 2, none⟩) (Kd.R_far (p := ⟨gb469, 1, none⟩) (Kd.R_far (p := ⟨gb469, 0, none⟩) (Kd.R_types HO465.out BK469.out (by decide)) (fun _ hk => hk.2) (.int .i64 t462)) (fun _ hk => hk.2) (.slice Ao20 t463.length co20)) (fun _ hk => hk.2) (.string t466)) (fun _ h_ => h_.1))) hb); have n3_ := Aside0.mk (blk_below (g := gb453) (o := .cells #[.int .i64 t446, .slice Ao9 t447.length co9, .string t450] 39 (0, 0)) (by (with_reducible repeat (first | refine blk_drewN ?_ _ | refine blk_drew ?_ | refine blk_alloc ?_ _)); refine blk_far ?_ NB453_469.out _; (with_reducible repeat (first | refine blk_drewN ?_ _ | refine blk_drew ?_ | refine blk_alloc ?_ _)); refine blk_far ?_ NB453_469.out _; (with_reducible repeat (first | refine blk_drewN ?_ _ | refine blk_drew ?_ | refine blk_alloc ?_ _)); refine blk_far ?_ NB453_469.out _; (with_reducible repeat (first | refine blk_drewN ?_ _ | refine blk_drew ?_ | refine blk_alloc ?_ _)); exact BK453.out) hb); have n4_ := Aside0.mk (blk_below (g := gb461) (o := .cells #[.int .i64 t454, .slice Ao14 t455.length co14, .string t458] 39 (0, 0)) (by (with_reducible repeat (first | refine blk_drewN ?_ _ | refine blk_drew ?_ | refine blk_alloc ?_ _)); refine blk_far ?_ NB461_469.out _; (with_reducible repeat (first | refine blk_drewN ?_ _ | refine blk_drew ?_ | refine blk_alloc ?_ _)); refine blk_far ?_ NB461_469.out _; (with_reducible repeat (first | refine blk_drewN ?_ _ | refine blk_drew ?_ | refine blk_alloc ?_ _)); refine blk_far ?_ NB461_469.out _; (with_reducible repeat (first | refine blk_drewN ?_ _ | refine blk_drew ?_ | refine blk_alloc ?_ _)); exact BK461.out) hb); have n5_ := Aside0.mk (blk_below (g := gb469) (o := .cells #[.int .i64 t462, .slice Ao20 t463.length co20, .string t466] 48 (0, 0)) (by (with_reducible repeat (first | refine blk_drewN ?_ _ | refine blk_drew ?_ | refine blk_alloc ?_ _)); refine blk_put (cs := #[.int .i64 t462, .slice Ao20 t463.length co20, .string (⟨#[]⟩ : ByteArray)]) ?_ 2 _ rfl; (with_reducible repeat (first | refine blk_drewN ?_ _ | refine blk_drew ?_ | refine blk_alloc ?_ _)); refine blk_put (cs := #[.int .i64 t462, .slice none 0 0, .string (⟨#[]⟩ : ByteArray)]) ?_ 1 _ rfl; (with_reducible repeat (first | refine blk_drewN ?_ _ | refine blk_drew ?_ | refine blk_alloc ?_ _)); refine blk_put (cs := #[.int .i64 0, .slice none 0 0, .string (⟨#[]⟩ : ByteArray)]) ?_ 0 _ rfl; (with_reducible repeat (first | refine blk_drewN ?_ _ | refine blk_drew ?_ | refine blk_alloc ?_ _)); exact BK469.out) hb); have n6_ := Aside0.mk (below_step (by repeat (first | (with_reducible first | exact HB.out | apply below_alloc | apply pw_below_drewN | apply below_drew1 | refine below_set ?_ GE453.out | refine below_set ?_ GE461.out | refine below_set ?_ GE469.out) | exact HB.out)) hb); clear HO449; clear HO457; clear HO465; clear BK453; clear BK461; clear BK469; clear HB; have HO449 := n0_; have HO457 := n1_; have HO465 := n2_; have BK453 := n3_; have BK461 := n4_; have BK469 := n5_; have HB := n6_; clear n0_ n1_ n2_ n3_ n4_ n5_ n6_; (try clear hb); (try clear hb2); (try clear hk); (try clear hi); have hcz36_0 : w35.cell? ⟨gb461, 0, none⟩ = some (.int .i64 t454) := (blk_cell BK461.out 0).trans rfl; have hcz36_1 : w35.cell? ⟨gb461, 1, none⟩ = some (.slice Ao14 t455.length co14) := (blk_cell BK461.out 1).trans rfl; have hcz36_2 : w35.cell? ⟨gb461, 2, none⟩ = some (.string t458) := (blk_cell BK461.out 2).trans rfl; have hfz36_0 := blk_frozen BK461.out 0; have hfz36_1 := blk_frozen BK461.out 1; have hfz36_2 := blk_frozen BK461.out 2; have hcz37_0 : w35.cell? ⟨gb469, 0, none⟩ = some (.int .i64 t462) := (blk_cell BK469.out 0).trans rfl; have hcz37_1 : w35.cell? ⟨gb469, 1, none⟩ = some (.slice Ao20 t463.length co20) := (blk_cell BK469.out 1).trans rfl; have hcz37_2 : w35.cell? ⟨gb469, 2, none⟩ = some (.string t466) := (blk_cell BK469.out 2).trans rfl; have hfz37_0 := blk_frozen BK469.out 0; have hfz37_1 := blk_frozen BK469.out 1; have hfz37_2 := blk_frozen BK469.out 2) | (go_at_call 32; (with_reducible refine (wicketlaw15_response.calls k t454 _ _ t455 t458 t462 _ _ t463 t466 t473 _ ?side1 ?side2 ?side3 ?side4 A29.out).mono ?_); (case side1 => repeat (first | exact (Kd.R_reads' HO457.out).2.2 | (with_reducible refine Kd.C_alloc ?_ _) | (with_reducible refine Kd.C_drewN ?_ _) | (with_reducible refine Kd.C_drew ?_))); (case side2 => exact (Kd.R_reads' HO457.out).2.1); (case side3 => repeat (first | exact (Kd.R_reads' HO465.out).2.2 | (with_reducible refine Kd.C_alloc ?_ _) | (with_reducible refine Kd.C_drewN ?_ _) | (with_reducible refine Kd.C_drew ?_))); (case side4 => exact (Kd.R_reads' HO465.out).2.1); rintro e w38 ⟨rfl, hb⟩; have n0_ := Aside0.mk (Kd.R_below (by (with_reducible repeat (first | apply Kd.R_alloc | apply Kd.R_drewN | apply Kd.R_drew)); exact HO449.out) hb); have n1_ := Aside0.mk (Kd.R_below (by (with_reducible repeat (first | apply Kd.R_alloc | apply Kd.R_drewN | apply Kd.R_drew)); exact HO457.out) hb); have n2_ := Aside0.mk (Kd.R_below (by (with_reducible repeat (first | apply Kd.R_alloc | apply Kd.R_drewN | apply Kd.R_drew)); exact HO465.out) hb); have n3_ := Aside0.mk (blk_below (g := gb453) (o := .cells #[.int .i64 t446, .slice Ao9 t447.length co9, .string t450] 39 (0, 0)) (by (with_reducible repeat (first | refine blk_drewN ?_ _ | refine blk_drew ?_ | refine blk_alloc ?_ _)); exact BK453.out) hb); have n4_ := Aside0.mk (blk_below (g := gb461) (o := .cells #[.int .i64 t454, .slice Ao14 t455.length co14, .string t458] 39 (0, 0)) (by (with_reducible repeat (first | refine blk_drewN ?_ _ | refine blk_drew ?_ | refine blk_alloc ?_ _)); exact BK461.out) hb); have n5_ := Aside0.mk (blk_below (g := gb469) (o := .cells #[.int .i64 t462, .slice Ao20 t463.length co20, .string t466] 48 (0, 0)) (by (with_reducible repeat (first | refine blk_drewN ?_ _ | refine blk_drew ?_ | refine blk_alloc ?_ _)); exact BK469.out) hb); have n6_ := Aside0.mk (below_step (by repeat (first | (with_reducible first | exact HB.out | apply below_alloc | apply pw_below_drewN | apply below_drew1 | refine below_set ?_ GE453.out | refine below_set ?_ GE461.out | refine below_set ?_ GE469.out) | exact HB.out)) hb); clear HO449; clear HO457; clear HO465; clear BK453; clear BK461; clear BK469; clear HB; have HO449 := n0_; have HO457 := n1_; have HO465 := n2_; have BK453 := n3_; have BK461 := n4_; have BK469 := n5_; have HB := n6_; clear n0_ n1_ n2_ n3_ n4_ n5_ n6_; (try clear hb); (try clear hb2); (try clear hk); (try clear hi)))
              go_meet
              case rel => exact ⟨_, (!t473), (by first | rfl | (simp; done) | (simp [*]; done)), H', ⟨by first | omega | exact Nat.le_refl _⟩, ⟨by (with_reducible repeat (first | apply Kd.R_alloc | apply Kd.R_drewN | apply Kd.R_drew)); exact Kd.R_mono HO449.out (fun _ hk => hk.2)⟩, ⟨by (with_reducible repeat (first | apply Kd.R_alloc | apply Kd.R_drewN | apply Kd.R_drew)); exact Kd.R_mono HO457.out (fun _ hk => hk.2)⟩, ⟨by (with_reducible repeat (first | apply Kd.R_alloc | apply Kd.R_drewN | apply Kd.R_drew)); exact HO465.out⟩, ⟨by (with_reducible repeat (first | refine blk_drewN ?_ _ | refine blk_drew ?_ | refine blk_alloc ?_ _)); exact BK453.out⟩, ⟨by (with_reducible repeat (first | refine blk_drewN ?_ _ | refine blk_drew ?_ | refine blk_alloc ?_ _)); exact BK461.out⟩, ⟨by (with_reducible repeat (first | refine blk_drewN ?_ _ | refine blk_drew ?_ | refine blk_alloc ?_ _)); exact BK469.out⟩, ⟨by repeat (first | (with_reducible first | exact HB.out | apply below_alloc | apply pw_below_drewN | apply below_drew1 | refine below_set ?_ GE453.out | refine below_set ?_ GE461.out | refine below_set ?_ GE469.out) | exact HB.out)⟩⟩
            · replace c28 := Bool.eq_false_iff.mpr c28
              subst c28
              have H1 : (wicketlaw15_HttpResponses.j0 k a0 t467 true t446 t447 t450 t454 t455 t458 t462 t463 t466) = some r := by rw [if_neg (show ¬ (false = true) by decide)] at H; exact H
              clear H
              have H := H1
              clear H1
              have H' := Aside0.mk H
              clear H
              go_wp2_with (first | ((with_reducible refine gate_callee (f := 10) rfl ?_); refine goesL_ (some 34) rfl rfl Tryz.func10 (by kernel_rfl) rfl #[.int .i64 t451] rfl (by (try simp only [List.map_toArray, List.map_cons, List.map_nil]); first | done | rfl | (simp only [List.length_drop, List.length_take]; rfl)) ?_; (with_reducible refine (wicketlaw15_num.calls t451 t451 _ A21.out).mono ?_); rintro e w' ⟨rfl, ⟨nd, rfl⟩⟩; refine ⟨_, rfl, ?_⟩) | (go_at_call 10; (with_reducible refine (wicketlaw15_num.calls t459 t459 _ A23.out).mono ?_); rintro e w' ⟨rfl, ⟨nd, rfl⟩⟩; have hnb39 := NB453_461.out; have hnc39 := NB461_453.out; have hnb40 := NB453_469.out; have hnc40 := NB469_453.out; have hcz41_0 : w16.cell? ⟨gb453, 0, none⟩ = some (.int .i64 t446) := (blk_cell BK453.out 0).trans rfl; have hcz41_1 : w16.cell? ⟨gb453, 1, none⟩ = some (.slice Ao9 t447.length co9) := (blk_cell BK453.out 1).trans rfl; have hcz41_2 : w16.cell? ⟨gb453, 2, none⟩ = some (.string t450) := (blk_cell BK453.out 2).trans rfl; have hfz41_0 := blk_frozen BK453.out 0; have hfz41_1 := blk_frozen BK453.out 1; have hfz41_2 := blk_frozen BK453.out 2; have hnb42 := NB469_461.out; have hnc42 := NB461_469.out; have hcz43_0 : w16.cell? ⟨gb469, 0, none⟩ = some (.int .i64 0) := (blk_cell BK469.out 0).trans rfl; have hcz43_1 : w16.cell? ⟨gb469, 1, none⟩ = some (.slice none 0 0) := (blk_cell BK469.out 1).trans rfl; have hcz43_2 : w16.cell? ⟨gb469, 2, none⟩ = some (.string (⟨#[]⟩ : ByteArray)) := (blk_cell BK469.out 2).trans rfl; have hfz43_0 := blk_frozen BK469.out 0; have hfz43_1 := blk_frozen BK469.out 1; have hfz43_2 := blk_frozen BK469.out 2) | (go_at_call 32; (with_reducible refine (wicketlaw15_response.calls k t446 _ _ t447 t450 t462 _ _ t463 t466 false _ ?side1 ?side2 ?side3 ?side4 A27.out).mono ?_); (case side1 => refine (Kd.R_reads' (e := 80) (base := w.heap.size) (ok := fun k_ => (True ∧ some k_ ≠ (.slice Ao14 t455.length co14 : Value).ownBlock)) (n := t447.length) (c := co9) ?_).2.2; exact (by (with_reducible repeat (first | apply Kd.R_alloc | apply Kd.R_drewN | apply Kd.R_drew)); exact (Kd.R_mono (Kd.R_far (p := ⟨gb469, 2, none⟩) (Kd.R_far (p := ⟨gb469, 1, none⟩) (Kd.R_far (p := ⟨gb469, 0, none⟩) (Kd.R_types HO449.out BK469.out (by decide)) (fun _ hk => hk.2) (.int .i64 t462)) (fun _ hk => hk.2) (.slice Ao20 t463.length co20)) (fun _ hk => hk.2) (.string t466)) (fun _ h_ => h_.1)))); (case side2 => exact (Kd.R_reads' HO449.out).2.1); (case side3 => refine (Kd.R_reads' (e := 84) (base := w.heap.size) (ok := fun k_ => True) (n := t463.length) (c := co20) ?_).2.2; exact (by (with_reducible repeat (first | apply Kd.R_alloc | apply Kd.R_drewN | apply Kd.R_drew)); exact (Kd.R_mono (Kd.R_far (p := ⟨gb469, 2, none⟩) (Kd.R_far (p := ⟨gb469, 1, none⟩) (Kd.R_far (p := ⟨gb469, 0, none⟩) (Kd.R_types HO465.out BK469.out (by decide)) (fun _ hk => hk.2) (.int .i64 t462)) (fun _ hk => hk.2) (.slice Ao20 t463.length co20)) (fun _ hk => hk.2) (.string t466)) (fun _ h_ => h_.1)))); (case side4 => exact (Kd.R_reads' HO465.out).2.1); rintro e w44 ⟨rfl, hb⟩; have n0_ := Aside0.mk (Kd.R_below (by (with_reducible repeat (first | apply Kd.R_alloc | apply Kd.R_drewN | apply Kd.R_drew)); exact (Kd.R_mono (Kd.R_far (p := ⟨gb469, 2, none⟩) (Kd.R_far (p := ⟨gb469, 1, none⟩) (Kd.R_far (p := ⟨gb469, 0, none⟩) (Kd.R_types HO449.out BK469.out (by decide)) (fun _ hk => hk.2) (.int .i64 t462)) (fun _ hk => hk.2) (.slice Ao20 t463.length co20)) (fun _ hk => hk.2) (.string t466)) (fun _ h_ => h_.1))) hb); have n1_ := Aside0.mk (Kd.R_below (by (with_reducible repeat (first | apply Kd.R_alloc | apply Kd.R_drewN | apply Kd.R_drew)); exact (Kd.R_mono (Kd.R_far (p := ⟨gb469, 2, none⟩) (Kd.R_far (p := ⟨gb469, 1, none⟩) (Kd.R_far (p := ⟨gb469, 0, none⟩) (Kd.R_types HO457.out BK469.out (by decide)) (fun _ hk => hk.2) (.int .i64 t462)) (fun _ hk => hk.2) (.slice Ao20 t463.length co20)) (fun _ hk => hk.2) (.string t466)) (fun _ h_ => h_.1))) hb); have n2_ := Aside0.mk (Kd.R_below (by (with_reducible repeat (first | apply Kd.R_alloc | apply Kd.R_drewN | apply Kd.R_drew)); exact (Kd.R_mono (Kd.R_far (p := ⟨gb469, 2, none⟩) (Kd.R_far (p := ⟨gb469, 1, none⟩) (Kd.R_far (p := ⟨gb469, 0, none⟩) (Kd.R_types HO465.out BK469.out (by decide)) (fun _ hk => hk.2) (.int .i64 t462)) (fun _ hk => hk.2) (.slice Ao20 t463.length co20)) (fun _ hk => hk.2) (.string t466)) (fun _ h_ => h_.1))) hb); have n3_ := Aside0.mk (blk_below (g := gb453) (o := .cells #[.int .i64 t446, .slice Ao9 t447.length co9, .string t450] 39 (0, 0)) (by (with_reducible repeat (first | refine blk_drewN ?_ _ | refine blk_drew ?_ | refine blk_alloc ?_ _)); refine blk_far ?_ NB453_469.out _; (with_reducible repeat (first | refine blk_drewN ?_ _ | refine blk_drew ?_ | refine blk_alloc ?_ _)); refine blk_far ?_ NB453_469.out _; (with_reducible repeat (first | refine blk_drewN ?_ _ | refine blk_drew ?_ | refine blk_alloc ?_ _)); refine blk_far ?_ NB453_469.out _; (with_reducible repeat (first | refine blk_drewN ?_ _ | refine blk_drew ?_ | refine blk_alloc ?_ _)); exact BK453.out) hb); have n4_ := Aside0.mk (blk_below (g := gb461) (o := .cells #[.int .i64 t454, .slice Ao14 t455.length co14, .string t458] 39 (0, 0)) (by (with_reducible repeat (first | refine blk_drewN ?_ _ | refine blk_drew ?_ | refine blk_alloc ?_ _)); refine blk_far ?_ NB461_469.out _; (with_reducible repeat (first | refine blk_drewN ?_ _ | refine blk_drew ?_ | refine blk_alloc ?_ _)); refine blk_far ?_ NB461_469.out _; (with_reducible repeat (first | refine blk_drewN ?_ _ | refine blk_drew ?_ | refine blk_alloc ?_ _)); refine blk_far ?_ NB461_469.out _; (with_reducible repeat (first | refine blk_drewN ?_ _ | refine blk_drew ?_ | refine blk_alloc ?_ _)); exact BK461.out) hb); have n5_ := Aside0.mk (blk_below (g := gb469) (o := .cells #[.int .i64 t462, .slice Ao20 t463.length co20, .string t466] 48 (0, 0)) (by (with_reducible repeat (first | refine blk_drewN ?_ _ | refine blk_drew ?_ | refine blk_alloc ?_ _)); refine blk_put (cs := #[.int .i64 t462, .slice Ao20 t463.length co20, .string (⟨#[]⟩ : ByteArray)]) ?_ 2 _ rfl; (with_reducible repeat (first | refine blk_drewN ?_ _ | refine blk_drew ?_ | refine blk_alloc ?_ _)); refine blk_put (cs := #[.int .i64 t462, .slice none 0 0, .string (⟨#[]⟩ : ByteArray)]) ?_ 1 _ rfl; (with_reducible repeat (first | refine blk_drewN ?_ _ | refine blk_drew ?_ | refine blk_alloc ?_ _)); refine blk_put (cs := #[.int .i64 0, .slice none 0 0, .string (⟨#[]⟩ : ByteArray)]) ?_ 0 _ rfl; (with_reducible repeat (first | refine blk_drewN ?_ _ | refine blk_drew ?_ | refine blk_alloc ?_ _)); exact BK469.out) hb); have n6_ := Aside0.mk (below_step (by repeat (first | (with_reducible first | exact HB.out | apply below_alloc | apply pw_below_drewN | apply below_drew1 | refine below_set ?_ GE453.out | refine below_set ?_ GE461.out | refine below_set ?_ GE469.out) | exact HB.out)) hb); clear HO449; clear HO457; clear HO465; clear BK453; clear BK461; clear BK469; clear HB; have HO449 := n0_; have HO457 := n1_; have HO465 := n2_; have BK453 := n3_; have BK461 := n4_; have BK469 := n5_; have HB := n6_; clear n0_ n1_ n2_ n3_ n4_ n5_ n6_; (try clear hb); (try clear hb2); (try clear hk); (try clear hi)))
              go_meet
              case rel => exact ⟨_, (true), (by first | rfl | (simp; done) | (simp [*]; done)), H', ⟨by first | omega | exact Nat.le_refl _⟩, ⟨by (with_reducible repeat (first | apply Kd.R_alloc | apply Kd.R_drewN | apply Kd.R_drew)); exact Kd.R_mono HO449.out (fun _ hk => hk.2)⟩, ⟨by (with_reducible repeat (first | apply Kd.R_alloc | apply Kd.R_drewN | apply Kd.R_drew)); exact Kd.R_mono HO457.out (fun _ hk => hk.2)⟩, ⟨by (with_reducible repeat (first | apply Kd.R_alloc | apply Kd.R_drewN | apply Kd.R_drew)); exact HO465.out⟩, ⟨by (with_reducible repeat (first | refine blk_drewN ?_ _ | refine blk_drew ?_ | refine blk_alloc ?_ _)); exact BK453.out⟩, ⟨by (with_reducible repeat (first | refine blk_drewN ?_ _ | refine blk_drew ?_ | refine blk_alloc ?_ _)); exact BK461.out⟩, ⟨by (with_reducible repeat (first | refine blk_drewN ?_ _ | refine blk_drew ?_ | refine blk_alloc ?_ _)); exact BK469.out⟩, ⟨by repeat (first | (with_reducible first | exact HB.out | apply below_alloc | apply pw_below_drewN | apply below_drew1 | refine below_set ?_ GE453.out | refine below_set ?_ GE461.out | refine below_set ?_ GE469.out) | exact HB.out)⟩⟩
          · rw [if_neg c26] at H
            have c26b0 : (t460 == t468) = false := beq_eq_false_iff_ne.mpr c26
            have c26b1 : (t460 != t468) = true := bne_iff_ne.mpr c26
            have H' := Aside0.mk H
            clear H
            go_wp2_with (first | ((with_reducible refine gate_callee (f := 10) rfl ?_); refine goesL_ (some 34) rfl rfl Tryz.func10 (by kernel_rfl) rfl #[.int .i64 t451] rfl (by (try simp only [List.map_toArray, List.map_cons, List.map_nil]); first | done | rfl | (simp only [List.length_drop, List.length_take]; rfl)) ?_; (with_reducible refine (wicketlaw15_num.calls t451 t451 _ A21.out).mono ?_); rintro e w' ⟨rfl, ⟨nd, rfl⟩⟩; refine ⟨_, rfl, ?_⟩) | (go_at_call 10; (with_reducible refine (wicketlaw15_num.calls t459 t459 _ A23.out).mono ?_); rintro e w' ⟨rfl, ⟨nd, rfl⟩⟩))
            go_meet
            case rel => exact ⟨_, (true), (by first | rfl | (simp; done) | (simp [*]; done)), H', ⟨by first | omega | exact Nat.le_refl _⟩, ⟨by (with_reducible repeat (first | apply Kd.R_alloc | apply Kd.R_drewN | apply Kd.R_drew)); exact Kd.R_mono (Kd.R_far (p := ⟨gb469, 2, none⟩) (Kd.R_far (p := ⟨gb469, 1, none⟩) (Kd.R_far (p := ⟨gb469, 0, none⟩) (Kd.R_types HO449.out BK469.out (by decide)) (fun _ hk => hk.2) (.int .i64 t462)) (fun _ hk => hk.2) (.slice Ao20 t463.length co20)) (fun _ hk => hk.2) (.string t466)) (fun _ hk => hk.1.2)⟩, ⟨by (with_reducible repeat (first | apply Kd.R_alloc | apply Kd.R_drewN | apply Kd.R_drew)); exact Kd.R_mono (Kd.R_far (p := ⟨gb469, 2, none⟩) (Kd.R_far (p := ⟨gb469, 1, none⟩) (Kd.R_far (p := ⟨gb469, 0, none⟩) (Kd.R_types HO457.out BK469.out (by decide)) (fun _ hk => hk.2) (.int .i64 t462)) (fun _ hk => hk.2) (.slice Ao20 t463.length co20)) (fun _ hk => hk.2) (.string t466)) (fun _ hk => hk.1.2)⟩, ⟨by (with_reducible repeat (first | apply Kd.R_alloc | apply Kd.R_drewN | apply Kd.R_drew)); exact Kd.R_mono (Kd.R_far (p := ⟨gb469, 2, none⟩) (Kd.R_far (p := ⟨gb469, 1, none⟩) (Kd.R_far (p := ⟨gb469, 0, none⟩) (Kd.R_types HO465.out BK469.out (by decide)) (fun _ hk => hk.2) (.int .i64 t462)) (fun _ hk => hk.2) (.slice Ao20 t463.length co20)) (fun _ hk => hk.2) (.string t466)) (fun _ hk => trivial)⟩, ⟨by (with_reducible repeat (first | refine blk_drewN ?_ _ | refine blk_drew ?_ | refine blk_alloc ?_ _)); refine blk_far ?_ NB453_469.out _; (with_reducible repeat (first | refine blk_drewN ?_ _ | refine blk_drew ?_ | refine blk_alloc ?_ _)); refine blk_far ?_ NB453_469.out _; (with_reducible repeat (first | refine blk_drewN ?_ _ | refine blk_drew ?_ | refine blk_alloc ?_ _)); refine blk_far ?_ NB453_469.out _; (with_reducible repeat (first | refine blk_drewN ?_ _ | refine blk_drew ?_ | refine blk_alloc ?_ _)); exact BK453.out⟩, ⟨by (with_reducible repeat (first | refine blk_drewN ?_ _ | refine blk_drew ?_ | refine blk_alloc ?_ _)); refine blk_far ?_ NB461_469.out _; (with_reducible repeat (first | refine blk_drewN ?_ _ | refine blk_drew ?_ | refine blk_alloc ?_ _)); refine blk_far ?_ NB461_469.out _; (with_reducible repeat (first | refine blk_drewN ?_ _ | refine blk_drew ?_ | refine blk_alloc ?_ _)); refine blk_far ?_ NB461_469.out _; (with_reducible repeat (first | refine blk_drewN ?_ _ | refine blk_drew ?_ | refine blk_alloc ?_ _)); exact BK461.out⟩, ⟨by (with_reducible repeat (first | refine blk_drewN ?_ _ | refine blk_drew ?_ | refine blk_alloc ?_ _)); refine blk_put (cs := #[.int .i64 t462, .slice Ao20 t463.length co20, .string (⟨#[]⟩ : ByteArray)]) ?_ 2 _ rfl; (with_reducible repeat (first | refine blk_drewN ?_ _ | refine blk_drew ?_ | refine blk_alloc ?_ _)); refine blk_put (cs := #[.int .i64 t462, .slice none 0 0, .string (⟨#[]⟩ : ByteArray)]) ?_ 1 _ rfl; (with_reducible repeat (first | refine blk_drewN ?_ _ | refine blk_drew ?_ | refine blk_alloc ?_ _)); refine blk_put (cs := #[.int .i64 0, .slice none 0 0, .string (⟨#[]⟩ : ByteArray)]) ?_ 0 _ rfl; (with_reducible repeat (first | refine blk_drewN ?_ _ | refine blk_drew ?_ | refine blk_alloc ?_ _)); exact BK469.out⟩, ⟨by repeat (first | (with_reducible first | exact HB.out | apply below_alloc | apply pw_below_drewN | apply below_drew1 | refine below_set ?_ GE453.out | refine below_set ?_ GE461.out | refine below_set ?_ GE469.out) | exact HB.out)⟩⟩
        · rw [if_neg c25] at H
          have c25b0 : (t452 == t468) = false := beq_eq_false_iff_ne.mpr c25
          have c25b1 : (t452 != t468) = true := bne_iff_ne.mpr c25
          have H' := Aside0.mk H
          clear H
          go_wp2_with (first | ((with_reducible refine gate_callee (f := 10) rfl ?_); refine goesL_ (some 34) rfl rfl Tryz.func10 (by kernel_rfl) rfl #[.int .i64 t451] rfl (by (try simp only [List.map_toArray, List.map_cons, List.map_nil]); first | done | rfl | (simp only [List.length_drop, List.length_take]; rfl)) ?_; (with_reducible refine (wicketlaw15_num.calls t451 t451 _ A21.out).mono ?_); rintro e w' ⟨rfl, ⟨nd, rfl⟩⟩; refine ⟨_, rfl, ?_⟩) | (go_at_call 10; (with_reducible refine (wicketlaw15_num.calls t459 t459 _ A23.out).mono ?_); rintro e w' ⟨rfl, ⟨nd, rfl⟩⟩))
          go_meet
          case rel => exact ⟨_, (true), (by first | rfl | (simp; done) | (simp [*]; done)), H', ⟨by first | omega | exact Nat.le_refl _⟩, ⟨by (with_reducible repeat (first | apply Kd.R_alloc | apply Kd.R_drewN | apply Kd.R_drew)); exact Kd.R_mono (Kd.R_far (p := ⟨gb469, 2, none⟩) (Kd.R_far (p := ⟨gb469, 1, none⟩) (Kd.R_far (p := ⟨gb469, 0, none⟩) (Kd.R_types HO449.out BK469.out (by decide)) (fun _ hk => hk.2) (.int .i64 t462)) (fun _ hk => hk.2) (.slice Ao20 t463.length co20)) (fun _ hk => hk.2) (.string t466)) (fun _ hk => hk.1.2)⟩, ⟨by (with_reducible repeat (first | apply Kd.R_alloc | apply Kd.R_drewN | apply Kd.R_drew)); exact Kd.R_mono (Kd.R_far (p := ⟨gb469, 2, none⟩) (Kd.R_far (p := ⟨gb469, 1, none⟩) (Kd.R_far (p := ⟨gb469, 0, none⟩) (Kd.R_types HO457.out BK469.out (by decide)) (fun _ hk => hk.2) (.int .i64 t462)) (fun _ hk => hk.2) (.slice Ao20 t463.length co20)) (fun _ hk => hk.2) (.string t466)) (fun _ hk => hk.1.2)⟩, ⟨by (with_reducible repeat (first | apply Kd.R_alloc | apply Kd.R_drewN | apply Kd.R_drew)); exact Kd.R_mono (Kd.R_far (p := ⟨gb469, 2, none⟩) (Kd.R_far (p := ⟨gb469, 1, none⟩) (Kd.R_far (p := ⟨gb469, 0, none⟩) (Kd.R_types HO465.out BK469.out (by decide)) (fun _ hk => hk.2) (.int .i64 t462)) (fun _ hk => hk.2) (.slice Ao20 t463.length co20)) (fun _ hk => hk.2) (.string t466)) (fun _ hk => trivial)⟩, ⟨by (with_reducible repeat (first | refine blk_drewN ?_ _ | refine blk_drew ?_ | refine blk_alloc ?_ _)); refine blk_far ?_ NB453_469.out _; (with_reducible repeat (first | refine blk_drewN ?_ _ | refine blk_drew ?_ | refine blk_alloc ?_ _)); refine blk_far ?_ NB453_469.out _; (with_reducible repeat (first | refine blk_drewN ?_ _ | refine blk_drew ?_ | refine blk_alloc ?_ _)); refine blk_far ?_ NB453_469.out _; (with_reducible repeat (first | refine blk_drewN ?_ _ | refine blk_drew ?_ | refine blk_alloc ?_ _)); exact BK453.out⟩, ⟨by (with_reducible repeat (first | refine blk_drewN ?_ _ | refine blk_drew ?_ | refine blk_alloc ?_ _)); refine blk_far ?_ NB461_469.out _; (with_reducible repeat (first | refine blk_drewN ?_ _ | refine blk_drew ?_ | refine blk_alloc ?_ _)); refine blk_far ?_ NB461_469.out _; (with_reducible repeat (first | refine blk_drewN ?_ _ | refine blk_drew ?_ | refine blk_alloc ?_ _)); refine blk_far ?_ NB461_469.out _; (with_reducible repeat (first | refine blk_drewN ?_ _ | refine blk_drew ?_ | refine blk_alloc ?_ _)); exact BK461.out⟩, ⟨by (with_reducible repeat (first | refine blk_drewN ?_ _ | refine blk_drew ?_ | refine blk_alloc ?_ _)); refine blk_put (cs := #[.int .i64 t462, .slice Ao20 t463.length co20, .string (⟨#[]⟩ : ByteArray)]) ?_ 2 _ rfl; (with_reducible repeat (first | refine blk_drewN ?_ _ | refine blk_drew ?_ | refine blk_alloc ?_ _)); refine blk_put (cs := #[.int .i64 t462, .slice none 0 0, .string (⟨#[]⟩ : ByteArray)]) ?_ 1 _ rfl; (with_reducible repeat (first | refine blk_drewN ?_ _ | refine blk_drew ?_ | refine blk_alloc ?_ _)); refine blk_put (cs := #[.int .i64 0, .slice none 0 0, .string (⟨#[]⟩ : ByteArray)]) ?_ 0 _ rfl; (with_reducible repeat (first | refine blk_drewN ?_ _ | refine blk_drew ?_ | refine blk_alloc ?_ _)); exact BK469.out⟩, ⟨by repeat (first | (with_reducible first | exact HB.out | apply below_alloc | apply pw_below_drewN | apply below_drew1 | refine below_set ?_ GE453.out | refine below_set ?_ GE461.out | refine below_set ?_ GE469.out) | exact HB.out)⟩⟩
      · rw [if_neg c24] at H
        have c24b0 : (t459 == t467) = false := beq_eq_false_iff_ne.mpr c24
        have c24b1 : (t459 != t467) = true := bne_iff_ne.mpr c24
        have H' := Aside0.mk H
        clear H
        go_wp2_with (first | ((with_reducible refine gate_callee (f := 10) rfl ?_); refine goesL_ (some 34) rfl rfl Tryz.func10 (by kernel_rfl) rfl #[.int .i64 t451] rfl (by (try simp only [List.map_toArray, List.map_cons, List.map_nil]); first | done | rfl | (simp only [List.length_drop, List.length_take]; rfl)) ?_; (with_reducible refine (wicketlaw15_num.calls t451 t451 _ A21.out).mono ?_); rintro e w' ⟨rfl, ⟨nd, rfl⟩⟩; refine ⟨_, rfl, ?_⟩) | (go_at_call 10; (with_reducible refine (wicketlaw15_num.calls t459 t459 _ A23.out).mono ?_); rintro e w' ⟨rfl, ⟨nd, rfl⟩⟩))
        go_meet
        case rel => exact ⟨_, (true), (by first | rfl | (simp; done) | (simp [*]; done)), H', ⟨by first | omega | exact Nat.le_refl _⟩, ⟨by (with_reducible repeat (first | apply Kd.R_alloc | apply Kd.R_drewN | apply Kd.R_drew)); exact Kd.R_mono (Kd.R_far (p := ⟨gb469, 2, none⟩) (Kd.R_far (p := ⟨gb469, 1, none⟩) (Kd.R_far (p := ⟨gb469, 0, none⟩) (Kd.R_types HO449.out BK469.out (by decide)) (fun _ hk => hk.2) (.int .i64 t462)) (fun _ hk => hk.2) (.slice Ao20 t463.length co20)) (fun _ hk => hk.2) (.string t466)) (fun _ hk => hk.1.2)⟩, ⟨by (with_reducible repeat (first | apply Kd.R_alloc | apply Kd.R_drewN | apply Kd.R_drew)); exact Kd.R_mono (Kd.R_far (p := ⟨gb469, 2, none⟩) (Kd.R_far (p := ⟨gb469, 1, none⟩) (Kd.R_far (p := ⟨gb469, 0, none⟩) (Kd.R_types HO457.out BK469.out (by decide)) (fun _ hk => hk.2) (.int .i64 t462)) (fun _ hk => hk.2) (.slice Ao20 t463.length co20)) (fun _ hk => hk.2) (.string t466)) (fun _ hk => hk.1.2)⟩, ⟨by (with_reducible repeat (first | apply Kd.R_alloc | apply Kd.R_drewN | apply Kd.R_drew)); exact Kd.R_mono (Kd.R_far (p := ⟨gb469, 2, none⟩) (Kd.R_far (p := ⟨gb469, 1, none⟩) (Kd.R_far (p := ⟨gb469, 0, none⟩) (Kd.R_types HO465.out BK469.out (by decide)) (fun _ hk => hk.2) (.int .i64 t462)) (fun _ hk => hk.2) (.slice Ao20 t463.length co20)) (fun _ hk => hk.2) (.string t466)) (fun _ hk => trivial)⟩, ⟨by (with_reducible repeat (first | refine blk_drewN ?_ _ | refine blk_drew ?_ | refine blk_alloc ?_ _)); refine blk_far ?_ NB453_469.out _; (with_reducible repeat (first | refine blk_drewN ?_ _ | refine blk_drew ?_ | refine blk_alloc ?_ _)); refine blk_far ?_ NB453_469.out _; (with_reducible repeat (first | refine blk_drewN ?_ _ | refine blk_drew ?_ | refine blk_alloc ?_ _)); refine blk_far ?_ NB453_469.out _; (with_reducible repeat (first | refine blk_drewN ?_ _ | refine blk_drew ?_ | refine blk_alloc ?_ _)); exact BK453.out⟩, ⟨by (with_reducible repeat (first | refine blk_drewN ?_ _ | refine blk_drew ?_ | refine blk_alloc ?_ _)); refine blk_far ?_ NB461_469.out _; (with_reducible repeat (first | refine blk_drewN ?_ _ | refine blk_drew ?_ | refine blk_alloc ?_ _)); refine blk_far ?_ NB461_469.out _; (with_reducible repeat (first | refine blk_drewN ?_ _ | refine blk_drew ?_ | refine blk_alloc ?_ _)); refine blk_far ?_ NB461_469.out _; (with_reducible repeat (first | refine blk_drewN ?_ _ | refine blk_drew ?_ | refine blk_alloc ?_ _)); exact BK461.out⟩, ⟨by (with_reducible repeat (first | refine blk_drewN ?_ _ | refine blk_drew ?_ | refine blk_alloc ?_ _)); refine blk_put (cs := #[.int .i64 t462, .slice Ao20 t463.length co20, .string (⟨#[]⟩ : ByteArray)]) ?_ 2 _ rfl; (with_reducible repeat (first | refine blk_drewN ?_ _ | refine blk_drew ?_ | refine blk_alloc ?_ _)); refine blk_put (cs := #[.int .i64 t462, .slice none 0 0, .string (⟨#[]⟩ : ByteArray)]) ?_ 1 _ rfl; (with_reducible repeat (first | refine blk_drewN ?_ _ | refine blk_drew ?_ | refine blk_alloc ?_ _)); refine blk_put (cs := #[.int .i64 0, .slice none 0 0, .string (⟨#[]⟩ : ByteArray)]) ?_ 0 _ rfl; (with_reducible repeat (first | refine blk_drewN ?_ _ | refine blk_drew ?_ | refine blk_alloc ?_ _)); exact BK469.out⟩, ⟨by repeat (first | (with_reducible first | exact HB.out | apply below_alloc | apply pw_below_drewN | apply below_drew1 | refine below_set ?_ GE453.out | refine below_set ?_ GE461.out | refine below_set ?_ GE469.out) | exact HB.out)⟩⟩
    · rw [if_neg c22] at H
      have c22b0 : (t451 == t467) = false := beq_eq_false_iff_ne.mpr c22
      have c22b1 : (t451 != t467) = true := bne_iff_ne.mpr c22
      (first | rw [c22b0] | (simp only [i64_w, i32_w]; rw [c22b0]) | skip)
      have H' := Aside0.mk H
      clear H
      go_wp2_with (first | ((with_reducible refine gate_callee (f := 10) rfl ?_); refine goesL_ (some 34) rfl rfl Tryz.func10 (by kernel_rfl) rfl #[.int .i64 t451] rfl (by (try simp only [List.map_toArray, List.map_cons, List.map_nil]); first | done | rfl | (simp only [List.length_drop, List.length_take]; rfl)) ?_; (with_reducible refine (wicketlaw15_num.calls t451 t451 _ A21.out).mono ?_); rintro e w' ⟨rfl, ⟨nd, rfl⟩⟩; refine ⟨_, rfl, ?_⟩))
      go_meet
      case rel => exact ⟨_, (true), (by first | rfl | (simp; done) | (simp [*]; done)), H', ⟨by first | omega | exact Nat.le_refl _⟩, ⟨by (with_reducible repeat (first | apply Kd.R_alloc | apply Kd.R_drewN | apply Kd.R_drew)); exact Kd.R_mono (Kd.R_far (p := ⟨gb469, 2, none⟩) (Kd.R_far (p := ⟨gb469, 1, none⟩) (Kd.R_far (p := ⟨gb469, 0, none⟩) (Kd.R_types HO449.out BK469.out (by decide)) (fun _ hk => hk.2) (.int .i64 t462)) (fun _ hk => hk.2) (.slice Ao20 t463.length co20)) (fun _ hk => hk.2) (.string t466)) (fun _ hk => hk.1.2)⟩, ⟨by (with_reducible repeat (first | apply Kd.R_alloc | apply Kd.R_drewN | apply Kd.R_drew)); exact Kd.R_mono (Kd.R_far (p := ⟨gb469, 2, none⟩) (Kd.R_far (p := ⟨gb469, 1, none⟩) (Kd.R_far (p := ⟨gb469, 0, none⟩) (Kd.R_types HO457.out BK469.out (by decide)) (fun _ hk => hk.2) (.int .i64 t462)) (fun _ hk => hk.2) (.slice Ao20 t463.length co20)) (fun _ hk => hk.2) (.string t466)) (fun _ hk => hk.1.2)⟩, ⟨by (with_reducible repeat (first | apply Kd.R_alloc | apply Kd.R_drewN | apply Kd.R_drew)); exact Kd.R_mono (Kd.R_far (p := ⟨gb469, 2, none⟩) (Kd.R_far (p := ⟨gb469, 1, none⟩) (Kd.R_far (p := ⟨gb469, 0, none⟩) (Kd.R_types HO465.out BK469.out (by decide)) (fun _ hk => hk.2) (.int .i64 t462)) (fun _ hk => hk.2) (.slice Ao20 t463.length co20)) (fun _ hk => hk.2) (.string t466)) (fun _ hk => trivial)⟩, ⟨by (with_reducible repeat (first | refine blk_drewN ?_ _ | refine blk_drew ?_ | refine blk_alloc ?_ _)); refine blk_far ?_ NB453_469.out _; (with_reducible repeat (first | refine blk_drewN ?_ _ | refine blk_drew ?_ | refine blk_alloc ?_ _)); refine blk_far ?_ NB453_469.out _; (with_reducible repeat (first | refine blk_drewN ?_ _ | refine blk_drew ?_ | refine blk_alloc ?_ _)); refine blk_far ?_ NB453_469.out _; (with_reducible repeat (first | refine blk_drewN ?_ _ | refine blk_drew ?_ | refine blk_alloc ?_ _)); exact BK453.out⟩, ⟨by (with_reducible repeat (first | refine blk_drewN ?_ _ | refine blk_drew ?_ | refine blk_alloc ?_ _)); refine blk_far ?_ NB461_469.out _; (with_reducible repeat (first | refine blk_drewN ?_ _ | refine blk_drew ?_ | refine blk_alloc ?_ _)); refine blk_far ?_ NB461_469.out _; (with_reducible repeat (first | refine blk_drewN ?_ _ | refine blk_drew ?_ | refine blk_alloc ?_ _)); refine blk_far ?_ NB461_469.out _; (with_reducible repeat (first | refine blk_drewN ?_ _ | refine blk_drew ?_ | refine blk_alloc ?_ _)); exact BK461.out⟩, ⟨by (with_reducible repeat (first | refine blk_drewN ?_ _ | refine blk_drew ?_ | refine blk_alloc ?_ _)); refine blk_put (cs := #[.int .i64 t462, .slice Ao20 t463.length co20, .string (⟨#[]⟩ : ByteArray)]) ?_ 2 _ rfl; (with_reducible repeat (first | refine blk_drewN ?_ _ | refine blk_drew ?_ | refine blk_alloc ?_ _)); refine blk_put (cs := #[.int .i64 t462, .slice none 0 0, .string (⟨#[]⟩ : ByteArray)]) ?_ 1 _ rfl; (with_reducible repeat (first | refine blk_drewN ?_ _ | refine blk_drew ?_ | refine blk_alloc ?_ _)); refine blk_put (cs := #[.int .i64 0, .slice none 0 0, .string (⟨#[]⟩ : ByteArray)]) ?_ 0 _ rfl; (with_reducible repeat (first | refine blk_drewN ?_ _ | refine blk_drew ?_ | refine blk_alloc ?_ _)); exact BK469.out⟩, ⟨by repeat (first | (with_reducible first | exact HB.out | apply below_alloc | apply pw_below_drewN | apply below_drew1 | refine below_set ?_ GE453.out | refine below_set ?_ GE461.out | refine below_set ?_ GE469.out) | exact HB.out)⟩⟩
  case rest =>
    clear HC5
    try clear c1
    try clear c2
    try clear p2
    try clear c3
    try clear c4
    try clear c6
    try clear c10
    try clear c12
    try clear c17
    try clear c18
    try clear c22
    try clear c22b0
    try clear c22b1
    try clear c24
    try clear c24b0
    try clear c24b1
    try clear c25
    try clear c25b0
    try clear c25b1
    try clear c26
    try clear c26b0
    try clear c26b1
    try clear c28
    try clear c30
    try clear c31
    try clear c33
    try clear c39
    try clear c40
    try clear c42
    try clear hcz13_0
    try clear hcz13_1
    try clear hcz13_2
    try clear hcz19_0
    try clear hcz19_1
    try clear hcz19_2
    try clear hcz32_0
    try clear hcz32_1
    try clear hcz32_2
    try clear hcz34_0
    try clear hcz34_1
    try clear hcz34_2
    try clear hcz36_0
    try clear hcz36_1
    try clear hcz36_2
    try clear hcz37_0
    try clear hcz37_1
    try clear hcz37_2
    try clear hcz41_0
    try clear hcz41_1
    try clear hcz41_2
    try clear hcz43_0
    try clear hcz43_1
    try clear hcz43_2
    try clear hcz8_0
    try clear hcz8_1
    try clear hcz8_2
    try clear hfz13_0
    try clear hfz13_1
    try clear hfz13_2
    try clear hfz19_0
    try clear hfz19_1
    try clear hfz19_2
    try clear hfz32_0
    try clear hfz32_1
    try clear hfz32_2
    try clear hfz34_0
    try clear hfz34_1
    try clear hfz34_2
    try clear hfz36_0
    try clear hfz36_1
    try clear hfz36_2
    try clear hfz37_0
    try clear hfz37_1
    try clear hfz37_2
    try clear hfz41_0
    try clear hfz41_1
    try clear hfz41_2
    try clear hfz43_0
    try clear hfz43_1
    try clear hfz43_2
    try clear hfz8_0
    try clear hfz8_1
    try clear hfz8_2
    obtain ⟨kq, x64_4, rfl, HA, HJ4, HO_454001, HO_462001, HO_470001, BK453, BK461, BK469, HB⟩ := hcut
    cases kq with
    | zero => exact absurd HA.out (by simp [wicketlaw15_HttpResponses.j0])
    | succ kj4 =>
      have H := HA.out
      clear HA
      simp only [wicketlaw15_HttpResponses.j0] at H
      by_cases c45 : x64_4 = true
      · subst c45
        have H1 : none = some r := by rw [if_pos rfl] at H; exact H
        clear H
        have H := H1
        clear H1
        cases H
      · replace c45 := Bool.eq_false_iff.mpr c45
        subst c45
        have H1 : ((wicketlaw15_spoil.f kj4 t447).bind fun _ => ((http_ParseResponse.f kj4 a0).bind fun bt474 => ((wicketlaw15_response.f kj4 t454 t455 t458 t462 t463 t466).bind fun t482 => (if t482 = true then ((wicketlaw15_num.f bt474.2.2.2.1).bind fun t483 => (if t483 = t467 then ((wicketlaw15_response.f kj4 bt474.1 bt474.2.1 bt474.2.2.1 t462 t463 t466).bind fun t484 => (if t484 = true then ((wicketlaw15_live.f kj4).bind fun t485 => (some t485)) else none)) else none)) else none)))) = some r := by rw [if_neg (show ¬ (false = true) by decide)] at H; exact H
        clear H
        have H := H1
        clear H1
        replace H := Option.bind_eq_some_iff.mp H
        obtain ⟨_, A460, H⟩ := H
        replace H : ((http_ParseResponse.f kj4 a0).bind fun bt474 => ((wicketlaw15_response.f kj4 t454 t455 t458 t462 t463 t466).bind fun t482 => (if t482 = true then ((wicketlaw15_num.f bt474.2.2.2.1).bind fun t483 => (if t483 = t467 then ((wicketlaw15_response.f kj4 bt474.1 bt474.2.1 bt474.2.2.1 t462 t463 t466).bind fun t484 => (if t484 = true then ((wicketlaw15_live.f kj4).bind fun t485 => (some t485)) else none)) else none)) else none))) = some r := H
        have A46 := Aside0.mk A460
        clear A460
        replace H := Option.bind_eq_some_iff.mp H
        obtain ⟨⟨t474, t475, t478, t479, t480⟩, A470, H⟩ := H
        replace H : ((wicketlaw15_response.f kj4 t454 t455 t458 t462 t463 t466).bind fun t482 => (if t482 = true then ((wicketlaw15_num.f t479).bind fun t483 => (if t483 = t467 then ((wicketlaw15_response.f kj4 t474 t475 t478 t462 t463 t466).bind fun t484 => (if t484 = true then ((wicketlaw15_live.f kj4).bind fun t485 => (some t485)) else none)) else none)) else none)) = some r := H
        have A47 := Aside0.mk A470
        clear A470
        replace H := Option.bind_eq_some_iff.mp H
        obtain ⟨t482, A480, H⟩ := H
        replace H : (if t482 = true then ((wicketlaw15_num.f t479).bind fun t483 => (if t483 = t467 then ((wicketlaw15_response.f kj4 t474 t475 t478 t462 t463 t466).bind fun t484 => (if t484 = true then ((wicketlaw15_live.f kj4).bind fun t485 => (some t485)) else none)) else none)) else none) = some r := H
        have A48 := Aside0.mk A480
        clear A480
        by_cases c49 : t482 = true
        · subst c49
          have H1 : ((wicketlaw15_num.f t479).bind fun t483 => (if t483 = t467 then ((wicketlaw15_response.f kj4 t474 t475 t478 t462 t463 t466).bind fun t484 => (if t484 = true then ((wicketlaw15_live.f kj4).bind fun t485 => (some t485)) else none)) else none)) = some r := by rw [if_pos rfl] at H; exact H
          clear H
          have H := H1
          clear H1
          replace H := Option.bind_eq_some_iff.mp H
          obtain ⟨t483, A500, H⟩ := H
          obtain rfl : t479 = t483 := Option.some.inj A500
          replace H : (if t479 = t467 then ((wicketlaw15_response.f kj4 t474 t475 t478 t462 t463 t466).bind fun t484 => (if t484 = true then ((wicketlaw15_live.f kj4).bind fun t485 => (some t485)) else none)) else none) = some r := H
          have A50 := Aside0.mk A500
          clear A500
          by_cases c51 : t479 = t467
          · rw [if_pos c51] at H
            have c51b0 : (t479 == t467) = true := beq_iff_eq.mpr c51
            have c51b1 : (t479 != t467) = false := bne_eq_false_iff_eq.mpr c51
            clear c51
            replace H := Option.bind_eq_some_iff.mp H
            obtain ⟨t484, A520, H⟩ := H
            replace H : (if t484 = true then ((wicketlaw15_live.f kj4).bind fun t485 => (some t485)) else none) = some r := H
            have A52 := Aside0.mk A520
            clear A520
            by_cases c53 : t484 = true
            · subst c53
              have H1 : ((wicketlaw15_live.f kj4).bind fun t485 => (some t485)) = some r := by rw [if_pos rfl] at H; exact H
              clear H
              have H := H1
              clear H1
              replace H := Option.bind_eq_some_iff.mp H
              obtain ⟨t485, A540, H⟩ := H
              replace H : (some t485) = some r := H
              have A54 := Aside0.mk A540
              clear A540
              obtain rfl := Option.some.inj H
              have hnb55 := NB453_461.out
              have hnc55 := NB461_453.out
              have hnb56 := NB453_469.out
              have hnc56 := NB469_453.out
              have hcz57_0 : wc.cell? ⟨gb453, 0, none⟩ = some (.int .i64 t446) := (blk_cell BK453.out 0).trans rfl
              have hcz57_1 : wc.cell? ⟨gb453, 1, none⟩ = some (.slice Ao9 t447.length co9) := (blk_cell BK453.out 1).trans rfl
              have hcz57_2 : wc.cell? ⟨gb453, 2, none⟩ = some (.string t450) := (blk_cell BK453.out 2).trans rfl
              have hfz57_0 := blk_frozen BK453.out 0
              have hfz57_1 := blk_frozen BK453.out 1
              have hfz57_2 := blk_frozen BK453.out 2
              go_wp2_with (first | ((with_reducible refine gate_callee (f := 12) rfl ?_); refine goesL_ (some 67) rfl rfl Tryz.func12 (by kernel_rfl) rfl #[.slice Ao9 t447.length co9] rfl (by (try simp only [List.map_toArray, List.map_cons, List.map_nil]); first | done | rfl | (simp only [List.length_drop, List.length_take]; rfl)) ?_; (with_reducible refine (wicketlaw15_spoil.calls kj4 (fun k_ => some k_ = (.slice Ao9 t447.length co9 : Value).ownBlock) (.slice Ao9 t447.length co9) t447  w _ ?side1 ?side2 A46.out).mono ?_); (case side1 => repeat (first | (with_reducible first | exact HB.out | apply below_alloc | apply pw_below_drewN | apply below_drew1 | refine below_set ?_ GE453.out | refine below_set ?_ GE461.out | refine below_set ?_ GE469.out) | exact HB.out)); (case side2 => exact Kd.R_tight rfl HO_454001.out); rintro e w58 ⟨rfl, hb, hkp⟩; refine ⟨_, rfl, ?_⟩; have n0_ := Aside0.mk (Kd.R_mono (ok' := fun k_ => True) (Kd.R_keptB (HO_462001.out) hkp (fun k_ hk_ hs_ => (hk_) hs_)) (fun k_ hk_ => trivial)); have n1_ := Aside0.mk (Kd.R_mono (ok' := fun k_ => True) (Kd.R_keptB ((Kd.R_apart' HO_470001.out (Kd.R_typed HO_454001.out) (by decide))) hkp (fun k_ hk_ hs_ => (hk_.2) hs_)) (fun k_ hk_ => trivial)); have n2_ := Aside0.mk (blk_kept (by (with_reducible repeat (first | refine blk_drewN ?_ _ | refine blk_drew ?_ | refine blk_alloc ?_ _)); exact BK453.out) hkp (fun hs_ => (fun e_ => (Kd.R_ne HO_454001.out BK453.out (by decide)) e_) hs_)); have n3_ := Aside0.mk (blk_kept (by (with_reducible repeat (first | refine blk_drewN ?_ _ | refine blk_drew ?_ | refine blk_alloc ?_ _)); exact BK461.out) hkp (fun hs_ => (fun e_ => (Kd.R_ne HO_454001.out BK461.out (by decide)) e_) hs_)); have n4_ := Aside0.mk (blk_kept (by (with_reducible repeat (first | refine blk_drewN ?_ _ | refine blk_drew ?_ | refine blk_alloc ?_ _)); exact BK469.out) hkp (fun hs_ => (fun e_ => (Kd.R_ne HO_454001.out BK469.out (by decide)) e_) hs_)); have n5_ := Aside0.mk (hb); clear HO_462001; clear HO_470001; clear BK453; clear BK461; clear BK469; clear HB; clear HO_454001; have HO_462001 := n0_; have HO_470001 := n1_; have BK453 := n2_; have BK461 := n3_; have BK469 := n4_; have HB := n5_; clear n0_ n1_ n2_ n3_ n4_ n5_; (try clear hb); (try clear hkp)) | ((with_reducible refine gate_callee (f := 30) rfl ?_); refine goesL_ (some 70) rfl rfl Tryz.func30 (by kernel_rfl) rfl #[.string a0] rfl (by (try simp only [List.map_toArray, List.map_cons, List.map_nil]); first | done | rfl | (simp only [List.length_drop, List.length_take]; rfl)) ?_; (with_reducible refine (http_ParseResponse.calls kj4 a0 t474 t475 t478 t479 t480 _ ?side1 A47.out).mono ?_); (case side1 => exact GL_below HG.out (by repeat (first | (with_reducible first | exact HB.out | apply below_alloc | apply pw_below_drewN | apply below_drew1 | refine below_set ?_ GE453.out | refine below_set ?_ GE461.out | refine below_set ?_ GE469.out) | exact HB.out))); rintro e w59 ⟨v476, rfl, ho0, hb⟩; refine ⟨_, rfl, ?_⟩; have n0_ := Aside0.mk (Kd.R_elder' (by (with_reducible repeat (first | apply Kd.R_alloc | apply Kd.R_drewN | apply Kd.R_drew)); exact HO_462001.out) (Kd.R_base ho0) hb); have n1_ := Aside0.mk (Kd.R_below (by (with_reducible repeat (first | apply Kd.R_alloc | apply Kd.R_drewN | apply Kd.R_drew)); exact HO_470001.out) hb); have n2_ := Aside0.mk (Kd.R_lower (Kd.R_new' ho0 (Kd.R_lt (by (with_reducible repeat (first | apply Kd.R_alloc | apply Kd.R_drewN | apply Kd.R_drew)); exact HO_462001.out))) (below_size (by repeat (first | (with_reducible first | exact HB.out | apply below_alloc | apply pw_below_drewN | apply below_drew1 | refine below_set ?_ GE453.out | refine below_set ?_ GE461.out | refine below_set ?_ GE469.out) | exact HB.out)))); have n3_ := Aside0.mk (blk_below (g := gb453) (o := .cells #[.int .i64 t446, .slice Ao9 t447.length co9, .string t450] 39 (0, 0)) (by (with_reducible repeat (first | refine blk_drewN ?_ _ | refine blk_drew ?_ | refine blk_alloc ?_ _)); exact BK453.out) hb); have n4_ := Aside0.mk (blk_below (g := gb461) (o := .cells #[.int .i64 t454, .slice Ao14 t455.length co14, .string t458] 39 (0, 0)) (by (with_reducible repeat (first | refine blk_drewN ?_ _ | refine blk_drew ?_ | refine blk_alloc ?_ _)); exact BK461.out) hb); have n5_ := Aside0.mk (blk_below (g := gb469) (o := .cells #[.int .i64 t462, .slice Ao20 t463.length co20, .string t466] 48 (0, 0)) (by (with_reducible repeat (first | refine blk_drewN ?_ _ | refine blk_drew ?_ | refine blk_alloc ?_ _)); exact BK469.out) hb); have n6_ := Aside0.mk (below_step (by repeat (first | (with_reducible first | exact HB.out | apply below_alloc | apply pw_below_drewN | apply below_drew1 | refine below_set ?_ GE453.out | refine below_set ?_ GE461.out | refine below_set ?_ GE469.out) | exact HB.out)) hb); clear HO_462001; clear HO_470001; clear BK453; clear BK461; clear BK469; clear HB; have HO_462001 := n0_; have HO_470001 := n1_; have HO477 := n2_; have BK453 := n3_; have BK461 := n4_; have BK469 := n5_; have HB := n6_; clear n0_ n1_ n2_ n3_ n4_ n5_ n6_; (try clear hb); (try clear hb2); (try clear hk); (try clear hi); (try clear ho0)) | ((with_reducible refine gate_dst (N := 12) rfl ?_); refine box_event ?hg (N := 12) ?hd (cs := #[.int .i64 0, .slice none 0 0, .string (⟨#[]⟩ : ByteArray)]) (t := 39) ?hr ?_; (case hd => rfl); (case hg => rfl); (case hr => first | (go_simp; done) | (go_simp; rfl)); intro gb481 hg w60 hbox hb; have n0_ := Aside0.mk (Kd.R_below (by (with_reducible repeat (first | apply Kd.R_alloc | apply Kd.R_drewN | apply Kd.R_drew)); exact HO_462001.out) hb); have n1_ := Aside0.mk (Kd.R_below (by (with_reducible repeat (first | apply Kd.R_alloc | apply Kd.R_drewN | apply Kd.R_drew)); exact HO_470001.out) hb); have n2_ := Aside0.mk (Kd.R_below (by (with_reducible repeat (first | apply Kd.R_alloc | apply Kd.R_drewN | apply Kd.R_drew)); exact HO477.out) hb); have n3_ := Aside0.mk (blk_below (g := gb453) (o := .cells #[.int .i64 t446, .slice Ao9 t447.length co9, .string t450] 39 (0, 0)) (by (with_reducible repeat (first | refine blk_drewN ?_ _ | refine blk_drew ?_ | refine blk_alloc ?_ _)); exact BK453.out) hb); have n4_ := Aside0.mk (blk_below (g := gb461) (o := .cells #[.int .i64 t454, .slice Ao14 t455.length co14, .string t458] 39 (0, 0)) (by (with_reducible repeat (first | refine blk_drewN ?_ _ | refine blk_drew ?_ | refine blk_alloc ?_ _)); exact BK461.out) hb); have n5_ := Aside0.mk (blk_below (g := gb469) (o := .cells #[.int .i64 t462, .slice Ao20 t463.length co20, .string t466] 48 (0, 0)) (by (with_reducible repeat (first | refine blk_drewN ?_ _ | refine blk_drew ?_ | refine blk_alloc ?_ _)); exact BK469.out) hb); have n6_ := Aside0.mk (below_step (by repeat (first | (with_reducible first | exact HB.out | apply below_alloc | apply pw_below_drewN | apply below_drew1 | refine below_set ?_ GE453.out | refine below_set ?_ GE461.out | refine below_set ?_ GE469.out) | exact HB.out)) hb); have n7_ := Aside0.mk (hbox); have n8_ := Aside0.mk ((by rw [hg]; exact (below_size (by repeat (first | (with_reducible first | exact HB.out | apply below_alloc | apply pw_below_drewN | apply below_drew1 | refine below_set ?_ GE453.out | refine below_set ?_ GE461.out | refine below_set ?_ GE469.out) | exact HB.out))) : w.heap.size ≤ gb481)); have n9_ := Aside0.mk ((by rw [hg]; exact (below_size (by repeat (first | (with_reducible first | exact HB.out | apply below_alloc | apply pw_below_drewN | apply below_drew1 | refine below_set ?_ GE453.out | refine below_set ?_ GE461.out | refine below_set ?_ GE469.out) | exact HB.out))) : w.heap.size ≤ gb481)); have n10_ := Aside0.mk ((by rw [hg]; exact Nat.ne_of_lt (blk_lt (g := gb453) (o := .cells #[.int .i64 t446, .slice Ao9 t447.length co9, .string t450] 39 (0, 0)) (by (with_reducible repeat (first | refine blk_drewN ?_ _ | refine blk_drew ?_ | refine blk_alloc ?_ _)); exact BK453.out)) : gb453 ≠ gb481)); have n11_ := Aside0.mk ((by rw [hg]; exact Nat.ne_of_gt (blk_lt (g := gb453) (o := .cells #[.int .i64 t446, .slice Ao9 t447.length co9, .string t450] 39 (0, 0)) (by (with_reducible repeat (first | refine blk_drewN ?_ _ | refine blk_drew ?_ | refine blk_alloc ?_ _)); exact BK453.out)) : gb481 ≠ gb453)); have n12_ := Aside0.mk ((by rw [hg]; exact Nat.ne_of_lt (blk_lt (g := gb461) (o := .cells #[.int .i64 t454, .slice Ao14 t455.length co14, .string t458] 39 (0, 0)) (by (with_reducible repeat (first | refine blk_drewN ?_ _ | refine blk_drew ?_ | refine blk_alloc ?_ _)); exact BK461.out)) : gb461 ≠ gb481)); have n13_ := Aside0.mk ((by rw [hg]; exact Nat.ne_of_gt (blk_lt (g := gb461) (o := .cells #[.int .i64 t454, .slice Ao14 t455.length co14, .string t458] 39 (0, 0)) (by (with_reducible repeat (first | refine blk_drewN ?_ _ | refine blk_drew ?_ | refine blk_alloc ?_ _)); exact BK461.out)) : gb481 ≠ gb461)); have n14_ := Aside0.mk ((by rw [hg]; exact Nat.ne_of_lt (blk_lt (g := gb469) (o := .cells #[.int .i64 t462, .slice Ao20 t463.length co20, .string t466] 48 (0, 0)) (by (with_reducible repeat (first | refine blk_drewN ?_ _ | refine blk_drew ?_ | refine blk_alloc ?_ _)); exact BK469.out)) : gb469 ≠ gb481)); have n15_ := Aside0.mk ((by rw [hg]; exact Nat.ne_of_gt (blk_lt (g := gb469) (o := .cells #[.int .i64 t462, .slice Ao20 t463.length co20, .string t466] 48 (0, 0)) (by (with_reducible repeat (first | refine blk_drewN ?_ _ | refine blk_drew ?_ | refine blk_alloc ?_ _)); exact BK469.out)) : gb481 ≠ gb469)); clear HO_462001; clear HO_470001; clear HO477; clear BK453; clear BK461; clear BK469; clear HB; have HO_462001 := n0_; have HO_470001 := n1_; have HO477 := n2_; have BK453 := n3_; have BK461 := n4_; have BK469 := n5_; have HB := n6_; have BK481 := n7_; have GW481 := n8_; have GE481 := n9_; have NB453_481 := n10_; have NB481_453 := n11_; have NB461_481 := n12_; have NB481_461 := n13_; have NB469_481 := n14_; have NB481_469 := n15_; clear n0_ n1_ n2_ n3_ n4_ n5_ n6_ n7_ n8_ n9_ n10_ n11_ n12_ n13_ n14_ n15_; clear hb hbox hg; have hnb61 := NB481_453.out; have hnc61 := NB453_481.out; have hnb62 := NB481_461.out; have hnc62 := NB461_481.out; have hnb63 := NB481_469.out; have hnc63 := NB469_481.out; have hcz64_0 : w60.cell? ⟨gb481, 0, none⟩ = some (.int .i64 0) := (blk_cell BK481.out 0).trans rfl; have hcz64_1 : w60.cell? ⟨gb481, 1, none⟩ = some (.slice none 0 0) := (blk_cell BK481.out 1).trans rfl; have hcz64_2 : w60.cell? ⟨gb481, 2, none⟩ = some (.string (⟨#[]⟩ : ByteArray)) := (blk_cell BK481.out 2).trans rfl; have hfz64_0 := blk_frozen BK481.out 0; have hfz64_1 := blk_frozen BK481.out 1; have hfz64_2 := blk_frozen BK481.out 2; obtain ⟨Ao65, co65, eo65⟩ := Kd.R_slice HO477.out; subst eo65; have hnb66 := NB461_469.out; have hnc66 := NB469_461.out; have hcz67_0 : w60.cell? ⟨gb461, 0, none⟩ = some (.int .i64 t454) := (blk_cell BK461.out 0).trans rfl; have hcz67_1 : w60.cell? ⟨gb461, 1, none⟩ = some (.slice Ao14 t455.length co14) := (blk_cell BK461.out 1).trans rfl; have hcz67_2 : w60.cell? ⟨gb461, 2, none⟩ = some (.string t458) := (blk_cell BK461.out 2).trans rfl; have hfz67_0 := blk_frozen BK461.out 0; have hfz67_1 := blk_frozen BK461.out 1; have hfz67_2 := blk_frozen BK461.out 2; have hcz68_0 : w60.cell? ⟨gb469, 0, none⟩ = some (.int .i64 t462) := (blk_cell BK469.out 0).trans rfl; have hcz68_1 : w60.cell? ⟨gb469, 1, none⟩ = some (.slice Ao20 t463.length co20) := (blk_cell BK469.out 1).trans rfl; have hcz68_2 : w60.cell? ⟨gb469, 2, none⟩ = some (.string t466) := (blk_cell BK469.out 2).trans rfl; have hfz68_0 := blk_frozen BK469.out 0; have hfz68_1 := blk_frozen BK469.out 1; have hfz68_2 := blk_frozen BK469.out 2) | ((with_reducible refine gate_callee (f := 32) rfl ?_); refine goesL_ (some 76) rfl rfl Tryz.func32 (by kernel_rfl) rfl #[.agg #[.int .i64 t454, .slice Ao14 t455.length co14, .string t458], .agg #[.int .i64 t462, .slice Ao20 t463.length co20, .string t466]] rfl (by (try simp only [List.map_toArray, List.map_cons, List.map_nil]); first | done | rfl | (simp only [List.length_drop, List.length_take]; rfl)) ?_; (with_reducible refine (wicketlaw15_response.calls kj4 t454 _ _ t455 t458 t462 _ _ t463 t466 true _ ?side1 ?side2 ?side3 ?side4 A48.out).mono ?_); (case side1 => refine (Kd.R_reads' (e := 80) (base := w.heap.size) (ok := fun k_ => (True ∧ some k_ ≠ (.slice Ao65 t475.length co65 : Value).ownBlock)) (n := t455.length) (c := co14) ?_).2.2; exact (by (with_reducible repeat (first | apply Kd.R_alloc | apply Kd.R_drewN | apply Kd.R_drew)); exact (Kd.R_mono (Kd.R_far (p := ⟨gb481, 2, none⟩) (Kd.R_far (p := ⟨gb481, 1, none⟩) (Kd.R_far (p := ⟨gb481, 0, none⟩) (Kd.R_types HO_462001.out BK481.out (by decide)) (fun _ hk => hk.2) (.int .i64 t474)) (fun _ hk => hk.2) (.slice Ao65 t475.length co65)) (fun _ hk => hk.2) (.string t478)) (fun _ h_ => h_.1)))); (case side2 => exact (Kd.R_reads' HO_462001.out).2.1); (case side3 => refine (Kd.R_reads' (e := 84) (base := w.heap.size) (ok := fun k_ => True) (n := t463.length) (c := co20) ?_).2.2; exact (by (with_reducible repeat (first | apply Kd.R_alloc | apply Kd.R_drewN | apply Kd.R_drew)); exact (Kd.R_mono (Kd.R_far (p := ⟨gb481, 2, none⟩) (Kd.R_far (p := ⟨gb481, 1, none⟩) (Kd.R_far (p := ⟨gb481, 0, none⟩) (Kd.R_types HO_470001.out BK481.out (by decide)) (fun _ hk => hk.2) (.int .i64 t474)) (fun _ hk => hk.2) (.slice Ao65 t475.length co65)) (fun _ hk => hk.2) (.string t478)) (fun _ h_ => h_.1)))); (case side4 => exact (Kd.R_reads' HO_470001.out).2.1); rintro e w69 ⟨rfl, hb⟩; refine ⟨_, rfl, ?_⟩; have n0_ := Aside0.mk (Kd.R_below (by (with_reducible repeat (first | apply Kd.R_alloc | apply Kd.R_drewN | apply Kd.R_drew)); exact (Kd.R_mono (Kd.R_far (p := ⟨gb481, 2, none⟩) (Kd.R_far (p := ⟨gb481, 1, none⟩) (Kd.R_far (p := ⟨gb481, 0, none⟩) (Kd.R_types HO_462001.out BK481.out (by decide)) (fun _ hk => hk.2) (.int .i64 t474)) (fun _ hk => hk.2) (.slice Ao65 t475.length co65)) (fun _ hk => hk.2) (.string t478)) (fun _ h_ => h_.1))) hb); have n1_ := Aside0.mk (Kd.R_below (by (with_reducible repeat (first | apply Kd.R_alloc | apply Kd.R_drewN | apply Kd.R_drew)); exact (Kd.R_mono (Kd.R_far (p := ⟨gb481, 2, none⟩) (Kd.R_far (p := ⟨gb481, 1, none⟩) (Kd.R_far (p := ⟨gb481, 0, none⟩) (Kd.R_types HO_470001.out BK481.out (by decide)) (fun _ hk => hk.2) (.int .i64 t474)) (fun _ hk => hk.2) (.slice Ao65 t475.length co65)) (fun _ hk => hk.2) (.string t478)) (fun _ h_ => h_.1))) hb); have n2_ := Aside0.mk (Kd.R_below (by (with_reducible repeat (first | apply Kd.R_alloc | apply Kd.R_drewN | apply Kd.R_drew)); exact (Kd.R_mono (Kd.R_far (p := ⟨gb481, 2, none⟩) (Kd.R_far (p := ⟨gb481, 1, none⟩) (Kd.R_far (p := ⟨gb481, 0, none⟩) (Kd.R_types HO477.out BK481.out (by decide)) (fun _ hk => hk.2) (.int .i64 t474)) (fun _ hk => hk.2) (.slice Ao65 t475.length co65)) (fun _ hk => hk.2) (.string t478)) (fun _ h_ => h_.1))) hb); have n3_ := Aside0.mk (blk_below (g := gb453) (o := .cells #[.int .i64 t446, .slice Ao9 t447.length co9, .string t450] 39 (0, 0)) (by (with_reducible repeat (first | refine blk_drewN ?_ _ | refine blk_drew ?_ | refine blk_alloc ?_ _)); refine blk_far ?_ NB453_481.out _; (with_reducible repeat (first | refine blk_drewN ?_ _ | refine blk_drew ?_ | refine blk_alloc ?_ _)); refine blk_far ?_ NB453_481.out _; (with_reducible repeat (first | refine blk_drewN ?_ _ | refine blk_drew ?_ | refine blk_alloc ?_ _)); refine blk_far ?_ NB453_481.out _; (with_reducible repeat (first | refine blk_drewN ?_ _ | refine blk_drew ?_ | refine blk_alloc ?_ _)); exact BK453.out) hb); have n4_ := Aside0.mk (blk_below (g := gb461) (o := .cells #[.int .i64 t454, .slice Ao14 t455.length co14, .string t458] 39 (0, 0)) (by (with_reducible repeat (first | refine blk_drewN ?_ _ | refine blk_drew ?_ | refine blk_alloc ?_ _)); refine blk_far ?_ NB461_481.out _; (with_reducible repeat (first | refine blk_drewN ?_ _ | refine blk_drew ?_ | refine blk_alloc ?_ _)); refine blk_far ?_ NB461_481.out _; (with_reducible repeat (first | refine blk_drewN ?_ _ | refine blk_drew ?_ | refine blk_alloc ?_ _)); refine blk_far ?_ NB461_481.out _; (with_reducible repeat (first | refine blk_drewN ?_ _ | refine blk_drew ?_ | refine blk_alloc ?_ _)); exact BK461.out) hb); have n5_ := Aside0.mk (blk_below (g := gb469) (o := .cells #[.int .i64 t462, .slice Ao20 t463.length co20, .string t466] 48 (0, 0)) (by (with_reducible repeat (first | refine blk_drewN ?_ _ | refine blk_drew ?_ | refine blk_alloc ?_ _)); refine blk_far ?_ NB469_481.out _; (with_reducible repeat (first | refine blk_drewN ?_ _ | refine blk_drew ?_ | refine blk_alloc ?_ _)); refine blk_far ?_ NB469_481.out _; (with_reducible repeat (first | refine blk_drewN ?_ _ | refine blk_drew ?_ | refine blk_alloc ?_ _)); refine blk_far ?_ NB469_481.out _; (with_reducible repeat (first | refine blk_drewN ?_ _ | refine blk_drew ?_ | refine blk_alloc ?_ _)); exact BK469.out) hb); have n6_ := Aside0.mk (blk_below (g := gb481) (o := .cells #[.int .i64 t474, .slice Ao65 t475.length co65, .string t478] 39 (0, 0)) (by (with_reducible repeat (first | refine blk_drewN ?_ _ | refine blk_drew ?_ | refine blk_alloc ?_ _)); refine blk_put (cs := #[.int .i64 t474, .slice Ao65 t475.length co65, .string (⟨#[]⟩ : ByteArray)]) ?_ 2 _ rfl; (with_reducible repeat (first | refine blk_drewN ?_ _ | refine blk_drew ?_ | refine blk_alloc ?_ _)); refine blk_put (cs := #[.int .i64 t474, .slice none 0 0, .string (⟨#[]⟩ : ByteArray)]) ?_ 1 _ rfl; (with_reducible repeat (first | refine blk_drewN ?_ _ | refine blk_drew ?_ | refine blk_alloc ?_ _)); refine blk_put (cs := #[.int .i64 0, .slice none 0 0, .string (⟨#[]⟩ : ByteArray)]) ?_ 0 _ rfl; (with_reducible repeat (first | refine blk_drewN ?_ _ | refine blk_drew ?_ | refine blk_alloc ?_ _)); exact BK481.out) hb); have n7_ := Aside0.mk (below_step (by repeat (first | (with_reducible first | exact HB.out | apply below_alloc | apply pw_below_drewN | apply below_drew1 | refine below_set ?_ GE453.out | refine below_set ?_ GE461.out | refine below_set ?_ GE469.out | refine below_set ?_ GE481.out) | exact HB.out)) hb); clear HO_462001; clear HO_470001; clear HO477; clear BK453; clear BK461; clear BK469; clear BK481; clear HB; have HO_462001 := n0_; have HO_470001 := n1_; have HO477 := n2_; have BK453 := n3_; have BK461 := n4_; have BK469 := n5_; have BK481 := n6_; have HB := n7_; clear n0_ n1_ n2_ n3_ n4_ n5_ n6_ n7_; (try clear hb); (try clear hb2); (try clear hk); (try clear hi)) | (go_at_call 10; (with_reducible refine (wicketlaw15_num.calls t479 t479 _ A50.out).mono ?_); rintro e w' ⟨rfl, ⟨nd, rfl⟩⟩; have hcz70_0 : w69.cell? ⟨gb481, 0, none⟩ = some (.int .i64 t474) := (blk_cell BK481.out 0).trans rfl; have hcz70_1 : w69.cell? ⟨gb481, 1, none⟩ = some (.slice Ao65 t475.length co65) := (blk_cell BK481.out 1).trans rfl; have hcz70_2 : w69.cell? ⟨gb481, 2, none⟩ = some (.string t478) := (blk_cell BK481.out 2).trans rfl; have hfz70_0 := blk_frozen BK481.out 0; have hfz70_1 := blk_frozen BK481.out 1; have hfz70_2 := blk_frozen BK481.out 2; have hcz71_0 : w69.cell? ⟨gb469, 0, none⟩ = some (.int .i64 t462) := (blk_cell BK469.out 0).trans rfl; have hcz71_1 : w69.cell? ⟨gb469, 1, none⟩ = some (.slice Ao20 t463.length co20) := (blk_cell BK469.out 1).trans rfl; have hcz71_2 : w69.cell? ⟨gb469, 2, none⟩ = some (.string t466) := (blk_cell BK469.out 2).trans rfl; have hfz71_0 := blk_frozen BK469.out 0; have hfz71_1 := blk_frozen BK469.out 1; have hfz71_2 := blk_frozen BK469.out 2) | (go_at_call 32; (with_reducible refine (wicketlaw15_response.calls kj4 t474 _ _ t475 t478 t462 _ _ t463 t466 true _ ?side1 ?side2 ?side3 ?side4 A52.out).mono ?_); (case side1 => repeat (first | exact (Kd.R_reads' HO477.out).2.2 | (with_reducible refine Kd.C_alloc ?_ _) | (with_reducible refine Kd.C_drewN ?_ _) | (with_reducible refine Kd.C_drew ?_))); (case side2 => exact (Kd.R_reads' HO477.out).2.1); (case side3 => repeat (first | exact (Kd.R_reads' HO_470001.out).2.2 | (with_reducible refine Kd.C_alloc ?_ _) | (with_reducible refine Kd.C_drewN ?_ _) | (with_reducible refine Kd.C_drew ?_))); (case side4 => exact (Kd.R_reads' HO_470001.out).2.1); rintro e w72 ⟨rfl, hb⟩; have n0_ := Aside0.mk (Kd.R_below (by (with_reducible repeat (first | apply Kd.R_alloc | apply Kd.R_drewN | apply Kd.R_drew)); exact HO_462001.out) hb); have n1_ := Aside0.mk (Kd.R_below (by (with_reducible repeat (first | apply Kd.R_alloc | apply Kd.R_drewN | apply Kd.R_drew)); exact HO_470001.out) hb); have n2_ := Aside0.mk (Kd.R_below (by (with_reducible repeat (first | apply Kd.R_alloc | apply Kd.R_drewN | apply Kd.R_drew)); exact HO477.out) hb); have n3_ := Aside0.mk (blk_below (g := gb453) (o := .cells #[.int .i64 t446, .slice Ao9 t447.length co9, .string t450] 39 (0, 0)) (by (with_reducible repeat (first | refine blk_drewN ?_ _ | refine blk_drew ?_ | refine blk_alloc ?_ _)); exact BK453.out) hb); have n4_ := Aside0.mk (blk_below (g := gb461) (o := .cells #[.int .i64 t454, .slice Ao14 t455.length co14, .string t458] 39 (0, 0)) (by (with_reducible repeat (first | refine blk_drewN ?_ _ | refine blk_drew ?_ | refine blk_alloc ?_ _)); exact BK461.out) hb); have n5_ := Aside0.mk (blk_below (g := gb469) (o := .cells #[.int .i64 t462, .slice Ao20 t463.length co20, .string t466] 48 (0, 0)) (by (with_reducible repeat (first | refine blk_drewN ?_ _ | refine blk_drew ?_ | refine blk_alloc ?_ _)); exact BK469.out) hb); have n6_ := Aside0.mk (blk_below (g := gb481) (o := .cells #[.int .i64 t474, .slice Ao65 t475.length co65, .string t478] 39 (0, 0)) (by (with_reducible repeat (first | refine blk_drewN ?_ _ | refine blk_drew ?_ | refine blk_alloc ?_ _)); exact BK481.out) hb); have n7_ := Aside0.mk (below_step (by repeat (first | (with_reducible first | exact HB.out | apply below_alloc | apply pw_below_drewN | apply below_drew1 | refine below_set ?_ GE453.out | refine below_set ?_ GE461.out | refine below_set ?_ GE469.out | refine below_set ?_ GE481.out) | exact HB.out)) hb); clear HO_462001; clear HO_470001; clear HO477; clear BK453; clear BK461; clear BK469; clear BK481; clear HB; have HO_462001 := n0_; have HO_470001 := n1_; have HO477 := n2_; have BK453 := n3_; have BK461 := n4_; have BK469 := n5_; have BK481 := n6_; have HB := n7_; clear n0_ n1_ n2_ n3_ n4_ n5_ n6_ n7_; (try clear hb); (try clear hb2); (try clear hk); (try clear hi)) | (go_at_call 13; (with_reducible refine (wicketlaw15_live.calls kj4  t485 _ ?side1 A54.out).mono ?_); (case side1 => exact GL_below HG.out (by repeat (first | (with_reducible first | exact HB.out | apply below_alloc | apply pw_below_drewN | apply below_drew1 | refine below_set ?_ GE453.out | refine below_set ?_ GE461.out | refine below_set ?_ GE469.out | refine below_set ?_ GE481.out) | exact HB.out))); rintro e w73 ⟨rfl, hb⟩; have n0_ := Aside0.mk (Kd.R_below (by (with_reducible repeat (first | apply Kd.R_alloc | apply Kd.R_drewN | apply Kd.R_drew)); exact HO_462001.out) hb); have n1_ := Aside0.mk (Kd.R_below (by (with_reducible repeat (first | apply Kd.R_alloc | apply Kd.R_drewN | apply Kd.R_drew)); exact HO_470001.out) hb); have n2_ := Aside0.mk (Kd.R_below (by (with_reducible repeat (first | apply Kd.R_alloc | apply Kd.R_drewN | apply Kd.R_drew)); exact HO477.out) hb); have n3_ := Aside0.mk (blk_below (g := gb453) (o := .cells #[.int .i64 t446, .slice Ao9 t447.length co9, .string t450] 39 (0, 0)) (by (with_reducible repeat (first | refine blk_drewN ?_ _ | refine blk_drew ?_ | refine blk_alloc ?_ _)); exact BK453.out) hb); have n4_ := Aside0.mk (blk_below (g := gb461) (o := .cells #[.int .i64 t454, .slice Ao14 t455.length co14, .string t458] 39 (0, 0)) (by (with_reducible repeat (first | refine blk_drewN ?_ _ | refine blk_drew ?_ | refine blk_alloc ?_ _)); exact BK461.out) hb); have n5_ := Aside0.mk (blk_below (g := gb469) (o := .cells #[.int .i64 t462, .slice Ao20 t463.length co20, .string t466] 48 (0, 0)) (by (with_reducible repeat (first | refine blk_drewN ?_ _ | refine blk_drew ?_ | refine blk_alloc ?_ _)); exact BK469.out) hb); have n6_ := Aside0.mk (blk_below (g := gb481) (o := .cells #[.int .i64 t474, .slice Ao65 t475.length co65, .string t478] 39 (0, 0)) (by (with_reducible repeat (first | refine blk_drewN ?_ _ | refine blk_drew ?_ | refine blk_alloc ?_ _)); exact BK481.out) hb); have n7_ := Aside0.mk (below_step (by repeat (first | (with_reducible first | exact HB.out | apply below_alloc | apply pw_below_drewN | apply below_drew1 | refine below_set ?_ GE453.out | refine below_set ?_ GE461.out | refine below_set ?_ GE469.out | refine below_set ?_ GE481.out) | exact HB.out)) hb); clear HO_462001; clear HO_470001; clear HO477; clear BK453; clear BK461; clear BK469; clear BK481; clear HB; have HO_462001 := n0_; have HO_470001 := n1_; have HO477 := n2_; have BK453 := n3_; have BK461 := n4_; have BK469 := n5_; have BK481 := n6_; have HB := n7_; clear n0_ n1_ n2_ n3_ n4_ n5_ n6_ n7_; (try clear hb); (try clear hb2); (try clear hk); (try clear hi)))
              go_ret
              exact ⟨by first | rfl | (simp [errW_none, errW_some] <;> rfl) | (simp [*, errW_none, errW_some] <;> rfl), by repeat (first | (with_reducible first | exact HB.out | apply below_alloc | apply pw_below_drewN | apply below_drew1 | refine below_set ?_ GE453.out | refine below_set ?_ GE461.out | refine below_set ?_ GE469.out | refine below_set ?_ GE481.out) | exact HB.out)⟩
            · replace c53 := Bool.eq_false_iff.mpr c53
              subst c53
              have H1 : none = some r := by rw [if_neg (show ¬ (false = true) by decide)] at H; exact H
              clear H
              have H := H1
              clear H1
              cases H
          · rw [if_neg c51] at H
            have c51b0 : (t479 == t467) = false := beq_eq_false_iff_ne.mpr c51
            have c51b1 : (t479 != t467) = true := bne_iff_ne.mpr c51
            cases H
        · replace c49 := Bool.eq_false_iff.mpr c49
          subst c49
          have H1 : none = some r := by rw [if_neg (show ¬ (false = true) by decide)] at H; exact H
          clear H
          have H := H1
          clear H1
          cases H
end Go.Proofs.YtmfkgjnlobiobaaGreatDoor.X
namespace Go.Proofs.YtmfkgjnlobiobaaGreatDoor.X
open Go.RowKit Go.Shelf Go.Proofs.YtmfkgjnlobiobaaGreatDoorW.PrintWords
theorem fieldOf_is (l : List (List UInt8 × List UInt8)) : l.map fieldOf = (l.map pairOf).map fF := by
  rw [List.map_map]
  rfl
theorem spoil_l1 (l : List S80) (n : Nat) (hn : n ≤ 1000000) : ∀ (d k i : Nat) (l : List S80), i + d = 64 → d < k → l.length ≤ n + i → wicketlaw15_spoil.l1 k l (i : Int) = some ()
  | _, 0, _, _, _, hk, _ => absurd hk (Nat.not_lt_zero _)
  | 0, k + 1, i, l, hi, _, _ => by rw [wicketlaw15_spoil.l1, if_neg (by omega)]
  | d + 1, k + 1, i, l, hi, hk, hl => by
    rw [wicketlaw15_spoil.l1, if_pos (by omega), if_pos (by omega), wr _ (by omega)]
    exact spoil_l1 l n hn d k (i + 1) _ (by omega) (by omega) (by rw [List.length_append, List.length_singleton]; omega)
theorem spoil_l0 : ∀ (d k i : Nat) (l : List S80), i + d = l.length → d + 66 < k → l.length ≤ 1000 → wicketlaw15_spoil.l0 k l (i : Int) = some ()
  | _, 0, _, _, _, hk, _ => absurd hk (Nat.not_lt_zero _)
  | 0, k + 1, i, l, hi, hk, hl => by
    rw [wicketlaw15_spoil.l0, if_neg (by omega)]
    exact spoil_l1 l l.length (by omega) 64 k 0 l (by omega) (by omega) (by omega)
  | d + 1, k + 1, i, l, hi, hk, hl => by
    rw [wicketlaw15_spoil.l0, if_pos (by omega), if_pos (by omega), wr _ (by omega)]
    exact spoil_l0 d k (i + 1) _ (by rw [List.length_set]; omega) (by omega) (by rw [List.length_set]; exact hl)
theorem spoil_f (k : Nat) (l : List S80) (hl : l.length ≤ 1000) (hk : 2000 ≤ k) : wicketlaw15_spoil.f k l = some () := spoil_l0 l.length k 0 l (by omega) (by omega) hl
theorem parseRF_few (raw : List UInt8) : (parseRF raw).2.1.length ≤ 64 := by
  by_cases h : okS (parseRF raw)
  · obtain ⟨n, l, b, hp, _, hl, _⟩ := parseRF_good raw h
    rw [hp]
    exact hl
  · have : (parseRF raw).2.1 = [] := by
      revert h
      unfold okS parseRF tailS
      repeat' split
      all_goals first | (intro _; rfl) | (intro h; exact absurd rfl h)
    rw [this]
    exact Nat.zero_le _
theorem response_f (k : Nat) (r : PS) (hl : r.2.1.length ≤ 64) (hk : 100 ≤ k) : wicketlaw15_response.f k (encS r).1 (encS r).2.1 (encS r).2.2.1 (encT r).1 (encT r).2.1 (encT r).2.2.1 = some true := by
  have hf := fields_f k (r.2.1.map pairOf) (by rw [List.length_map]; omega) (by rw [List.length_map]; omega)
  unfold wicketlaw15_response.f encS encT
  rw [if_pos rfl, if_pos rfl]
  show (wicketlaw15_fields.f k (r.2.1.map pairOf) (r.2.1.map fieldOf)).bind _ = _
  rw [fieldOf_is, hf]
  rfl
theorem Responses_f (raw : ByteArray) : wicketlaw15_HttpResponses.f (200000 + 1) raw = some true := by
  have hr := response_f (200000 + 1) (parseRF raw.data.toList) (parseRF_few _) (by omega)
  have hr0 := response_f 200000 (parseRF raw.data.toList) (parseRF_few _) (by omega)
  have hs : (encS (parseRF raw.data.toList)).2.1.length ≤ 1000 := by
    show ((parseRF raw.data.toList).2.1.map pairOf).length ≤ 1000
    have := parseRF_few raw.data.toList
    rw [List.length_map]
    omega
  have hP0 : http_ParseResponse.f 200001 raw = some (encS (parseRF raw.data.toList)) := ParseResponse_f 199998 raw
  have hP : http_ParseResponse.f 200000 raw = some (encS (parseRF raw.data.toList)) := ParseResponse_f 199997 raw
  unfold wicketlaw15_HttpResponses.f
  rw [hP0, rParseResponse_f _ _ (by omega)]
  generalize parseRF raw.data.toList = r at hr hr0 hs hP ⊢
  simp only [Option.bind_some, wicketlaw15_num.f]
  rw [if_pos (show (encS r).2.2.2.1 = (encT r).2.2.2.1 from rfl), if_pos (show (encS r).2.2.2.1 = (encT r).2.2.2.1 from rfl), if_pos (show (encS r).2.2.2.2 = (encT r).2.2.2.2 from rfl), if_pos (show (encS r).2.2.2.2 = (encT r).2.2.2.2 from rfl), hr]
  simp only [Option.bind_some]
  rw [if_pos trivial, wicketlaw15_HttpResponses.j0, if_neg (by decide), spoil_f 200000 _ hs (by omega)]
  simp only [Option.bind_some]
  rw [hP]
  simp only [Option.bind_some, wicketlaw15_num.f]
  rw [hr0]
  simp only [Option.bind_some]
  rw [if_pos trivial, if_pos (show (encS r).2.2.2.1 = (encT r).2.2.2.1 from rfl)]
  rw [if_pos trivial, show wicketlaw15_live.f 200000 = some true from live_at 199960]
  rfl
end Go.Proofs.YtmfkgjnlobiobaaGreatDoor.X
namespace Go.Proofs.YtmfkgjnlobiobaaGreatDoor.httpResponses
open Go.ChangeShapes Go.WideShapes Go.ChangeAt Go.RowKit
open Go.ChangeMaps (open_string shut_string)
theorem own : ownKnob Tryz.prog.godebug = none := by kernel_rfl
theorem laidOut : laidOutB Tryz.prog = true := by kernel_rfl
set_option maxRecDepth 100000 in
theorem contract (H : Type) (enc : TypeId × Value → H) (W : World) (base : Nat) (args : Array Value) (ds gs : List (DataW H)) (before : List MemPlace)
    (hval0 : ∀ (j : Nat) t v, Tryz.f6.params[j]? = some t → args[j]? = some v → Value.okWide Tryz.prog W .any base t v)
    (hW : DataW.Whole enc Tryz.prog Tryz.f6.params.toList Rows.httpResponsesSpec.vars false W args.toList ds gs before)
    (hsz0 : (DataW.weightsEach Tryz.prog (Tryz.f6.params.toList ++ Rows.httpResponsesSpec.plain.varTypes Tryz.prog) (ds ++ gs)).all (· ≤ reachBytes) = true) (hG : X.GL W) :
    Calls Tryz.prog 6 args W fun e W' => ∃ v, e = .returned v ∧ Rows.httpResponsesSpec.post enc Tryz.prog Tryz.f6 false true false false W args v W' := by
  have hval := hval0
  have hsz := hsz0
  have hW' := hW
  obtain ⟨p, q, hA0, hV, rfl, hfz, hnd⟩ := hW
  have hA : DataW.TrodAll enc Tryz.prog W 0 (fun _ => true) true Tryz.f6.params.toList args.toList ds p := hA0
  rw [Tryz.params6] at hA hval hsz
  obtain ⟨v0, vs0, d0, ds0, p0, q0, hargs, rfl, rfl, h0, r0⟩ := trodAll_cons hA
  obtain ⟨rfl, rfl, rfl⟩ := trodAll_nil r0
  obtain rfl : args = #[v0] := by cases args; simp_all
  obtain ⟨rfl, rfl⟩ := trodVars_none hV
  obtain ⟨a0, rfl, rfl, rfl, y0⟩ := open_string Tryz.underlying9 (hval 0 9 v0 rfl rfl) h0
  have w0 : a0.size ≤ 140737488351232 := by
    have z := sized_string hsz (j := 0) (t := 9) rfl rfl
    rw [Array.length_toList] at z
    exact z
  clear hA0 hval0 hsz0 hsz
  refine (X.wicketlaw15_HttpResponses.calls (200000 + 1) a0 true W hG (X.Responses_f a0)).mono fun e W' ⟨he, bel⟩ => ?_
  subst he
  exact ⟨_, rfl, _, _, _, [], _, [], hW', trodAll_mk1 (shut_bool Tryz.underlying4 _), (trodAll_cons_mk (shut_string Tryz.underlying9 y0) trodAll_mk0), rfl, bel.frame _, fun h => by cases h⟩
theorem lay_met (os : Os) : laidMetH Tryz.prog Rows.httpResponsesRow.laid ((World.laidAll Tryz.prog os Rows.httpResponsesRow.laid).forCall (fun _ _ => 0) ⟨#[], #[.string ⟨#[]⟩], []⟩).memory := by
  rw [MakeChecks.laidMetH_plain _ _ _ (by kernel_rfl)]
  exact laidMet_laidAll _ (by kernel_rfl) (by kernel_rfl)
theorem reads (os : Os) {H : Type} (enc : TypeId × Value → H) : ∃ places, DataW.whole enc Tryz.prog ((World.laidAll Tryz.prog os Rows.httpResponsesRow.laid).forCall (fun _ _ => 0) ⟨#[], #[.string ⟨#[]⟩], []⟩).memory Tryz.f6.params.toList Rows.httpResponsesSpec.vars false (#[.string ⟨#[]⟩] : Array Value).toList 8 = some ([.lit (.string [])], [], places) := ⟨[], by kernel_rfl⟩
set_option maxRecDepth 100000 in
theorem lifted (os : Os) (started : os.Started) (H : Type) (enc : TypeId × Value → H) (F : Stop.Interp) :
    ReturnsInHanded {} Tryz.checked os 6 .any ((OpenSpec.ofChange Rows.httpResponsesSpec).preRow enc Tryz.prog Tryz.f6 Rows.httpResponsesRow.domain false Rows.httpResponsesRow.laid) (((OpenSpec.ofChange Rows.httpResponsesSpec).at F).post enc Tryz.prog Tryz.f6 false true false false) := by
  obtain ⟨places, hx⟩ := reads os enc
  refine returnsInHanded_of_row (C := Tryz.checked) (s := OpenSpec.ofChange Rows.httpResponsesSpec) own started (by kernel_rfl) Tryz.func6
    (witness_row_atRef (enc := enc) (C := Tryz.checked) false (World.laidAll Tryz.prog os Rows.httpResponsesRow.laid) #[.string ⟨#[]⟩] (World.laidAll_os _ _ _) (by kernel_rfl) (by kernel_rfl) (by kernel_rfl)
      (OpenSpec.preRow_of_cond 8 hx (by kernel_rfl) (fun k hk => by cases hk) (by kernel_rfl) (lay_met os))) ?_
  intro W base args ds gs before hval hW _ _ hsz hL hS _
  exact contract H enc W base args ds gs before hval hW hsz (X.GL_of hL hS)
theorem said : Rows.HttpResponsesSaid :=
  OpenClaim.holds_of_cond 6 Tryz.f6 rfl rfl rfl rfl rfl rfl rfl ⟨rfl, rfl, rfl, rfl, rfl⟩ rfl rfl rfl rfl rfl (by kernel_rfl) Tryz.func6 (by kernel_rfl)
    (of_decide_eq_true (by kernel_rfl)) (by unfold Func.isWrapper; first | (rw [if_pos (by decide +kernel)]; kernel_rfl) | (rw [if_neg (by decide +kernel)]; exact ⟨rfl, rfl⟩))
    (fun os started H enc _ F => by rw [OpenClaim.pre_eq_preRow]; exact lifted os started H enc F)
theorem plain (f : FuncId) (fn : Func) (hf : Tryz.pinned.checked.prog.funcNamed "wicket/wicketlaw15.HttpResponses" = some f) (hfn : Tryz.pinned.checked.prog.funcs[f]? = some fn) :
    true = Tryz.pinned.checked.prog.looks [] ∧ ∀ (j : Nat) t, fn.params[j]? = some t → Tryz.pinned.checked.prog.wantsStandIn t = false := by
  obtain rfl : f = 6 := Option.some.inj ((show Tryz.prog.funcNamed "wicket/wicketlaw15.HttpResponses" = some 6 by kernel_rfl).symm.trans hf) |>.symm
  obtain rfl : fn = Tryz.f6 := (Option.some.inj (Tryz.func6.symm.trans hfn)).symm
  refine ⟨by kernel_rfl, fun j t ht => ?_⟩
  rw [Tryz.params6] at ht
  have hm := Array.mem_of_getElem? ht
  simp only [List.mem_toArray, List.mem_cons, List.not_mem_nil, or_false] at hm
  subst hm
  exact (show Tryz.prog.wantsStandIn 9 = false by kernel_rfl)
theorem card : Rows.HttpResponsesCardSaid :=
  Claim7.holds_tied_plain_at .later [] _ _ _ _ said (fun _ h => by cases h) (by kernel_rfl) (fun _ h => by cases h) httpResponses_row_tie rfl ⟨rfl, rfl⟩ (by kernel_rfl) rfl plain (by kernel_rfl)
#print axioms card
end Go.Proofs.YtmfkgjnlobiobaaGreatDoor.httpResponses
