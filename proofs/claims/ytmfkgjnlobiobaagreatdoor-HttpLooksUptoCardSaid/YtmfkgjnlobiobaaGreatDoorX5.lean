-- Printed by a program of this work (wip/xprint) out of the translation of this seat: one Lean function and its contract for each Go function.
import Derived.Test.YtmfkgjnlobiobaaGreatDoorX0
import Derived.Test.YtmfkgjnlobiobaaGreatDoorE1
import Derived.Test.YtmfkgjnlobiobaaGreatDoorE4f
import Derived.Test.YtmfkgjnlobiobaaGreatDoorRe
import Derived.Test.YtmfkgjnlobiobaaGreatDoorE0
namespace Go.Proofs.YtmfkgjnlobiobaaGreatDoor.X
open Go.RowKit Go.Proofs.YtmfkgjnlobiobaaGreatDoorW.PrintWords Go.Proofs.YtmfkgjnlobiobaaGreatDoorW.PrintLast Go.Proofs.YtmfkgjnlobiobaaGreatDoorW.PrintMore
attribute [local go_sem] max2_int min2_int max_two min_two max_three min_three max_four min_four   -- for this text's walks alone
set_option linter.unusedVariables false
set_option linter.unusedSimpArgs false

/-! ### http_ParseResponse: function 30 -/
mutual
def http_ParseResponse.j0 : Nat → ByteArray → ByteArray → Int → Bool → Option (Int × (List (S80)) × ByteArray × Int × Int)
  | 0, _, _, _, _ => none
  | k + 1, x0, x5, x6, x28 => if x28 = true then (if 0 ≤ 3 then (if 3 ≤ (x5.size : Int) then ((strconv_Atoi.f (x5.extract 0 3)).bind fun bt177 => (http_ParseResponse.j1 k x0 x5 bt177.1)) else (none)) else (none)) else (http_ParseResponse.j1 k x0 x5 x6)
def http_ParseResponse.j1 : Nat → ByteArray → ByteArray → Int → Option (Int × (List (S80)) × ByteArray × Int × Int)
  | 0, _, _, _ => none
  | k + 1, x0, x5, x6 => (strconv_Itoa.f x6).bind fun t179 => (if t179.size + 1 ≤ 9223372036854775807 then ((http_Reason.f x6).bind fun t180 => (if (t179 ++ (⟨#[32]⟩ : ByteArray)).size + t180.size ≤ 9223372036854775807 then (if ((t179 ++ (⟨#[32]⟩ : ByteArray)) ++ t180).size + 2 ≤ 9223372036854775807 then (if x6 < 100 then (http_ParseResponse.j2 k x0 x6 (((t179 ++ (⟨#[32]⟩ : ByteArray)) ++ t180) ++ (⟨#[13, 10]⟩ : ByteArray)) true) else (if x6 > 599 then (http_ParseResponse.j2 k x0 x6 (((t179 ++ (⟨#[32]⟩ : ByteArray)) ++ t180) ++ (⟨#[13, 10]⟩ : ByteArray)) true) else ((strings_HasPrefix.f x5 (((t179 ++ (⟨#[32]⟩ : ByteArray)) ++ t180) ++ (⟨#[13, 10]⟩ : ByteArray))).bind fun t181 => (http_ParseResponse.j2 k x0 x6 (((t179 ++ (⟨#[32]⟩ : ByteArray)) ++ t180) ++ (⟨#[13, 10]⟩ : ByteArray)) (!t181))))) else (none)) else (none))) else (none))
def http_ParseResponse.j2 : Nat → ByteArray → Int → ByteArray → Bool → Option (Int × (List (S80)) × ByteArray × Int × Int)
  | 0, _, _, _, _ => none
  | k + 1, x0, x6, x7, x53 => if x53 = true then (some (0, ([] : List (S80)), (⟨#[]⟩ : ByteArray), 156, 9)) else ((http_parseHead.f x0 (wrap64 (9 + (x7.size : Int)))).bind fun bt182 => (if bt182.2.2.2.1 = 0 then (if 0 ≤ bt182.2.2.1 then (if bt182.2.2.1 ≤ (x0.size : Int) then (some (x6, bt182.1, x0.extract (bt182.2.2.1 : Int).toNat x0.size, 0, 0)) else (none)) else (none)) else (some (0, ([] : List (S80)), (⟨#[]⟩ : ByteArray), bt182.2.2.2.1, bt182.2.2.2.2))))
end
def http_ParseResponse.f (k : Nat) (a0 : ByteArray) : Option (Int × (List (S80)) × ByteArray × Int × Int) := if (a0.size : Int) > 32768 then (some (0, ([] : List (S80)), (⟨#[]⟩ : ByteArray), 1, 0)) else ((strings_HasPrefix.f a0 (⟨#[72, 84, 84, 80, 47, 49, 46, 49, 32]⟩ : ByteArray)).bind fun t175 => (if t175 = true then (if 9 ≤ (a0.size : Int) then (if ((a0.extract 9 a0.size).size : Int) ≥ 3 then (if 0 ≤ 3 then (if 3 ≤ ((a0.extract 9 a0.size).size : Int) then ((http_all_ParseResponse_1.f ((a0.extract 9 a0.size).extract 0 3)).bind fun t176 => (http_ParseResponse.j0 k a0 (a0.extract 9 a0.size) 0 t176)) else (none)) else (none)) else (http_ParseResponse.j0 k a0 (a0.extract 9 a0.size) 0 false)) else (none)) else (some (0, ([] : List (S80)), (⟨#[]⟩ : ByteArray), 152, 0))))
theorem http_ParseResponse.mono_l : ∀ k, (∀ y0 y1 y2 y3, LeO (http_ParseResponse.j0 k y0 y1 y2 y3) (http_ParseResponse.j0 (k + 1) y0 y1 y2 y3)) ∧ (∀ y0 y1 y2, LeO (http_ParseResponse.j1 k y0 y1 y2) (http_ParseResponse.j1 (k + 1) y0 y1 y2)) ∧ (∀ y0 y1 y2 y3, LeO (http_ParseResponse.j2 k y0 y1 y2 y3) (http_ParseResponse.j2 (k + 1) y0 y1 y2 y3))
  | 0 => ⟨fun _ _ _ _ r h => by simp [http_ParseResponse.j0] at h, fun _ _ _ r h => by simp [http_ParseResponse.j1] at h, fun _ _ _ _ r h => by simp [http_ParseResponse.j2] at h⟩
  | k + 1 => by
    obtain ⟨ih0, ih1, ih2⟩ := http_ParseResponse.mono_l k
    refine ⟨?_, ?_, ?_⟩
    · intro y0 y1 y2 y3
      unfold http_ParseResponse.j0
      repeat' first
      | (with_reducible exact ih0 _ _ _ _)
      | (with_reducible exact ih1 _ _ _)
      | (with_reducible exact ih2 _ _ _ _)
      | (with_reducible exact LeO.refl _)
      | (with_reducible exact LeO.none _)
      | (with_reducible refine LeO.ite ?_ ?_)
      | (with_reducible refine LeO.bind ?_ (fun _ => ?_))
      | exact ih0 _ _ _ _
      | exact ih1 _ _ _
      | exact ih2 _ _ _ _
      | exact LeO.none _
      | refine LeO.ite ?_ ?_
      | refine LeO.bind ?_ (fun _ => ?_)
    · intro y0 y1 y2
      unfold http_ParseResponse.j1
      repeat' first
      | (with_reducible exact ih0 _ _ _ _)
      | (with_reducible exact ih1 _ _ _)
      | (with_reducible exact ih2 _ _ _ _)
      | (with_reducible exact LeO.refl _)
      | (with_reducible exact LeO.none _)
      | (with_reducible refine LeO.ite ?_ ?_)
      | (with_reducible refine LeO.bind ?_ (fun _ => ?_))
      | exact ih0 _ _ _ _
      | exact ih1 _ _ _
      | exact ih2 _ _ _ _
      | exact LeO.none _
      | refine LeO.ite ?_ ?_
      | refine LeO.bind ?_ (fun _ => ?_)
    · intro y0 y1 y2 y3
      unfold http_ParseResponse.j2
      repeat' first
      | (with_reducible exact ih0 _ _ _ _)
      | (with_reducible exact ih1 _ _ _)
      | (with_reducible exact ih2 _ _ _ _)
      | (with_reducible exact LeO.refl _)
      | (with_reducible exact LeO.none _)
      | (with_reducible refine LeO.ite ?_ ?_)
      | (with_reducible refine LeO.bind ?_ (fun _ => ?_))
      | exact ih0 _ _ _ _
      | exact ih1 _ _ _
      | exact ih2 _ _ _ _
      | exact LeO.none _
      | refine LeO.ite ?_ ?_
      | refine LeO.bind ?_ (fun _ => ?_)
theorem http_ParseResponse.mono : ∀ a0 k, LeO (http_ParseResponse.f k a0) (http_ParseResponse.f (k + 1) a0) := by
  intro a0 k
  obtain ⟨ih0, ih1, ih2⟩ := http_ParseResponse.mono_l k
  unfold http_ParseResponse.f
  repeat' first
      | (with_reducible exact ih0 _ _ _ _)
      | (with_reducible exact ih1 _ _ _)
      | (with_reducible exact ih2 _ _ _ _)
      | (with_reducible exact LeO.refl _)
      | (with_reducible exact LeO.none _)
      | (with_reducible refine LeO.ite ?_ ?_)
      | (with_reducible refine LeO.bind ?_ (fun _ => ?_))
      | exact ih0 _ _ _ _
      | exact ih1 _ _ _
      | exact ih2 _ _ _ _
      | exact LeO.none _
      | refine LeO.ite ?_ ?_
      | refine LeO.bind ?_ (fun _ => ?_)
def http_ParseResponse.T15 : Bool × List (List Nat × List Nat) := (true, [([], []), ([], []), ([1], [1]), ([], []), ([], []), ([4], [4]), ([3, 5], [3, 5]), ([0, 2, 6], [0, 2, 6]), ([7, 0, 1, 2, 3, 4, 5, 6, 7], [7]), ([8, 0, 1, 2, 3, 4, 5, 6, 7, 8], []), ([9, 0, 1, 2, 3, 4, 5, 6, 7, 8, 9], [])])
def http_ParseResponse.B15 : List Nat := [0, 0, 2, 0, 0, 16, 56, 127, 255, 511, 1023]
theorem http_ParseResponse.tab15 : rtab .any (opsOf Tryz.f30 15) = http_ParseResponse.T15 := by kernel_rfl
theorem http_ParseResponse.bits15 : waitsOk http_ParseResponse.T15.2 http_ParseResponse.B15 = true := by kernel_rfl
set_option maxHeartbeats 8000000 in
set_option maxRecDepth 100000 in
theorem http_ParseResponse.calls (k : Nat) (a0 : ByteArray) (r1 : Int) (r2 : List (S80)) (r3 : ByteArray) (r4 : Int) (r5 : Int) (w : World) (hG : GL w) (h : http_ParseResponse.f k a0 = some (r1, r2, r3, r4, r5)) :
    Calls Tryz.prog 30 #[.string a0] w fun e w' => ∃ v1_ : Value, e = .returned (.tuple #[.agg #[.int .i64 r1, v1_, .string r3], .int .i64 r4, .int .i64 r5]) ∧ Kd.R k80 80 w' w.heap.size (fun _ => True) v1_ r2 ∧ Below w.heap.size w w' := by
  have hu39 := Tryz.underlying39
  have hu73 := Tryz.underlying73
  have HB := Aside0.mk (Below.refl w.heap.size w)
  have HG := Aside0.mk hG
  clear hG
  have H : (if (a0.size : Int) > 32768 then (some (0, ([] : List (S80)), (⟨#[]⟩ : ByteArray), 1, 0)) else ((strings_HasPrefix.f a0 (⟨#[72, 84, 84, 80, 47, 49, 46, 49, 32]⟩ : ByteArray)).bind fun t175 => (if t175 = true then (if 9 ≤ (a0.size : Int) then (if ((a0.extract 9 a0.size).size : Int) ≥ 3 then (if 0 ≤ 3 then (if 3 ≤ ((a0.extract 9 a0.size).size : Int) then ((http_all_ParseResponse_1.f ((a0.extract 9 a0.size).extract 0 3)).bind fun t176 => (http_ParseResponse.j0 k a0 (a0.extract 9 a0.size) 0 t176)) else (none)) else (none)) else (http_ParseResponse.j0 k a0 (a0.extract 9 a0.size) 0 false)) else (none)) else (some (0, ([] : List (S80)), (⟨#[]⟩ : ByteArray), 152, 0))))) = some (r1, r2, r3, r4, r5) := h
  clear h
  by_cases c2 : (a0.size : Int) > 32768
  · rw [if_pos c2] at H
    have c2b0 : decide (32768 < (a0.size : Int)) = true := decide_eq_true c2
    have c2b1 : decide (32768 < a0.size) = true := decide_eq_true (by omega)
    clear c2
    simp only [Option.some.injEq, Prod.mk.injEq] at H
    obtain ⟨rfl, rfl, rfl, rfl, rfl⟩ := H
    go_enter Tryz.func30, Tryz.ntmps30
    go_wp2_with (first | ((with_reducible refine gate_dst (N := 2) rfl ?_); refine box_event ?hg (N := 2) ?hd (cs := #[.int .i64 0, .slice none 0 0, .string (⟨#[]⟩ : ByteArray)]) (t := 39) ?hr ?_; (case hd => rfl); (case hg => rfl); (case hr => first | (go_simp; done) | (go_simp; rfl)); intro gb174 hg w3 hbox hb; have n0_ := Aside0.mk (below_step (by repeat (first | (with_reducible first | exact HB.out | apply below_alloc | apply pw_below_drewN | apply below_drew1) | exact HB.out)) hb); have n1_ := Aside0.mk (hbox); have n2_ := Aside0.mk ((by rw [hg]; exact (below_size (by repeat (first | (with_reducible first | exact HB.out | apply below_alloc | apply pw_below_drewN | apply below_drew1) | exact HB.out))) : w.heap.size ≤ gb174)); have n3_ := Aside0.mk ((by rw [hg]; exact (below_size (by repeat (first | (with_reducible first | exact HB.out | apply below_alloc | apply pw_below_drewN | apply below_drew1) | exact HB.out))) : w.heap.size ≤ gb174)); clear HB; have HB := n0_; have BK174 := n1_; have GW174 := n2_; have GE174 := n3_; clear n0_ n1_ n2_ n3_; clear hb hbox hg; have hcz4_0 : w3.cell? ⟨gb174, 0, none⟩ = some (.int .i64 0) := (blk_cell BK174.out 0).trans rfl; have hcz4_1 : w3.cell? ⟨gb174, 1, none⟩ = some (.slice none 0 0) := (blk_cell BK174.out 1).trans rfl; have hcz4_2 : w3.cell? ⟨gb174, 2, none⟩ = some (.string (⟨#[]⟩ : ByteArray)) := (blk_cell BK174.out 2).trans rfl; have hfz4_0 := blk_frozen BK174.out 0; have hfz4_1 := blk_frozen BK174.out 1; have hfz4_2 := blk_frozen BK174.out 2))
    refine bodyPost_ret (results_ctt rfl _ _ gb174 39 #[.int .i64 0, .slice none 0 0, .string (⟨#[]⟩ : ByteArray)] (0, 0) _ rfl (by (with_reducible repeat (first | refine blk_drewN ?_ _ | refine blk_drew ?_ | refine blk_alloc ?_ _)); refine blk_put (cs := #[.int .i64 0, .slice none 0 0, .string (⟨#[]⟩ : ByteArray)]) ?_ 2 _ rfl; (with_reducible repeat (first | refine blk_drewN ?_ _ | refine blk_drew ?_ | refine blk_alloc ?_ _)); refine blk_put (cs := #[.int .i64 0, .slice none 0 0, .string (⟨#[]⟩ : ByteArray)]) ?_ 1 _ rfl; (with_reducible repeat (first | refine blk_drewN ?_ _ | refine blk_drew ?_ | refine blk_alloc ?_ _)); refine blk_put (cs := #[.int .i64 0, .slice none 0 0, .string (⟨#[]⟩ : ByteArray)]) ?_ 0 _ rfl; (with_reducible repeat (first | refine blk_drewN ?_ _ | refine blk_drew ?_ | refine blk_alloc ?_ _)); exact BK174.out) Tryz.underlying39 rfl (by kernel_rfl)) rfl ?_
    exact ⟨_, by first | rfl | (simp [errW_none, errW_some] <;> rfl) | (simp [*, errW_none, errW_some] <;> rfl), by first | exact Kd.R_nil _ _ _ _ _ | exact Kd.N_nil _ _ _ _ _ | exact Kd.V_nil _ _ _ _ _ | exact Kd.Q_nil _ _ _ _ _ | exact Kd.S_nil _ _ _ _ _, by repeat (first | (with_reducible first | exact HB.out | apply below_alloc | apply pw_below_drewN | apply below_drew1 | refine below_set ?_ GE174.out) | exact HB.out)⟩
  · rw [if_neg c2] at H
    have c2b0 : decide (32768 < (a0.size : Int)) = false := decide_eq_false c2
    have c2b1 : decide (32768 < a0.size) = false := decide_eq_false (by omega)
    clear c2
    replace H := Option.bind_eq_some_iff.mp H
    obtain ⟨t175, A50, H⟩ := H
    replace H : (if t175 = true then (if 9 ≤ (a0.size : Int) then (if ((a0.extract 9 a0.size).size : Int) ≥ 3 then (if 0 ≤ 3 then (if 3 ≤ ((a0.extract 9 a0.size).size : Int) then ((http_all_ParseResponse_1.f ((a0.extract 9 a0.size).extract 0 3)).bind fun t176 => (http_ParseResponse.j0 k a0 (a0.extract 9 a0.size) 0 t176)) else (none)) else (none)) else (http_ParseResponse.j0 k a0 (a0.extract 9 a0.size) 0 false)) else (none)) else (some (0, ([] : List (S80)), (⟨#[]⟩ : ByteArray), 152, 0))) = some (r1, r2, r3, r4, r5) := H
    have A5 := Aside0.mk A50
    clear A50
    by_cases c6 : t175 = true
    · subst c6
      have H1 : (if 9 ≤ (a0.size : Int) then (if ((a0.extract 9 a0.size).size : Int) ≥ 3 then (if 0 ≤ 3 then (if 3 ≤ ((a0.extract 9 a0.size).size : Int) then ((http_all_ParseResponse_1.f ((a0.extract 9 a0.size).extract 0 3)).bind fun t176 => (http_ParseResponse.j0 k a0 (a0.extract 9 a0.size) 0 t176)) else (none)) else (none)) else (http_ParseResponse.j0 k a0 (a0.extract 9 a0.size) 0 false)) else (none)) = some (r1, r2, r3, r4, r5) := by rw [if_pos rfl] at H; exact H
      clear H
      have H := H1
      clear H1
      by_cases c7 : 9 ≤ (a0.size : Int)
      · rw [if_pos c7] at H
        have c7b0 := eq_true c7
        have c7b1 : decide (9 ≤ (a0.size : Int)) = true := decide_eq_true c7
        clear c7
        have HC8 := Aside0.mk H
        clear H
        go_enter Tryz.func30, Tryz.ntmps30
        go_upto_region 7 with (first | ((with_reducible refine gate_dst (N := 2) rfl ?_); refine box_event ?hg (N := 2) ?hd (cs := #[.int .i64 0, .slice none 0 0, .string (⟨#[]⟩ : ByteArray)]) (t := 39) ?hr ?_; (case hd => rfl); (case hg => rfl); (case hr => first | (go_simp; done) | (go_simp; rfl)); intro gb174 hg w9 hbox hb; have n0_ := Aside0.mk (below_step (by repeat (first | (with_reducible first | exact HB.out | apply below_alloc | apply pw_below_drewN | apply below_drew1) | exact HB.out)) hb); have n1_ := Aside0.mk (hbox); have n2_ := Aside0.mk ((by rw [hg]; exact (below_size (by repeat (first | (with_reducible first | exact HB.out | apply below_alloc | apply pw_below_drewN | apply below_drew1) | exact HB.out))) : w.heap.size ≤ gb174)); have n3_ := Aside0.mk ((by rw [hg]; exact (below_size (by repeat (first | (with_reducible first | exact HB.out | apply below_alloc | apply pw_below_drewN | apply below_drew1) | exact HB.out))) : w.heap.size ≤ gb174)); clear HB; have HB := n0_; have BK174 := n1_; have GW174 := n2_; have GE174 := n3_; clear n0_ n1_ n2_ n3_; clear hb hbox hg) | ((with_reducible refine gate_callee (f := 38) rfl ?_); refine goesL_ (some 16) rfl rfl Tryz.func38 (by kernel_rfl) rfl #[.string a0, .string (⟨#[72, 84, 84, 80, 47, 49, 46, 49, 32]⟩ : ByteArray)] rfl (by (try simp only [List.map_toArray, List.map_cons, List.map_nil]); first | done | rfl | (simp only [List.length_drop, List.length_take]; rfl)) ?_; (with_reducible refine (strings_HasPrefix.calls a0 (⟨#[72, 84, 84, 80, 47, 49, 46, 49, 32]⟩ : ByteArray) true _ A5.out).mono ?_); rintro e w' ⟨rfl, ⟨nd, rfl⟩⟩; refine ⟨_, rfl, ?_⟩))
        (try simp only [Act.put, List.setIfInBounds_toArray, List.set_cons_zero, List.set_cons_succ])
        go_cut [28] (fun v28 wc => ∃ (kq : Nat) (x28_7 : Bool), v28 = .bool x28_7 ∧ Aside0 (http_ParseResponse.j0 kq a0 (a0.extract 9 a0.size) 0 x28_7 = some (r1, r2, r3, r4, r5)) ∧ Aside0 (kq ≤ k) ∧ Aside0 (wc.heap[gb174]? = some (.cells #[.int .i64 0, (.slice none 0 0), .string (⟨#[]⟩ : ByteArray)] 39 (0, 0))) ∧ Aside0 (Below w.heap.size w wc))
        case first =>
          have H := HC8.out
          clear HC8
          by_cases c10 : ((a0.extract 9 a0.size).size : Int) ≥ 3
          · rw [if_pos c10] at H
            have c10b0 : decide (3 ≤ ((a0.extract 9 a0.size).size : Int)) = true := decide_eq_true c10
            try (have c10b0_e_ : decide (3 ≤ (((a0.size - 9 : Nat)) : Int)) = true := (by have h := c10b0; rw [show (a0.extract 9 a0.size).size = a0.size - 9 by simp] at h; exact h))
            try (have c10b0_g_ : 3 ≤ (((a0.size - 9 : Nat)) : Int) := of_decide_eq_true c10b0_e_)
            have c10b1 : decide (3 ≤ (a0.extract 9 a0.size).size) = true := decide_eq_true (by omega)
            try (have c10b1_e_ : decide (3 ≤ (a0.size - 9)) = true := (by have h := c10b1; rw [show (a0.extract 9 a0.size).size = a0.size - 9 by simp] at h; exact h))
            try (have c10b1_g_ : 3 ≤ (a0.size - 9) := of_decide_eq_true c10b1_e_)
            clear c10
            (first | rw [c10b0] | (simp only [i64_w, i32_w]; rw [c10b0]) | skip)
            by_cases c11 : 0 ≤ 3
            · rw [if_pos c11] at H
              have c11b0 := eq_true c11
              have c11b1 : decide (0 ≤ 3) = true := decide_eq_true c11
              clear c11
              by_cases c12 : 3 ≤ ((a0.extract 9 a0.size).size : Int)
              · rw [if_pos c12] at H
                have c12b0 := eq_true c12
                have c12b1 : decide (3 ≤ ((a0.extract 9 a0.size).size : Int)) = true := decide_eq_true c12
                try (have c12b1_e_ : decide (3 ≤ (((a0.size - 9 : Nat)) : Int)) = true := (by have h := c12b1; rw [show (a0.extract 9 a0.size).size = a0.size - 9 by simp] at h; exact h))
                try (have c12b1_g_ : 3 ≤ (((a0.size - 9 : Nat)) : Int) := of_decide_eq_true c12b1_e_)
                clear c12
                replace H := Option.bind_eq_some_iff.mp H
                obtain ⟨t176, A130, H⟩ := H
                replace H : (http_ParseResponse.j0 k a0 (a0.extract 9 a0.size) 0 t176) = some (r1, r2, r3, r4, r5) := H
                have A13 := Aside0.mk A130
                clear A130
                have H' := Aside0.mk H
                clear H
                go_wp2_with (first | (go_at_call 53; (with_reducible refine (http_all_ParseResponse_1.calls ((a0.extract 9 a0.size).extract 0 3) t176 _ A13.out).mono ?_); rintro e w' ⟨rfl, ⟨nd, rfl⟩⟩))
                go_meet
                case rel => exact ⟨_, (t176), (by first | rfl | (simp; done) | (simp [*]; done)), H', ⟨by first | omega | exact Nat.le_refl _⟩, ⟨by (with_reducible repeat (first | refine blk_drewN ?_ _ | refine blk_drew ?_ | refine blk_alloc ?_ _)); exact BK174.out⟩, ⟨by repeat (first | (with_reducible first | exact HB.out | apply below_alloc | apply pw_below_drewN | apply below_drew1 | refine below_set ?_ GE174.out) | exact HB.out)⟩⟩
              · rw [if_neg c12] at H
                exact absurd H (by simp)
            · rw [if_neg c11] at H
              exact absurd H (by simp)
          · rw [if_neg c10] at H
            have c10b0 : decide (3 ≤ ((a0.extract 9 a0.size).size : Int)) = false := decide_eq_false c10
            try (have c10b0_e_ : decide (3 ≤ (((a0.size - 9 : Nat)) : Int)) = false := (by have h := c10b0; rw [show (a0.extract 9 a0.size).size = a0.size - 9 by simp] at h; exact h))
            try (have c10b0_g_ : ¬ (3 ≤ (((a0.size - 9 : Nat)) : Int)) := of_decide_eq_false c10b0_e_)
            have c10b1 : decide (3 ≤ (a0.extract 9 a0.size).size) = false := decide_eq_false (by omega)
            try (have c10b1_e_ : decide (3 ≤ (a0.size - 9)) = false := (by have h := c10b1; rw [show (a0.extract 9 a0.size).size = a0.size - 9 by simp] at h; exact h))
            try (have c10b1_g_ : ¬ (3 ≤ (a0.size - 9)) := of_decide_eq_false c10b1_e_)
            clear c10
            (first | rw [c10b0] | (simp only [i64_w, i32_w]; rw [c10b0]) | skip)
            have H' := Aside0.mk H
            clear H
            go_wp2
            go_meet
            case rel => exact ⟨_, (false), (by first | rfl | (simp; done) | (simp [*]; done)), H', ⟨by first | omega | exact Nat.le_refl _⟩, ⟨by (with_reducible repeat (first | refine blk_drewN ?_ _ | refine blk_drew ?_ | refine blk_alloc ?_ _)); exact BK174.out⟩, ⟨by repeat (first | (with_reducible first | exact HB.out | apply below_alloc | apply pw_below_drewN | apply below_drew1 | refine below_set ?_ GE174.out) | exact HB.out)⟩⟩
        case rest =>
          clear HC8
          try clear c1
          try clear c2
          try clear c2b0
          try clear c2b1
          try clear p2
          try clear c3
          try clear c6
          try clear c7
          try clear c7b0
          try clear c7b1
          try clear c10
          try clear c10b0
          try clear c10b1
          try clear c11
          try clear c11b0
          try clear c11b1
          try clear c12
          try clear c12b0
          try clear c12b1
          try clear hcz4_0
          try clear hcz4_1
          try clear hcz4_2
          try clear hfz4_0
          try clear hfz4_1
          try clear hfz4_2
          obtain ⟨kq, x28_7, rfl, HA, HJ7, BK174, HB⟩ := hcut
          cases kq with
          | zero => exact absurd HA.out (by simp [http_ParseResponse.j0])
          | succ kj7 =>
            have H := HA.out
            clear HA
            simp only [http_ParseResponse.j0] at H
            have HC14 := Aside0.mk H
            clear H
            go_upto_if 28 with (fail)
            go_cut [6] (fun v6 wc => ∃ (kq : Nat) (x6_13 : Int), v6 = .int .i64 x6_13 ∧ Aside0 (http_ParseResponse.j1 kq a0 (a0.extract 9 a0.size) x6_13 = some (r1, r2, r3, r4, r5)) ∧ Aside0 (kq ≤ kj7) ∧ Aside0 (wc.heap[gb174]? = some (.cells #[.int .i64 0, (.slice none 0 0), .string (⟨#[]⟩ : ByteArray)] 39 (0, 0))) ∧ Aside0 (Below w.heap.size w wc))
            case first =>
              have H := HC14.out
              clear HC14
              by_cases c15 : x28_7 = true
              · subst c15
                have H1 : (if 0 ≤ 3 then (if 3 ≤ ((a0.extract 9 a0.size).size : Int) then ((strconv_Atoi.f ((a0.extract 9 a0.size).extract 0 3)).bind fun bt177 => (http_ParseResponse.j1 kj7 a0 (a0.extract 9 a0.size) bt177.1)) else (none)) else (none)) = some (r1, r2, r3, r4, r5) := by rw [if_pos rfl] at H; exact H
                clear H
                have H := H1
                clear H1
                by_cases c16 : 0 ≤ 3
                · rw [if_pos c16] at H
                  have c16b0 := eq_true c16
                  have c16b1 : decide (0 ≤ 3) = true := decide_eq_true c16
                  clear c16
                  by_cases c17 : 3 ≤ ((a0.extract 9 a0.size).size : Int)
                  · rw [if_pos c17] at H
                    have c17b0 := eq_true c17
                    have c17b1 : decide (3 ≤ ((a0.extract 9 a0.size).size : Int)) = true := decide_eq_true c17
                    try (have c17b1_e_ : decide (3 ≤ (((a0.size - 9 : Nat)) : Int)) = true := (by have h := c17b1; rw [show (a0.extract 9 a0.size).size = a0.size - 9 by simp] at h; exact h))
                    try (have c17b1_g_ : 3 ≤ (((a0.size - 9 : Nat)) : Int) := of_decide_eq_true c17b1_e_)
                    clear c17
                    replace H := Option.bind_eq_some_iff.mp H
                    obtain ⟨⟨t177, t178⟩, A180, H⟩ := H
                    replace H : (http_ParseResponse.j1 kj7 a0 (a0.extract 9 a0.size) t177) = some (r1, r2, r3, r4, r5) := H
                    have A18 := Aside0.mk A180
                    clear A180
                    have H' := Aside0.mk H
                    clear H
                    go_wp2_with (first | ((with_reducible refine gate_callee (f := 55) rfl ?_); refine goesL_ (some 32) rfl rfl Tryz.func55 (by kernel_rfl) rfl #[.string ((a0.extract 9 a0.size).extract 0 3)] rfl (by (try simp only [List.map_toArray, List.map_cons, List.map_nil]); first | done | rfl | (simp only [List.length_drop, List.length_take]; rfl)) ?_; (with_reducible refine (strconv_Atoi.calls ((a0.extract 9 a0.size).extract 0 3) t177 t178 _ A18.out).mono ?_); rintro e w19 ⟨rfl, hb⟩; refine ⟨_, rfl, ?_⟩; have n0_ := Aside0.mk (blk_below (g := gb174) (o := .cells #[.int .i64 0, .slice none 0 0, .string (⟨#[]⟩ : ByteArray)] 39 (0, 0)) (by (with_reducible repeat (first | refine blk_drewN ?_ _ | refine blk_drew ?_ | refine blk_alloc ?_ _)); exact BK174.out) hb); have n1_ := Aside0.mk (below_step (by repeat (first | (with_reducible first | exact HB.out | apply below_alloc | apply pw_below_drewN | apply below_drew1 | refine below_set ?_ GE174.out) | exact HB.out)) hb); clear BK174; clear HB; have BK174 := n0_; have HB := n1_; clear n0_ n1_; (try clear hb); (try clear hb2); (try clear hk); (try clear hi); (try simp only [errW_none, errW_some])))
                    go_meet
                    case rel => exact ⟨_, (t177), (by first | rfl | (simp; done) | (simp [*]; done)), H', ⟨by have := HJ7.out; first | omega | exact Nat.le_refl _⟩, ⟨by (with_reducible repeat (first | refine blk_drewN ?_ _ | refine blk_drew ?_ | refine blk_alloc ?_ _)); exact BK174.out⟩, ⟨by repeat (first | (with_reducible first | exact HB.out | apply below_alloc | apply pw_below_drewN | apply below_drew1 | refine below_set ?_ GE174.out) | exact HB.out)⟩⟩
                  · rw [if_neg c17] at H
                    exact absurd H (by simp)
                · rw [if_neg c16] at H
                  exact absurd H (by simp)
              · replace c15 := Bool.eq_false_iff.mpr c15
                subst c15
                have H1 : (http_ParseResponse.j1 kj7 a0 (a0.extract 9 a0.size) 0) = some (r1, r2, r3, r4, r5) := by rw [if_neg (show ¬ (false = true) by decide)] at H; exact H
                clear H
                have H := H1
                clear H1
                have H' := Aside0.mk H
                clear H
                go_wp2
                go_meet
                case rel => exact ⟨_, (0), (by first | rfl | (simp; done) | (simp [*]; done)), H', ⟨by have := HJ7.out; first | omega | exact Nat.le_refl _⟩, ⟨by (with_reducible repeat (first | refine blk_drewN ?_ _ | refine blk_drew ?_ | refine blk_alloc ?_ _)); exact BK174.out⟩, ⟨by repeat (first | (with_reducible first | exact HB.out | apply below_alloc | apply pw_below_drewN | apply below_drew1 | refine below_set ?_ GE174.out) | exact HB.out)⟩⟩
            case rest =>
              clear HC14
              try clear c1
              try clear c2
              try clear c2b0
              try clear c2b1
              try clear p2
              try clear c3
              try clear c5
              try clear c6
              try clear c7
              try clear c7b0
              try clear c7b1
              try clear c10
              try clear c10b0
              try clear c10b1
              try clear c11
              try clear c11b0
              try clear c11b1
              try clear c12
              try clear c12b0
              try clear c12b1
              try clear c15
              try clear c16
              try clear c16b0
              try clear c16b1
              try clear c17
              try clear c17b0
              try clear c17b1
              try clear hcz4_0
              try clear hcz4_1
              try clear hcz4_2
              try clear hfz4_0
              try clear hfz4_1
              try clear hfz4_2
              try clear p2
              obtain ⟨kq, x6_13, rfl, HA, HJ13, BK174, HB⟩ := hcut
              cases kq with
              | zero => exact absurd HA.out (by simp [http_ParseResponse.j1])
              | succ kj13 =>
                have H := HA.out
                clear HA
                simp only [http_ParseResponse.j1] at H
                replace H := Option.bind_eq_some_iff.mp H
                obtain ⟨t179, A200, H⟩ := H
                replace H : (if t179.size + 1 ≤ 9223372036854775807 then ((http_Reason.f x6_13).bind fun t180 => (if (t179 ++ (⟨#[32]⟩ : ByteArray)).size + t180.size ≤ 9223372036854775807 then (if ((t179 ++ (⟨#[32]⟩ : ByteArray)) ++ t180).size + 2 ≤ 9223372036854775807 then (if x6_13 < 100 then (http_ParseResponse.j2 kj13 a0 x6_13 (((t179 ++ (⟨#[32]⟩ : ByteArray)) ++ t180) ++ (⟨#[13, 10]⟩ : ByteArray)) true) else (if x6_13 > 599 then (http_ParseResponse.j2 kj13 a0 x6_13 (((t179 ++ (⟨#[32]⟩ : ByteArray)) ++ t180) ++ (⟨#[13, 10]⟩ : ByteArray)) true) else ((strings_HasPrefix.f (a0.extract 9 a0.size) (((t179 ++ (⟨#[32]⟩ : ByteArray)) ++ t180) ++ (⟨#[13, 10]⟩ : ByteArray))).bind fun t181 => (http_ParseResponse.j2 kj13 a0 x6_13 (((t179 ++ (⟨#[32]⟩ : ByteArray)) ++ t180) ++ (⟨#[13, 10]⟩ : ByteArray)) (!t181))))) else (none)) else (none))) else (none)) = some (r1, r2, r3, r4, r5) := H
                have A20 := Aside0.mk A200
                clear A200
                by_cases c21 : t179.size + 1 ≤ 9223372036854775807
                · rw [if_pos c21] at H
                  have c21b0 := eq_true c21
                  have c21b1 : decide (t179.size + 1 ≤ 9223372036854775807) = true := decide_eq_true c21
                  try have c21b2 : (9223372036854775807 < t179.size + 1) = False := eq_false (Nat.not_lt.2 c21)
                  replace H := Option.bind_eq_some_iff.mp H
                  obtain ⟨t180, A220, H⟩ := H
                  replace H : (if (t179 ++ (⟨#[32]⟩ : ByteArray)).size + t180.size ≤ 9223372036854775807 then (if ((t179 ++ (⟨#[32]⟩ : ByteArray)) ++ t180).size + 2 ≤ 9223372036854775807 then (if x6_13 < 100 then (http_ParseResponse.j2 kj13 a0 x6_13 (((t179 ++ (⟨#[32]⟩ : ByteArray)) ++ t180) ++ (⟨#[13, 10]⟩ : ByteArray)) true) else (if x6_13 > 599 then (http_ParseResponse.j2 kj13 a0 x6_13 (((t179 ++ (⟨#[32]⟩ : ByteArray)) ++ t180) ++ (⟨#[13, 10]⟩ : ByteArray)) true) else ((strings_HasPrefix.f (a0.extract 9 a0.size) (((t179 ++ (⟨#[32]⟩ : ByteArray)) ++ t180) ++ (⟨#[13, 10]⟩ : ByteArray))).bind fun t181 => (http_ParseResponse.j2 kj13 a0 x6_13 (((t179 ++ (⟨#[32]⟩ : ByteArray)) ++ t180) ++ (⟨#[13, 10]⟩ : ByteArray)) (!t181))))) else (none)) else (none)) = some (r1, r2, r3, r4, r5) := H
                  have A22 := Aside0.mk A220
                  clear A220
                  by_cases c23 : (t179 ++ (⟨#[32]⟩ : ByteArray)).size + t180.size ≤ 9223372036854775807
                  · rw [if_pos c23] at H
                    have c23b0 := eq_true c23
                    have c23b1 : decide ((t179 ++ (⟨#[32]⟩ : ByteArray)).size + t180.size ≤ 9223372036854775807) = true := decide_eq_true c23
                    try have c23b2 : (9223372036854775807 < (t179 ++ (⟨#[32]⟩ : ByteArray)).size + t180.size) = False := eq_false (Nat.not_lt.2 c23)
                    try (have c23s_ : t179.size + 1 + t180.size ≤ 9223372036854775807 := (by have h := c23; simp only [ByteArray.size_append] at h; exact h))
                    try (have c23t_ : (9223372036854775807 < t179.size + 1 + t180.size) = False := eq_false (Nat.not_lt.2 c23s_))
                    by_cases c24 : ((t179 ++ (⟨#[32]⟩ : ByteArray)) ++ t180).size + 2 ≤ 9223372036854775807
                    · rw [if_pos c24] at H
                      have c24b0 := eq_true c24
                      have c24b1 : decide (((t179 ++ (⟨#[32]⟩ : ByteArray)) ++ t180).size + 2 ≤ 9223372036854775807) = true := decide_eq_true c24
                      try have c24b2 : (9223372036854775807 < ((t179 ++ (⟨#[32]⟩ : ByteArray)) ++ t180).size + 2) = False := eq_false (Nat.not_lt.2 c24)
                      try (have c24s_ : t179.size + 1 + t180.size + 2 ≤ 9223372036854775807 := (by have h := c24; simp only [ByteArray.size_append] at h; exact h))
                      try (have c24t_ : (9223372036854775807 < t179.size + 1 + t180.size + 2) = False := eq_false (Nat.not_lt.2 c24s_))
                      have HC25 := Aside0.mk H
                      clear H
                      go_upto_region 10 with (first | ((with_reducible refine gate_callee (f := 45) rfl ?_); refine goesL_ (some 36) rfl rfl Tryz.func45 (by kernel_rfl) rfl #[.int .i64 x6_13] rfl (by (try simp only [List.map_toArray, List.map_cons, List.map_nil]); first | done | rfl | (simp only [List.length_drop, List.length_take]; rfl)) ?_; (with_reducible refine (strconv_Itoa.calls x6_13 t179 _ ?side1 A20.out).mono ?_); (case side1 => exact GL_below HG.out (by repeat (first | (with_reducible first | exact HB.out | apply below_alloc | apply pw_below_drewN | apply below_drew1 | refine below_set ?_ GE174.out) | exact HB.out))); rintro e w26 ⟨rfl, hb⟩; refine ⟨_, rfl, ?_⟩; have n0_ := Aside0.mk (blk_below (g := gb174) (o := .cells #[.int .i64 0, .slice none 0 0, .string (⟨#[]⟩ : ByteArray)] 39 (0, 0)) (by (with_reducible repeat (first | refine blk_drewN ?_ _ | refine blk_drew ?_ | refine blk_alloc ?_ _)); exact BK174.out) hb); have n1_ := Aside0.mk (below_step (by repeat (first | (with_reducible first | exact HB.out | apply below_alloc | apply pw_below_drewN | apply below_drew1 | refine below_set ?_ GE174.out) | exact HB.out)) hb); clear BK174; clear HB; have BK174 := n0_; have HB := n1_; clear n0_ n1_; (try clear hb); (try clear hb2); (try clear hk); (try clear hi)) | ((with_reducible refine gate_callee (f := 28) rfl ?_); refine goesL_ (some 39) rfl rfl Tryz.func28 (by kernel_rfl) rfl #[.int .i64 x6_13] rfl (by (try simp only [List.map_toArray, List.map_cons, List.map_nil]); first | done | rfl | (simp only [List.length_drop, List.length_take]; rfl)) ?_; (with_reducible refine (http_Reason.calls x6_13 t180 _ A22.out).mono ?_); rintro e w' ⟨rfl, ⟨nd, rfl⟩⟩; refine ⟨_, rfl, ?_⟩))
                      (try simp only [Act.put, List.setIfInBounds_toArray, List.set_cons_zero, List.set_cons_succ])
                      go_cut [53] (fun v53 wc => ∃ (kq : Nat) (x53_24 : Bool), v53 = .bool x53_24 ∧ Aside0 (http_ParseResponse.j2 kq a0 x6_13 (((t179 ++ (⟨#[32]⟩ : ByteArray)) ++ t180) ++ (⟨#[13, 10]⟩ : ByteArray)) x53_24 = some (r1, r2, r3, r4, r5)) ∧ Aside0 (kq ≤ kj13) ∧ Aside0 (wc.heap[gb174]? = some (.cells #[.int .i64 0, (.slice none 0 0), .string (⟨#[]⟩ : ByteArray)] 39 (0, 0))) ∧ Aside0 (Below w.heap.size w wc))
                      case first =>
                        have H := HC25.out
                        clear HC25
                        by_cases c27 : x6_13 < 100
                        · rw [if_pos c27] at H
                          have c27b0 : decide (x6_13 < 100) = true := decide_eq_true c27
                          clear c27
                          (first | rw [c27b0] | (simp only [i64_w, i32_w]; rw [c27b0]) | skip)
                          have H' := Aside0.mk H
                          clear H
                          go_wp2
                          go_meet
                          case rel => exact ⟨_, (true), (by first | rfl | (simp; done) | (simp [*]; done)), H', ⟨by have := HJ7.out; have := HJ13.out; first | omega | exact Nat.le_refl _⟩, ⟨by (with_reducible repeat (first | refine blk_drewN ?_ _ | refine blk_drew ?_ | refine blk_alloc ?_ _)); exact BK174.out⟩, ⟨by repeat (first | (with_reducible first | exact HB.out | apply below_alloc | apply pw_below_drewN | apply below_drew1 | refine below_set ?_ GE174.out) | exact HB.out)⟩⟩
                        · rw [if_neg c27] at H
                          have c27b0 : decide (x6_13 < 100) = false := decide_eq_false c27
                          clear c27
                          (first | rw [c27b0] | (simp only [i64_w, i32_w]; rw [c27b0]) | skip)
                          by_cases c28 : x6_13 > 599
                          · rw [if_pos c28] at H
                            have c28b0 : decide (599 < x6_13) = true := decide_eq_true c28
                            clear c28
                            have H' := Aside0.mk H
                            clear H
                            go_wp2
                            go_meet
                            case rel => exact ⟨_, (true), (by first | rfl | (simp; done) | (simp [*]; done)), H', ⟨by have := HJ7.out; have := HJ13.out; first | omega | exact Nat.le_refl _⟩, ⟨by (with_reducible repeat (first | refine blk_drewN ?_ _ | refine blk_drew ?_ | refine blk_alloc ?_ _)); exact BK174.out⟩, ⟨by repeat (first | (with_reducible first | exact HB.out | apply below_alloc | apply pw_below_drewN | apply below_drew1 | refine below_set ?_ GE174.out) | exact HB.out)⟩⟩
                          · rw [if_neg c28] at H
                            have c28b0 : decide (599 < x6_13) = false := decide_eq_false c28
                            clear c28
                            replace H := Option.bind_eq_some_iff.mp H
                            obtain ⟨t181, A290, H⟩ := H
                            replace H : (http_ParseResponse.j2 kj13 a0 x6_13 (((t179 ++ (⟨#[32]⟩ : ByteArray)) ++ t180) ++ (⟨#[13, 10]⟩ : ByteArray)) (!t181)) = some (r1, r2, r3, r4, r5) := H
                            have A29 := Aside0.mk A290
                            clear A290
                            have H' := Aside0.mk H
                            clear H
                            go_wp2_with (first | (go_at_call 38; (with_reducible refine (strings_HasPrefix.calls (a0.extract 9 a0.size) (((t179 ++ (⟨#[32]⟩ : ByteArray)) ++ t180) ++ (⟨#[13, 10]⟩ : ByteArray)) t181 _ A29.out).mono ?_); rintro e w' ⟨rfl, ⟨nd, rfl⟩⟩))
                            go_meet
                            case rel => exact ⟨_, (!t181), (by first | rfl | (simp; done) | (simp [*]; done)), H', ⟨by have := HJ7.out; have := HJ13.out; first | omega | exact Nat.le_refl _⟩, ⟨by (with_reducible repeat (first | refine blk_drewN ?_ _ | refine blk_drew ?_ | refine blk_alloc ?_ _)); exact BK174.out⟩, ⟨by repeat (first | (with_reducible first | exact HB.out | apply below_alloc | apply pw_below_drewN | apply below_drew1 | refine below_set ?_ GE174.out) | exact HB.out)⟩⟩
                      case rest =>
                        clear HC25
                        try clear c1
                        try clear c2
                        try clear c2b0
                        try clear c2b1
                        try clear p2
                        try clear c3
                        try clear c4
                        try clear c5
                        try clear c6
                        try clear c7
                        try clear c7b0
                        try clear c7b1
                        try clear c10
                        try clear c10b0
                        try clear c10b1
                        try clear c11
                        try clear c11b0
                        try clear c11b1
                        try clear c12
                        try clear c12b0
                        try clear c12b1
                        try clear c15
                        try clear c16
                        try clear c16b0
                        try clear c16b1
                        try clear c17
                        try clear c17b0
                        try clear c17b1
                        try clear c21
                        try clear c21b0
                        try clear c21b1
                        try clear c21b2
                        try clear c23
                        try clear c23b0
                        try clear c23b1
                        try clear c23b2
                        try clear c24
                        try clear c24b0
                        try clear c24b1
                        try clear c24b2
                        try clear c27
                        try clear c27b0
                        try clear c28
                        try clear c28b0
                        try clear hcz4_0
                        try clear hcz4_1
                        try clear hcz4_2
                        try clear hfz4_0
                        try clear hfz4_1
                        try clear hfz4_2
                        try clear p2
                        obtain ⟨kq, x53_24, rfl, HA, HJ24, BK174, HB⟩ := hcut
                        cases kq with
                        | zero => exact absurd HA.out (by simp [http_ParseResponse.j2])
                        | succ kj24 =>
                          have H := HA.out
                          clear HA
                          simp only [http_ParseResponse.j2] at H
                          by_cases c30 : x53_24 = true
                          · subst c30
                            have H1 : (some (0, ([] : List (S80)), (⟨#[]⟩ : ByteArray), 156, 9)) = some (r1, r2, r3, r4, r5) := by rw [if_pos rfl] at H; exact H
                            clear H
                            have H := H1
                            clear H1
                            simp only [Option.some.injEq, Prod.mk.injEq] at H
                            obtain ⟨rfl, rfl, rfl, rfl, rfl⟩ := H
                            have hcz31_0 : wc.cell? ⟨gb174, 0, none⟩ = some (.int .i64 0) := (blk_cell BK174.out 0).trans rfl
                            have hcz31_1 : wc.cell? ⟨gb174, 1, none⟩ = some (.slice none 0 0) := (blk_cell BK174.out 1).trans rfl
                            have hcz31_2 : wc.cell? ⟨gb174, 2, none⟩ = some (.string (⟨#[]⟩ : ByteArray)) := (blk_cell BK174.out 2).trans rfl
                            have hfz31_0 := blk_frozen BK174.out 0
                            have hfz31_1 := blk_frozen BK174.out 1
                            have hfz31_2 := blk_frozen BK174.out 2
                            go_wp2
                            refine bodyPost_ret (results_ctt rfl _ _ gb174 39 #[.int .i64 0, .slice none 0 0, .string (⟨#[]⟩ : ByteArray)] (0, 0) _ rfl (by (with_reducible repeat (first | refine blk_drewN ?_ _ | refine blk_drew ?_ | refine blk_alloc ?_ _)); refine blk_put (cs := #[.int .i64 0, .slice none 0 0, .string (⟨#[]⟩ : ByteArray)]) ?_ 2 _ rfl; (with_reducible repeat (first | refine blk_drewN ?_ _ | refine blk_drew ?_ | refine blk_alloc ?_ _)); refine blk_put (cs := #[.int .i64 0, .slice none 0 0, .string (⟨#[]⟩ : ByteArray)]) ?_ 1 _ rfl; (with_reducible repeat (first | refine blk_drewN ?_ _ | refine blk_drew ?_ | refine blk_alloc ?_ _)); refine blk_put (cs := #[.int .i64 0, .slice none 0 0, .string (⟨#[]⟩ : ByteArray)]) ?_ 0 _ rfl; (with_reducible repeat (first | refine blk_drewN ?_ _ | refine blk_drew ?_ | refine blk_alloc ?_ _)); exact BK174.out) Tryz.underlying39 rfl (by kernel_rfl)) rfl ?_
                            exact ⟨_, by first | rfl | (simp [errW_none, errW_some] <;> rfl) | (simp [*, errW_none, errW_some] <;> rfl), by first | exact Kd.R_nil _ _ _ _ _ | exact Kd.N_nil _ _ _ _ _ | exact Kd.V_nil _ _ _ _ _ | exact Kd.Q_nil _ _ _ _ _ | exact Kd.S_nil _ _ _ _ _, by repeat (first | (with_reducible first | exact HB.out | apply below_alloc | apply pw_below_drewN | apply below_drew1 | refine below_set ?_ GE174.out) | exact HB.out)⟩
                          · replace c30 := Bool.eq_false_iff.mpr c30
                            subst c30
                            have H1 : ((http_parseHead.f a0 (wrap64 (9 + ((((t179 ++ (⟨#[32]⟩ : ByteArray)) ++ t180) ++ (⟨#[13, 10]⟩ : ByteArray)).size : Int)))).bind fun bt182 => (if bt182.2.2.2.1 = 0 then (if 0 ≤ bt182.2.2.1 then (if bt182.2.2.1 ≤ (a0.size : Int) then (some (x6_13, bt182.1, a0.extract (bt182.2.2.1 : Int).toNat a0.size, 0, 0)) else (none)) else (none)) else (some (0, ([] : List (S80)), (⟨#[]⟩ : ByteArray), bt182.2.2.2.1, bt182.2.2.2.2)))) = some (r1, r2, r3, r4, r5) := by rw [if_neg (show ¬ (false = true) by decide)] at H; exact H
                            clear H
                            have H := H1
                            clear H1
                            replace H := Option.bind_eq_some_iff.mp H
                            obtain ⟨⟨t182, t185, t186, t187, t188⟩, A320, H⟩ := H
                            replace H : (if t187 = 0 then (if 0 ≤ t186 then (if t186 ≤ (a0.size : Int) then (some (x6_13, t182, a0.extract (t186 : Int).toNat a0.size, 0, 0)) else (none)) else (none)) else (some (0, ([] : List (S80)), (⟨#[]⟩ : ByteArray), t187, t188))) = some (r1, r2, r3, r4, r5) := H
                            have A32 := Aside0.mk A320
                            clear A320
                            by_cases c33 : t187 = 0
                            · rw [if_pos c33] at H
                              have c33b0 : (t187 == 0) = true := beq_iff_eq.mpr c33
                              have c33b1 : (t187 != 0) = false := bne_eq_false_iff_eq.mpr c33
                              clear c33
                              by_cases c34 : 0 ≤ t186
                              · rw [if_pos c34] at H
                                have c34b0 := eq_true c34
                                have c34b1 : decide (0 ≤ t186) = true := decide_eq_true c34
                                clear c34
                                by_cases c35 : t186 ≤ (a0.size : Int)
                                · rw [if_pos c35] at H
                                  have c35b0 := eq_true c35
                                  have c35b1 : decide (t186 ≤ (a0.size : Int)) = true := decide_eq_true c35
                                  clear c35
                                  simp only [Option.some.injEq, Prod.mk.injEq] at H
                                  obtain ⟨rfl, rfl, rfl, rfl, rfl⟩ := H
                                  try go_wp2_with (first | ((with_reducible refine gate_callee (f := 39) rfl ?_); refine goesL_ (some 60) rfl rfl Tryz.func39 (by kernel_rfl) rfl #[.string a0, .int .i64 (wrap64 (9 + ((((t179 ++ (⟨#[32]⟩ : ByteArray)) ++ t180) ++ (⟨#[13, 10]⟩ : ByteArray)).size : Int)))] rfl (by (try simp only [List.map_toArray, List.map_cons, List.map_nil]); first | done | rfl | (simp only [ByteArray.size_append]; rfl) | (simp only [List.length_drop, List.length_take]; rfl)) ?_; (with_reducible refine (http_parseHead.calls a0 (wrap64 (9 + ((((t179 ++ (⟨#[32]⟩ : ByteArray)) ++ t180) ++ (⟨#[13, 10]⟩ : ByteArray)).size : Int))) t182 t185 t186 t187 t188 _ ?side1 A32.out).mono ?_); (case side1 => exact GL_below HG.out (by repeat (first | (with_reducible first | exact HB.out | apply below_alloc | apply pw_below_drewN | apply below_drew1 | refine below_set ?_ GE174.out) | exact HB.out))); rintro e w36 ⟨v183, rfl, ho0, hb⟩; refine ⟨_, rfl, ?_⟩; have n0_ := Aside0.mk (Kd.R_lower ho0 (below_size (by repeat (first | (with_reducible first | exact HB.out | apply below_alloc | apply pw_below_drewN | apply below_drew1 | refine below_set ?_ GE174.out) | exact HB.out)))); have n1_ := Aside0.mk (blk_below (g := gb174) (o := .cells #[.int .i64 0, .slice none 0 0, .string (⟨#[]⟩ : ByteArray)] 39 (0, 0)) (by (with_reducible repeat (first | refine blk_drewN ?_ _ | refine blk_drew ?_ | refine blk_alloc ?_ _)); exact BK174.out) hb); have n2_ := Aside0.mk (below_step (by repeat (first | (with_reducible first | exact HB.out | apply below_alloc | apply pw_below_drewN | apply below_drew1 | refine below_set ?_ GE174.out) | exact HB.out)) hb); clear BK174; clear HB; have HO184 := n0_; have BK174 := n1_; have HB := n2_; clear n0_ n1_ n2_; (try clear hb); (try clear hb2); (try clear hk); (try clear hi); (try clear ho0)) | ((with_reducible refine gate_dst (N := 8) rfl ?_); refine box_event ?hg (N := 8) ?hd (cs := #[.slice none 0 0, .int .i64 0, .int .i64 0]) (t := 73) ?hr ?_; (case hd => rfl); (case hg => rfl); (case hr => first | (go_simp; done) | (go_simp; rfl)); intro gb189 hg w37 hbox hb; have n0_ := Aside0.mk (Kd.R_below (by (with_reducible repeat (first | apply Kd.R_alloc | apply Kd.R_drewN | apply Kd.R_drew)); exact HO184.out) hb); have n1_ := Aside0.mk (blk_below (g := gb174) (o := .cells #[.int .i64 0, .slice none 0 0, .string (⟨#[]⟩ : ByteArray)] 39 (0, 0)) (by (with_reducible repeat (first | refine blk_drewN ?_ _ | refine blk_drew ?_ | refine blk_alloc ?_ _)); exact BK174.out) hb); have n2_ := Aside0.mk (below_step (by repeat (first | (with_reducible first | exact HB.out | apply below_alloc | apply pw_below_drewN | apply below_drew1 | refine below_set ?_ GE174.out) | exact HB.out)) hb); have n3_ := Aside0.mk (hbox); have n4_ := Aside0.mk ((by rw [hg]; exact (below_size (by repeat (first | (with_reducible first | exact HB.out | apply below_alloc | apply pw_below_drewN | apply below_drew1 | refine below_set ?_ GE174.out) | exact HB.out))) : w.heap.size ≤ gb189)); have n5_ := Aside0.mk ((by rw [hg]; exact (below_size (by repeat (first | (with_reducible first | exact HB.out | apply below_alloc | apply pw_below_drewN | apply below_drew1 | refine below_set ?_ GE174.out) | exact HB.out))) : w.heap.size ≤ gb189)); have n6_ := Aside0.mk ((by rw [hg]; exact Nat.ne_of_lt (blk_lt (g := gb174) (o := .cells #[.int .i64 0, .slice none 0 0, .string (⟨#[]⟩ : ByteArray)] 39 (0, 0)) (by (with_reducible repeat (first | refine blk_drewN ?_ _ | refine blk_drew ?_ | refine blk_alloc ?_ _)); exact BK174.out)) : gb174 ≠ gb189)); have n7_ := Aside0.mk ((by rw [hg]; exact Nat.ne_of_gt (blk_lt (g := gb174) (o := .cells #[.int .i64 0, .slice none 0 0, .string (⟨#[]⟩ : ByteArray)] 39 (0, 0)) (by (with_reducible repeat (first | refine blk_drewN ?_ _ | refine blk_drew ?_ | refine blk_alloc ?_ _)); exact BK174.out)) : gb189 ≠ gb174)); clear HO184; clear BK174; clear HB; have HO184 := n0_; have BK174 := n1_; have HB := n2_; have BK189 := n3_; have GW189 := n4_; have GE189 := n5_; have NB174_189 := n6_; have NB189_174 := n7_; clear n0_ n1_ n2_ n3_ n4_ n5_ n6_ n7_; clear hb hbox hg; obtain ⟨Ao38, co38, eo38⟩ := Kd.R_slice HO184.out; subst eo38; have hnb39 := NB189_174.out; have hnc39 := NB174_189.out; have hcz40_0 : w37.cell? ⟨gb189, 0, none⟩ = some (.slice none 0 0) := (blk_cell BK189.out 0).trans rfl; have hcz40_1 : w37.cell? ⟨gb189, 1, none⟩ = some (.int .i64 0) := (blk_cell BK189.out 1).trans rfl; have hcz40_2 : w37.cell? ⟨gb189, 2, none⟩ = some (.int .i64 0) := (blk_cell BK189.out 2).trans rfl; have hfz40_0 := blk_frozen BK189.out 0; have hfz40_1 := blk_frozen BK189.out 1; have hfz40_2 := blk_frozen BK189.out 2))
                                  have n0_ : Aside0 (Kd.R k80 80 (((w37.setCell ⟨gb189, 0, none⟩ (.slice Ao38 t182.length co38)).setCell ⟨gb189, 1, none⟩ (.int .i64 t185)).setCell ⟨gb189, 2, none⟩ (.int .i64 t186)) w.heap.size (fun _ => True) (.slice Ao38 t182.length co38) t182) := ⟨by (with_reducible repeat (first | apply Kd.R_alloc | apply Kd.R_drewN | apply Kd.R_drew)); exact Kd.R_mono (Kd.R_far (p := ⟨gb189, 2, none⟩) (Kd.R_far (p := ⟨gb189, 1, none⟩) (Kd.R_far (p := ⟨gb189, 0, none⟩) (Kd.R_types HO184.out BK189.out (by decide)) (fun _ hk => hk.2) (.slice Ao38 t182.length co38)) (fun _ hk => hk.2) (.int .i64 t185)) (fun _ hk => hk.2) (.int .i64 t186)) (fun _ hk => trivial)⟩
                                  have n1_ : Aside0 ((((w37.setCell ⟨gb189, 0, none⟩ (.slice Ao38 t182.length co38)).setCell ⟨gb189, 1, none⟩ (.int .i64 t185)).setCell ⟨gb189, 2, none⟩ (.int .i64 t186)).heap[gb174]? = some (.cells #[.int .i64 0, .slice none 0 0, .string (⟨#[]⟩ : ByteArray)] 39 (0, 0))) := ⟨by (with_reducible repeat (first | refine blk_drewN ?_ _ | refine blk_drew ?_ | refine blk_alloc ?_ _)); refine blk_far ?_ NB174_189.out _; (with_reducible repeat (first | refine blk_drewN ?_ _ | refine blk_drew ?_ | refine blk_alloc ?_ _)); refine blk_far ?_ NB174_189.out _; (with_reducible repeat (first | refine blk_drewN ?_ _ | refine blk_drew ?_ | refine blk_alloc ?_ _)); refine blk_far ?_ NB174_189.out _; (with_reducible repeat (first | refine blk_drewN ?_ _ | refine blk_drew ?_ | refine blk_alloc ?_ _)); exact BK174.out⟩
                                  have n2_ : Aside0 ((((w37.setCell ⟨gb189, 0, none⟩ (.slice Ao38 t182.length co38)).setCell ⟨gb189, 1, none⟩ (.int .i64 t185)).setCell ⟨gb189, 2, none⟩ (.int .i64 t186)).heap[gb189]? = some (.cells #[.slice Ao38 t182.length co38, .int .i64 t185, .int .i64 t186] 73 (0, 0))) := ⟨by (with_reducible repeat (first | refine blk_drewN ?_ _ | refine blk_drew ?_ | refine blk_alloc ?_ _)); refine blk_put (cs := #[.slice Ao38 t182.length co38, .int .i64 t185, .int .i64 0]) ?_ 2 _ rfl; (with_reducible repeat (first | refine blk_drewN ?_ _ | refine blk_drew ?_ | refine blk_alloc ?_ _)); refine blk_put (cs := #[.slice Ao38 t182.length co38, .int .i64 0, .int .i64 0]) ?_ 1 _ rfl; (with_reducible repeat (first | refine blk_drewN ?_ _ | refine blk_drew ?_ | refine blk_alloc ?_ _)); refine blk_put (cs := #[.slice none 0 0, .int .i64 0, .int .i64 0]) ?_ 0 _ rfl; (with_reducible repeat (first | refine blk_drewN ?_ _ | refine blk_drew ?_ | refine blk_alloc ?_ _)); exact BK189.out⟩
                                  have n3_ : Aside0 (Below w.heap.size w (((w37.setCell ⟨gb189, 0, none⟩ (.slice Ao38 t182.length co38)).setCell ⟨gb189, 1, none⟩ (.int .i64 t185)).setCell ⟨gb189, 2, none⟩ (.int .i64 t186))) := ⟨by repeat (first | (with_reducible first | exact HB.out | apply below_alloc | apply pw_below_drewN | apply below_drew1 | refine below_set ?_ GE174.out | refine below_set ?_ GE189.out) | exact HB.out)⟩
                                  (try clear HO184)
                                  (try clear BK174)
                                  (try clear BK189)
                                  (try clear HB)
                                  generalize (((w37.setCell ⟨gb189, 0, none⟩ (.slice Ao38 t182.length co38)).setCell ⟨gb189, 1, none⟩ (.int .i64 t185)).setCell ⟨gb189, 2, none⟩ (.int .i64 t186)) = w41 at n0_ n1_ n2_ n3_ ⊢
                                  have HO184 := n0_
                                  have BK174 := n1_
                                  have BK189 := n2_
                                  have HB := n3_
                                  clear n0_ n1_ n2_ n3_
                                  have n0_ := Aside0.mk (Kd.R_drew HO184.out)
                                  have n1_ := Aside0.mk (blk_drew BK174.out)
                                  have n2_ := Aside0.mk (blk_drew BK189.out)
                                  have n3_ := Aside0.mk (below_drew1 HB.out)
                                  clear HO184
                                  clear BK174
                                  clear BK189
                                  clear HB
                                  have HO184 := n0_
                                  have BK174 := n1_
                                  have BK189 := n2_
                                  have HB := n3_
                                  clear n0_ n1_ n2_ n3_
                                  refine start_ (n := 11) (S := fun w' => w'.cell? ⟨gb189, 0, none⟩ = some (.slice Ao38 t182.length co38) ∧ w'.cell? ⟨gb189, 1, none⟩ = some (.int .i64 t185) ∧ w'.cell? ⟨gb189, 2, none⟩ = some (.int .i64 t186)) (ds := []) #[false, false, false, false, false, false, false, false, false, false, false] (by kernel_rfl) rfl rfl ⟨(blk_cell BK189.out 0).trans rfl, (blk_cell BK189.out 1).trans rfl, (blk_cell BK189.out 2).trans rfl⟩ (fun hHeld => ?_); refine with_tabW http_ParseResponse.tab15 http_ParseResponse.bits15 (fun HT_ HW_ => ?_)
                                  generalize w41.drew = w42 at HO184 BK174 BK189 HB hHeld ⊢
                                  refine pure_ (i := 0) (N := some 69) (v := ?_) (a' := ?_) #[true, false, false, false, false, false, false, false, false, false, false] rfl rfl (any_of HT_.out (by kernel_rfl)) (fun _ _ _ h => h) (Or.inl ⟨by rfl, ?_⟩) ?_ ?_
                                  rotate_left
                                  · intro w'
                                    go_simp
                                    with_reducible rfl
                                  rotate_left
                                  · simp only [Act.put, List.setIfInBounds_toArray, List.set_cons_zero, List.set_cons_succ, i64_w, i32_w]
                                    rfl
                                  refine pure_ (i := 1) (N := some 70) (v := ?_) (a' := ?_) #[true, true, false, false, false, false, false, false, false, false, false] rfl rfl (any_of HT_.out (by kernel_rfl)) (fun _ _ _ h => h) (Or.inl ⟨by rfl, ?_⟩) ?_ ?_
                                  rotate_left
                                  · intro w'
                                    go_simp
                                    with_reducible rfl
                                  rotate_left
                                  · simp only [Act.put, List.setIfInBounds_toArray, List.set_cons_zero, List.set_cons_succ, i64_w, i32_w]
                                    rfl
                                  refine pure_ (i := 3) (N := some 72) (v := ?_) (a' := ?_) #[true, true, false, true, false, false, false, false, false, false, false] rfl rfl (any_of HT_.out (by kernel_rfl)) (fun _ _ _ h => h) (Or.inl ⟨by rfl, ?_⟩) ?_ ?_
                                  rotate_left
                                  · intro w'
                                    go_simp
                                    with_reducible rfl
                                  rotate_left
                                  · simp only [Act.put, List.setIfInBounds_toArray, List.set_cons_zero, List.set_cons_succ, i64_w, i32_w]
                                    rfl
                                  refine pure_ (i := 4) (N := some 73) (v := ?_) (a' := ?_) #[true, true, false, true, true, false, false, false, false, false, false] rfl rfl (any_of HT_.out (by kernel_rfl)) (fun _ _ _ h => h) (Or.inl ⟨by rfl, ?_⟩) ?_ ?_
                                  rotate_left
                                  · intro w'
                                    go_simp
                                    with_reducible rfl
                                  rotate_left
                                  · simp only [Act.put, List.setIfInBounds_toArray, List.set_cons_zero, List.set_cons_succ, i64_w, i32_w]
                                    rfl
                                  refine take_ (i := 2) (N := some 71) (v := ?_) (a' := ?_) #[true, true, true, true, true, false, false, false, false, false, false] rfl rfl (take_ofW HT_.out HW_.out (by kernel_rfl)) (fun _ _ _ h => h) (Or.inl ⟨by rfl, ?_⟩) hHeld ?_ ?_
                                  rotate_left
                                  · rintro w' ⟨s0, s1, s2⟩
                                    go_simp
                                    with_reducible rfl
                                  rotate_left
                                  · simp only [Act.put, List.setIfInBounds_toArray, List.set_cons_zero, List.set_cons_succ, i64_w, i32_w]
                                    rfl
                                  refine take_ (i := 5) (N := some 74) (v := ?_) (a' := ?_) #[true, true, true, true, true, true, false, false, false, false, false] rfl rfl (take_ofW HT_.out HW_.out (by kernel_rfl)) (fun _ _ _ h => h) (Or.inl ⟨by rfl, ?_⟩) hHeld ?_ ?_
                                  rotate_left
                                  · rintro w' ⟨s0, s1, s2⟩
                                    go_simp
                                    with_reducible rfl
                                  rotate_left
                                  · simp only [Act.put, List.setIfInBounds_toArray, List.set_cons_zero, List.set_cons_succ, i64_w, i32_w]
                                    rfl
                                  refine pure_ (i := 6) (N := some 75) (v := ?_) (a' := ?_) #[true, true, true, true, true, true, true, false, false, false, false] rfl rfl (any_of HT_.out (by kernel_rfl)) (fun _ _ _ h => h) (Or.inl ⟨by rfl, ?_⟩) ?_ ?_
                                  rotate_left
                                  · intro w'
                                    go_simp
                                    with_reducible rfl
                                  rotate_left
                                  · simp only [Act.put, List.setIfInBounds_toArray, List.set_cons_zero, List.set_cons_succ, i64_w, i32_w]
                                    rfl
                                  refine pure_ (i := 7) (N := some 76) (v := ?_) (a' := ?_) #[true, true, true, true, true, true, true, true, false, false, false] rfl rfl (any_of HT_.out (by kernel_rfl)) (fun _ _ _ h => h) (Or.inl ⟨by rfl, ?_⟩) ?_ ?_
                                  rotate_left
                                  · intro w'
                                    go_simp
                                    with_reducible rfl
                                  rotate_left
                                  · simp only [Act.put, List.setIfInBounds_toArray, List.set_cons_zero, List.set_cons_succ, i64_w, i32_w]
                                    rfl
                                  refine one_ (i := 8) (N := none) #[true, true, true, true, true, true, true, true, true, false, false] rfl rfl (one_of HT_.out (by kernel_rfl)) (by decide) (fun K hK => ?_)
                                  have hs43 : w42.cell? ⟨gb174, 0, none⟩ = some (.int .i64 0) := (blk_cell BK174.out 0).trans rfl
                                  have hfs43 := blk_frozen BK174.out 0
                                  have hns43_1 := NB189_174.out
                                  have hms43_1 := NB174_189.out
                                  have hs44 : w42.cell? ⟨gb174, 1, none⟩ = some (.slice none 0 0) := (blk_cell BK174.out 1).trans rfl
                                  have hfs44 := blk_frozen BK174.out 1
                                  have hns44_1 := NB189_174.out
                                  have hms44_1 := NB174_189.out
                                  have hs45 : w42.cell? ⟨gb174, 2, none⟩ = some (.string (⟨#[]⟩ : ByteArray)) := (blk_cell BK174.out 2).trans rfl
                                  have hfs45 := blk_frozen BK174.out 2
                                  have hns45_1 := NB189_174.out
                                  have hms45_1 := NB174_189.out
                                  refine skip_ (w1 := ?_) (by rfl) rfl ?_ ?_
                                  rotate_left
                                  · go_simp
                                    rfl
                                  refine hK.out _ _ ⟨((cell_far (p := ⟨gb174, _, none⟩) NB189_174.out _).trans (((cell_far (p := ⟨gb174, _, none⟩) NB189_174.out _).trans (((cell_far (p := ⟨gb174, _, none⟩) NB189_174.out _).trans (hHeld.1)))))), ((cell_far (p := ⟨gb174, _, none⟩) NB189_174.out _).trans (((cell_far (p := ⟨gb174, _, none⟩) NB189_174.out _).trans (((cell_far (p := ⟨gb174, _, none⟩) NB189_174.out _).trans (hHeld.2.1)))))), ((cell_far (p := ⟨gb174, _, none⟩) NB189_174.out _).trans (((cell_far (p := ⟨gb174, _, none⟩) NB189_174.out _).trans (((cell_far (p := ⟨gb174, _, none⟩) NB189_174.out _).trans (hHeld.2.2))))))⟩ (fun hHeld => ?_)
                                  clear hK K
                                  refine pure_ (i := 9) (N := some 3) (v := ?_) (a' := ?_) #[true, true, true, true, true, true, true, true, true, true, false] rfl rfl (any_of HT_.out (by kernel_rfl)) (fun _ _ _ h => h) (Or.inl ⟨by rfl, ?_⟩) ?_ ?_
                                  rotate_left
                                  · intro w'
                                    go_simp
                                    with_reducible rfl
                                  rotate_left
                                  · simp only [Act.put, List.setIfInBounds_toArray, List.set_cons_zero, List.set_cons_succ, i64_w, i32_w]
                                    rfl
                                  refine pure_ (i := 10) (N := some 4) (v := ?_) (a' := ?_) #[true, true, true, true, true, true, true, true, true, true, true] rfl rfl (any_of HT_.out (by kernel_rfl)) (fun _ _ _ h => h) (Or.inl ⟨by rfl, ?_⟩) ?_ ?_
                                  rotate_left
                                  · intro w'
                                    go_simp
                                    with_reducible rfl
                                  rotate_left
                                  · simp only [Act.put, List.setIfInBounds_toArray, List.set_cons_zero, List.set_cons_succ, i64_w, i32_w]
                                    rfl
                                  refine done_ (done_of HT_.out (by kernel_rfl)) ?_
                                  try go_wp2
                                  refine bodyPost_ret (results_ctt rfl _ _ gb174 39 #[.int .i64 x6_13, .slice Ao38 t182.length co38, .string (a0.extract (t186 : Int).toNat a0.size)] (0, 0) _ rfl (by (with_reducible repeat (first | refine blk_drewN ?_ _ | refine blk_drew ?_ | refine blk_alloc ?_ _)); refine blk_put (cs := #[.int .i64 x6_13, .slice Ao38 t182.length co38, .string (⟨#[]⟩ : ByteArray)]) ?_ 2 _ rfl; (with_reducible repeat (first | refine blk_drewN ?_ _ | refine blk_drew ?_ | refine blk_alloc ?_ _)); refine blk_put (cs := #[.int .i64 x6_13, .slice none 0 0, .string (⟨#[]⟩ : ByteArray)]) ?_ 1 _ rfl; (with_reducible repeat (first | refine blk_drewN ?_ _ | refine blk_drew ?_ | refine blk_alloc ?_ _)); refine blk_put (cs := #[.int .i64 0, .slice none 0 0, .string (⟨#[]⟩ : ByteArray)]) ?_ 0 _ rfl; (with_reducible repeat (first | refine blk_drewN ?_ _ | refine blk_drew ?_ | refine blk_alloc ?_ _)); exact BK174.out) Tryz.underlying39 rfl (by kernel_rfl)) rfl ?_
                                  exact ⟨_, by first | rfl | (simp [errW_none, errW_some] <;> rfl) | (simp [*, errW_none, errW_some] <;> rfl), by (with_reducible repeat (first | apply Kd.R_alloc | apply Kd.R_drewN | apply Kd.R_drew)); exact Kd.R_mono (Kd.R_far (p := ⟨gb174, 2, none⟩) (Kd.R_far (p := ⟨gb174, 1, none⟩) (Kd.R_far (p := ⟨gb174, 0, none⟩) (Kd.R_types HO184.out BK174.out (by decide)) (fun _ hk => hk.2) (.int .i64 x6_13)) (fun _ hk => hk.2) (.slice Ao38 t182.length co38)) (fun _ hk => hk.2) (.string (a0.extract (t186 : Int).toNat a0.size))) (fun _ hk => trivial), by repeat (first | (with_reducible first | exact HB.out | apply below_alloc | apply pw_below_drewN | apply below_drew1 | refine below_set ?_ GE174.out | refine below_set ?_ GE189.out) | exact HB.out)⟩
                                · rw [if_neg c35] at H
                                  exact absurd H (by simp)
                              · rw [if_neg c34] at H
                                exact absurd H (by simp)
                            · rw [if_neg c33] at H
                              have c33b0 : (t187 == 0) = false := beq_eq_false_iff_ne.mpr c33
                              have c33b1 : (t187 != 0) = true := bne_iff_ne.mpr c33
                              simp only [Option.some.injEq, Prod.mk.injEq] at H
                              obtain ⟨rfl, rfl, rfl, rfl, rfl⟩ := H
                              go_wp2_with (first | ((with_reducible refine gate_callee (f := 39) rfl ?_); refine goesL_ (some 60) rfl rfl Tryz.func39 (by kernel_rfl) rfl #[.string a0, .int .i64 (wrap64 (9 + ((((t179 ++ (⟨#[32]⟩ : ByteArray)) ++ t180) ++ (⟨#[13, 10]⟩ : ByteArray)).size : Int)))] rfl (by (try simp only [List.map_toArray, List.map_cons, List.map_nil]); first | done | rfl | (simp only [ByteArray.size_append]; rfl) | (simp only [List.length_drop, List.length_take]; rfl)) ?_; (with_reducible refine (http_parseHead.calls a0 (wrap64 (9 + ((((t179 ++ (⟨#[32]⟩ : ByteArray)) ++ t180) ++ (⟨#[13, 10]⟩ : ByteArray)).size : Int))) t182 t185 t186 t187 t188 _ ?side1 A32.out).mono ?_); (case side1 => exact GL_below HG.out (by repeat (first | (with_reducible first | exact HB.out | apply below_alloc | apply pw_below_drewN | apply below_drew1 | refine below_set ?_ GE174.out) | exact HB.out))); rintro e w46 ⟨v183, rfl, ho0, hb⟩; refine ⟨_, rfl, ?_⟩; have n0_ := Aside0.mk (Kd.R_lower ho0 (below_size (by repeat (first | (with_reducible first | exact HB.out | apply below_alloc | apply pw_below_drewN | apply below_drew1 | refine below_set ?_ GE174.out) | exact HB.out)))); have n1_ := Aside0.mk (blk_below (g := gb174) (o := .cells #[.int .i64 0, .slice none 0 0, .string (⟨#[]⟩ : ByteArray)] 39 (0, 0)) (by (with_reducible repeat (first | refine blk_drewN ?_ _ | refine blk_drew ?_ | refine blk_alloc ?_ _)); exact BK174.out) hb); have n2_ := Aside0.mk (below_step (by repeat (first | (with_reducible first | exact HB.out | apply below_alloc | apply pw_below_drewN | apply below_drew1 | refine below_set ?_ GE174.out) | exact HB.out)) hb); clear BK174; clear HB; have HO184 := n0_; have BK174 := n1_; have HB := n2_; clear n0_ n1_ n2_; (try clear hb); (try clear hb2); (try clear hk); (try clear hi); (try clear ho0)) | ((with_reducible refine gate_dst (N := 8) rfl ?_); refine box_event ?hg (N := 8) ?hd (cs := #[.slice none 0 0, .int .i64 0, .int .i64 0]) (t := 73) ?hr ?_; (case hd => rfl); (case hg => rfl); (case hr => first | (go_simp; done) | (go_simp; rfl)); intro gb189 hg w47 hbox hb; have n0_ := Aside0.mk (Kd.R_below (by (with_reducible repeat (first | apply Kd.R_alloc | apply Kd.R_drewN | apply Kd.R_drew)); exact HO184.out) hb); have n1_ := Aside0.mk (blk_below (g := gb174) (o := .cells #[.int .i64 0, .slice none 0 0, .string (⟨#[]⟩ : ByteArray)] 39 (0, 0)) (by (with_reducible repeat (first | refine blk_drewN ?_ _ | refine blk_drew ?_ | refine blk_alloc ?_ _)); exact BK174.out) hb); have n2_ := Aside0.mk (below_step (by repeat (first | (with_reducible first | exact HB.out | apply below_alloc | apply pw_below_drewN | apply below_drew1 | refine below_set ?_ GE174.out) | exact HB.out)) hb); have n3_ := Aside0.mk (hbox); have n4_ := Aside0.mk ((by rw [hg]; exact (below_size (by repeat (first | (with_reducible first | exact HB.out | apply below_alloc | apply pw_below_drewN | apply below_drew1 | refine below_set ?_ GE174.out) | exact HB.out))) : w.heap.size ≤ gb189)); have n5_ := Aside0.mk ((by rw [hg]; exact (below_size (by repeat (first | (with_reducible first | exact HB.out | apply below_alloc | apply pw_below_drewN | apply below_drew1 | refine below_set ?_ GE174.out) | exact HB.out))) : w.heap.size ≤ gb189)); have n6_ := Aside0.mk ((by rw [hg]; exact Nat.ne_of_lt (blk_lt (g := gb174) (o := .cells #[.int .i64 0, .slice none 0 0, .string (⟨#[]⟩ : ByteArray)] 39 (0, 0)) (by (with_reducible repeat (first | refine blk_drewN ?_ _ | refine blk_drew ?_ | refine blk_alloc ?_ _)); exact BK174.out)) : gb174 ≠ gb189)); have n7_ := Aside0.mk ((by rw [hg]; exact Nat.ne_of_gt (blk_lt (g := gb174) (o := .cells #[.int .i64 0, .slice none 0 0, .string (⟨#[]⟩ : ByteArray)] 39 (0, 0)) (by (with_reducible repeat (first | refine blk_drewN ?_ _ | refine blk_drew ?_ | refine blk_alloc ?_ _)); exact BK174.out)) : gb189 ≠ gb174)); clear HO184; clear BK174; clear HB; have HO184 := n0_; have BK174 := n1_; have HB := n2_; have BK189 := n3_; have GW189 := n4_; have GE189 := n5_; have NB174_189 := n6_; have NB189_174 := n7_; clear n0_ n1_ n2_ n3_ n4_ n5_ n6_ n7_; clear hb hbox hg; obtain ⟨Ao48, co48, eo48⟩ := Kd.R_slice HO184.out; subst eo48; have hnb49 := NB189_174.out; have hnc49 := NB174_189.out; have hcz50_0 : w47.cell? ⟨gb189, 0, none⟩ = some (.slice none 0 0) := (blk_cell BK189.out 0).trans rfl; have hcz50_1 : w47.cell? ⟨gb189, 1, none⟩ = some (.int .i64 0) := (blk_cell BK189.out 1).trans rfl; have hcz50_2 : w47.cell? ⟨gb189, 2, none⟩ = some (.int .i64 0) := (blk_cell BK189.out 2).trans rfl; have hfz50_0 := blk_frozen BK189.out 0; have hfz50_1 := blk_frozen BK189.out 1; have hfz50_2 := blk_frozen BK189.out 2; have hcz51_0 : w47.cell? ⟨gb174, 0, none⟩ = some (.int .i64 0) := (blk_cell BK174.out 0).trans rfl; have hcz51_1 : w47.cell? ⟨gb174, 1, none⟩ = some (.slice none 0 0) := (blk_cell BK174.out 1).trans rfl; have hcz51_2 : w47.cell? ⟨gb174, 2, none⟩ = some (.string (⟨#[]⟩ : ByteArray)) := (blk_cell BK174.out 2).trans rfl; have hfz51_0 := blk_frozen BK174.out 0; have hfz51_1 := blk_frozen BK174.out 1; have hfz51_2 := blk_frozen BK174.out 2))
                              refine bodyPost_ret (results_ctt rfl _ _ gb174 39 #[.int .i64 0, .slice none 0 0, .string (⟨#[]⟩ : ByteArray)] (0, 0) _ rfl (by (with_reducible repeat (first | refine blk_drewN ?_ _ | refine blk_drew ?_ | refine blk_alloc ?_ _)); refine blk_put (cs := #[.int .i64 0, .slice none 0 0, .string (⟨#[]⟩ : ByteArray)]) ?_ 2 _ rfl; (with_reducible repeat (first | refine blk_drewN ?_ _ | refine blk_drew ?_ | refine blk_alloc ?_ _)); refine blk_put (cs := #[.int .i64 0, .slice none 0 0, .string (⟨#[]⟩ : ByteArray)]) ?_ 1 _ rfl; (with_reducible repeat (first | refine blk_drewN ?_ _ | refine blk_drew ?_ | refine blk_alloc ?_ _)); refine blk_put (cs := #[.int .i64 0, .slice none 0 0, .string (⟨#[]⟩ : ByteArray)]) ?_ 0 _ rfl; (with_reducible repeat (first | refine blk_drewN ?_ _ | refine blk_drew ?_ | refine blk_alloc ?_ _)); refine blk_far ?_ NB174_189.out _; (with_reducible repeat (first | refine blk_drewN ?_ _ | refine blk_drew ?_ | refine blk_alloc ?_ _)); refine blk_far ?_ NB174_189.out _; (with_reducible repeat (first | refine blk_drewN ?_ _ | refine blk_drew ?_ | refine blk_alloc ?_ _)); refine blk_far ?_ NB174_189.out _; (with_reducible repeat (first | refine blk_drewN ?_ _ | refine blk_drew ?_ | refine blk_alloc ?_ _)); exact BK174.out) Tryz.underlying39 rfl (by kernel_rfl)) rfl ?_
                              exact ⟨_, by first | rfl | (simp [errW_none, errW_some] <;> rfl) | (simp [*, errW_none, errW_some] <;> rfl), by first | exact Kd.R_nil _ _ _ _ _ | exact Kd.N_nil _ _ _ _ _ | exact Kd.V_nil _ _ _ _ _ | exact Kd.Q_nil _ _ _ _ _ | exact Kd.S_nil _ _ _ _ _, by repeat (first | (with_reducible first | exact HB.out | apply below_alloc | apply pw_below_drewN | apply below_drew1 | refine below_set ?_ GE174.out | refine below_set ?_ GE189.out) | exact HB.out)⟩
                    · rw [if_neg c24] at H
                      exact absurd H (by simp)
                  · rw [if_neg c23] at H
                    exact absurd H (by simp)
                · rw [if_neg c21] at H
                  exact absurd H (by simp)
      · rw [if_neg c7] at H
        exact absurd H (by simp)
    · replace c6 := Bool.eq_false_iff.mpr c6
      subst c6
      have H1 : (some (0, ([] : List (S80)), (⟨#[]⟩ : ByteArray), 152, 0)) = some (r1, r2, r3, r4, r5) := by rw [if_neg (show ¬ (false = true) by decide)] at H; exact H
      clear H
      have H := H1
      clear H1
      simp only [Option.some.injEq, Prod.mk.injEq] at H
      obtain ⟨rfl, rfl, rfl, rfl, rfl⟩ := H
      go_enter Tryz.func30, Tryz.ntmps30
      go_wp2_with (first | ((with_reducible refine gate_dst (N := 2) rfl ?_); refine box_event ?hg (N := 2) ?hd (cs := #[.int .i64 0, .slice none 0 0, .string (⟨#[]⟩ : ByteArray)]) (t := 39) ?hr ?_; (case hd => rfl); (case hg => rfl); (case hr => first | (go_simp; done) | (go_simp; rfl)); intro gb174 hg w52 hbox hb; have n0_ := Aside0.mk (below_step (by repeat (first | (with_reducible first | exact HB.out | apply below_alloc | apply pw_below_drewN | apply below_drew1) | exact HB.out)) hb); have n1_ := Aside0.mk (hbox); have n2_ := Aside0.mk ((by rw [hg]; exact (below_size (by repeat (first | (with_reducible first | exact HB.out | apply below_alloc | apply pw_below_drewN | apply below_drew1) | exact HB.out))) : w.heap.size ≤ gb174)); have n3_ := Aside0.mk ((by rw [hg]; exact (below_size (by repeat (first | (with_reducible first | exact HB.out | apply below_alloc | apply pw_below_drewN | apply below_drew1) | exact HB.out))) : w.heap.size ≤ gb174)); clear HB; have HB := n0_; have BK174 := n1_; have GW174 := n2_; have GE174 := n3_; clear n0_ n1_ n2_ n3_; clear hb hbox hg) | ((with_reducible refine gate_callee (f := 38) rfl ?_); refine goesL_ (some 16) rfl rfl Tryz.func38 (by kernel_rfl) rfl #[.string a0, .string (⟨#[72, 84, 84, 80, 47, 49, 46, 49, 32]⟩ : ByteArray)] rfl (by (try simp only [List.map_toArray, List.map_cons, List.map_nil]); first | done | rfl | (simp only [List.length_drop, List.length_take]; rfl)) ?_; (with_reducible refine (strings_HasPrefix.calls a0 (⟨#[72, 84, 84, 80, 47, 49, 46, 49, 32]⟩ : ByteArray) false _ A5.out).mono ?_); rintro e w' ⟨rfl, ⟨nd, rfl⟩⟩; refine ⟨_, rfl, ?_⟩; (try (rw [drewN_self w52]; generalize hq_ : World.drewN w52 _ = w52; have n0_ : Aside0 (w52.heap[gb174]? = some (.cells #[.int .i64 0, .slice none 0 0, .string (⟨#[]⟩ : ByteArray)] 39 (0, 0))) := ⟨by rw [← hq_]; exact (by (with_reducible repeat (first | refine blk_drewN ?_ _ | refine blk_drew ?_ | refine blk_alloc ?_ _)); exact BK174.out)⟩; have n1_ : Aside0 (Below w.heap.size w w52) := ⟨by rw [← hq_]; exact (by repeat (first | (with_reducible first | exact HB.out | apply below_alloc | apply pw_below_drewN | apply below_drew1 | refine below_set ?_ GE174.out) | exact HB.out))⟩; clear BK174 HB hq_; have BK174 := n0_; have HB := n1_; clear n0_ n1_)); have hcz53_0 : w52.cell? ⟨gb174, 0, none⟩ = some (.int .i64 0) := (blk_cell BK174.out 0).trans rfl; have hcz53_1 : w52.cell? ⟨gb174, 1, none⟩ = some (.slice none 0 0) := (blk_cell BK174.out 1).trans rfl; have hcz53_2 : w52.cell? ⟨gb174, 2, none⟩ = some (.string (⟨#[]⟩ : ByteArray)) := (blk_cell BK174.out 2).trans rfl; have hfz53_0 := blk_frozen BK174.out 0; have hfz53_1 := blk_frozen BK174.out 1; have hfz53_2 := blk_frozen BK174.out 2))
      refine bodyPost_ret (results_ctt rfl _ _ gb174 39 #[.int .i64 0, .slice none 0 0, .string (⟨#[]⟩ : ByteArray)] (0, 0) _ rfl (by (with_reducible repeat (first | refine blk_drewN ?_ _ | refine blk_drew ?_ | refine blk_alloc ?_ _)); refine blk_put (cs := #[.int .i64 0, .slice none 0 0, .string (⟨#[]⟩ : ByteArray)]) ?_ 2 _ rfl; (with_reducible repeat (first | refine blk_drewN ?_ _ | refine blk_drew ?_ | refine blk_alloc ?_ _)); refine blk_put (cs := #[.int .i64 0, .slice none 0 0, .string (⟨#[]⟩ : ByteArray)]) ?_ 1 _ rfl; (with_reducible repeat (first | refine blk_drewN ?_ _ | refine blk_drew ?_ | refine blk_alloc ?_ _)); refine blk_put (cs := #[.int .i64 0, .slice none 0 0, .string (⟨#[]⟩ : ByteArray)]) ?_ 0 _ rfl; (with_reducible repeat (first | refine blk_drewN ?_ _ | refine blk_drew ?_ | refine blk_alloc ?_ _)); exact BK174.out) Tryz.underlying39 rfl (by kernel_rfl)) rfl ?_
      exact ⟨_, by first | rfl | (simp [errW_none, errW_some] <;> rfl) | (simp [*, errW_none, errW_some] <;> rfl), by first | exact Kd.R_nil _ _ _ _ _ | exact Kd.N_nil _ _ _ _ _ | exact Kd.V_nil _ _ _ _ _ | exact Kd.Q_nil _ _ _ _ _ | exact Kd.S_nil _ _ _ _ _, by repeat (first | (with_reducible first | exact HB.out | apply below_alloc | apply pw_below_drewN | apply below_drew1 | refine below_set ?_ GE174.out) | exact HB.out)⟩

end Go.Proofs.YtmfkgjnlobiobaaGreatDoor.X
