/- The texts of this work, put together: XT, L1, MT, N9, K48, K49, LT. -/
import Derived.Test.YtaalajhmfdcalaaDoorBc0
import Derived.Test.YtaalajhmfdcalaaDoorBc2
import Derived.Test.YtaalajhmfdcalaaDoorBc3
import Derived.Test.YtaalajhmfdcalaaDoorWb
set_option linter.unusedVariables false
set_option linter.unusedSimpArgs false
namespace Go.Proofs.YtaalajhmfdcalaaDoor.X
theorem sAx {α : Type} (l : List α) (i : Nat) (a : α) : l.toArray.setIfInBounds i a = (l.set i a).toArray := List.setIfInBounds_toArray ..
theorem sZx {α : Type} (x y : α) (l : List α) : (x :: l).set 0 y = y :: l := rfl
theorem sSx {α : Type} (x y : α) (l : List α) (n : Nat) : (x :: l).set (n + 1) y = x :: l.set n y := rfl
end Go.Proofs.YtaalajhmfdcalaaDoor.X
namespace Go.Proofs.YtaalajhmfdcalaaDoor.X
open Go.RowKit Go.Proofs.YtaalajhmfdcalaaDoorW.PrintWords Go.Proofs.YtaalajhmfdcalaaDoorW.PrintLast Go.Proofs.YtaalajhmfdcalaaDoorW.PrintMore
attribute [local go_sem] max2_int min2_int max_two min_two max_three min_three max_four min_four   -- for this text's walks alone
set_option linter.unusedVariables false
set_option linter.unusedSimpArgs false

/-! ### wicketref04_Twin: function 18 -/
mutual
def wicketref04_Twin.l0 : Nat → Int → Int → ByteArray → List ByteArray → List (S25) → Int → ByteArray → List ByteArray → List (S25) → Option (Int × ByteArray × List ByteArray × (List (S25)))
 | 0, _, _, _, _, _, _, _, _, _ => none
 | k + 1, x4, x504000, x504001, x504002, x504003, x512000, x512001, x512002, x512003 => if x4 < (x504003.length : Int) then (if 0 ≤ x4 then ((wicketref04_Twin.f k ((rd_T25 x504003 x4).f0) ((rd_T25 x504003 x4).f1) ((rd_T25 x504003 x4).f2) ((rd_T25 x504003 x4).f3)).bind fun bt513 => (if x512003.length < 1954687338268 then (wicketref04_Twin.l0 k (wrap64 (x4 + 1)) x504000 x504001 x504002 x504003 x512000 x512001 x512002 (x512003 ++ [(⟨bt513.1, bt513.2.1, bt513.2.2.1, bt513.2.2.2⟩ : S25)])) else (none))) else (none)) else (some (x512000, x512001, x512002, x512003))
def wicketref04_Twin.f : Nat → Int → ByteArray → List ByteArray → List (S25) → Option (Int × ByteArray × List ByteArray × (List (S25)))
 | 0, _, _, _, _ => none
 | k + 1, a0_0, a0_1, l0_2, l0_3 => (some (([] : List ByteArray) : List ByteArray)).bind fun y505 => (if y505.length + l0_2.length < 8796093022208 then (wicketref04_Twin.l0 k 0 a0_0 a0_1 l0_2 l0_3 a0_0 a0_1 (y505 ++ l0_2) ([] : List (S25))) else (none))
end
theorem wicketref04_Twin.mono_l : ∀ k, (∀ y0 y1 y2 y3, LeO (wicketref04_Twin.f k y0 y1 y2 y3) (wicketref04_Twin.f (k + 1) y0 y1 y2 y3)) ∧ (∀ y0 y1 y2 y3 y4 y5 y6 y7 y8, LeO (wicketref04_Twin.l0 k y0 y1 y2 y3 y4 y5 y6 y7 y8) (wicketref04_Twin.l0 (k + 1) y0 y1 y2 y3 y4 y5 y6 y7 y8))
 | 0 => ⟨fun _ _ _ _ r h => by simp [wicketref04_Twin.f] at h, fun _ _ _ _ _ _ _ _ _ r h => by simp [wicketref04_Twin.l0] at h⟩
 | k + 1 => by
  obtain ⟨ih0, ih1⟩ := wicketref04_Twin.mono_l k
  refine ⟨?_, ?_⟩
  ·intro y0 y1 y2 y3
   unfold wicketref04_Twin.f
   repeat' first
   | (with_reducible exact ih0 _ _ _ _)
   | (with_reducible exact ih1 _ _ _ _ _ _ _ _ _)
   | (with_reducible exact LeO.refl _)
   | (with_reducible exact LeO.none _)
   | (with_reducible refine LeO.ite ?_ ?_)
   | (with_reducible refine LeO.bind ?_ (fun _ => ?_))
   | exact ih0 _ _ _ _
   | exact ih1 _ _ _ _ _ _ _ _ _
   | exact LeO.none _
   | refine LeO.ite ?_ ?_
   | refine LeO.bind ?_ (fun _ => ?_)
  ·intro y0 y1 y2 y3 y4 y5 y6 y7 y8
   unfold wicketref04_Twin.l0
   repeat' first
   | (with_reducible exact ih0 _ _ _ _)
   | (with_reducible exact ih1 _ _ _ _ _ _ _ _ _)
   | (with_reducible exact LeO.refl _)
   | (with_reducible exact LeO.none _)
   | (with_reducible refine LeO.ite ?_ ?_)
   | (with_reducible refine LeO.bind ?_ (fun _ => ?_))
   | exact ih0 _ _ _ _
   | exact ih1 _ _ _ _ _ _ _ _ _
   | exact LeO.none _
   | refine LeO.ite ?_ ?_
   | refine LeO.bind ?_ (fun _ => ?_)
theorem wicketref04_Twin.mono : ∀ a0 a1 a2 a3 k, LeO (wicketref04_Twin.f k a0 a1 a2 a3) (wicketref04_Twin.f (k + 1) a0 a1 a2 a3) := by
 intro a0 a1 a2 a3 k
 obtain ⟨ih0, ih1⟩ := wicketref04_Twin.mono_l k
 exact ih0 a0 a1 a2 a3
def wicketref04_Twin.T1 : Bool × List (List Nat × List Nat) := (true, [([], []), ([0], [0]), ([], []), ([2], [2]), ([], []), ([], []), ([5], [5]), ([4, 6], [4, 6]), ([1, 3, 7], [1, 3, 7]), ([], []), ([9, 8, 7, 0, 1, 2, 3, 4, 5, 6, 7, 8, 9], [8, 9])])
def wicketref04_Twin.B1 : List Nat := [0, 1, 0, 4, 0, 0, 32, 112, 255, 0, 1023]
theorem wicketref04_Twin.tab1 : rtab .any (opsOf Tryd.f18 1) = wicketref04_Twin.T1 := by kernel_rfl
theorem wicketref04_Twin.bits1 : waitsOk wicketref04_Twin.T1.2 wicketref04_Twin.B1 = true := by kernel_rfl
def wicketref04_Twin.T5 : Bool × List (List Nat × List Nat) := (true, [([], []), ([0], [0]), ([], []), ([2], [2]), ([], []), ([3, 4], [3, 4]), ([5], [5]), ([6], [6]), ([7], [7]), ([1, 8, 7], [1, 8]), ([0, 1, 2, 3, 4, 5, 6, 7, 8, 9], []), ([10, 9, 9, 0, 1, 2, 3, 4, 5, 6, 7, 8, 9], [9, 10])])
def wicketref04_Twin.B5 : List Nat := [0, 1, 0, 4, 0, 28, 60, 124, 252, 511, 1023, 2047]
theorem wicketref04_Twin.tab5 : rtab .any (opsOf Tryd.f18 5) = wicketref04_Twin.T5 := by kernel_rfl
theorem wicketref04_Twin.bits5 : waitsOk wicketref04_Twin.T5.2 wicketref04_Twin.B5 = true := by kernel_rfl
set_option maxHeartbeats 8000000 in
set_option maxRecDepth 100000 in
theorem wicketref04_Twin.calls (k : Nat) : ∀ (a0_0 : Int) (a0_1 : ByteArray) (A0_2 : Option Addr) (c0_2 : Nat) (l0_2 : List ByteArray) (A0_3 : Option Addr) (c0_3 : Nat) (l0_3 : List (S25)) (r1 : Int) (r2 : ByteArray) (r3 : List ByteArray) (r4 : List (S25)) (w : World) (hr0_2 : Kd.C Kd.string w A0_2 l0_2.length l0_2) (hc0_2 : l0_2.length ≤ c0_2) (hr0_3 : Kd.C k25 w A0_3 l0_3.length l0_3) (hc0_3 : l0_3.length ≤ c0_3) (h : wicketref04_Twin.f k a0_0 a0_1 l0_2 l0_3 = some (r1, r2, r3, r4)),
  Calls Tryd.prog 18 #[.agg #[.int .i64 a0_0, .string a0_1, .slice A0_2 l0_2.length c0_2, .slice A0_3 l0_3.length c0_3]] w fun e w' => ∃ v2_ v3_ : Value, e = .returned (.agg #[.int .i64 r1, .string r2, v2_, v3_]) ∧ Kd.R Kd.string 9 w' w.heap.size (fun _ => True) v2_ r3 ∧ Kd.R k25 25 w' w.heap.size (fun k_ => some k_ ≠ (v2_ : Value).ownBlock) v3_ r4 ∧ Below w.heap.size w w' := by
 induction k using Nat.strongRecOn with
 | _ k ih =>
 intro a0_0 a0_1 A0_2 c0_2 l0_2 A0_3 c0_3 l0_3 r1 r2 r3 r4 w hr0_2 hc0_2 hr0_3 hc0_3 h
 cases k with
 | zero => exact absurd h (by simp [wicketref04_Twin.f])
 | succ k =>
 simp only [wicketref04_Twin.f] at h
 have hu25 := Tryd.underlying25
 have HR0_2 := Aside0.mk hr0_2
 have HC0_2 := Aside0.mk hc0_2
 clear hr0_2 hc0_2
 have HR0_3 := Aside0.mk hr0_3
 have HC0_3 := Aside0.mk hc0_3
 clear hr0_3 hc0_3
 have HB := Aside0.mk (Below.refl w.heap.size w)
 have H : ((some (([] : List ByteArray) : List ByteArray)).bind fun y505 => (if y505.length + l0_2.length < 8796093022208 then (wicketref04_Twin.l0 k 0 a0_0 a0_1 l0_2 l0_3 a0_0 a0_1 (y505 ++ l0_2) ([] : List (S25))) else (none))) = some (r1, r2, r3, r4) := h
 clear h
 obtain ⟨y505, hy505⟩ : ∃ y_ : List ByteArray, y_ = (([] : List ByteArray)) := ⟨_, rfl⟩
 replace H : (if y505.length + l0_2.length < 8796093022208 then (wicketref04_Twin.l0 k 0 a0_0 a0_1 l0_2 l0_3 a0_0 a0_1 (y505 ++ l0_2) ([] : List (S25))) else (none)) = some (r1, r2, r3, r4) := by first | (rw [hy505]; with_reducible exact H) | (have H2_ := (Option.bind_some _ _).symm.trans H; rw [hy505]; with_reducible exact H2_) | (have H2_ := (Option.bind_some _ _).symm.trans H; with_reducible exact H2_) | with_reducible exact H | (rw [hy505]; exact H) | exact H
 have Ny505 := Aside0.mk hy505
 clear hy505
 by_cases c2 : y505.length + l0_2.length < 8796093022208
 ·rw [if_pos c2] at H
  have LMc2 := Aside0.mk c2
  clear c2
  obtain ⟨y508, hy508⟩ : ∃ y_ : List ByteArray, y_ = (y505 ++ l0_2) := ⟨_, rfl⟩
  replace H : (wicketref04_Twin.l0 k 0 a0_0 a0_1 l0_2 l0_3 a0_0 a0_1 y508 ([] : List (S25))) = some (r1, r2, r3, r4) := by first | (rw [hy508]; with_reducible exact H) | (have H2_ := (Option.bind_some _ _).symm.trans H; rw [hy508]; with_reducible exact H2_) | (have H2_ := (Option.bind_some _ _).symm.trans H; with_reducible exact H2_) | with_reducible exact H | (rw [hy508]; exact H) | exact H
  have Ny508 := Aside0.mk hy508
  clear hy508
  have H' := Aside0.mk H
  clear H
  go_enter Tryd.func18, Tryd.ntmps18
  try go_wp2_with (first | ((with_reducible refine gate_dst (N := 1) rfl ?_); refine box_event ?hg (N := 1) ?hd (cs := #[.int .i64 a0_0, .string a0_1, .slice A0_2 l0_2.length c0_2, .slice A0_3 l0_3.length c0_3]) (t := 25) ?hr ?_; (case hd => rfl); (case hg => rfl); (case hr => first | (go_simp; done) | (go_simp; rfl)); intro gb503 hg w3 hbox hb; have n0_ := Aside0.mk (below_step (by repeat (first | (with_reducible first | exact HB.out | apply below_alloc | apply pw_below_drewN | apply below_drew1) | exact HB.out)) hb); have n1_ := Aside0.mk (hbox); have n2_ := Aside0.mk ((by rw [hg]; exact (below_size (by repeat (first | (with_reducible first | exact HB.out | apply below_alloc | apply pw_below_drewN | apply below_drew1) | exact HB.out))) : w.heap.size ≤ gb503)); have n3_ := Aside0.mk ((by rw [hg]; exact (below_size (by repeat (first | (with_reducible first | exact HB.out | apply below_alloc | apply pw_below_drewN | apply below_drew1) | exact HB.out))) : w.heap.size ≤ gb503)); clear HB; have HB := n0_; have BK503 := n1_; have GW503 := n2_; have GE503 := n3_; clear n0_ n1_ n2_ n3_; clear hb hbox hg) | ((with_reducible refine gate_dst (N := 2) rfl ?_); refine box_event ?hg (N := 2) ?hd (cs := #[.int .i64 0, .string (⟨#[]⟩ : ByteArray), .slice none 0 0, .slice none 0 0]) (t := 25) ?hr ?_; (case hd => rfl); (case hg => rfl); (case hr => first | (go_simp; done) | (go_simp; rfl)); intro gb504 hg w4 hbox hb; have n0_ := Aside0.mk (blk_below (g := gb503) (o := .cells #[.int .i64 a0_0, .string a0_1, .slice A0_2 l0_2.length c0_2, .slice A0_3 l0_3.length c0_3] 25 (0, 0)) (by (with_reducible repeat (first | refine blk_drewN ?_ _ | refine blk_drew ?_ | refine blk_alloc ?_ _)); exact BK503.out) hb); have n1_ := Aside0.mk (below_step (by repeat (first | (with_reducible first | exact HB.out | apply below_alloc | apply pw_below_drewN | apply below_drew1 | refine below_set ?_ GE503.out) | exact HB.out)) hb); have n2_ := Aside0.mk (hbox); have n3_ := Aside0.mk ((by rw [hg]; exact (below_size (by repeat (first | (with_reducible first | exact HB.out | apply below_alloc | apply pw_below_drewN | apply below_drew1 | refine below_set ?_ GE503.out) | exact HB.out))) : w.heap.size ≤ gb504)); have n4_ := Aside0.mk ((by rw [hg]; exact (below_size (by repeat (first | (with_reducible first | exact HB.out | apply below_alloc | apply pw_below_drewN | apply below_drew1 | refine below_set ?_ GE503.out) | exact HB.out))) : w.heap.size ≤ gb504)); have n5_ := Aside0.mk ((by rw [hg]; exact Nat.ne_of_lt (blk_lt (g := gb503) (o := .cells #[.int .i64 a0_0, .string a0_1, .slice A0_2 l0_2.length c0_2, .slice A0_3 l0_3.length c0_3] 25 (0, 0)) (by (with_reducible repeat (first | refine blk_drewN ?_ _ | refine blk_drew ?_ | refine blk_alloc ?_ _)); exact BK503.out)) : gb503 ≠ gb504)); have n6_ := Aside0.mk ((by rw [hg]; exact Nat.ne_of_gt (blk_lt (g := gb503) (o := .cells #[.int .i64 a0_0, .string a0_1, .slice A0_2 l0_2.length c0_2, .slice A0_3 l0_3.length c0_3] 25 (0, 0)) (by (with_reducible repeat (first | refine blk_drewN ?_ _ | refine blk_drew ?_ | refine blk_alloc ?_ _)); exact BK503.out)) : gb504 ≠ gb503)); clear BK503; clear HB; have BK503 := n0_; have HB := n1_; have BK504 := n2_; have GW504 := n3_; have GE504 := n4_; have NB503_504 := n5_; have NB504_503 := n6_; clear n0_ n1_ n2_ n3_ n4_ n5_ n6_; clear hb hbox hg))
  have n0_ := Aside0.mk (blk_drew BK503.out)
  have n1_ := Aside0.mk (blk_drew BK504.out)
  have n2_ := Aside0.mk (below_drew1 HB.out)
  clear BK503
  clear BK504
  clear HB
  have BK503 := n0_
  have BK504 := n1_
  have HB := n2_
  clear n0_ n1_ n2_
  refine start_ (n := 11) (S := fun w' => w'.cell? ⟨gb503, 0, none⟩ = some (.int .i64 a0_0) ∧ w'.cell? ⟨gb503, 1, none⟩ = some (.string a0_1) ∧ w'.cell? ⟨gb503, 2, none⟩ = some (.slice A0_2 l0_2.length c0_2) ∧ w'.cell? ⟨gb503, 3, none⟩ = some (.slice A0_3 l0_3.length c0_3)) (ds := []) #[false, false, false, false, false, false, false, false, false, false, false] (by kernel_rfl) rfl rfl ⟨(blk_cell BK503.out 0).trans rfl, (blk_cell BK503.out 1).trans rfl, (blk_cell BK503.out 2).trans rfl, (blk_cell BK503.out 3).trans rfl⟩ (fun hHeld => ?_); refine with_tabW wicketref04_Twin.tab1 wicketref04_Twin.bits1 (fun HT_ HW_ => ?_)
  generalize w4.drew = w5 at BK503 BK504 HB hHeld ⊢
  refine pure_ (i := 0) (N := some 5) (v := ?_) (a' := ?_) #[true, false, false, false, false, false, false, false, false, false, false] rfl rfl (any_of HT_.out (by kernel_rfl)) (fun _ _ _ h => h) (Or.inl ⟨by rfl, ?_⟩) ?_ ?_
  rotate_left
  ·intro w'
   go_simp
   with_reducible rfl
  rotate_left
  ·simp only [Act.put, sAx, sZx, sSx, i64_w, i32_w]
   rfl
  refine pure_ (i := 2) (N := some 7) (v := ?_) (a' := ?_) #[true, false, true, false, false, false, false, false, false, false, false] rfl rfl (any_of HT_.out (by kernel_rfl)) (fun _ _ _ h => h) (Or.inl ⟨by rfl, ?_⟩) ?_ ?_
  rotate_left
  ·intro w'
   go_simp
   with_reducible rfl
  rotate_left
  ·simp only [Act.put, sAx, sZx, sSx, i64_w, i32_w]
   rfl
  refine pure_ (i := 5) (N := some 10) (v := ?_) (a' := ?_) #[true, false, true, false, false, true, false, false, false, false, false] rfl rfl (any_of HT_.out (by kernel_rfl)) (fun _ _ _ h => h) (Or.inl ⟨by rfl, ?_⟩) ?_ ?_
  rotate_left
  ·intro w'
   go_simp
   with_reducible rfl
  rotate_left
  ·simp only [Act.put, sAx, sZx, sSx, i64_w, i32_w]
   rfl
  refine take_ (i := 1) (N := some 6) (v := ?_) (a' := ?_) #[true, true, true, false, false, true, false, false, false, false, false] rfl rfl (take_ofW HT_.out HW_.out (by kernel_rfl)) (fun _ _ _ h => h) (Or.inl ⟨by rfl, ?_⟩) hHeld ?_ ?_
  rotate_left
  ·rintro w' ⟨s0, s1, s2, s3⟩
   go_simp
   with_reducible rfl
  rotate_left
  ·simp only [Act.put, sAx, sZx, sSx, i64_w, i32_w]
   rfl
  refine take_ (i := 3) (N := some 8) (v := ?_) (a' := ?_) #[true, true, true, true, false, true, false, false, false, false, false] rfl rfl (take_ofW HT_.out HW_.out (by kernel_rfl)) (fun _ _ _ h => h) (Or.inl ⟨by rfl, ?_⟩) hHeld ?_ ?_
  rotate_left
  ·rintro w' ⟨s0, s1, s2, s3⟩
   go_simp
   with_reducible rfl
  rotate_left
  ·simp only [Act.put, sAx, sZx, sSx, i64_w, i32_w]
   rfl
  refine take_ (i := 6) (N := some 11) (v := ?_) (a' := ?_) #[true, true, true, true, false, true, true, false, false, false, false] rfl rfl (take_ofW HT_.out HW_.out (by kernel_rfl)) (fun _ _ _ h => h) (Or.inl ⟨by rfl, ?_⟩) hHeld ?_ ?_
  rotate_left
  ·rintro w' ⟨s0, s1, s2, s3⟩
   go_simp
   with_reducible rfl
  rotate_left
  ·simp only [Act.put, sAx, sZx, sSx, i64_w, i32_w]
   rfl
  refine join_ (σ := Value × Value × Nat) 1 #[true, true, true, true, true, true, true, true, true, true, false] (fun s_ => [(9, s_.1), (12, s_.2.1), (3, .pointer (some ⟨s_.2.2, 0, none⟩)), (13, .agg #[.int .i64 a0_0, .string a0_1, s_.2.1, .slice none 0 0])]) (fun s_ w' => (w'.cell? ⟨gb503, 0, none⟩ = some (.int .i64 a0_0) ∧ w'.cell? ⟨gb503, 1, none⟩ = some (.string a0_1) ∧ w'.cell? ⟨gb503, 2, none⟩ = some (.slice A0_2 l0_2.length c0_2) ∧ w'.cell? ⟨gb503, 3, none⟩ = some (.slice A0_3 l0_3.length c0_3)) ∧ (Kd.R Kd.string 9 w' w.heap.size (fun _ => True) s_.2.1 y508) ∧ (w'.heap[gb503]? = some (.cells #[.int .i64 a0_0, .string a0_1, .slice A0_2 l0_2.length c0_2, .slice A0_3 l0_3.length c0_3] 25 (0, 0))) ∧ (w'.heap[gb504]? = some (.cells #[.int .i64 0, .string (⟨#[]⟩ : ByteArray), .slice none 0 0, .slice none 0 0] 25 (0, 0))) ∧ (w'.heap[s_.2.2]? = some (.cells #[.int .i64 0, .string (⟨#[]⟩ : ByteArray), .slice none 0 0, .slice none 0 0] 25 (0, 0))) ∧ (w.heap.size ≤ s_.2.2) ∧ (w.heap.size ≤ s_.2.2) ∧ (gb503 ≠ s_.2.2) ∧ (s_.2.2 ≠ gb503) ∧ (gb504 ≠ s_.2.2) ∧ (s_.2.2 ≠ gb504) ∧ (Below w.heap.size w w')) ?_ ?_
  rotate_left
  ·intro hCont
   refine two_ (i := 4) (j := 9) (Ni := some 9) (Nj := some 3) #[true, true, true, true, true, true, true, false, false, false, false] #[true, true, true, true, false, true, true, false, false, true, false] rfl rfl rfl rfl (two_of HT_.out (by kernel_rfl)) (by decide) (by decide) (fun K hK => ?_) (fun K hK => ?_)
   ·skip
    refine Kd.R_lit_step Kd.string _ 9 ?hg (N := 9) ?hd (xs := ([] : List ByteArray)) (inner := []) (ok := fun _ => True) (okp := fun _ => True) ?hr ?hp (fun _ hk => hk) trivial (Below.refl _ _) (Nat.le_refl _) (by simp) ?_; (case hd => rfl); (case hg => rfl); (case hr => first | (go_simp; done) | (go_simp; rfl)); (case hp => exact (Reps.none _ _))
    intro v506 w6 ho7 hb hg_ hnew_
    clear hg_ hnew_
    (first | rw [← Ny505.out] at ho7 | (simp only [Int.reduceToNat] at ho7; rw [← Ny505.out] at ho7))
    have n0_ := Aside0.mk (Kd.R_lower ho7 (below_size (by repeat (first | (with_reducible first | exact HB.out | apply below_alloc | apply pw_below_drewN | apply below_drew1 | refine below_set ?_ GE503.out | refine below_set ?_ GE504.out) | exact HB.out))))
    have n1_ := Aside0.mk (blk_below (g := gb503) (o := .cells #[.int .i64 a0_0, .string a0_1, .slice A0_2 l0_2.length c0_2, .slice A0_3 l0_3.length c0_3] 25 (0, 0)) (by (with_reducible repeat (first | refine blk_drewN ?_ _ | refine blk_drew ?_ | refine blk_alloc ?_ _)); exact BK503.out) hb)
    have n2_ := Aside0.mk (blk_below (g := gb504) (o := .cells #[.int .i64 0, .string (⟨#[]⟩ : ByteArray), .slice none 0 0, .slice none 0 0] 25 (0, 0)) (by (with_reducible repeat (first | refine blk_drewN ?_ _ | refine blk_drew ?_ | refine blk_alloc ?_ _)); exact BK504.out) hb)
    have n3_ := Aside0.mk (below_step (by repeat (first | (with_reducible first | exact HB.out | apply below_alloc | apply pw_below_drewN | apply below_drew1 | refine below_set ?_ GE503.out | refine below_set ?_ GE504.out) | exact HB.out)) hb)
    clear BK503
    clear BK504
    clear HB
    have HO507 := n0_
    have BK503 := n1_
    have BK504 := n2_
    have HB := n3_
    clear n0_ n1_ n2_ n3_
    clear hb ho7
    refine hK.out _ _ ⟨(blk_cell BK503.out 0).trans rfl, (blk_cell BK503.out 1).trans rfl, (blk_cell BK503.out 2).trans rfl, (blk_cell BK503.out 3).trans rfl⟩ (fun hHeld => ?_)
    clear hK K
    refine norm_ (a' := ?_) ?_ ?_
    rotate_left
    ·show Act.put _ (some 9) _ = _
     simp only [Act.put, sAx, sZx, sSx, i64_w, i32_w]
     rfl
    refine two_ (i := 7) (j := 9) (Ni := some 12) (Nj := some 3) #[true, true, true, true, true, true, true, true, false, false, false] #[true, true, true, true, true, true, true, false, false, true, false] rfl rfl rfl rfl (two_of HT_.out (by kernel_rfl)) (by decide) (by decide) (fun K hK => ?_) (fun K hK => ?_)
    ·skip
     refine Kd.R_append_rows_step Kd.string (w0 := w) w.heap.size (by rfl) (.tmp 9) (.tmp 11) 22 9 (.string ⟨#[]⟩) 16 rfl Tryd.underlying22 info9 rfl (by decide) (by omega) v506 y505 l0_2 _ _ _ (fun _ => True) (fun _ => False) rfl rfl ?aO ?aR (fun _ _ h => h) (fun _ h => h.elim) ?aF ?aB ?aS ?aL ?_
     (case aR => repeat (first | exact (Kd.C_below HR0_2.out HB.out) | (with_reducible refine Kd.C_alloc ?_ _) | (with_reducible refine Kd.C_drewN ?_ _) | (with_reducible refine Kd.C_drew ?_)))
     (case aB => exact (by repeat (first | (with_reducible first | exact HB.out | apply below_alloc | apply pw_below_drewN | apply below_drew1 | refine below_set ?_ GE503.out | refine below_set ?_ GE504.out) | exact HB.out)))
     (case aF => exact (fun _ _ => trivial))
     (case aO => exact (by (with_reducible repeat (first | apply Kd.R_alloc | apply Kd.R_drewN | apply Kd.R_drew)); exact HO507.out))
     (case aS => exact (below_size (by repeat (first | (with_reducible first | exact HB.out | apply below_alloc | apply pw_below_drewN | apply below_drew1 | refine below_set ?_ GE503.out | refine below_set ?_ GE504.out) | exact HB.out))))
     (case aL => have := LMc2.out; omega)
     intro v509 w8 ho hb hg hat
     rw [← Ny508.out] at ho
     have n0_ := Aside0.mk (blk_grown (g := gb503) (o := .cells #[.int .i64 a0_0, .string a0_1, .slice A0_2 l0_2.length c0_2, .slice A0_3 l0_3.length c0_3] 25 (0, 0)) (by (with_reducible repeat (first | refine blk_drewN ?_ _ | refine blk_drew ?_ | refine blk_alloc ?_ _)); exact BK503.out) hg (Kd.R_ne HO507.out BK503.out (by decide)))
     have n1_ := Aside0.mk (blk_grown (g := gb504) (o := .cells #[.int .i64 0, .string (⟨#[]⟩ : ByteArray), .slice none 0 0, .slice none 0 0] 25 (0, 0)) (by (with_reducible repeat (first | refine blk_drewN ?_ _ | refine blk_drew ?_ | refine blk_alloc ?_ _)); exact BK504.out) hg (Kd.R_ne HO507.out BK504.out (by decide)))
     have n2_ := Aside0.mk (hb)
     have n3_ := Aside0.mk (ho)
     clear BK503
     clear BK504
     clear HB
     clear HO507
     have BK503 := n0_
     have BK504 := n1_
     have HB := n2_
     have HO510 := n3_
     clear n0_ n1_ n2_ n3_
     clear ho hb hg hat
     obtain ⟨Ao9, co9, eo9⟩ := Kd.R_slice HO510.out
     (first | subst eo9 | (injection eo9 with f1_ f2_ f3_; have f4_ := f1_.symm; have f5_ := f3_.symm; clear f1_ f2_ f3_; subst f4_; subst f5_))
     refine hK.out _ _ ⟨(blk_cell BK503.out 0).trans rfl, (blk_cell BK503.out 1).trans rfl, (blk_cell BK503.out 2).trans rfl, (blk_cell BK503.out 3).trans rfl⟩ (fun hHeld => ?_)
     clear hK K
     refine norm_ (a' := ?_) ?_ ?_
     rotate_left
     ·show Act.put _ (some 12) _ = _
      simp only [Act.put, sAx, sZx, sSx, i64_w, i32_w]
      rfl
     refine pure_ (i := 8) (N := some 13) (v := ?_) (a' := ?_) #[true, true, true, true, true, true, true, true, true, false, false] rfl rfl (any_of HT_.out (by kernel_rfl)) (fun _ _ _ h => h) (Or.inl ⟨by rfl, ?_⟩) ?_ ?_
     rotate_left
     ·intro w'
      go_simp
      with_reducible rfl
     rotate_left
     ·simp only [Act.put, sAx, sZx, sSx, i64_w, i32_w]
      rfl
     refine one_ (i := 9) (N := some 3) #[true, true, true, true, true, true, true, true, true, true, false] rfl rfl (one_of HT_.out (by kernel_rfl)) (by decide) (fun K hK => ?_)
     refine box_step ?hg (N := 3) ?hd (cs := #[.int .i64 0, .string (⟨#[]⟩ : ByteArray), .slice none 0 0, .slice none 0 0]) (t := 25) ?hr ?_; (case hd => rfl); (case hg => rfl); (case hr => first | (go_simp; done) | (go_simp; rfl))
     intro gb511 hg w10 hbox hb
     have n0_ := Aside0.mk (Kd.R_below (by (with_reducible repeat (first | apply Kd.R_alloc | apply Kd.R_drewN | apply Kd.R_drew)); exact HO510.out) hb)
     have n1_ := Aside0.mk (blk_below (g := gb503) (o := .cells #[.int .i64 a0_0, .string a0_1, .slice A0_2 l0_2.length c0_2, .slice A0_3 l0_3.length c0_3] 25 (0, 0)) (by (with_reducible repeat (first | refine blk_drewN ?_ _ | refine blk_drew ?_ | refine blk_alloc ?_ _)); exact BK503.out) hb)
     have n2_ := Aside0.mk (blk_below (g := gb504) (o := .cells #[.int .i64 0, .string (⟨#[]⟩ : ByteArray), .slice none 0 0, .slice none 0 0] 25 (0, 0)) (by (with_reducible repeat (first | refine blk_drewN ?_ _ | refine blk_drew ?_ | refine blk_alloc ?_ _)); exact BK504.out) hb)
     have n3_ := Aside0.mk (below_step (by repeat (first | (with_reducible first | exact HB.out | apply below_alloc | apply pw_below_drewN | apply below_drew1 | refine below_set ?_ GE503.out | refine below_set ?_ GE504.out) | exact HB.out)) hb)
     have n4_ := Aside0.mk (hbox)
     have n5_ := Aside0.mk ((by rw [hg]; exact (below_size (by repeat (first | (with_reducible first | exact HB.out | apply below_alloc | apply pw_below_drewN | apply below_drew1 | refine below_set ?_ GE503.out | refine below_set ?_ GE504.out) | exact HB.out))) : w.heap.size ≤ gb511))
     have n6_ := Aside0.mk ((by rw [hg]; exact (below_size (by repeat (first | (with_reducible first | exact HB.out | apply below_alloc | apply pw_below_drewN | apply below_drew1 | refine below_set ?_ GE503.out | refine below_set ?_ GE504.out) | exact HB.out))) : w.heap.size ≤ gb511))
     have n7_ := Aside0.mk ((by rw [hg]; exact Nat.ne_of_lt (blk_lt (g := gb503) (o := .cells #[.int .i64 a0_0, .string a0_1, .slice A0_2 l0_2.length c0_2, .slice A0_3 l0_3.length c0_3] 25 (0, 0)) (by (with_reducible repeat (first | refine blk_drewN ?_ _ | refine blk_drew ?_ | refine blk_alloc ?_ _)); exact BK503.out)) : gb503 ≠ gb511))
     have n8_ := Aside0.mk ((by rw [hg]; exact Nat.ne_of_gt (blk_lt (g := gb503) (o := .cells #[.int .i64 a0_0, .string a0_1, .slice A0_2 l0_2.length c0_2, .slice A0_3 l0_3.length c0_3] 25 (0, 0)) (by (with_reducible repeat (first | refine blk_drewN ?_ _ | refine blk_drew ?_ | refine blk_alloc ?_ _)); exact BK503.out)) : gb511 ≠ gb503))
     have n9_ := Aside0.mk ((by rw [hg]; exact Nat.ne_of_lt (blk_lt (g := gb504) (o := .cells #[.int .i64 0, .string (⟨#[]⟩ : ByteArray), .slice none 0 0, .slice none 0 0] 25 (0, 0)) (by (with_reducible repeat (first | refine blk_drewN ?_ _ | refine blk_drew ?_ | refine blk_alloc ?_ _)); exact BK504.out)) : gb504 ≠ gb511))
     have n10_ := Aside0.mk ((by rw [hg]; exact Nat.ne_of_gt (blk_lt (g := gb504) (o := .cells #[.int .i64 0, .string (⟨#[]⟩ : ByteArray), .slice none 0 0, .slice none 0 0] 25 (0, 0)) (by (with_reducible repeat (first | refine blk_drewN ?_ _ | refine blk_drew ?_ | refine blk_alloc ?_ _)); exact BK504.out)) : gb511 ≠ gb504))
     clear HO510
     clear BK503
     clear BK504
     clear HB
     have HO510 := n0_
     have BK503 := n1_
     have BK504 := n2_
     have HB := n3_
     have BK511 := n4_
     have GW511 := n5_
     have GE511 := n6_
     have NB503_511 := n7_
     have NB511_503 := n8_
     have NB504_511 := n9_
     have NB511_504 := n10_
     clear n0_ n1_ n2_ n3_ n4_ n5_ n6_ n7_ n8_ n9_ n10_
     clear hb hbox hg
     refine hK.out _ _ ⟨(blk_cell BK503.out 0).trans rfl, (blk_cell BK503.out 1).trans rfl, (blk_cell BK503.out 2).trans rfl, (blk_cell BK503.out 3).trans rfl⟩ (fun hHeld => ?_)
     clear hK K
     refine norm_ (a' := ?_) ?_ ?_
     rotate_left
     ·show Act.put _ (some 3) _ = _
      simp only [Act.put, sAx, sZx, sSx, i64_w, i32_w]
      rfl
     exact norm_ (by simp only [putAll, Act.put, List.setIfInBounds_toArray, List.set_cons_zero, List.set_cons_succ]) (hCont (v506, .slice Ao9 y508.length co9, gb511) _ ⟨hHeld, (by (with_reducible repeat (first | apply Kd.R_alloc | apply Kd.R_drewN | apply Kd.R_drew)); exact HO510.out), (by (with_reducible repeat (first | refine blk_drewN ?_ _ | refine blk_drew ?_ | refine blk_alloc ?_ _)); exact BK503.out), (by (with_reducible repeat (first | refine blk_drewN ?_ _ | refine blk_drew ?_ | refine blk_alloc ?_ _)); exact BK504.out), (by (with_reducible repeat (first | refine blk_drewN ?_ _ | refine blk_drew ?_ | refine blk_alloc ?_ _)); exact BK511.out), GW511.out, GE511.out, NB503_511.out, NB511_503.out, NB504_511.out, NB511_504.out, (by repeat (first | (with_reducible first | exact HB.out | apply below_alloc | apply pw_below_drewN | apply below_drew1 | refine below_set ?_ GE503.out | refine below_set ?_ GE504.out | refine below_set ?_ GE511.out) | exact HB.out))⟩)
    ·skip
     refine box_step ?hg (N := 3) ?hd (cs := #[.int .i64 0, .string (⟨#[]⟩ : ByteArray), .slice none 0 0, .slice none 0 0]) (t := 25) ?hr ?_; (case hd => rfl); (case hg => rfl); (case hr => first | (go_simp; done) | (go_simp; rfl))
     intro gb511 hg w8 hbox hb
     have n0_ := Aside0.mk (Kd.R_below (by (with_reducible repeat (first | apply Kd.R_alloc | apply Kd.R_drewN | apply Kd.R_drew)); exact HO507.out) hb)
     have n1_ := Aside0.mk (blk_below (g := gb503) (o := .cells #[.int .i64 a0_0, .string a0_1, .slice A0_2 l0_2.length c0_2, .slice A0_3 l0_3.length c0_3] 25 (0, 0)) (by (with_reducible repeat (first | refine blk_drewN ?_ _ | refine blk_drew ?_ | refine blk_alloc ?_ _)); exact BK503.out) hb)
     have n2_ := Aside0.mk (blk_below (g := gb504) (o := .cells #[.int .i64 0, .string (⟨#[]⟩ : ByteArray), .slice none 0 0, .slice none 0 0] 25 (0, 0)) (by (with_reducible repeat (first | refine blk_drewN ?_ _ | refine blk_drew ?_ | refine blk_alloc ?_ _)); exact BK504.out) hb)
     have n3_ := Aside0.mk (below_step (by repeat (first | (with_reducible first | exact HB.out | apply below_alloc | apply pw_below_drewN | apply below_drew1 | refine below_set ?_ GE503.out | refine below_set ?_ GE504.out) | exact HB.out)) hb)
     have n4_ := Aside0.mk (hbox)
     have n5_ := Aside0.mk ((by rw [hg]; exact (below_size (by repeat (first | (with_reducible first | exact HB.out | apply below_alloc | apply pw_below_drewN | apply below_drew1 | refine below_set ?_ GE503.out | refine below_set ?_ GE504.out) | exact HB.out))) : w.heap.size ≤ gb511))
     have n6_ := Aside0.mk ((by rw [hg]; exact (below_size (by repeat (first | (with_reducible first | exact HB.out | apply below_alloc | apply pw_below_drewN | apply below_drew1 | refine below_set ?_ GE503.out | refine below_set ?_ GE504.out) | exact HB.out))) : w.heap.size ≤ gb511))
     have n7_ := Aside0.mk ((by rw [hg]; exact Nat.ne_of_lt (blk_lt (g := gb503) (o := .cells #[.int .i64 a0_0, .string a0_1, .slice A0_2 l0_2.length c0_2, .slice A0_3 l0_3.length c0_3] 25 (0, 0)) (by (with_reducible repeat (first | refine blk_drewN ?_ _ | refine blk_drew ?_ | refine blk_alloc ?_ _)); exact BK503.out)) : gb503 ≠ gb511))
     have n8_ := Aside0.mk ((by rw [hg]; exact Nat.ne_of_gt (blk_lt (g := gb503) (o := .cells #[.int .i64 a0_0, .string a0_1, .slice A0_2 l0_2.length c0_2, .slice A0_3 l0_3.length c0_3] 25 (0, 0)) (by (with_reducible repeat (first | refine blk_drewN ?_ _ | refine blk_drew ?_ | refine blk_alloc ?_ _)); exact BK503.out)) : gb511 ≠ gb503))
     have n9_ := Aside0.mk ((by rw [hg]; exact Nat.ne_of_lt (blk_lt (g := gb504) (o := .cells #[.int .i64 0, .string (⟨#[]⟩ : ByteArray), .slice none 0 0, .slice none 0 0] 25 (0, 0)) (by (with_reducible repeat (first | refine blk_drewN ?_ _ | refine blk_drew ?_ | refine blk_alloc ?_ _)); exact BK504.out)) : gb504 ≠ gb511))
     have n10_ := Aside0.mk ((by rw [hg]; exact Nat.ne_of_gt (blk_lt (g := gb504) (o := .cells #[.int .i64 0, .string (⟨#[]⟩ : ByteArray), .slice none 0 0, .slice none 0 0] 25 (0, 0)) (by (with_reducible repeat (first | refine blk_drewN ?_ _ | refine blk_drew ?_ | refine blk_alloc ?_ _)); exact BK504.out)) : gb511 ≠ gb504))
     clear HO507
     clear BK503
     clear BK504
     clear HB
     have HO507 := n0_
     have BK503 := n1_
     have BK504 := n2_
     have HB := n3_
     have BK511 := n4_
     have GW511 := n5_
     have GE511 := n6_
     have NB503_511 := n7_
     have NB511_503 := n8_
     have NB504_511 := n9_
     have NB511_504 := n10_
     clear n0_ n1_ n2_ n3_ n4_ n5_ n6_ n7_ n8_ n9_ n10_
     clear hb hbox hg
     refine hK.out _ _ ⟨(blk_cell BK503.out 0).trans rfl, (blk_cell BK503.out 1).trans rfl, (blk_cell BK503.out 2).trans rfl, (blk_cell BK503.out 3).trans rfl⟩ (fun hHeld => ?_)
     clear hK K
     refine norm_ (a' := ?_) ?_ ?_
     rotate_left
     ·show Act.put _ (some 3) _ = _
      simp only [Act.put, sAx, sZx, sSx, i64_w, i32_w]
      rfl
     refine one_ (i := 7) (N := some 12) #[true, true, true, true, true, true, true, true, false, true, false] rfl rfl (one_of HT_.out (by kernel_rfl)) (by decide) (fun K hK => ?_)
     refine Kd.R_append_rows_step Kd.string (w0 := w) w.heap.size (by rfl) (.tmp 9) (.tmp 11) 22 9 (.string ⟨#[]⟩) 16 rfl Tryd.underlying22 info9 rfl (by decide) (by omega) v506 y505 l0_2 _ _ _ (fun _ => True) (fun _ => False) rfl rfl ?aO ?aR (fun _ _ h => h) (fun _ h => h.elim) ?aF ?aB ?aS ?aL ?_
     (case aR => repeat (first | exact (Kd.C_below HR0_2.out HB.out) | (with_reducible refine Kd.C_alloc ?_ _) | (with_reducible refine Kd.C_drewN ?_ _) | (with_reducible refine Kd.C_drew ?_)))
     (case aB => exact (by repeat (first | (with_reducible first | exact HB.out | apply below_alloc | apply pw_below_drewN | apply below_drew1 | refine below_set ?_ GE503.out | refine below_set ?_ GE504.out | refine below_set ?_ GE511.out) | exact HB.out)))
     (case aF => exact (fun _ _ => trivial))
     (case aO => exact (by (with_reducible repeat (first | apply Kd.R_alloc | apply Kd.R_drewN | apply Kd.R_drew)); exact HO507.out))
     (case aS => exact (below_size (by repeat (first | (with_reducible first | exact HB.out | apply below_alloc | apply pw_below_drewN | apply below_drew1 | refine below_set ?_ GE503.out | refine below_set ?_ GE504.out | refine below_set ?_ GE511.out) | exact HB.out))))
     (case aL => have := LMc2.out; omega)
     intro v509 w9 ho hb hg hat
     rw [← Ny508.out] at ho
     have n0_ := Aside0.mk (blk_grown (g := gb503) (o := .cells #[.int .i64 a0_0, .string a0_1, .slice A0_2 l0_2.length c0_2, .slice A0_3 l0_3.length c0_3] 25 (0, 0)) (by (with_reducible repeat (first | refine blk_drewN ?_ _ | refine blk_drew ?_ | refine blk_alloc ?_ _)); exact BK503.out) hg (Kd.R_ne HO507.out BK503.out (by decide)))
     have n1_ := Aside0.mk (blk_grown (g := gb504) (o := .cells #[.int .i64 0, .string (⟨#[]⟩ : ByteArray), .slice none 0 0, .slice none 0 0] 25 (0, 0)) (by (with_reducible repeat (first | refine blk_drewN ?_ _ | refine blk_drew ?_ | refine blk_alloc ?_ _)); exact BK504.out) hg (Kd.R_ne HO507.out BK504.out (by decide)))
     have n2_ := Aside0.mk (blk_grown (g := gb511) (o := .cells #[.int .i64 0, .string (⟨#[]⟩ : ByteArray), .slice none 0 0, .slice none 0 0] 25 (0, 0)) (by (with_reducible repeat (first | refine blk_drewN ?_ _ | refine blk_drew ?_ | refine blk_alloc ?_ _)); exact BK511.out) hg (Kd.R_ne HO507.out BK511.out (by decide)))
     have n3_ := Aside0.mk (hb)
     have n4_ := Aside0.mk (ho)
     clear BK503
     clear BK504
     clear BK511
     clear HB
     clear HO507
     have BK503 := n0_
     have BK504 := n1_
     have BK511 := n2_
     have HB := n3_
     have HO510 := n4_
     clear n0_ n1_ n2_ n3_ n4_
     clear ho hb hg hat
     obtain ⟨Ao10, co10, eo10⟩ := Kd.R_slice HO510.out
     (first | subst eo10 | (injection eo10 with f1_ f2_ f3_; have f4_ := f1_.symm; have f5_ := f3_.symm; clear f1_ f2_ f3_; subst f4_; subst f5_))
     refine hK.out _ _ ⟨(blk_cell BK503.out 0).trans rfl, (blk_cell BK503.out 1).trans rfl, (blk_cell BK503.out 2).trans rfl, (blk_cell BK503.out 3).trans rfl⟩ (fun hHeld => ?_)
     clear hK K
     refine norm_ (a' := ?_) ?_ ?_
     rotate_left
     ·show Act.put _ (some 12) _ = _
      simp only [Act.put, sAx, sZx, sSx, i64_w, i32_w]
      rfl
     refine pure_ (i := 8) (N := some 13) (v := ?_) (a' := ?_) #[true, true, true, true, true, true, true, true, true, true, false] rfl rfl (any_of HT_.out (by kernel_rfl)) (fun _ _ _ h => h) (Or.inl ⟨by rfl, ?_⟩) ?_ ?_
     rotate_left
     ·intro w'
      go_simp
      with_reducible rfl
     rotate_left
     ·simp only [Act.put, sAx, sZx, sSx, i64_w, i32_w]
      rfl
     exact norm_ (by simp only [putAll, Act.put, List.setIfInBounds_toArray, List.set_cons_zero, List.set_cons_succ]) (hCont (v506, .slice Ao10 y508.length co10, gb511) _ ⟨hHeld, (by (with_reducible repeat (first | apply Kd.R_alloc | apply Kd.R_drewN | apply Kd.R_drew)); exact HO510.out), (by (with_reducible repeat (first | refine blk_drewN ?_ _ | refine blk_drew ?_ | refine blk_alloc ?_ _)); exact BK503.out), (by (with_reducible repeat (first | refine blk_drewN ?_ _ | refine blk_drew ?_ | refine blk_alloc ?_ _)); exact BK504.out), (by (with_reducible repeat (first | refine blk_drewN ?_ _ | refine blk_drew ?_ | refine blk_alloc ?_ _)); exact BK511.out), GW511.out, GE511.out, NB503_511.out, NB511_503.out, NB504_511.out, NB511_504.out, (by repeat (first | (with_reducible first | exact HB.out | apply below_alloc | apply pw_below_drewN | apply below_drew1 | refine below_set ?_ GE503.out | refine below_set ?_ GE504.out | refine below_set ?_ GE511.out) | exact HB.out))⟩)
   ·skip
    refine box_step ?hg (N := 3) ?hd (cs := #[.int .i64 0, .string (⟨#[]⟩ : ByteArray), .slice none 0 0, .slice none 0 0]) (t := 25) ?hr ?_; (case hd => rfl); (case hg => rfl); (case hr => first | (go_simp; done) | (go_simp; rfl))
    intro gb511 hg w6 hbox hb
    have n0_ := Aside0.mk (blk_below (g := gb503) (o := .cells #[.int .i64 a0_0, .string a0_1, .slice A0_2 l0_2.length c0_2, .slice A0_3 l0_3.length c0_3] 25 (0, 0)) (by (with_reducible repeat (first | refine blk_drewN ?_ _ | refine blk_drew ?_ | refine blk_alloc ?_ _)); exact BK503.out) hb)
    have n1_ := Aside0.mk (blk_below (g := gb504) (o := .cells #[.int .i64 0, .string (⟨#[]⟩ : ByteArray), .slice none 0 0, .slice none 0 0] 25 (0, 0)) (by (with_reducible repeat (first | refine blk_drewN ?_ _ | refine blk_drew ?_ | refine blk_alloc ?_ _)); exact BK504.out) hb)
    have n2_ := Aside0.mk (below_step (by repeat (first | (with_reducible first | exact HB.out | apply below_alloc | apply pw_below_drewN | apply below_drew1 | refine below_set ?_ GE503.out | refine below_set ?_ GE504.out) | exact HB.out)) hb)
    have n3_ := Aside0.mk (hbox)
    have n4_ := Aside0.mk ((by rw [hg]; exact (below_size (by repeat (first | (with_reducible first | exact HB.out | apply below_alloc | apply pw_below_drewN | apply below_drew1 | refine below_set ?_ GE503.out | refine below_set ?_ GE504.out) | exact HB.out))) : w.heap.size ≤ gb511))
    have n5_ := Aside0.mk ((by rw [hg]; exact (below_size (by repeat (first | (with_reducible first | exact HB.out | apply below_alloc | apply pw_below_drewN | apply below_drew1 | refine below_set ?_ GE503.out | refine below_set ?_ GE504.out) | exact HB.out))) : w.heap.size ≤ gb511))
    have n6_ := Aside0.mk ((by rw [hg]; exact Nat.ne_of_lt (blk_lt (g := gb503) (o := .cells #[.int .i64 a0_0, .string a0_1, .slice A0_2 l0_2.length c0_2, .slice A0_3 l0_3.length c0_3] 25 (0, 0)) (by (with_reducible repeat (first | refine blk_drewN ?_ _ | refine blk_drew ?_ | refine blk_alloc ?_ _)); exact BK503.out)) : gb503 ≠ gb511))
    have n7_ := Aside0.mk ((by rw [hg]; exact Nat.ne_of_gt (blk_lt (g := gb503) (o := .cells #[.int .i64 a0_0, .string a0_1, .slice A0_2 l0_2.length c0_2, .slice A0_3 l0_3.length c0_3] 25 (0, 0)) (by (with_reducible repeat (first | refine blk_drewN ?_ _ | refine blk_drew ?_ | refine blk_alloc ?_ _)); exact BK503.out)) : gb511 ≠ gb503))
    have n8_ := Aside0.mk ((by rw [hg]; exact Nat.ne_of_lt (blk_lt (g := gb504) (o := .cells #[.int .i64 0, .string (⟨#[]⟩ : ByteArray), .slice none 0 0, .slice none 0 0] 25 (0, 0)) (by (with_reducible repeat (first | refine blk_drewN ?_ _ | refine blk_drew ?_ | refine blk_alloc ?_ _)); exact BK504.out)) : gb504 ≠ gb511))
    have n9_ := Aside0.mk ((by rw [hg]; exact Nat.ne_of_gt (blk_lt (g := gb504) (o := .cells #[.int .i64 0, .string (⟨#[]⟩ : ByteArray), .slice none 0 0, .slice none 0 0] 25 (0, 0)) (by (with_reducible repeat (first | refine blk_drewN ?_ _ | refine blk_drew ?_ | refine blk_alloc ?_ _)); exact BK504.out)) : gb511 ≠ gb504))
    clear BK503
    clear BK504
    clear HB
    have BK503 := n0_
    have BK504 := n1_
    have HB := n2_
    have BK511 := n3_
    have GW511 := n4_
    have GE511 := n5_
    have NB503_511 := n6_
    have NB511_503 := n7_
    have NB504_511 := n8_
    have NB511_504 := n9_
    clear n0_ n1_ n2_ n3_ n4_ n5_ n6_ n7_ n8_ n9_
    clear hb hbox hg
    refine hK.out _ _ ⟨(blk_cell BK503.out 0).trans rfl, (blk_cell BK503.out 1).trans rfl, (blk_cell BK503.out 2).trans rfl, (blk_cell BK503.out 3).trans rfl⟩ (fun hHeld => ?_)
    clear hK K
    refine norm_ (a' := ?_) ?_ ?_
    rotate_left
    ·show Act.put _ (some 3) _ = _
     simp only [Act.put, sAx, sZx, sSx, i64_w, i32_w]
     rfl
    refine one_ (i := 4) (N := some 9) #[true, true, true, true, true, true, true, false, false, true, false] rfl rfl (one_of HT_.out (by kernel_rfl)) (by decide) (fun K hK => ?_)
    refine Kd.R_lit_step Kd.string _ 9 ?hg (N := 9) ?hd (xs := ([] : List ByteArray)) (inner := []) (ok := fun _ => True) (okp := fun _ => True) ?hr ?hp (fun _ hk => hk) trivial (Below.refl _ _) (Nat.le_refl _) (by simp) ?_; (case hd => rfl); (case hg => rfl); (case hr => first | (go_simp; done) | (go_simp; rfl)); (case hp => exact (Reps.none _ _))
    intro v506 w7 ho8 hb hg_ hnew_
    clear hg_ hnew_
    (first | rw [← Ny505.out] at ho8 | (simp only [Int.reduceToNat] at ho8; rw [← Ny505.out] at ho8))
    have n0_ := Aside0.mk (Kd.R_lower ho8 (below_size (by repeat (first | (with_reducible first | exact HB.out | apply below_alloc | apply pw_below_drewN | apply below_drew1 | refine below_set ?_ GE503.out | refine below_set ?_ GE504.out | refine below_set ?_ GE511.out) | exact HB.out))))
    have n1_ := Aside0.mk (blk_below (g := gb503) (o := .cells #[.int .i64 a0_0, .string a0_1, .slice A0_2 l0_2.length c0_2, .slice A0_3 l0_3.length c0_3] 25 (0, 0)) (by (with_reducible repeat (first | refine blk_drewN ?_ _ | refine blk_drew ?_ | refine blk_alloc ?_ _)); exact BK503.out) hb)
    have n2_ := Aside0.mk (blk_below (g := gb504) (o := .cells #[.int .i64 0, .string (⟨#[]⟩ : ByteArray), .slice none 0 0, .slice none 0 0] 25 (0, 0)) (by (with_reducible repeat (first | refine blk_drewN ?_ _ | refine blk_drew ?_ | refine blk_alloc ?_ _)); exact BK504.out) hb)
    have n3_ := Aside0.mk (blk_below (g := gb511) (o := .cells #[.int .i64 0, .string (⟨#[]⟩ : ByteArray), .slice none 0 0, .slice none 0 0] 25 (0, 0)) (by (with_reducible repeat (first | refine blk_drewN ?_ _ | refine blk_drew ?_ | refine blk_alloc ?_ _)); exact BK511.out) hb)
    have n4_ := Aside0.mk (below_step (by repeat (first | (with_reducible first | exact HB.out | apply below_alloc | apply pw_below_drewN | apply below_drew1 | refine below_set ?_ GE503.out | refine below_set ?_ GE504.out | refine below_set ?_ GE511.out) | exact HB.out)) hb)
    clear BK503
    clear BK504
    clear BK511
    clear HB
    have HO507 := n0_
    have BK503 := n1_
    have BK504 := n2_
    have BK511 := n3_
    have HB := n4_
    clear n0_ n1_ n2_ n3_ n4_
    clear hb ho8
    refine hK.out _ _ ⟨(blk_cell BK503.out 0).trans rfl, (blk_cell BK503.out 1).trans rfl, (blk_cell BK503.out 2).trans rfl, (blk_cell BK503.out 3).trans rfl⟩ (fun hHeld => ?_)
    clear hK K
    refine norm_ (a' := ?_) ?_ ?_
    rotate_left
    ·show Act.put _ (some 9) _ = _
     simp only [Act.put, sAx, sZx, sSx, i64_w, i32_w]
     rfl
    refine one_ (i := 7) (N := some 12) #[true, true, true, true, true, true, true, true, false, true, false] rfl rfl (one_of HT_.out (by kernel_rfl)) (by decide) (fun K hK => ?_)
    refine Kd.R_append_rows_step Kd.string (w0 := w) w.heap.size (by rfl) (.tmp 9) (.tmp 11) 22 9 (.string ⟨#[]⟩) 16 rfl Tryd.underlying22 info9 rfl (by decide) (by omega) v506 y505 l0_2 _ _ _ (fun _ => True) (fun _ => False) rfl rfl ?aO ?aR (fun _ _ h => h) (fun _ h => h.elim) ?aF ?aB ?aS ?aL ?_
    (case aR => repeat (first | exact (Kd.C_below HR0_2.out HB.out) | (with_reducible refine Kd.C_alloc ?_ _) | (with_reducible refine Kd.C_drewN ?_ _) | (with_reducible refine Kd.C_drew ?_)))
    (case aB => exact (by repeat (first | (with_reducible first | exact HB.out | apply below_alloc | apply pw_below_drewN | apply below_drew1 | refine below_set ?_ GE503.out | refine below_set ?_ GE504.out | refine below_set ?_ GE511.out) | exact HB.out)))
    (case aF => exact (fun _ _ => trivial))
    (case aO => exact (by (with_reducible repeat (first | apply Kd.R_alloc | apply Kd.R_drewN | apply Kd.R_drew)); exact HO507.out))
    (case aS => exact (below_size (by repeat (first | (with_reducible first | exact HB.out | apply below_alloc | apply pw_below_drewN | apply below_drew1 | refine below_set ?_ GE503.out | refine below_set ?_ GE504.out | refine below_set ?_ GE511.out) | exact HB.out))))
    (case aL => have := LMc2.out; omega)
    intro v509 w9 ho hb hg hat
    rw [← Ny508.out] at ho
    have n0_ := Aside0.mk (blk_grown (g := gb503) (o := .cells #[.int .i64 a0_0, .string a0_1, .slice A0_2 l0_2.length c0_2, .slice A0_3 l0_3.length c0_3] 25 (0, 0)) (by (with_reducible repeat (first | refine blk_drewN ?_ _ | refine blk_drew ?_ | refine blk_alloc ?_ _)); exact BK503.out) hg (Kd.R_ne HO507.out BK503.out (by decide)))
    have n1_ := Aside0.mk (blk_grown (g := gb504) (o := .cells #[.int .i64 0, .string (⟨#[]⟩ : ByteArray), .slice none 0 0, .slice none 0 0] 25 (0, 0)) (by (with_reducible repeat (first | refine blk_drewN ?_ _ | refine blk_drew ?_ | refine blk_alloc ?_ _)); exact BK504.out) hg (Kd.R_ne HO507.out BK504.out (by decide)))
    have n2_ := Aside0.mk (blk_grown (g := gb511) (o := .cells #[.int .i64 0, .string (⟨#[]⟩ : ByteArray), .slice none 0 0, .slice none 0 0] 25 (0, 0)) (by (with_reducible repeat (first | refine blk_drewN ?_ _ | refine blk_drew ?_ | refine blk_alloc ?_ _)); exact BK511.out) hg (Kd.R_ne HO507.out BK511.out (by decide)))
    have n3_ := Aside0.mk (hb)
    have n4_ := Aside0.mk (ho)
    clear BK503
    clear BK504
    clear BK511
    clear HB
    clear HO507
    have BK503 := n0_
    have BK504 := n1_
    have BK511 := n2_
    have HB := n3_
    have HO510 := n4_
    clear n0_ n1_ n2_ n3_ n4_
    clear ho hb hg hat
    obtain ⟨Ao10, co10, eo10⟩ := Kd.R_slice HO510.out
    (first | subst eo10 | (injection eo10 with f1_ f2_ f3_; have f4_ := f1_.symm; have f5_ := f3_.symm; clear f1_ f2_ f3_; subst f4_; subst f5_))
    refine hK.out _ _ ⟨(blk_cell BK503.out 0).trans rfl, (blk_cell BK503.out 1).trans rfl, (blk_cell BK503.out 2).trans rfl, (blk_cell BK503.out 3).trans rfl⟩ (fun hHeld => ?_)
    clear hK K
    refine norm_ (a' := ?_) ?_ ?_
    rotate_left
    ·show Act.put _ (some 12) _ = _
     simp only [Act.put, sAx, sZx, sSx, i64_w, i32_w]
     rfl
    refine pure_ (i := 8) (N := some 13) (v := ?_) (a' := ?_) #[true, true, true, true, true, true, true, true, true, true, false] rfl rfl (any_of HT_.out (by kernel_rfl)) (fun _ _ _ h => h) (Or.inl ⟨by rfl, ?_⟩) ?_ ?_
    rotate_left
    ·intro w'
     go_simp
     with_reducible rfl
    rotate_left
    ·simp only [Act.put, sAx, sZx, sSx, i64_w, i32_w]
     rfl
    exact norm_ (by simp only [putAll, Act.put, List.setIfInBounds_toArray, List.set_cons_zero, List.set_cons_succ]) (hCont (v506, .slice Ao10 y508.length co10, gb511) _ ⟨hHeld, (by (with_reducible repeat (first | apply Kd.R_alloc | apply Kd.R_drewN | apply Kd.R_drew)); exact HO510.out), (by (with_reducible repeat (first | refine blk_drewN ?_ _ | refine blk_drew ?_ | refine blk_alloc ?_ _)); exact BK503.out), (by (with_reducible repeat (first | refine blk_drewN ?_ _ | refine blk_drew ?_ | refine blk_alloc ?_ _)); exact BK504.out), (by (with_reducible repeat (first | refine blk_drewN ?_ _ | refine blk_drew ?_ | refine blk_alloc ?_ _)); exact BK511.out), GW511.out, GE511.out, NB503_511.out, NB511_503.out, NB504_511.out, NB511_504.out, (by repeat (first | (with_reducible first | exact HB.out | apply below_alloc | apply pw_below_drewN | apply below_drew1 | refine below_set ?_ GE503.out | refine below_set ?_ GE504.out | refine below_set ?_ GE511.out) | exact HB.out))⟩)
  rintro ⟨v506, v509, gb511⟩ w11 ⟨hS_, h0_, h1_, h2_, h3_, h4_, h5_, h6_, h7_, h8_, h9_, h10_⟩
  have n0_ : Aside0 (Kd.R Kd.string 9 w11 w.heap.size (fun _ => True) v509 y508) := ⟨h0_⟩
  have n1_ : Aside0 (w11.heap[gb503]? = some (.cells #[.int .i64 a0_0, .string a0_1, .slice A0_2 l0_2.length c0_2, .slice A0_3 l0_3.length c0_3] 25 (0, 0))) := ⟨h1_⟩
  have n2_ : Aside0 (w11.heap[gb504]? = some (.cells #[.int .i64 0, .string (⟨#[]⟩ : ByteArray), .slice none 0 0, .slice none 0 0] 25 (0, 0))) := ⟨h2_⟩
  have n3_ : Aside0 (w11.heap[gb511]? = some (.cells #[.int .i64 0, .string (⟨#[]⟩ : ByteArray), .slice none 0 0, .slice none 0 0] 25 (0, 0))) := ⟨h3_⟩
  have n4_ : Aside0 (w.heap.size ≤ gb511) := ⟨h4_⟩
  have n5_ : Aside0 (w.heap.size ≤ gb511) := ⟨h5_⟩
  have n6_ : Aside0 (gb503 ≠ gb511) := ⟨h6_⟩
  have n7_ : Aside0 (gb511 ≠ gb503) := ⟨h7_⟩
  have n8_ : Aside0 (gb504 ≠ gb511) := ⟨h8_⟩
  have n9_ : Aside0 (gb511 ≠ gb504) := ⟨h9_⟩
  have n10_ : Aside0 (Below w.heap.size w w11) := ⟨h10_⟩
  clear BK503
  clear BK504
  clear HB
  clear h0_ h1_ h2_ h3_ h4_ h5_ h6_ h7_ h8_ h9_ h10_
  have HO510 := n0_
  have BK503 := n1_
  have BK504 := n2_
  have BK511 := n3_
  have GW511 := n4_
  have GE511 := n5_
  have NB503_511 := n6_
  have NB511_503 := n7_
  have NB504_511 := n8_
  have NB511_504 := n9_
  have HB := n10_
  clear n0_ n1_ n2_ n3_ n4_ n5_ n6_ n7_ n8_ n9_ n10_
  have hHeld : w11.cell? ⟨gb503, 0, none⟩ = some (.int .i64 a0_0) ∧ w11.cell? ⟨gb503, 1, none⟩ = some (.string a0_1) ∧ w11.cell? ⟨gb503, 2, none⟩ = some (.slice A0_2 l0_2.length c0_2) ∧ w11.cell? ⟨gb503, 3, none⟩ = some (.slice A0_3 l0_3.length c0_3) := hS_
  obtain ⟨Ao12, co12, eo12⟩ := Kd.R_slice HO510.out
  (first | subst eo12 | (injection eo12 with f1_ f2_ f3_; have f4_ := f1_.symm; have f5_ := f3_.symm; clear f1_ f2_ f3_; subst f4_; subst f5_))
  refine norm_ (a' := ?_) ?_ ?_
  rotate_left
  ·simp only [putAll, Act.put, List.setIfInBounds_toArray, List.set_cons_zero, List.set_cons_succ]
   rfl
  refine one_ (i := 10) (N := none) #[true, true, true, true, true, true, true, true, true, true, true] rfl rfl (one_of HT_.out (by kernel_rfl)) (by decide) (fun K hK => ?_)
  have hs13 : w11.cell? ⟨gb511, 0, none⟩ = some (.int .i64 0) := (blk_cell BK511.out 0).trans rfl
  have hfs13 := blk_frozen BK511.out 0
  have hns13_0 := NB503_511.out
  have hns13_1 := NB504_511.out
  have hms13_0 := NB511_503.out
  have hms13_1 := NB511_504.out
  have hs14 : w11.cell? ⟨gb511, 1, none⟩ = some (.string (⟨#[]⟩ : ByteArray)) := (blk_cell BK511.out 1).trans rfl
  have hfs14 := blk_frozen BK511.out 1
  have hns14_0 := NB503_511.out
  have hns14_1 := NB504_511.out
  have hms14_0 := NB511_503.out
  have hms14_1 := NB511_504.out
  have hs15 : w11.cell? ⟨gb511, 2, none⟩ = some (.slice none 0 0) := (blk_cell BK511.out 2).trans rfl
  have hfs15 := blk_frozen BK511.out 2
  have hns15_0 := NB503_511.out
  have hns15_1 := NB504_511.out
  have hms15_0 := NB511_503.out
  have hms15_1 := NB511_504.out
  have hs16 : w11.cell? ⟨gb511, 3, none⟩ = some (.slice none 0 0) := (blk_cell BK511.out 3).trans rfl
  have hfs16 := blk_frozen BK511.out 3
  have hns16_0 := NB503_511.out
  have hns16_1 := NB504_511.out
  have hms16_0 := NB511_503.out
  have hms16_1 := NB511_504.out
  refine skip_ (w1 := ?_) (by rfl) rfl ?_ ?_
  rotate_left
  ·go_simp
   rfl
  refine hK.out _ _ ⟨((cell_far (p := ⟨gb511, _, none⟩) NB503_511.out _).trans (((cell_far (p := ⟨gb511, _, none⟩) NB503_511.out _).trans (((cell_far (p := ⟨gb511, _, none⟩) NB503_511.out _).trans (((cell_far (p := ⟨gb511, _, none⟩) NB503_511.out _).trans (hHeld.1)))))))), ((cell_far (p := ⟨gb511, _, none⟩) NB503_511.out _).trans (((cell_far (p := ⟨gb511, _, none⟩) NB503_511.out _).trans (((cell_far (p := ⟨gb511, _, none⟩) NB503_511.out _).trans (((cell_far (p := ⟨gb511, _, none⟩) NB503_511.out _).trans (hHeld.2.1)))))))), ((cell_far (p := ⟨gb511, _, none⟩) NB503_511.out _).trans (((cell_far (p := ⟨gb511, _, none⟩) NB503_511.out _).trans (((cell_far (p := ⟨gb511, _, none⟩) NB503_511.out _).trans (((cell_far (p := ⟨gb511, _, none⟩) NB503_511.out _).trans (hHeld.2.2.1)))))))), ((cell_far (p := ⟨gb511, _, none⟩) NB503_511.out _).trans (((cell_far (p := ⟨gb511, _, none⟩) NB503_511.out _).trans (((cell_far (p := ⟨gb511, _, none⟩) NB503_511.out _).trans (((cell_far (p := ⟨gb511, _, none⟩) NB503_511.out _).trans (hHeld.2.2.2))))))))⟩ (fun hHeld => ?_)
  clear hK K
  refine done_ (done_of HT_.out (by kernel_rfl)) ?_
  try go_wp2
  go_loopg [4] k (fun kq v4 w' => ∃ (x4_1 : Int) (x512003_1 : List (S25)) (u512003 : Value), v4 = .int .i64 x4_1 ∧ Aside0 (wicketref04_Twin.l0 kq x4_1 a0_0 a0_1 l0_2 l0_3 a0_0 a0_1 y508 x512003_1 = some (r1, r2, r3, r4)) ∧ Aside0 (kq ≤ k) ∧ Aside0 (Kd.R Kd.string 9 w' w.heap.size (fun _ => True) (.slice Ao12 y508.length co12) y508) ∧ Aside0 (Kd.R k25 25 w' w.heap.size (fun k_ => some k_ ≠ ((.slice Ao12 y508.length co12) : Value).ownBlock ∧ k_ ≠ gb503 ∧ k_ ≠ gb504 ∧ k_ ≠ gb511) u512003 x512003_1) ∧ Aside0 (w'.heap[gb503]? = some (.cells #[.int .i64 a0_0, .string a0_1, (.slice A0_2 l0_2.length c0_2), (.slice A0_3 l0_3.length c0_3)] 25 (0, 0))) ∧ Aside0 (w'.heap[gb504]? = some (.cells #[.int .i64 0, .string (⟨#[]⟩ : ByteArray), (.slice none 0 0), (.slice none 0 0)] 25 (0, 0))) ∧ Aside0 (w'.heap[gb511]? = some (.cells #[.int .i64 a0_0, .string a0_1, (.slice Ao12 y508.length co12), u512003] 25 (0, 0))) ∧ Aside0 (Below w.heap.size w w'))
  case atStart => exact ⟨(0), (([] : List (S25))), (.slice none 0 0), (by first | rfl | (simp; done) | (simp [*]; done)), H', ⟨Nat.le_refl _⟩, ⟨by (with_reducible repeat (first | apply Kd.R_alloc | apply Kd.R_drewN | apply Kd.R_drew)); exact Kd.R_mono (Kd.R_far (p := ⟨gb511, 3, none⟩) (Kd.R_far (p := ⟨gb511, 2, none⟩) (Kd.R_far (p := ⟨gb511, 1, none⟩) (Kd.R_far (p := ⟨gb511, 0, none⟩) (Kd.R_types HO510.out BK511.out (by decide)) (fun _ hk => hk.2) (.int .i64 a0_0)) (fun _ hk => hk.2) (.string a0_1)) (fun _ hk => hk.2) (.slice Ao12 y508.length co12)) (fun _ hk => hk.2) (.slice none 0 0)) (fun _ hk => trivial)⟩, ⟨by first | exact Kd.R_nil _ _ _ _ _ | exact Kd.N_nil _ _ _ _ _ | exact Kd.V_nil _ _ _ _ _ | exact Kd.Q_nil _ _ _ _ _ | exact Kd.S_nil _ _ _ _ _⟩, ⟨by (with_reducible repeat (first | refine blk_drewN ?_ _ | refine blk_drew ?_ | refine blk_alloc ?_ _)); refine blk_far ?_ NB503_511.out _; (with_reducible repeat (first | refine blk_drewN ?_ _ | refine blk_drew ?_ | refine blk_alloc ?_ _)); refine blk_far ?_ NB503_511.out _; (with_reducible repeat (first | refine blk_drewN ?_ _ | refine blk_drew ?_ | refine blk_alloc ?_ _)); refine blk_far ?_ NB503_511.out _; (with_reducible repeat (first | refine blk_drewN ?_ _ | refine blk_drew ?_ | refine blk_alloc ?_ _)); refine blk_far ?_ NB503_511.out _; (with_reducible repeat (first | refine blk_drewN ?_ _ | refine blk_drew ?_ | refine blk_alloc ?_ _)); exact BK503.out⟩, ⟨by (with_reducible repeat (first | refine blk_drewN ?_ _ | refine blk_drew ?_ | refine blk_alloc ?_ _)); refine blk_far ?_ NB504_511.out _; (with_reducible repeat (first | refine blk_drewN ?_ _ | refine blk_drew ?_ | refine blk_alloc ?_ _)); refine blk_far ?_ NB504_511.out _; (with_reducible repeat (first | refine blk_drewN ?_ _ | refine blk_drew ?_ | refine blk_alloc ?_ _)); refine blk_far ?_ NB504_511.out _; (with_reducible repeat (first | refine blk_drewN ?_ _ | refine blk_drew ?_ | refine blk_alloc ?_ _)); refine blk_far ?_ NB504_511.out _; (with_reducible repeat (first | refine blk_drewN ?_ _ | refine blk_drew ?_ | refine blk_alloc ?_ _)); exact BK504.out⟩, ⟨by (with_reducible repeat (first | refine blk_drewN ?_ _ | refine blk_drew ?_ | refine blk_alloc ?_ _)); refine blk_put (cs := #[.int .i64 a0_0, .string a0_1, .slice Ao12 y508.length co12, .slice none 0 0]) ?_ 3 _ rfl; (with_reducible repeat (first | refine blk_drewN ?_ _ | refine blk_drew ?_ | refine blk_alloc ?_ _)); refine blk_put (cs := #[.int .i64 a0_0, .string a0_1, .slice none 0 0, .slice none 0 0]) ?_ 2 _ rfl; (with_reducible repeat (first | refine blk_drewN ?_ _ | refine blk_drew ?_ | refine blk_alloc ?_ _)); refine blk_put (cs := #[.int .i64 a0_0, .string (⟨#[]⟩ : ByteArray), .slice none 0 0, .slice none 0 0]) ?_ 1 _ rfl; (with_reducible repeat (first | refine blk_drewN ?_ _ | refine blk_drew ?_ | refine blk_alloc ?_ _)); refine blk_put (cs := #[.int .i64 0, .string (⟨#[]⟩ : ByteArray), .slice none 0 0, .slice none 0 0]) ?_ 0 _ rfl; (with_reducible repeat (first | refine blk_drewN ?_ _ | refine blk_drew ?_ | refine blk_alloc ?_ _)); exact BK511.out⟩, ⟨by repeat (first | (with_reducible first | exact HB.out | apply below_alloc | apply pw_below_drewN | apply below_drew1 | refine below_set ?_ GE503.out | refine below_set ?_ GE504.out | refine below_set ?_ GE511.out) | exact HB.out)⟩⟩
  case round =>
   clear H'
   try clear c1
   try clear c2
   try clear p2
   obtain ⟨x4_1, x512003_1, u512003, rfl, HA, HK1, HO_512002, HO_512003, BK503, BK504, BK511, HB⟩ := hrel
   cases gk with
   | zero => exact absurd HA.out (by simp [wicketref04_Twin.l0])
   | succ k1 =>
    have H := HA.out
    clear HA
    simp only [wicketref04_Twin.l0] at H
    by_cases c17 : x4_1 < (l0_3.length : Int)
    ·rw [if_pos c17] at H
     have c17b0 : decide (x4_1 < (l0_3.length : Int)) = true := decide_eq_true c17
     clear c17
     by_cases c18 : 0 ≤ x4_1
     ·rw [if_pos c18] at H
      have c18b0 : decide (0 ≤ x4_1) = true := decide_eq_true c18
      clear c18
      replace H := Option.bind_eq_some_iff.mp H
      obtain ⟨⟨t513, t514, t515, t518⟩, A190, H⟩ := H
      replace H : (if x512003_1.length < 1954687338268 then (wicketref04_Twin.l0 k1 (wrap64 (x4_1 + 1)) a0_0 a0_1 l0_2 l0_3 a0_0 a0_1 y508 (x512003_1 ++ [(⟨t513, t514, t515, t518⟩ : S25)])) else (none)) = some (r1, r2, r3, r4) := H
      have A19 := Aside0.mk A190
      clear A190
      by_cases c20 : x512003_1.length < 1954687338268
      ·rw [if_pos c20] at H
       have LMc20 := Aside0.mk c20
       clear c20
       obtain ⟨y521, hy521⟩ : ∃ y_ : List (S25), y_ = (x512003_1 ++ [(⟨t513, t514, t515, t518⟩ : S25)]) := ⟨_, rfl⟩
       replace H : (wicketref04_Twin.l0 k1 (wrap64 (x4_1 + 1)) a0_0 a0_1 l0_2 l0_3 a0_0 a0_1 y508 y521) = some (r1, r2, r3, r4) := by first | (rw [hy521]; with_reducible exact H) | (have H2_ := (Option.bind_some _ _).symm.trans H; rw [hy521]; with_reducible exact H2_) | (have H2_ := (Option.bind_some _ _).symm.trans H; with_reducible exact H2_) | with_reducible exact H | (rw [hy521]; exact H) | exact H
       have Ny521 := Aside0.mk hy521
       clear hy521
       have H' := Aside0.mk H
       clear H
       have hnb21 := NB503_504.out
       have hnc21 := NB504_503.out
       have hnb22 := NB503_511.out
       have hnc22 := NB511_503.out
       have hcz23_0 : wr.cell? ⟨gb503, 0, none⟩ = some (.int .i64 a0_0) := (blk_cell BK503.out 0).trans rfl
       have hcz23_1 : wr.cell? ⟨gb503, 1, none⟩ = some (.string a0_1) := (blk_cell BK503.out 1).trans rfl
       have hcz23_2 : wr.cell? ⟨gb503, 2, none⟩ = some (.slice A0_2 l0_2.length c0_2) := (blk_cell BK503.out 2).trans rfl
       have hcz23_3 : wr.cell? ⟨gb503, 3, none⟩ = some (.slice A0_3 l0_3.length c0_3) := (blk_cell BK503.out 3).trans rfl
       have hfz23_0 := blk_frozen BK503.out 0
       have hfz23_1 := blk_frozen BK503.out 1
       have hfz23_2 := blk_frozen BK503.out 2
       have hfz23_3 := blk_frozen BK503.out 3
       try go_wp2
       have n0_ := Aside0.mk (Kd.R_drew HO_512002.out)
       have n1_ := Aside0.mk (Kd.R_drew HO_512003.out)
       have n2_ := Aside0.mk (blk_drew BK503.out)
       have n3_ := Aside0.mk (blk_drew BK504.out)
       have n4_ := Aside0.mk (blk_drew BK511.out)
       have n5_ := Aside0.mk (below_drew1 HB.out)
       clear HO_512002
       clear HO_512003
       clear BK503
       clear BK504
       clear BK511
       clear HB
       have HO_512002 := n0_
       have HO_512003 := n1_
       have BK503 := n2_
       have BK504 := n3_
       have BK511 := n4_
       have HB := n5_
       clear n0_ n1_ n2_ n3_ n4_ n5_
       have p512 : 0 ≤ (x4_1 : Int) := of_decide_eq_true (by first | (with_reducible assumption) | assumption)
       have q512 : x4_1 < (l0_3.length : Int) := of_decide_eq_true (by first | (with_reducible assumption) | assumption)
       obtain ⟨ad512, A512_2, c512_2, A512_3, c512_3, e512, hx512_0, hx512_1, hx512_2, hx512_3, hl512_2, hi512_2, hl512_3, hi512_3⟩ := at_T25 HR0_3.out x4_1 p512 q512
       have hw512_3 := hx512_3
       have hw512_2 := hx512_2
       have hw512_1 := hx512_1
       have hw512_0 := hx512_0
       cases e512
       replace hx512_0 := (HB.out.cell (World.block_lt_of_cell? w _ hx512_0)).trans hx512_0
       replace hx512_1 := (HB.out.cell (World.block_lt_of_cell? w _ hx512_1)).trans hx512_1
       replace hx512_2 := (HB.out.cell (World.block_lt_of_cell? w _ hx512_2)).trans hx512_2
       replace hx512_3 := (HB.out.cell (World.block_lt_of_cell? w _ hx512_3)).trans hx512_3
       have HR512_2 := Aside0.mk hi512_2
       have HC512_2 := Aside0.mk hl512_2
       clear hi512_2 hl512_2
       have HR512_3 := Aside0.mk hi512_3
       have HC512_3 := Aside0.mk hl512_3
       clear hi512_3 hl512_3
       replace p512 := eq_true p512
       replace q512 := eq_true q512
       refine start_ (n := 12) (S := fun w' => w'.cell? ⟨gb511, 0, none⟩ = some (.int .i64 a0_0) ∧ w'.cell? ⟨gb511, 1, none⟩ = some (.string a0_1) ∧ w'.cell? ⟨gb511, 2, none⟩ = some (.slice Ao12 y508.length co12) ∧ w'.cell? ⟨gb511, 3, none⟩ = some (u512003) ∧ w'.cell? ⟨gb503, 0, none⟩ = some (.int .i64 a0_0) ∧ w'.cell? ⟨gb503, 1, none⟩ = some (.string a0_1) ∧ w'.cell? ⟨gb503, 2, none⟩ = some (.slice A0_2 l0_2.length c0_2) ∧ w'.cell? ⟨gb503, 3, none⟩ = some (.slice (some ad512) l0_3.length c0_3) ∧ w'.cell? (ad512.add ((x4_1).toNat * 4)) = some (.int .i64 ((rd_T25 l0_3 x4_1).f0)) ∧ w'.cell? ⟨(ad512.add ((x4_1).toNat * 4)).block, (ad512.add ((x4_1).toNat * 4)).off + 1, none⟩ = some (.string ((rd_T25 l0_3 x4_1).f1)) ∧ w'.cell? ⟨(ad512.add ((x4_1).toNat * 4)).block, (ad512.add ((x4_1).toNat * 4)).off + 2, none⟩ = some (.slice A512_2 ((rd_T25 l0_3 x4_1).f2).length c512_2) ∧ w'.cell? ⟨(ad512.add ((x4_1).toNat * 4)).block, (ad512.add ((x4_1).toNat * 4)).off + 3, none⟩ = some (.slice A512_3 ((rd_T25 l0_3 x4_1).f3).length c512_3)) (ds := [11]) #[false, false, false, false, false, false, false, false, false, false, false, false] (by kernel_rfl) rfl rfl ⟨(blk_cell BK511.out 0).trans rfl, (blk_cell BK511.out 1).trans rfl, (blk_cell BK511.out 2).trans rfl, (blk_cell BK511.out 3).trans rfl, (blk_cell BK503.out 0).trans rfl, (blk_cell BK503.out 1).trans rfl, (blk_cell BK503.out 2).trans rfl, (blk_cell BK503.out 3).trans rfl, ((HB.out.cell (World.block_lt_of_cell? w _ hw512_0)).trans hw512_0), ((HB.out.cell (World.block_lt_of_cell? w _ hw512_1)).trans hw512_1), ((HB.out.cell (World.block_lt_of_cell? w _ hw512_2)).trans hw512_2), ((HB.out.cell (World.block_lt_of_cell? w _ hw512_3)).trans hw512_3)⟩ (fun hHeld => ?_); refine with_tabW wicketref04_Twin.tab5 wicketref04_Twin.bits5 (fun HT_ HW_ => ?_)
       generalize wr.drew = w24 at HO_512002 HO_512003 BK503 BK504 BK511 HB HR512_2 HR512_3 hx512_0 hx512_1 hx512_2 hx512_3 hHeld ⊢
       refine pure_ (i := 0) (N := some 21) (v := ?_) (a' := ?_) #[true, false, false, false, false, false, false, false, false, false, false, false] rfl rfl (any_of HT_.out (by kernel_rfl)) (fun _ _ _ h => h) (Or.inl ⟨by rfl, ?_⟩) ?_ ?_
       rotate_left
       ·intro w'
        go_simp
        with_reducible rfl
       rotate_left
       ·simp only [Act.put, sAx, sZx, sSx, i64_w, i32_w]
        rfl
       refine pure_ (i := 2) (N := some 23) (v := ?_) (a' := ?_) #[true, false, true, false, false, false, false, false, false, false, false, false] rfl rfl (any_of HT_.out (by kernel_rfl)) (fun _ _ _ h => h) (Or.inl ⟨by rfl, ?_⟩) ?_ ?_
       rotate_left
       ·intro w'
        go_simp
        with_reducible rfl
       rotate_left
       ·simp only [Act.put, sAx, sZx, sSx, i64_w, i32_w]
        rfl
       refine pure_ (i := 4) (N := some 25) (v := ?_) (a' := ?_) #[true, false, true, false, true, false, false, false, false, false, false, false] rfl rfl (any_of HT_.out (by kernel_rfl)) (fun _ _ _ h => h) (Or.inl ⟨by rfl, ?_⟩) ?_ ?_
       rotate_left
       ·intro w'
        go_simp
        with_reducible rfl
       rotate_left
       ·simp only [Act.put, sAx, sZx, sSx, i64_w, i32_w]
        rfl
       refine take_ (i := 1) (N := some 22) (v := ?_) (a' := ?_) #[true, true, true, false, true, false, false, false, false, false, false, false] rfl rfl (take_ofW HT_.out HW_.out (by kernel_rfl)) (fun _ _ _ h => h) (Or.inl ⟨by rfl, ?_⟩) hHeld ?_ ?_
       rotate_left
       ·rintro w' ⟨s0, s1, s2, s3, s4, s5, s6, s7, s8, s9, s10, s11⟩
        go_simp
        with_reducible rfl
       rotate_left
       ·simp only [Act.put, sAx, sZx, sSx, i64_w, i32_w]
        rfl
       refine take_ (i := 3) (N := some 24) (v := ?_) (a' := ?_) #[true, true, true, true, true, false, false, false, false, false, false, false] rfl rfl (take_ofW HT_.out HW_.out (by kernel_rfl)) (fun _ _ _ h => h) (Or.inl ⟨by rfl, ?_⟩) hHeld ?_ ?_
       rotate_left
       ·rintro w' ⟨s0, s1, s2, s3, s4, s5, s6, s7, s8, s9, s10, s11⟩
        go_simp
        with_reducible rfl
       rotate_left
       ·simp only [Act.put, sAx, sZx, sSx, i64_w, i32_w]
        rfl
       refine pure_ (i := 5) (N := some 26) (v := ?_) (a' := ?_) #[true, true, true, true, true, true, false, false, false, false, false, false] rfl rfl (any_of HT_.out (by kernel_rfl)) (fun _ _ _ h => h) (Or.inl ⟨by rfl, ?_⟩) ?_ ?_
       rotate_left
       ·intro w'
        go_simp
        with_reducible rfl
       rotate_left
       ·simp only [Act.put, sAx, sZx, sSx, i64_w, i32_w]
        rfl
       refine take_ (i := 6) (N := some 27) (v := ?_) (a' := ?_) #[true, true, true, true, true, true, true, false, false, false, false, false] rfl rfl (take_ofW HT_.out HW_.out (by kernel_rfl)) (fun _ _ _ h => h) (Or.inl ⟨by rfl, ?_⟩) hHeld ?_ ?_
       rotate_left
       ·rintro w' ⟨s0, s1, s2, s3, s4, s5, s6, s7, s8, s9, s10, s11⟩
        go_simp
        with_reducible rfl
       rotate_left
       ·simp only [Act.put, sAx, sZx, sSx, i64_w, i32_w]
        rfl
       refine one_ (i := 7) (N := some 28) #[true, true, true, true, true, true, true, true, false, false, false, false] rfl rfl (one_of HT_.out (by kernel_rfl)) (by decide) (fun K hK => ?_)
       refine goes_ Tryd.func18 (by kernel_rfl) rfl #[.agg #[.int .i64 ((rd_T25 l0_3 x4_1).f0), .string ((rd_T25 l0_3 x4_1).f1), .slice A512_2 ((rd_T25 l0_3 x4_1).f2).length c512_2, .slice A512_3 ((rd_T25 l0_3 x4_1).f3).length c512_3]] (by rfl) rfl rfl (by (try simp only [List.map_toArray, List.map_cons, List.map_nil]); first | done | rfl | (simp only [List.length_drop, List.length_take]; rfl)) ?_
       with_reducible refine (ih k1 (by have := HK1.out; omega) ((rd_T25 l0_3 x4_1).f0) ((rd_T25 l0_3 x4_1).f1) _ _ ((rd_T25 l0_3 x4_1).f2) _ _ ((rd_T25 l0_3 x4_1).f3) t513 t514 t515 t518 _ ?side1 ?side2 ?side3 ?side4 A19.out).mono ?_
       (case side1 => repeat (first | exact (Kd.C_below HR512_2.out HB.out) | (with_reducible refine Kd.C_alloc ?_ _) | (with_reducible refine Kd.C_drewN ?_ _) | (with_reducible refine Kd.C_drew ?_)))
       (case side2 => exact HC512_2.out)
       (case side3 => repeat (first | exact (Kd.C_below HR512_3.out HB.out) | (with_reducible refine Kd.C_alloc ?_ _) | (with_reducible refine Kd.C_drewN ?_ _) | (with_reducible refine Kd.C_drew ?_)))
       (case side4 => exact HC512_3.out)
       rintro e w25 ⟨v516, v519, rfl, ho0, ho1, hb⟩
       refine ⟨_, rfl, ?_⟩
       have n0_ := Aside0.mk (Kd.R_elder' (by (with_reducible repeat (first | apply Kd.R_alloc | apply Kd.R_drewN | apply Kd.R_drew)); exact HO_512002.out) (Kd.R_base ho0) hb)
       have n1_ := Aside0.mk (Kd.R_mono (Kd.R_told (Kd.R_told (Kd.R_old (by (with_reducible repeat (first | apply Kd.R_alloc | apply Kd.R_drewN | apply Kd.R_drew)); exact HO_512003.out) hb) (Kd.R_base ho0)) (Kd.R_base ho1)) (fun _ h_ => h_.1))
       have n2_ := Aside0.mk (Kd.R_lower (Kd.R_new' ho0 (Kd.R_lt (by (with_reducible repeat (first | apply Kd.R_alloc | apply Kd.R_drewN | apply Kd.R_drew)); exact HO_512002.out))) (below_size (by repeat (first | (with_reducible first | exact HB.out | apply below_alloc | apply pw_below_drewN | apply below_drew1 | refine below_set ?_ GE503.out | refine below_set ?_ GE504.out | refine below_set ?_ GE511.out) | exact HB.out))))
       have n3_ := Aside0.mk (Kd.R_lower (Kd.R_newB (Kd.R_newB (Kd.R_newB (Kd.R_new' (Kd.R_new' ho1 (Kd.R_lt (by (with_reducible repeat (first | apply Kd.R_alloc | apply Kd.R_drewN | apply Kd.R_drew)); exact HO_512002.out))) (Kd.R_lt (by (with_reducible repeat (first | apply Kd.R_alloc | apply Kd.R_drewN | apply Kd.R_drew)); exact HO_512003.out))) (g := gb503) (o := .cells #[.int .i64 a0_0, .string a0_1, .slice A0_2 l0_2.length c0_2, .slice (some ad512) l0_3.length c0_3] 25 (0, 0)) (by (with_reducible repeat (first | refine blk_drewN ?_ _ | refine blk_drew ?_ | refine blk_alloc ?_ _)); exact BK503.out)) (g := gb504) (o := .cells #[.int .i64 0, .string (⟨#[]⟩ : ByteArray), .slice none 0 0, .slice none 0 0] 25 (0, 0)) (by (with_reducible repeat (first | refine blk_drewN ?_ _ | refine blk_drew ?_ | refine blk_alloc ?_ _)); exact BK504.out)) (g := gb511) (o := .cells #[.int .i64 a0_0, .string a0_1, .slice Ao12 y508.length co12, u512003] 25 (0, 0)) (by (with_reducible repeat (first | refine blk_drewN ?_ _ | refine blk_drew ?_ | refine blk_alloc ?_ _)); exact BK511.out)) (below_size (by repeat (first | (with_reducible first | exact HB.out | apply below_alloc | apply pw_below_drewN | apply below_drew1 | refine below_set ?_ GE503.out | refine below_set ?_ GE504.out | refine below_set ?_ GE511.out) | exact HB.out))))
       have n4_ := Aside0.mk (blk_below (g := gb503) (o := .cells #[.int .i64 a0_0, .string a0_1, .slice A0_2 l0_2.length c0_2, .slice (some ad512) l0_3.length c0_3] 25 (0, 0)) (by (with_reducible repeat (first | refine blk_drewN ?_ _ | refine blk_drew ?_ | refine blk_alloc ?_ _)); exact BK503.out) hb)
       have n5_ := Aside0.mk (blk_below (g := gb504) (o := .cells #[.int .i64 0, .string (⟨#[]⟩ : ByteArray), .slice none 0 0, .slice none 0 0] 25 (0, 0)) (by (with_reducible repeat (first | refine blk_drewN ?_ _ | refine blk_drew ?_ | refine blk_alloc ?_ _)); exact BK504.out) hb)
       have n6_ := Aside0.mk (blk_below (g := gb511) (o := .cells #[.int .i64 a0_0, .string a0_1, .slice Ao12 y508.length co12, u512003] 25 (0, 0)) (by (with_reducible repeat (first | refine blk_drewN ?_ _ | refine blk_drew ?_ | refine blk_alloc ?_ _)); exact BK511.out) hb)
       have n7_ := Aside0.mk (below_step (by repeat (first | (with_reducible first | exact HB.out | apply below_alloc | apply pw_below_drewN | apply below_drew1 | refine below_set ?_ GE503.out | refine below_set ?_ GE504.out | refine below_set ?_ GE511.out) | exact HB.out)) hb)
       clear HO_512002
       clear HO_512003
       clear BK503
       clear BK504
       clear BK511
       clear HB
       have HO_512002 := n0_
       have HO_512003 := n1_
       have HO517 := n2_
       have HO520 := n3_
       have BK503 := n4_
       have BK504 := n5_
       have BK511 := n6_
       have HB := n7_
       clear n0_ n1_ n2_ n3_ n4_ n5_ n6_ n7_
       (try clear hb)
       (try clear hb2)
       (try clear hk)
       (try clear hi)
       (try clear ho0)
       (try clear ho1)
       obtain ⟨Ao27, co27, eo27⟩ := Kd.R_slice HO517.out
       (first | subst eo27 | (injection eo27 with f1_ f2_ f3_; have f4_ := f1_.symm; have f5_ := f3_.symm; clear f1_ f2_ f3_; subst f4_; subst f5_))
       obtain ⟨Ao28, co28, eo28⟩ := Kd.R_slice HO520.out
       (first | subst eo28 | (injection eo28 with f1_ f2_ f3_; have f4_ := f1_.symm; have f5_ := f3_.symm; clear f1_ f2_ f3_; subst f4_; subst f5_))
       refine hK.out _ _ ⟨(blk_cell BK511.out 0).trans rfl, (blk_cell BK511.out 1).trans rfl, (blk_cell BK511.out 2).trans rfl, (blk_cell BK511.out 3).trans rfl, (blk_cell BK503.out 0).trans rfl, (blk_cell BK503.out 1).trans rfl, (blk_cell BK503.out 2).trans rfl, (blk_cell BK503.out 3).trans rfl, ((HB.out.cell (World.block_lt_of_cell? w _ hw512_0)).trans hw512_0), ((HB.out.cell (World.block_lt_of_cell? w _ hw512_1)).trans hw512_1), ((HB.out.cell (World.block_lt_of_cell? w _ hw512_2)).trans hw512_2), ((HB.out.cell (World.block_lt_of_cell? w _ hw512_3)).trans hw512_3)⟩ (fun hHeld => ?_)
       clear hK K
       refine norm_ (a' := ?_) ?_ ?_
       rotate_left
       ·show Act.put _ (some 28) _ = _
        simp only [Act.put, sAx, sZx, sSx, i64_w, i32_w]
        rfl
       refine one_ (i := 8) (N := some 29) #[true, true, true, true, true, true, true, true, true, false, false, false] rfl rfl (one_of HT_.out (by kernel_rfl)) (by decide) (fun K hK => ?_)
       refine value_ (w1 := ?_) (v := ?_) (by rfl) rfl ?_ ?_
       rotate_left 2
       ·go_simp
        constructor
        ·rfl
        ·rfl
       refine hK.out _ _ ⟨(blk_cell (blk_alloc BK511.out _) 0).trans rfl, (blk_cell (blk_alloc BK511.out _) 1).trans rfl, (blk_cell (blk_alloc BK511.out _) 2).trans rfl, (blk_cell (blk_alloc BK511.out _) 3).trans rfl, (blk_cell (blk_alloc BK503.out _) 0).trans rfl, (blk_cell (blk_alloc BK503.out _) 1).trans rfl, (blk_cell (blk_alloc BK503.out _) 2).trans rfl, (blk_cell (blk_alloc BK503.out _) 3).trans rfl, (World.cell?_alloc_lt _ _ _ (World.block_lt_of_cell? _ _ (((HB.out.cell (World.block_lt_of_cell? w _ hw512_0)).trans hw512_0)))).trans (((HB.out.cell (World.block_lt_of_cell? w _ hw512_0)).trans hw512_0)), (World.cell?_alloc_lt _ _ _ (World.block_lt_of_cell? _ _ (((HB.out.cell (World.block_lt_of_cell? w _ hw512_1)).trans hw512_1)))).trans (((HB.out.cell (World.block_lt_of_cell? w _ hw512_1)).trans hw512_1)), (World.cell?_alloc_lt _ _ _ (World.block_lt_of_cell? _ _ (((HB.out.cell (World.block_lt_of_cell? w _ hw512_2)).trans hw512_2)))).trans (((HB.out.cell (World.block_lt_of_cell? w _ hw512_2)).trans hw512_2)), (World.cell?_alloc_lt _ _ _ (World.block_lt_of_cell? _ _ (((HB.out.cell (World.block_lt_of_cell? w _ hw512_3)).trans hw512_3)))).trans (((HB.out.cell (World.block_lt_of_cell? w _ hw512_3)).trans hw512_3))⟩ (fun hHeld => ?_)
       clear hK K
       refine norm_ (a' := ?_) ?_ ?_
       rotate_left
       ·show Act.put _ (some 29) _ = _
        simp only [Act.put, sAx, sZx, sSx, i64_w, i32_w]
        rfl
       refine one_ (i := 9) (N := some 30) #[true, true, true, true, true, true, true, true, true, true, false, false] rfl rfl (one_of HT_.out (by kernel_rfl)) (by decide) (fun K hK => ?_)
       refine Kd.R_append_step k25 (w0 := w) w.heap.size (by rfl) (.tmp 22) (.tmp 29) 23 25 (.agg #[(.int .i64 0), (.string ⟨#[]⟩), (.slice none 0 0), (.slice none 0 0)]) 72 rfl Tryd.underlying23 info25 rfl (by decide) (by omega) u512003 x512003_1 (⟨t513, t514, t515, t518⟩ : S25) [.int .i64 t513, .string t514, .slice Ao27 t515.length co27, .slice Ao28 t518.length co28] (fun k_ => some k_ ≠ (.slice Ao12 y508.length co12 : Value).ownBlock ∧ k_ ≠ gb503 ∧ k_ ≠ gb504 ∧ k_ ≠ gb511) (fun k_ => ((fun k_ => some k_ ≠ (.slice Ao12 y508.length co12 : Value).ownBlock ∧ k_ ≠ gb503 ∧ k_ ≠ gb504 ∧ k_ ≠ gb511)) k_ ∧ some k_ ≠ (u512003 : Value).ownBlock) rfl rfl ?aP (fun _ hk => hk) ?aF ?aO ?aB ?aS ?aL ?_
       (case aP => exact k25_mkM _ _ _ (⟨t513, t514, t515, t518⟩ : S25) (Kd.R_mono (Kd.R_types (Kd.R_types (Kd.R_types (Kd.R_apart' (HO517.out) (Kd.R_typed HO_512003.out) (by decide)) BK503.out (by decide)) BK504.out (by decide)) BK511.out (by decide)) (fun k_ hk => ⟨⟨hk.1.1.1.1.2, ⟨hk.1.1.2, ⟨hk.1.2, hk.2⟩⟩⟩, hk.1.1.1.2⟩)) (Kd.R_mono (HO520.out) (fun k_ hk => ⟨⟨hk.1.1.1.1.2, ⟨hk.1.1.2, ⟨hk.1.2, hk.2⟩⟩⟩, hk.1.1.1.2⟩)))
       (case aB => exact (by repeat (first | (with_reducible first | exact HB.out | apply below_alloc | apply pw_below_drewN | apply below_drew1 | refine below_set ?_ GE503.out | refine below_set ?_ GE504.out | refine below_set ?_ GE511.out) | exact HB.out)))
       (case aF => exact (fun k_ hk => ⟨Kd.fresh' (Kd.R_lt (by (with_reducible repeat (first | apply Kd.R_alloc | apply Kd.R_drewN | apply Kd.R_drew)); exact HO_512002.out)) k_ hk, Kd.freshB (g := gb503) (o := .cells #[.int .i64 a0_0, .string a0_1, .slice A0_2 l0_2.length c0_2, .slice (some ad512) l0_3.length c0_3] 25 (0, 0)) (by (with_reducible repeat (first | refine blk_drewN ?_ _ | refine blk_drew ?_ | refine blk_alloc ?_ _)); exact BK503.out) k_ hk, Kd.freshB (g := gb504) (o := .cells #[.int .i64 0, .string (⟨#[]⟩ : ByteArray), .slice none 0 0, .slice none 0 0] 25 (0, 0)) (by (with_reducible repeat (first | refine blk_drewN ?_ _ | refine blk_drew ?_ | refine blk_alloc ?_ _)); exact BK504.out) k_ hk, Kd.freshB (g := gb511) (o := .cells #[.int .i64 a0_0, .string a0_1, .slice Ao12 y508.length co12, u512003] 25 (0, 0)) (by (with_reducible repeat (first | refine blk_drewN ?_ _ | refine blk_drew ?_ | refine blk_alloc ?_ _)); exact BK511.out) k_ hk⟩))
       (case aO => exact (by (with_reducible repeat (first | apply Kd.R_alloc | apply Kd.R_drewN | apply Kd.R_drew)); exact Kd.R_mono HO_512003.out (fun _ hk => ⟨hk.1.1.1, ⟨hk.1.1.2.1, ⟨hk.1.1.2.2.1, hk.1.1.2.2.2⟩⟩⟩)))
       (case aS => exact (below_size (by repeat (first | (with_reducible first | exact HB.out | apply below_alloc | apply pw_below_drewN | apply below_drew1 | refine below_set ?_ GE503.out | refine below_set ?_ GE504.out | refine below_set ?_ GE511.out) | exact HB.out))))
       (case aL => have := LMc20.out; omega)
       intro v522 w26 ho hb hg hat
       rw [← Ny521.out] at ho
       have n0_ := Aside0.mk (Kd.R_over' (by (with_reducible repeat (first | apply Kd.R_alloc | apply Kd.R_drewN | apply Kd.R_drew)); exact HO_512002.out) (Kd.R_typed (by (with_reducible repeat (first | apply Kd.R_alloc | apply Kd.R_drewN | apply Kd.R_drew)); exact HO_512003.out)) (by decide) hg)
       have n1_ := Aside0.mk (blk_grown (g := gb503) (o := .cells #[.int .i64 a0_0, .string a0_1, .slice A0_2 l0_2.length c0_2, .slice (some ad512) l0_3.length c0_3] 25 (0, 0)) (by (with_reducible repeat (first | refine blk_drewN ?_ _ | refine blk_drew ?_ | refine blk_alloc ?_ _)); exact BK503.out) hg (Kd.R_away HO_512003.out (fun _ hk => hk.1.1.2.1)))
       have n2_ := Aside0.mk (blk_grown (g := gb504) (o := .cells #[.int .i64 0, .string (⟨#[]⟩ : ByteArray), .slice none 0 0, .slice none 0 0] 25 (0, 0)) (by (with_reducible repeat (first | refine blk_drewN ?_ _ | refine blk_drew ?_ | refine blk_alloc ?_ _)); exact BK504.out) hg (Kd.R_away HO_512003.out (fun _ hk => hk.1.1.2.2.1)))
       have n3_ := Aside0.mk (blk_grown (g := gb511) (o := .cells #[.int .i64 a0_0, .string a0_1, .slice Ao12 y508.length co12, u512003] 25 (0, 0)) (by (with_reducible repeat (first | refine blk_drewN ?_ _ | refine blk_drew ?_ | refine blk_alloc ?_ _)); exact BK511.out) hg (Kd.R_away HO_512003.out (fun _ hk => hk.1.1.2.2.2)))
       have n4_ := Aside0.mk (hb)
       have n5_ := Aside0.mk (ho)
       clear HO_512002
       clear BK503
       clear BK504
       clear BK511
       clear HB
       clear HO_512003
       clear HO517
       clear HO520
       have HO_512002 := n0_
       have BK503 := n1_
       have BK504 := n2_
       have BK511 := n3_
       have HB := n4_
       have HO523 := n5_
       clear n0_ n1_ n2_ n3_ n4_ n5_
       clear ho hb hg hat
       obtain ⟨Ao29, co29, eo29⟩ := Kd.R_slice HO523.out
       (first | subst eo29 | (injection eo29 with f1_ f2_ f3_; have f4_ := f1_.symm; have f5_ := f3_.symm; clear f1_ f2_ f3_; subst f4_; subst f5_))
       refine hK.out _ _ ⟨(blk_cell BK511.out 0).trans rfl, (blk_cell BK511.out 1).trans rfl, (blk_cell BK511.out 2).trans rfl, (blk_cell BK511.out 3).trans rfl, (blk_cell BK503.out 0).trans rfl, (blk_cell BK503.out 1).trans rfl, (blk_cell BK503.out 2).trans rfl, (blk_cell BK503.out 3).trans rfl, ((HB.out.cell (World.block_lt_of_cell? w _ hw512_0)).trans hw512_0), ((HB.out.cell (World.block_lt_of_cell? w _ hw512_1)).trans hw512_1), ((HB.out.cell (World.block_lt_of_cell? w _ hw512_2)).trans hw512_2), ((HB.out.cell (World.block_lt_of_cell? w _ hw512_3)).trans hw512_3)⟩ (fun hHeld => ?_)
       clear hK K
       refine norm_ (a' := ?_) ?_ ?_
       rotate_left
       ·show Act.put _ (some 30) _ = _
        simp only [Act.put, sAx, sZx, sSx, i64_w, i32_w]
        rfl
       refine pure_ (i := 10) (N := some 31) (v := ?_) (a' := ?_) #[true, true, true, true, true, true, true, true, true, true, true, false] rfl rfl (any_of HT_.out (by kernel_rfl)) (fun _ _ _ h => h) (Or.inl ⟨by rfl, ?_⟩) ?_ ?_
       rotate_left
       ·intro w'
        go_simp
        with_reducible rfl
       rotate_left
       ·simp only [Act.put, sAx, sZx, sSx, i64_w, i32_w]
        rfl
       refine last_ (i := 11) (N := none) #[true, true, true, true, true, true, true, true, true, true, true, true] rfl rfl (one_of HT_.out (by kernel_rfl)) (by decide) (fun K hK => ?_)
       have hs30 : w26.cell? ⟨gb511, 3, none⟩ = some (u512003) := (blk_cell BK511.out 3).trans rfl
       have hfs30 := blk_frozen BK511.out 3
       have hns30_0 := NB503_511.out
       have hns30_1 := NB504_511.out
       have hms30_0 := NB511_503.out
       have hms30_1 := NB511_504.out
       refine skip_ (w1 := ?_) (by rfl) rfl ?_ ?_
       rotate_left
       ·go_simp
        rfl
       refine hK.out _ _ ?_
       clear hK K
       refine done_ (done_of HT_.out (by kernel_rfl)) ?_
       try go_wp2
       go_roundg k1
       case measure => have := HK1.out; omega
       case rel => exact ⟨(wrap64 (x4_1 + 1)), (y521), (.slice Ao29 y521.length co29), (by first | rfl | (simp; done) | (simp [*]; done)), H', ⟨by have := HK1.out; omega⟩, ⟨by (with_reducible repeat (first | apply Kd.R_alloc | apply Kd.R_drewN | apply Kd.R_drew)); exact Kd.R_mono (Kd.R_far (p := ⟨gb511, 3, none⟩) (Kd.R_types HO_512002.out BK511.out (by decide)) (fun _ hk => hk.2) (.slice Ao29 y521.length co29)) (fun _ hk => trivial)⟩, ⟨by (with_reducible repeat (first | apply Kd.R_alloc | apply Kd.R_drewN | apply Kd.R_drew)); exact Kd.R_mono (Kd.R_far (p := ⟨gb511, 3, none⟩) (Kd.R_mono HO523.out (fun k_ hk => (⟨hk, hk.2.2.2⟩ : _ ∧ k_ ≠ gb511))) (fun _ hk => hk.2) (.slice Ao29 y521.length co29)) (fun _ hk => ⟨hk.1.1, ⟨hk.1.2.1, ⟨hk.1.2.2.1, hk.1.2.2.2⟩⟩⟩)⟩, ⟨by (with_reducible repeat (first | refine blk_drewN ?_ _ | refine blk_drew ?_ | refine blk_alloc ?_ _)); refine blk_far ?_ NB503_511.out _; (with_reducible repeat (first | refine blk_drewN ?_ _ | refine blk_drew ?_ | refine blk_alloc ?_ _)); exact BK503.out⟩, ⟨by (with_reducible repeat (first | refine blk_drewN ?_ _ | refine blk_drew ?_ | refine blk_alloc ?_ _)); refine blk_far ?_ NB504_511.out _; (with_reducible repeat (first | refine blk_drewN ?_ _ | refine blk_drew ?_ | refine blk_alloc ?_ _)); exact BK504.out⟩, ⟨by (with_reducible repeat (first | refine blk_drewN ?_ _ | refine blk_drew ?_ | refine blk_alloc ?_ _)); refine blk_put (cs := #[.int .i64 a0_0, .string a0_1, .slice Ao12 y508.length co12, u512003]) ?_ 3 _ rfl; (with_reducible repeat (first | refine blk_drewN ?_ _ | refine blk_drew ?_ | refine blk_alloc ?_ _)); exact BK511.out⟩, ⟨by repeat (first | (with_reducible first | exact HB.out | apply below_alloc | apply pw_below_drewN | apply below_drew1 | refine below_set ?_ GE503.out | refine below_set ?_ GE504.out | refine below_set ?_ GE511.out) | exact HB.out)⟩⟩
      ·rw [if_neg c20] at H
       exact absurd H (by simp)
     ·rw [if_neg c18] at H
      exact absurd H (by simp)
    ·rw [if_neg c17] at H
     have c17b0 : decide (x4_1 < (l0_3.length : Int)) = false := decide_eq_false c17
     clear c17
     simp only [Option.some.injEq, Prod.mk.injEq] at H
     obtain ⟨rfl, rfl, rfl, rfl⟩ := H
     have hnb31 := NB503_504.out
     have hnc31 := NB504_503.out
     have hnb32 := NB503_511.out
     have hnc32 := NB511_503.out
     have hcz33_0 : wr.cell? ⟨gb503, 0, none⟩ = some (.int .i64 a0_0) := (blk_cell BK503.out 0).trans rfl
     have hcz33_1 : wr.cell? ⟨gb503, 1, none⟩ = some (.string a0_1) := (blk_cell BK503.out 1).trans rfl
     have hcz33_2 : wr.cell? ⟨gb503, 2, none⟩ = some (.slice A0_2 l0_2.length c0_2) := (blk_cell BK503.out 2).trans rfl
     have hcz33_3 : wr.cell? ⟨gb503, 3, none⟩ = some (.slice A0_3 l0_3.length c0_3) := (blk_cell BK503.out 3).trans rfl
     have hfz33_0 := blk_frozen BK503.out 0
     have hfz33_1 := blk_frozen BK503.out 1
     have hfz33_2 := blk_frozen BK503.out 2
     have hfz33_3 := blk_frozen BK503.out 3
     have hnb34 := NB511_504.out
     have hnc34 := NB504_511.out
     have hcz35_0 : wr.cell? ⟨gb511, 0, none⟩ = some (.int .i64 a0_0) := (blk_cell BK511.out 0).trans rfl
     have hcz35_1 : wr.cell? ⟨gb511, 1, none⟩ = some (.string a0_1) := (blk_cell BK511.out 1).trans rfl
     have hcz35_2 : wr.cell? ⟨gb511, 2, none⟩ = some (.slice Ao12 y508.length co12) := (blk_cell BK511.out 2).trans rfl
     have hcz35_3 : wr.cell? ⟨gb511, 3, none⟩ = some (u512003) := (blk_cell BK511.out 3).trans rfl
     have hfz35_0 := blk_frozen BK511.out 0
     have hfz35_1 := blk_frozen BK511.out 1
     have hfz35_2 := blk_frozen BK511.out 2
     have hfz35_3 := blk_frozen BK511.out 3
     have hcz36_0 : wr.cell? ⟨gb504, 0, none⟩ = some (.int .i64 0) := (blk_cell BK504.out 0).trans rfl
     have hcz36_1 : wr.cell? ⟨gb504, 1, none⟩ = some (.string (⟨#[]⟩ : ByteArray)) := (blk_cell BK504.out 1).trans rfl
     have hcz36_2 : wr.cell? ⟨gb504, 2, none⟩ = some (.slice none 0 0) := (blk_cell BK504.out 2).trans rfl
     have hcz36_3 : wr.cell? ⟨gb504, 3, none⟩ = some (.slice none 0 0) := (blk_cell BK504.out 3).trans rfl
     have hfz36_0 := blk_frozen BK504.out 0
     have hfz36_1 := blk_frozen BK504.out 1
     have hfz36_2 := blk_frozen BK504.out 2
     have hfz36_3 := blk_frozen BK504.out 3
     obtain ⟨Ao37, co37, eo37⟩ := Kd.R_slice HO_512003.out
     subst eo37
     go_wp2
     refine bodyPost_ret (results_cell_row rfl _ _ gb504 25 #[.int .i64 a0_0, .string a0_1, .slice Ao12 y508.length co12, .slice Ao37 x512003_1.length co37] (0, 0) _ rfl (by (with_reducible repeat (first | refine blk_drewN ?_ _ | refine blk_drew ?_ | refine blk_alloc ?_ _)); refine blk_put (cs := #[.int .i64 a0_0, .string a0_1, .slice Ao12 y508.length co12, .slice none 0 0]) ?_ 3 _ rfl; (with_reducible repeat (first | refine blk_drewN ?_ _ | refine blk_drew ?_ | refine blk_alloc ?_ _)); refine blk_put (cs := #[.int .i64 a0_0, .string a0_1, .slice none 0 0, .slice none 0 0]) ?_ 2 _ rfl; (with_reducible repeat (first | refine blk_drewN ?_ _ | refine blk_drew ?_ | refine blk_alloc ?_ _)); refine blk_put (cs := #[.int .i64 a0_0, .string (⟨#[]⟩ : ByteArray), .slice none 0 0, .slice none 0 0]) ?_ 1 _ rfl; (with_reducible repeat (first | refine blk_drewN ?_ _ | refine blk_drew ?_ | refine blk_alloc ?_ _)); refine blk_put (cs := #[.int .i64 0, .string (⟨#[]⟩ : ByteArray), .slice none 0 0, .slice none 0 0]) ?_ 0 _ rfl; (with_reducible repeat (first | refine blk_drewN ?_ _ | refine blk_drew ?_ | refine blk_alloc ?_ _)); exact BK504.out) Tryd.underlying25 rfl (by kernel_rfl)) rfl ?_
     exact ⟨_, _, by first | rfl | (simp [errW_none, errW_some] <;> rfl) | (simp [*, errW_none, errW_some] <;> rfl), by (with_reducible repeat (first | apply Kd.R_alloc | apply Kd.R_drewN | apply Kd.R_drew)); exact Kd.R_mono (Kd.R_far (p := ⟨gb504, 3, none⟩) (Kd.R_far (p := ⟨gb504, 2, none⟩) (Kd.R_far (p := ⟨gb504, 1, none⟩) (Kd.R_far (p := ⟨gb504, 0, none⟩) (Kd.R_types HO_512002.out BK504.out (by decide)) (fun _ hk => hk.2) (.int .i64 a0_0)) (fun _ hk => hk.2) (.string a0_1)) (fun _ hk => hk.2) (.slice Ao12 y508.length co12)) (fun _ hk => hk.2) (.slice Ao37 x512003_1.length co37)) (fun _ hk => trivial), by (with_reducible repeat (first | apply Kd.R_alloc | apply Kd.R_drewN | apply Kd.R_drew)); exact Kd.R_mono (Kd.R_far (p := ⟨gb504, 3, none⟩) (Kd.R_far (p := ⟨gb504, 2, none⟩) (Kd.R_far (p := ⟨gb504, 1, none⟩) (Kd.R_far (p := ⟨gb504, 0, none⟩) (Kd.R_mono HO_512003.out (fun k_ hk => (⟨hk, hk.2.2.1⟩ : _ ∧ k_ ≠ gb504))) (fun _ hk => hk.2) (.int .i64 a0_0)) (fun _ hk => hk.2) (.string a0_1)) (fun _ hk => hk.2) (.slice Ao12 y508.length co12)) (fun _ hk => hk.2) (.slice Ao37 x512003_1.length co37)) (fun _ hk => hk.1.1), by repeat (first | (with_reducible first | exact HB.out | apply below_alloc | apply pw_below_drewN | apply below_drew1 | refine below_set ?_ GE503.out | refine below_set ?_ GE504.out | refine below_set ?_ GE511.out) | exact HB.out)⟩
 ·rw [if_neg c2] at H
  exact absurd H (by simp)

-- NOT PRINTED: function 4 (wicketlaw04_JtextBack)

-- NOT PRINTED: function 5 (wicketlaw04_JtextFirst)



/-! ### wicketref04_Parts: function 32 -/
mutual
def wicketref04_Parts.l0 : Nat → Int → Int → Int → Int → ByteArray → List ByteArray → List (S25) → Option (Int)
 | 0, _, _, _, _, _, _, _ => none
 | k + 1, x1, x5, x6, x499000, x499001, x499002, x499003 => if x6 < (x499003.length : Int) then (if x5 ≤ x1 then (if 0 ≤ x6 then ((wicketref04_Parts.f k ((rd_T25 x499003 x6).f0) ((rd_T25 x499003 x6).f1) ((rd_T25 x499003 x6).f2) ((rd_T25 x499003 x6).f3) (wrap64 (x1 - x5))).bind fun t500 => (wicketref04_Parts.l0 k x1 (wrap64 (x5 + t500)) (wrap64 (x6 + 1)) x499000 x499001 x499002 x499003)) else (none)) else (some x5)) else (some x5)
def wicketref04_Parts.f : Nat → Int → ByteArray → List ByteArray → List (S25) → Int → Option (Int)
 | 0, _, _, _, _, _ => none
 | k + 1, a0_0, a0_1, l0_2, l0_3, a1 => wicketref04_Parts.l0 k a1 (wrap64 (1 + (l0_2.length : Int))) 0 a0_0 a0_1 l0_2 l0_3
end
theorem wicketref04_Parts.mono_l : ∀ k, (∀ y0 y1 y2 y3 y4, LeO (wicketref04_Parts.f k y0 y1 y2 y3 y4) (wicketref04_Parts.f (k + 1) y0 y1 y2 y3 y4)) ∧ (∀ y0 y1 y2 y3 y4 y5 y6, LeO (wicketref04_Parts.l0 k y0 y1 y2 y3 y4 y5 y6) (wicketref04_Parts.l0 (k + 1) y0 y1 y2 y3 y4 y5 y6))
 | 0 => ⟨fun _ _ _ _ _ r h => by simp [wicketref04_Parts.f] at h, fun _ _ _ _ _ _ _ r h => by simp [wicketref04_Parts.l0] at h⟩
 | k + 1 => by
  obtain ⟨ih0, ih1⟩ := wicketref04_Parts.mono_l k
  refine ⟨?_, ?_⟩
  ·intro y0 y1 y2 y3 y4
   unfold wicketref04_Parts.f
   repeat' first
   | (with_reducible exact ih0 _ _ _ _ _)
   | (with_reducible exact ih1 _ _ _ _ _ _ _)
   | (with_reducible exact LeO.refl _)
   | (with_reducible exact LeO.none _)
   | (with_reducible refine LeO.ite ?_ ?_)
   | (with_reducible refine LeO.bind ?_ (fun _ => ?_))
   | exact ih0 _ _ _ _ _
   | exact ih1 _ _ _ _ _ _ _
   | exact LeO.none _
   | refine LeO.ite ?_ ?_
   | refine LeO.bind ?_ (fun _ => ?_)
  ·intro y0 y1 y2 y3 y4 y5 y6
   unfold wicketref04_Parts.l0
   repeat' first
   | (with_reducible exact ih0 _ _ _ _ _)
   | (with_reducible exact ih1 _ _ _ _ _ _ _)
   | (with_reducible exact LeO.refl _)
   | (with_reducible exact LeO.none _)
   | (with_reducible refine LeO.ite ?_ ?_)
   | (with_reducible refine LeO.bind ?_ (fun _ => ?_))
   | exact ih0 _ _ _ _ _
   | exact ih1 _ _ _ _ _ _ _
   | exact LeO.none _
   | refine LeO.ite ?_ ?_
   | refine LeO.bind ?_ (fun _ => ?_)
theorem wicketref04_Parts.mono : ∀ a0 a1 a2 a3 a4 k, LeO (wicketref04_Parts.f k a0 a1 a2 a3 a4) (wicketref04_Parts.f (k + 1) a0 a1 a2 a3 a4) := by
 intro a0 a1 a2 a3 a4 k
 obtain ⟨ih0, ih1⟩ := wicketref04_Parts.mono_l k
 exact ih0 a0 a1 a2 a3 a4
set_option maxHeartbeats 8000000 in
set_option maxRecDepth 100000 in
theorem wicketref04_Parts.calls (k : Nat) : ∀ (a0_0 : Int) (a0_1 : ByteArray) (A0_2 : Option Addr) (c0_2 : Nat) (l0_2 : List ByteArray) (A0_3 : Option Addr) (c0_3 : Nat) (l0_3 : List (S25)) (a1 : Int) (r : Int) (w : World) (hr0_2 : Kd.C Kd.string w A0_2 l0_2.length l0_2) (hc0_2 : l0_2.length ≤ c0_2) (hr0_3 : Kd.C k25 w A0_3 l0_3.length l0_3) (hc0_3 : l0_3.length ≤ c0_3) (h : wicketref04_Parts.f k a0_0 a0_1 l0_2 l0_3 a1 = some r),
  Calls Tryd.prog 32 #[.agg #[.int .i64 a0_0, .string a0_1, .slice A0_2 l0_2.length c0_2, .slice A0_3 l0_3.length c0_3], .int .i64 a1] w fun e w' => e = .returned (.int .i64 r) ∧ Below w.heap.size w w' := by
 induction k using Nat.strongRecOn with
 | _ k ih =>
 intro a0_0 a0_1 A0_2 c0_2 l0_2 A0_3 c0_3 l0_3 a1 r w hr0_2 hc0_2 hr0_3 hc0_3 h
 cases k with
 | zero => exact absurd h (by simp [wicketref04_Parts.f])
 | succ k =>
 simp only [wicketref04_Parts.f] at h
 have hu25 := Tryd.underlying25
 have HR0_2 := Aside0.mk hr0_2
 have HC0_2 := Aside0.mk hc0_2
 clear hr0_2 hc0_2
 have HR0_3 := Aside0.mk hr0_3
 have HC0_3 := Aside0.mk hc0_3
 clear hr0_3 hc0_3
 have HB := Aside0.mk (Below.refl w.heap.size w)
 have H : (wicketref04_Parts.l0 k a1 (wrap64 (1 + (l0_2.length : Int))) 0 a0_0 a0_1 l0_2 l0_3) = some r := h
 clear h
 have H' := Aside0.mk H
 clear H
 go_enter Tryd.func32, Tryd.ntmps32
 go_wp2_with (first | ((with_reducible refine gate_dst (N := 2) rfl ?_); refine box_event ?hg (N := 2) ?hd (cs := #[.int .i64 a0_0, .string a0_1, .slice A0_2 l0_2.length c0_2, .slice A0_3 l0_3.length c0_3]) (t := 25) ?hr ?_; (case hd => rfl); (case hg => rfl); (case hr => first | (go_simp; done) | (go_simp; rfl)); intro gb498 hg w3 hbox hb; have n0_ := Aside0.mk (below_step (by repeat (first | (with_reducible first | exact HB.out | apply below_alloc | apply pw_below_drewN | apply below_drew1) | exact HB.out)) hb); have n1_ := Aside0.mk (hbox); have n2_ := Aside0.mk ((by rw [hg]; exact (below_size (by repeat (first | (with_reducible first | exact HB.out | apply below_alloc | apply pw_below_drewN | apply below_drew1) | exact HB.out))) : w.heap.size ≤ gb498)); have n3_ := Aside0.mk ((by rw [hg]; exact (below_size (by repeat (first | (with_reducible first | exact HB.out | apply below_alloc | apply pw_below_drewN | apply below_drew1) | exact HB.out))) : w.heap.size ≤ gb498)); clear HB; have HB := n0_; have BK498 := n1_; have GW498 := n2_; have GE498 := n3_; clear n0_ n1_ n2_ n3_; clear hb hbox hg; have hcz4_0 : w3.cell? ⟨gb498, 0, none⟩ = some (.int .i64 a0_0) := (blk_cell BK498.out 0).trans rfl; have hcz4_1 : w3.cell? ⟨gb498, 1, none⟩ = some (.string a0_1) := (blk_cell BK498.out 1).trans rfl; have hcz4_2 : w3.cell? ⟨gb498, 2, none⟩ = some (.slice A0_2 l0_2.length c0_2) := (blk_cell BK498.out 2).trans rfl; have hcz4_3 : w3.cell? ⟨gb498, 3, none⟩ = some (.slice A0_3 l0_3.length c0_3) := (blk_cell BK498.out 3).trans rfl; have hfz4_0 := blk_frozen BK498.out 0; have hfz4_1 := blk_frozen BK498.out 1; have hfz4_2 := blk_frozen BK498.out 2; have hfz4_3 := blk_frozen BK498.out 3))
 go_loopg [5, 6] k (fun kq v5 v6 w' => ∃ (x5_1 : Int) (x6_1 : Int), v5 = .int .i64 x5_1 ∧ v6 = .int .i64 x6_1 ∧ Aside0 (wicketref04_Parts.l0 kq a1 x5_1 x6_1 a0_0 a0_1 l0_2 l0_3 = some r) ∧ Aside0 (kq ≤ k) ∧ Aside0 (w'.heap[gb498]? = some (.cells #[.int .i64 a0_0, .string a0_1, (.slice A0_2 l0_2.length c0_2), (.slice A0_3 l0_3.length c0_3)] 25 (0, 0))) ∧ Aside0 (Below w.heap.size w w'))
 case atStart => exact ⟨(wrap64 (1 + (l0_2.length : Int))), (0), (by first | rfl | (simp; done) | (simp [*]; done)), (by first | rfl | (simp; done) | (simp [*]; done)), H', ⟨Nat.le_refl _⟩, ⟨by (with_reducible repeat (first | refine blk_drewN ?_ _ | refine blk_drew ?_ | refine blk_alloc ?_ _)); exact BK498.out⟩, ⟨by repeat (first | (with_reducible first | exact HB.out | apply below_alloc | apply pw_below_drewN | apply below_drew1 | refine below_set ?_ GE498.out) | exact HB.out)⟩⟩
 case round =>
  clear H'
  try clear p2
  try clear c3
  try clear hcz4_0
  try clear hcz4_1
  try clear hcz4_2
  try clear hcz4_3
  try clear hfz4_0
  try clear hfz4_1
  try clear hfz4_2
  try clear hfz4_3
  obtain ⟨x5_1, x6_1, rfl, rfl, HA, HK1, BK498, HB⟩ := hrel
  cases gk with
  | zero => exact absurd HA.out (by simp [wicketref04_Parts.l0])
  | succ k1 =>
   have H := HA.out
   clear HA
   simp only [wicketref04_Parts.l0] at H
   by_cases c5 : x6_1 < (l0_3.length : Int)
   ·rw [if_pos c5] at H
    have c5b0 : decide (x6_1 < (l0_3.length : Int)) = true := decide_eq_true c5
    clear c5
    by_cases c6 : x5_1 ≤ a1
    ·rw [if_pos c6] at H
     have c6b0 : decide (x5_1 ≤ a1) = true := decide_eq_true c6
     clear c6
     by_cases c7 : 0 ≤ x6_1
     ·rw [if_pos c7] at H
      have c7b0 : decide (0 ≤ x6_1) = true := decide_eq_true c7
      clear c7
      replace H := Option.bind_eq_some_iff.mp H
      obtain ⟨t500, A80, H⟩ := H
      replace H : (wicketref04_Parts.l0 k1 a1 (wrap64 (x5_1 + t500)) (wrap64 (x6_1 + 1)) a0_0 a0_1 l0_2 l0_3) = some r := H
      have A8 := Aside0.mk A80
      clear A80
      have H' := Aside0.mk H
      clear H
      have hcz9_0 : wr.cell? ⟨gb498, 0, none⟩ = some (.int .i64 a0_0) := (blk_cell BK498.out 0).trans rfl
      have hcz9_1 : wr.cell? ⟨gb498, 1, none⟩ = some (.string a0_1) := (blk_cell BK498.out 1).trans rfl
      have hcz9_2 : wr.cell? ⟨gb498, 2, none⟩ = some (.slice A0_2 l0_2.length c0_2) := (blk_cell BK498.out 2).trans rfl
      have hcz9_3 : wr.cell? ⟨gb498, 3, none⟩ = some (.slice A0_3 l0_3.length c0_3) := (blk_cell BK498.out 3).trans rfl
      have hfz9_0 := blk_frozen BK498.out 0
      have hfz9_1 := blk_frozen BK498.out 1
      have hfz9_2 := blk_frozen BK498.out 2
      have hfz9_3 := blk_frozen BK498.out 3
      have p499 : 0 ≤ (x6_1 : Int) := of_decide_eq_true (by first | (with_reducible assumption) | assumption)
      have q499 : x6_1 < (l0_3.length : Int) := of_decide_eq_true (by first | (with_reducible assumption) | assumption)
      obtain ⟨ad499, A499_2, c499_2, A499_3, c499_3, e499, hx499_0, hx499_1, hx499_2, hx499_3, hl499_2, hi499_2, hl499_3, hi499_3⟩ := at_T25 HR0_3.out x6_1 p499 q499
      cases e499
      replace hx499_0 := (HB.out.cell (World.block_lt_of_cell? w _ hx499_0)).trans hx499_0
      replace hx499_1 := (HB.out.cell (World.block_lt_of_cell? w _ hx499_1)).trans hx499_1
      replace hx499_2 := (HB.out.cell (World.block_lt_of_cell? w _ hx499_2)).trans hx499_2
      replace hx499_3 := (HB.out.cell (World.block_lt_of_cell? w _ hx499_3)).trans hx499_3
      have HR499_2 := Aside0.mk hi499_2
      have HC499_2 := Aside0.mk hl499_2
      clear hi499_2 hl499_2
      have HR499_3 := Aside0.mk hi499_3
      have HC499_3 := Aside0.mk hl499_3
      clear hi499_3 hl499_3
      replace p499 := eq_true p499
      replace q499 := eq_true q499
      go_wp2_with (first | ((with_reducible refine gate_callee (f := 32) rfl ?_); refine goesL_ (some 32) rfl rfl Tryd.func32 (by kernel_rfl) rfl #[.agg #[.int .i64 ((rd_T25 l0_3 x6_1).f0), .string ((rd_T25 l0_3 x6_1).f1), .slice A499_2 ((rd_T25 l0_3 x6_1).f2).length c499_2, .slice A499_3 ((rd_T25 l0_3 x6_1).f3).length c499_3], .int .i64 (wrap64 (a1 - x5_1))] rfl (by (try simp only [List.map_toArray, List.map_cons, List.map_nil]); first | done | rfl | (simp only [List.length_drop, List.length_take]; rfl)) ?_; (with_reducible refine (ih k1 (by have := HK1.out; omega) ((rd_T25 l0_3 x6_1).f0) ((rd_T25 l0_3 x6_1).f1) _ _ ((rd_T25 l0_3 x6_1).f2) _ _ ((rd_T25 l0_3 x6_1).f3) (wrap64 (a1 - x5_1)) t500 _ ?side1 ?side2 ?side3 ?side4 A8.out).mono ?_); (case side1 => repeat (first | exact (Kd.C_below HR499_2.out HB.out) | (with_reducible refine Kd.C_alloc ?_ _) | (with_reducible refine Kd.C_drewN ?_ _) | (with_reducible refine Kd.C_drew ?_))); (case side2 => exact HC499_2.out); (case side3 => repeat (first | exact (Kd.C_below HR499_3.out HB.out) | (with_reducible refine Kd.C_alloc ?_ _) | (with_reducible refine Kd.C_drewN ?_ _) | (with_reducible refine Kd.C_drew ?_))); (case side4 => exact HC499_3.out); rintro e w10 ⟨rfl, hb⟩; refine ⟨_, rfl, ?_⟩; have n0_ := Aside0.mk (blk_below (g := gb498) (o := .cells #[.int .i64 a0_0, .string a0_1, .slice A0_2 l0_2.length c0_2, .slice (some ad499) l0_3.length c0_3] 25 (0, 0)) (by (with_reducible repeat (first | refine blk_drewN ?_ _ | refine blk_drew ?_ | refine blk_alloc ?_ _)); exact BK498.out) hb); have n1_ := Aside0.mk (below_step (by repeat (first | (with_reducible first | exact HB.out | apply below_alloc | apply pw_below_drewN | apply below_drew1 | refine below_set ?_ GE498.out) | exact HB.out)) hb); clear BK498; clear HB; have BK498 := n0_; have HB := n1_; clear n0_ n1_; (try clear hb); (try clear hb2); (try clear hk); (try clear hi)))
      go_roundg k1
      case measure => have := HK1.out; omega
      case rel => exact ⟨(wrap64 (x5_1 + t500)), (wrap64 (x6_1 + 1)), (by first | rfl | (simp; done) | (simp [*]; done)), (by first | rfl | (simp; done) | (simp [*]; done)), H', ⟨by have := HK1.out; omega⟩, ⟨by (with_reducible repeat (first | refine blk_drewN ?_ _ | refine blk_drew ?_ | refine blk_alloc ?_ _)); exact BK498.out⟩, ⟨by repeat (first | (with_reducible first | exact HB.out | apply below_alloc | apply pw_below_drewN | apply below_drew1 | refine below_set ?_ GE498.out) | exact HB.out)⟩⟩
     ·rw [if_neg c7] at H
      exact absurd H (by simp)
    ·rw [if_neg c6] at H
     have c6b0 : decide (x5_1 ≤ a1) = false := decide_eq_false c6
     clear c6
     obtain rfl := Option.some.inj H
     have hcz11_0 : wr.cell? ⟨gb498, 0, none⟩ = some (.int .i64 a0_0) := (blk_cell BK498.out 0).trans rfl
     have hcz11_1 : wr.cell? ⟨gb498, 1, none⟩ = some (.string a0_1) := (blk_cell BK498.out 1).trans rfl
     have hcz11_2 : wr.cell? ⟨gb498, 2, none⟩ = some (.slice A0_2 l0_2.length c0_2) := (blk_cell BK498.out 2).trans rfl
     have hcz11_3 : wr.cell? ⟨gb498, 3, none⟩ = some (.slice A0_3 l0_3.length c0_3) := (blk_cell BK498.out 3).trans rfl
     have hfz11_0 := blk_frozen BK498.out 0
     have hfz11_1 := blk_frozen BK498.out 1
     have hfz11_2 := blk_frozen BK498.out 2
     have hfz11_3 := blk_frozen BK498.out 3
     go_wp2
     go_ret
     exact ⟨by first | rfl | (simp [errW_none, errW_some] <;> rfl) | (simp [*, errW_none, errW_some] <;> rfl), by repeat (first | (with_reducible first | exact HB.out | apply below_alloc | apply pw_below_drewN | apply below_drew1 | refine below_set ?_ GE498.out) | exact HB.out)⟩
   ·rw [if_neg c5] at H
    have c5b0 : decide (x6_1 < (l0_3.length : Int)) = false := decide_eq_false c5
    clear c5
    obtain rfl := Option.some.inj H
    have hcz12_0 : wr.cell? ⟨gb498, 0, none⟩ = some (.int .i64 a0_0) := (blk_cell BK498.out 0).trans rfl
    have hcz12_1 : wr.cell? ⟨gb498, 1, none⟩ = some (.string a0_1) := (blk_cell BK498.out 1).trans rfl
    have hcz12_2 : wr.cell? ⟨gb498, 2, none⟩ = some (.slice A0_2 l0_2.length c0_2) := (blk_cell BK498.out 2).trans rfl
    have hcz12_3 : wr.cell? ⟨gb498, 3, none⟩ = some (.slice A0_3 l0_3.length c0_3) := (blk_cell BK498.out 3).trans rfl
    have hfz12_0 := blk_frozen BK498.out 0
    have hfz12_1 := blk_frozen BK498.out 1
    have hfz12_2 := blk_frozen BK498.out 2
    have hfz12_3 := blk_frozen BK498.out 3
    go_wp2
    go_ret
    exact ⟨by first | rfl | (simp [errW_none, errW_some] <;> rfl) | (simp [*, errW_none, errW_some] <;> rfl), by repeat (first | (with_reducible first | exact HB.out | apply below_alloc | apply pw_below_drewN | apply below_drew1 | refine below_set ?_ GE498.out) | exact HB.out)⟩

end Go.Proofs.YtaalajhmfdcalaaDoor.X
namespace Go.Proofs.YtaalajhmfdcalaaDoor.X
end Go.Proofs.YtaalajhmfdcalaaDoor.X
namespace Go.Proofs.YtaalajhmfdcalaaDoor.X
open Go.RowKit Go.Proofs.YtaalajhmfdcalaaDoor.X Go.Proofs.YtaalajhmfdcalaaDoorW.PrintWords Go.Proofs.YtaalajhmfdcalaaDoorW.PrintLast Go.Proofs.YtaalajhmfdcalaaDoorW.PrintMore
attribute [local go_sem] max2_int min2_int max_two min_two max_three min_three max_four min_four   -- for this text's walks alone
set_option linter.unusedVariables false
set_option linter.unusedSimpArgs false
/-! ### wicketlaw04_large: function 16 -/
def wicketlaw04_large.f (k : Nat) (a0_0 : Int) (a0_1 : ByteArray) (l0_2 : List ByteArray) (l0_3 : List (S25)) : Option (Bool) := (wicketref04_Parts.f k a0_0 a0_1 l0_2 l0_3 10000).bind fun t179 => (some (decide (t179 > 10000)))
theorem wicketlaw04_large.mono : ∀ a0 a1 a2 a3 k, LeO (wicketlaw04_large.f k a0 a1 a2 a3) (wicketlaw04_large.f (k + 1) a0 a1 a2 a3) := by
 intro a0 a1 a2 a3 k
 unfold wicketlaw04_large.f
 repeat' first
   | (with_reducible exact wicketref04_Parts.mono _ _ _ _ _ _)
   | (with_reducible exact LeO.refl _)
   | (with_reducible exact LeO.none _)
   | (with_reducible refine LeO.ite ?_ ?_)
   | (with_reducible refine LeO.bind ?_ (fun _ => ?_))
   | exact wicketref04_Parts.mono _ _ _ _ _ _
   | exact LeO.none _
   | refine LeO.ite ?_ ?_
   | refine LeO.bind ?_ (fun _ => ?_)
set_option maxHeartbeats 8000000 in
set_option maxRecDepth 100000 in
theorem wicketlaw04_large.calls (k : Nat) (a0_0 : Int) (a0_1 : ByteArray) (A0_2 : Option Addr) (c0_2 : Nat) (l0_2 : List ByteArray) (A0_3 : Option Addr) (c0_3 : Nat) (l0_3 : List (S25)) (r : Bool) (w : World) (hr0_2 : Kd.C Kd.string w A0_2 l0_2.length l0_2) (hc0_2 : l0_2.length ≤ c0_2) (hr0_3 : Kd.C k25 w A0_3 l0_3.length l0_3) (hc0_3 : l0_3.length ≤ c0_3) (h : wicketlaw04_large.f k a0_0 a0_1 l0_2 l0_3 = some r) :
  Calls Tryd.prog 16 #[.agg #[.int .i64 a0_0, .string a0_1, .slice A0_2 l0_2.length c0_2, .slice A0_3 l0_3.length c0_3]] w fun e w' => e = .returned (.bool r) ∧ Below w.heap.size w w' := by
 have hu25 := Tryd.underlying25
 have HR0_2 := Aside0.mk hr0_2
 have HC0_2 := Aside0.mk hc0_2
 clear hr0_2 hc0_2
 have HR0_3 := Aside0.mk hr0_3
 have HC0_3 := Aside0.mk hc0_3
 clear hr0_3 hc0_3
 have HB := Aside0.mk (Below.refl w.heap.size w)
 have H : ((wicketref04_Parts.f k a0_0 a0_1 l0_2 l0_3 10000).bind fun t179 => (some (decide (t179 > 10000)))) = some r := h
 clear h
 replace H := Option.bind_eq_some_iff.mp H
 obtain ⟨t179, A20, H⟩ := H
 replace H : (some (decide (t179 > 10000))) = some r := H
 have A2 := Aside0.mk A20
 clear A20
 obtain rfl := Option.some.inj H
 go_enter Tryd.func16, Tryd.ntmps16
 go_wp2_with (first | ((with_reducible refine gate_dst (N := 1) rfl ?_); refine box_event ?hg (N := 1) ?hd (cs := #[.int .i64 a0_0, .string a0_1, .slice A0_2 l0_2.length c0_2, .slice A0_3 l0_3.length c0_3]) (t := 25) ?hr ?_; (case hd => rfl); (case hg => rfl); (case hr => first | (go_simp; done) | (go_simp; rfl)); intro gb178 hg w3 hbox hb; have n0_ := Aside0.mk (below_step (by repeat (first | (with_reducible first | exact HB.out | apply below_alloc | apply pw_below_drewN | apply below_drew1) | exact HB.out)) hb); have n1_ := Aside0.mk (hbox); have n2_ := Aside0.mk ((by rw [hg]; exact (below_size (by repeat (first | (with_reducible first | exact HB.out | apply below_alloc | apply pw_below_drewN | apply below_drew1) | exact HB.out))) : w.heap.size ≤ gb178)); have n3_ := Aside0.mk ((by rw [hg]; exact (below_size (by repeat (first | (with_reducible first | exact HB.out | apply below_alloc | apply pw_below_drewN | apply below_drew1) | exact HB.out))) : w.heap.size ≤ gb178)); clear HB; have HB := n0_; have BK178 := n1_; have GW178 := n2_; have GE178 := n3_; clear n0_ n1_ n2_ n3_; clear hb hbox hg; have hcz4_0 : w3.cell? ⟨gb178, 0, none⟩ = some (.int .i64 a0_0) := (blk_cell BK178.out 0).trans rfl; have hcz4_1 : w3.cell? ⟨gb178, 1, none⟩ = some (.string a0_1) := (blk_cell BK178.out 1).trans rfl; have hcz4_2 : w3.cell? ⟨gb178, 2, none⟩ = some (.slice A0_2 l0_2.length c0_2) := (blk_cell BK178.out 2).trans rfl; have hcz4_3 : w3.cell? ⟨gb178, 3, none⟩ = some (.slice A0_3 l0_3.length c0_3) := (blk_cell BK178.out 3).trans rfl; have hfz4_0 := blk_frozen BK178.out 0; have hfz4_1 := blk_frozen BK178.out 1; have hfz4_2 := blk_frozen BK178.out 2; have hfz4_3 := blk_frozen BK178.out 3) | ((with_reducible refine gate_callee (f := 32) rfl ?_); refine goesL_ (some 4) rfl rfl Tryd.func32 (by kernel_rfl) rfl #[.agg #[.int .i64 a0_0, .string a0_1, .slice A0_2 l0_2.length c0_2, .slice A0_3 l0_3.length c0_3], .int .i64 10000] rfl (by (try simp only [List.map_toArray, List.map_cons, List.map_nil]); first | done | rfl | (simp only [List.length_drop, List.length_take]; rfl)) ?_; (with_reducible refine (wicketref04_Parts.calls k a0_0 a0_1 _ _ l0_2 _ _ l0_3 10000 t179 _ ?side1 ?side2 ?side3 ?side4 A2.out).mono ?_); (case side1 => repeat (first | exact (Kd.C_below HR0_2.out HB.out) | (with_reducible refine Kd.C_alloc ?_ _) | (with_reducible refine Kd.C_drewN ?_ _) | (with_reducible refine Kd.C_drew ?_))); (case side2 => exact HC0_2.out); (case side3 => repeat (first | exact (Kd.C_below HR0_3.out HB.out) | (with_reducible refine Kd.C_alloc ?_ _) | (with_reducible refine Kd.C_drewN ?_ _) | (with_reducible refine Kd.C_drew ?_))); (case side4 => exact HC0_3.out); rintro e w5 ⟨rfl, hb⟩; refine ⟨_, rfl, ?_⟩; have n0_ := Aside0.mk (blk_below (g := gb178) (o := .cells #[.int .i64 a0_0, .string a0_1, .slice A0_2 l0_2.length c0_2, .slice A0_3 l0_3.length c0_3] 25 (0, 0)) (by (with_reducible repeat (first | refine blk_drewN ?_ _ | refine blk_drew ?_ | refine blk_alloc ?_ _)); exact BK178.out) hb); have n1_ := Aside0.mk (below_step (by repeat (first | (with_reducible first | exact HB.out | apply below_alloc | apply pw_below_drewN | apply below_drew1 | refine below_set ?_ GE178.out) | exact HB.out)) hb); clear BK178; clear HB; have BK178 := n0_; have HB := n1_; clear n0_ n1_; (try clear hb); (try clear hb2); (try clear hk); (try clear hi)))
 go_ret
 exact ⟨by first | rfl | (simp [errW_none, errW_some] <;> rfl) | (simp [*, errW_none, errW_some] <;> rfl), by repeat (first | (with_reducible first | exact HB.out | apply below_alloc | apply pw_below_drewN | apply below_drew1 | refine below_set ?_ GE178.out) | exact HB.out)⟩

end Go.Proofs.YtaalajhmfdcalaaDoor.X
namespace Go.Proofs.YtaalajhmfdcalaaDoor.X
open Go.RowKit Go.Lib Go.Proofs.YtaalajhmfdcalaaDoorW.PrintWords
/-! Twin -/
theorem twin_l0 {L : Nat} (hL : L ≤ 1000000000) (v : J) (hl : v.f3.length ≤ L) (ih : ∀ y, y ∈ v.f3 → ∃ K, ∀ k, K ≤ k → wicketref04_Twin.f k y.f0 y.f1 y.f2 y.f3 = some (y.f0, y.f1, y.f2, y.f3)) :
  ∀ (d i : Nat), i + d = v.f3.length → ∃ K, ∀ k, K ≤ k → wicketref04_Twin.l0 k (i : Int) v.f0 v.f1 v.f2 v.f3 v.f0 v.f1 v.f2 (v.f3.take i) = some (v.f0, v.f1, v.f2, v.f3)
 | 0, i, h => ⟨1, fun k hk => by
   obtain ⟨k, rfl, _⟩ := ge_succ hk
   rw [wicketref04_Twin.l0, if_neg (by omega), List.take_of_length_le (by omega)]⟩
 | d + 1, i, h => by
  obtain ⟨K1, h1⟩ := twin_l0 hL v hl ih d (i + 1) (by omega)
  have hi : i < v.f3.length := by omega
  obtain ⟨K2, h2⟩ := ih _ (List.getElem_mem hi)
  refine ⟨max K1 K2 + 1, fun k hk => ?_⟩
  obtain ⟨k, rfl, hj⟩ := ge_succ hk
  rw [wicketref04_Twin.l0, if_pos (by omega), if_pos (by omega), rd_nat _ _ hi, h2 k (by omega)]
  simp only [Option.bind_some]
  rw [if_pos (by rw [List.length_take]; omega), wrap_id _ (by omega) (by omega)]
  have := h1 k (by omega)
  rw [List.take_succ_eq_append_getElem hi] at this
  have e : (i : Int) + 1 = ((i + 1 : Nat) : Int) := by omega
  rw [e, eta_J]
  exact this
theorem twin_self {B L : Nat} (hL : L ≤ 1000000000) {v : J} (h : Bd B L v) : ∃ K, ∀ k, K ≤ k → wicketref04_Twin.f k v.f0 v.f1 v.f2 v.f3 = some (v.f0, v.f1, v.f2, v.f3) := by
 induction h with
 | mk f0 f1 f2 f3 _ _ h2 h3 _ ih =>
  obtain ⟨K1, h1⟩ := twin_l0 hL ⟨f0, f1, f2, f3⟩ h3 ih f3.length 0 (by show 0 + f3.length = f3.length; omega)
  refine ⟨K1 + 1, fun k hk => ?_⟩
  obtain ⟨k, rfl, hj⟩ := ge_succ hk
  rw [wicketref04_Twin.f]
  simp only [Option.bind_some]
  rw [if_pos (by simp; omega)]
  exact h1 k hj
/-! Parts -/
theorem parts_l0 {B L : Nat} (hL : L ≤ 281474976710656) (v : J) (h3 : v.f3.length ≤ L) (ih : ∀ y, y ∈ v.f3 → ∀ most : Int, 0 ≤ most → most ≤ 1152921504606846976 → ∃ K n, (∀ k, K ≤ k → wicketref04_Parts.f k y.f0 y.f1 y.f2 y.f3 most = some n) ∧ 1 ≤ n ∧ n ≤ most + 1 + L ∧ ∀ M : Nat, n ≤ most → most ≤ M → Bd B M y) (most : Int) (hm0 : 0 ≤ most) (hm : most ≤ 1152921504606846976) :
  ∀ (d i : Nat) (x : Int), i + d = v.f3.length → 1 ≤ x → x ≤ most + 1 + L → ∃ K n, (∀ k, K ≤ k → wicketref04_Parts.l0 k most x (i : Int) v.f0 v.f1 v.f2 v.f3 = some n) ∧ x ≤ n ∧ n ≤ most + 1 + L ∧ ∀ M : Nat, n ≤ most → most ≤ M → x + d ≤ n ∧ ∀ y, y ∈ v.f3.drop i → Bd B M y
 | 0, i, x, h, hx, hx2 => ⟨1, x, fun k hk => by
   obtain ⟨k, rfl, _⟩ := ge_succ hk
   rw [wicketref04_Parts.l0, if_neg (by omega)], Int.le_refl _, hx2, fun M _ _ => ⟨by omega, fun y hy => by rw [List.drop_of_length_le (by omega)] at hy; cases hy⟩⟩
 | d + 1, i, x, h, hx, hx2 => by
  have hi : i < v.f3.length := by omega
  by_cases hxm : x ≤ most
  ·obtain ⟨K2, t, h2, ht1, ht2, ht3⟩ := ih _ (List.getElem_mem hi) (most - x) (by omega) (by omega)
   obtain ⟨K1, n, h1, hn1, hn2, hn3⟩ := parts_l0 hL v h3 ih most hm0 hm d (i + 1) (x + t) (by omega) (by omega) (by omega)
   refine ⟨max K1 K2 + 1, n, fun k hk => ?_, by omega, hn2, fun M hM hM2 => ?_⟩
   ·obtain ⟨k, rfl, hj⟩ := ge_succ hk
    rw [wicketref04_Parts.l0, if_pos (by omega), if_pos hxm, if_pos (by omega), rd_nat _ _ hi, wrap_id (most - x) (by omega) (by omega), h2 k (by omega)]
    simp only [Option.bind_some]
    rw [wrap_id (x + t) (by omega) (by omega), wrap_id _ (by omega) (by omega)]
    exact h1 k (by omega)
   ·obtain ⟨g1, g2⟩ := hn3 M hM hM2
    refine ⟨by omega, fun y hy => ?_⟩
    rw [List.drop_eq_getElem_cons hi] at hy
    rcases List.mem_cons.1 hy with rfl | hy
    ·exact ht3 M (by omega) (by omega)
    ·exact g2 y hy
  ·refine ⟨1, x, fun k hk => ?_, Int.le_refl _, hx2, fun M hM _ => absurd hM hxm⟩
   obtain ⟨k, rfl, _⟩ := ge_succ hk
   rw [wicketref04_Parts.l0, if_pos (by omega), if_neg hxm]
theorem parts_of {B L : Nat} (hL : L ≤ 281474976710656) {v : J} (h : Bd B L v) : ∀ most : Int, 0 ≤ most → most ≤ 1152921504606846976 → ∃ K n, (∀ k, K ≤ k → wicketref04_Parts.f k v.f0 v.f1 v.f2 v.f3 most = some n) ∧ 1 ≤ n ∧ n ≤ most + 1 + L ∧ ∀ M : Nat, n ≤ most → most ≤ M → Bd B M v := by
 induction h with
 | mk f0 f1 f2 f3 g1 g2 h2 h3 _ ih =>
  intro most hm0 hm
  obtain ⟨K, n, k1, k2, k3, k4⟩ := parts_l0 (B := B) hL ⟨f0, f1, f2, f3⟩ h3 ih most hm0 hm f3.length 0 (1 + (f2.length : Int)) (by show 0 + f3.length = f3.length; omega) (by omega) (by omega)
  refine ⟨K + 1, n, fun k hk => ?_, by omega, k3, fun M hM hM2 => ?_⟩
  ·obtain ⟨k, rfl, hj⟩ := ge_succ hk
   rw [wicketref04_Parts.f, wrap_id _ (by show _ ≤ 1 + (f2.length : Int); omega) (by show 1 + (f2.length : Int) ≤ _; omega)]
   exact k1 k hj
  ·obtain ⟨q1, q2⟩ := k4 M hM hM2
   exact .mk f0 f1 f2 f3 g1 g2 (by omega) (by omega) (fun y hy => q2 y (by rw [List.drop_zero]; exact hy))
/-- A value is large, or its lists are short. -/
theorem large_of {B L : Nat} (hL : L ≤ 281474976710656) {v : J} (h : Bd B L v) : ∃ K, (∀ k, K ≤ k → wicketlaw04_large.f k v.f0 v.f1 v.f2 v.f3 = some true) ∨ ((∀ k, K ≤ k → wicketlaw04_large.f k v.f0 v.f1 v.f2 v.f3 = some false) ∧ Bd B 10000 v) := by
 obtain ⟨K, n, h1, h2, h3, h4⟩ := parts_of hL h 10000 (by omega) (by omega)
 refine ⟨K, ?_⟩
 by_cases hn : n ≤ 10000
 ·refine .inr ⟨fun k hk => ?_, h4 10000 hn (by omega)⟩
  unfold wicketlaw04_large.f
  rw [h1 k hk]
  simp only [Option.bind_some]
  rw [decide_eq_false (by omega)]
 ·refine .inl fun k hk => ?_
  unfold wicketlaw04_large.f
  rw [h1 k hk]
  simp only [Option.bind_some]
  rw [decide_eq_true (by omega)]
end Go.Proofs.YtaalajhmfdcalaaDoor.X
namespace Go.Proofs.YtaalajhmfdcalaaDoor.X
open Go.RowKit Go.Lib Go.Proofs.YtaalajhmfdcalaaDoorW.PrintWords
def rotL {α : Type} (c : Nat) (l : List α) : List α := l.drop c ++ l.take c
/-- From where on the members are turned round. -/
def rotC (b : Int) (n : Nat) : Nat := (Int.tmod b n + n).toNat % n
def tJ (b : Int) : Nat → J → J
 | 0, v => v
 | r + 1, v =>
  if v.f0 = 5 then ⟨v.f0, v.f1, v.f2, v.f3.map (tJ b r)⟩
  else if v.f0 = 6 then ⟨v.f0, v.f1, rotL (rotC b v.f3.length) v.f2, (rotL (rotC b v.f3.length) v.f3).map (tJ b r)⟩
  else v
theorem rotC_lt (b : Int) {n : Nat} (h : 0 < n) : rotC b n < n := Nat.mod_lt _ h
theorem rotL_len {α : Type} (c : Nat) (l : List α) : (rotL c l).length = l.length := by
 unfold rotL
 rw [List.length_append, List.length_drop, List.length_take]
 omega
theorem rotL_at {α : Type} {c i : Nat} {l : List α} (hc : c < l.length) (hi : i < l.length) : (rotL c l)[i]? = l[(i + c) % l.length]? := by
 unfold rotL
 by_cases h : i < l.length - c
 ·rw [List.getElem?_append_left (by rw [List.length_drop]; exact h), List.getElem?_drop, Nat.mod_eq_of_lt (by omega), Nat.add_comm]
 ·rw [List.getElem?_append_right (by rw [List.length_drop]; omega), List.length_drop, List.getElem?_take_of_lt (by omega)]
  have : (i + c) % l.length = i + c - l.length := by
   rw [Nat.mod_eq_sub_mod (by omega), Nat.mod_eq_of_lt (by omega)]
  rw [this]
  congr 1
  omega
theorem take_at {α : Type} {l : List α} {i : Nat} {x : α} (h : l[i]? = some x) : l.take i ++ [x] = l.take (i + 1) := by
 obtain ⟨hi, e⟩ := List.getElem?_eq_some_iff.1 h
 rw [List.take_succ_eq_append_getElem hi, e]
theorem tmod_bound (b : Int) {n : Nat} (h : 0 < n) : -(n : Int) < Int.tmod b n ∧ Int.tmod b n < n := by
 constructor
 ·have := Int.lt_tmod_of_pos b (show (0 : Int) < n by omega)
  omega
 ·exact Int.tmod_lt_of_pos b (by omega)
/-- Which member comes next. -/
theorem rot_index (b : Int) {n i : Nat} (hn : 0 < n) (hi : i < n) (hs : n ≤ 1000000) : Int.tmod (wrap64 (wrap64 ((i : Int) + Int.tmod b (n : Int)) + (n : Int))) (n : Int) = (((i + rotC b n) % n : Nat) : Int) := by
 obtain ⟨h1, h2⟩ := tmod_bound b hn
 unfold rotC
 generalize Int.tmod b (n : Int) = m at *
 rw [wrap_id ((i : Int) + m) (by omega) (by omega), wrap_id ((i : Int) + m + n) (by omega) (by omega), Int.tmod_eq_emod_of_nonneg (by omega)]
 have e : (i : Int) + m + n = ((i + (m + n).toNat : Nat) : Int) := by omega
 rw [e, ← Int.natCast_emod, Nat.add_mod_mod]
end Go.Proofs.YtaalajhmfdcalaaDoor.X
namespace Go.Proofs.YtaalajhmfdcalaaDoor.X
open Go.RowKit Go.Lib Go.Proofs.YtaalajhmfdcalaaDoorW.PrintWords Go.Proofs.YtaalajhmfdcalaaDoorW.PrintLast Go.Proofs.YtaalajhmfdcalaaDoorW.PrintMore
/-- turned's variables: the value, the answer (both new), the value as it grows. -/
structure TI (W : World) (f0 : Int) (f1 : ByteArray) (v2 v3 : Value) (sn sv : Value) (ln : List ByteArray) (li : List J) (w : World) : Prop where
 o : w.heap[W.heap.size]? = some (.cells #[.int .i64 f0, .string f1, v2, v3] 25 (0, 0))
 r : w.heap[W.heap.size + 1]? = some (.cells #[.int .i64 0, .string ⟨#[]⟩, .slice none 0 0, .slice none 0 0] 25 (0, 0))
 p : w.heap[W.heap.size + 1 + 1]? = some (.cells #[.int .i64 f0, .string f1, sn, sv] 25 (0, 0))
 names : Kd.string.R 9 w W.heap.size (fun k => W.heap.size + 1 + 1 + 1 ≤ k) sn ln
 items : k25.R 25 w W.heap.size (fun k => W.heap.size + 1 + 1 + 1 ≤ k ∧ some k ≠ sn.ownBlock) sv li
 bel : Below W.heap.size W w
section
variable {W w w' : World} {f0 : Int} {f1 : ByteArray} {v2 v3 sn sv : Value} {ln : List ByteArray} {li : List J}
theorem TI.below (h : TI W f0 f1 v2 v3 sn sv ln li w) (hb : Below w.heap.size w w') : TI W f0 f1 v2 v3 sn sv ln li w' :=
 ⟨(hb.block _ (lt_of_block h.o)).trans h.o, (hb.block _ (lt_of_block h.r)).trans h.r, (hb.block _ (lt_of_block h.p)).trans h.p, Kd.R_below h.names hb, Kd.R_below h.items hb, below_step h.bel hb⟩
theorem TI.ltB (h : TI W f0 f1 v2 v3 sn sv ln li w) : W.heap.size ≤ w.heap.size := h.bel.size
theorem TI.lt (h : TI W f0 f1 v2 v3 sn sv ln li w) : W.heap.size + 1 + 1 < w.heap.size := lt_of_block h.p
theorem TI.name {v1 : Value} {w6 : World} {nm : ByteArray} (h : TI W f0 f1 v2 v3 sn sv ln li w) (ho : Kd.string.R 9 w6 W.heap.size (fun k => W.heap.size + 1 + 1 + 1 ≤ k) v1 (ln ++ [nm])) (hb : Below W.heap.size W w6) (hg : w.grownBy w6 sn.ownBlock)
  (hat : v1.ownBlock = sn.ownBlock ∨ ∃ b, v1.ownBlock = some b ∧ w.heap.size ≤ b) : TI W f0 f1 v2 v3 v1 sv (ln ++ [nm]) li (w6.setCell ⟨W.heap.size + 1 + 1, 2, none⟩ v1) := by
 have key : ∀ {b : Nat} {c : Array Value} {t : TypeId}, w.heap[b]? = some (.cells c t (0, 0)) → 9 ≠ t → w6.heap[b]? = some (.cells c t (0, 0)) := fun hk ht => blk_grown hk hg (Kd.R_ne h.names hk ht)
 have far : ∀ {b : Nat} {o : Obj}, b ≠ W.heap.size + 1 + 1 → w6.heap[b]? = some o → (w6.setCell ⟨W.heap.size + 1 + 1, 2, none⟩ v1).heap[b]? = some o := fun hne hk => (Below.heap_setCell _ _ _ _ hne).trans hk
 exact ⟨far (by omega) (key h.o (by decide)), far (by omega) (key h.r (by decide)), (blk_set 2 v1 (key h.p (by decide))).trans rfl, Kd.R_far ho (fun k hk => by show k ≠ W.heap.size + 1 + 1; omega) _, Kd.R_far (Kd.R_after h.items hg hat) (fun k hk => by have := hk.1; show k ≠ W.heap.size + 1 + 1; omega) _, below_set hb (by omega)⟩
theorem TI.item {v1 : Value} {w6 : World} {y : J} (h : TI W f0 f1 v2 v3 sn sv ln li w) (ho : k25.R 25 w6 W.heap.size (fun k => W.heap.size + 1 + 1 + 1 ≤ k ∧ some k ≠ sn.ownBlock) v1 (li ++ [y])) (hb : Below W.heap.size W w6) (hg : w.grownBy w6 sv.ownBlock) :
  TI W f0 f1 v2 v3 sn v1 ln (li ++ [y]) (w6.setCell ⟨W.heap.size + 1 + 1, 3, none⟩ v1) := by
 have key : ∀ {b : Nat} {c : Array Value} {t : TypeId}, w.heap[b]? = some (.cells c t (0, 0)) → b < W.heap.size + 1 + 1 + 1 → w6.heap[b]? = some (.cells c t (0, 0)) := fun {b} {c} {t} hk hl => blk_grown hk hg (Kd.R_away (g := b) h.items (fun k hk => by have := hk.1; omega))
 have far : ∀ {b : Nat} {o : Obj}, b ≠ W.heap.size + 1 + 1 → w6.heap[b]? = some o → (w6.setCell ⟨W.heap.size + 1 + 1, 3, none⟩ v1).heap[b]? = some o := fun hne hk => (Below.heap_setCell _ _ _ _ hne).trans hk
 exact ⟨far (by omega) (key h.o (by omega)), far (by omega) (key h.r (by omega)), (blk_set 3 v1 (key h.p (by omega))).trans rfl, Kd.R_far (Kd.R_over' h.names (Kd.R_typed h.items) (by decide) hg) (fun k hk => by show k ≠ W.heap.size + 1 + 1; omega) _, Kd.R_far ho (fun k hk => by have := hk.1; show k ≠ W.heap.size + 1 + 1; omega) _, below_set hb (by omega)⟩
end
theorem TI.start (W : World) (f0 : Int) (f1 : ByteArray) (v2 v3 : Value) :
  TI W f0 f1 v2 v3 (.slice none 0 0) (.slice none 0 0) [] [] (((W.alloc (.cells #[.int .i64 f0, .string f1, v2, v3] 25)).alloc (.cells #[.int .i64 0, .string ⟨#[]⟩, .slice none 0 0, .slice none 0 0] 25)).alloc (.cells #[.int .i64 f0, .string f1, .slice none 0 0, .slice none 0 0] 25)) := by
 have e1 : (W.alloc (.cells #[.int .i64 f0, .string f1, v2, v3] 25)).heap.size = W.heap.size + 1 := by simp
 have e2 : ((W.alloc (.cells #[.int .i64 f0, .string f1, v2, v3] 25)).alloc (.cells #[.int .i64 0, .string ⟨#[]⟩, .slice none 0 0, .slice none 0 0] 25)).heap.size = W.heap.size + 1 + 1 := by simp
 refine ⟨Below.alloc_at (Below.alloc_at (heap_alloc_new _ _)), ?_, ?_, Kd.R_nil _ _ _ _ _, Kd.R_nil _ _ _ _ _, below_alloc (below_alloc (below_alloc (Below.refl _ _) _) _) _⟩
 ·have := heap_alloc_new (W.alloc (.cells #[.int .i64 f0, .string f1, v2, v3] 25)) (.cells #[.int .i64 0, .string ⟨#[]⟩, .slice none 0 0, .slice none 0 0] 25)
  rw [e1] at this
  exact Below.alloc_at this
 ·have := heap_alloc_new ((W.alloc (.cells #[.int .i64 f0, .string f1, v2, v3] 25)).alloc (.cells #[.int .i64 0, .string ⟨#[]⟩, .slice none 0 0, .slice none 0 0] 25)) (.cells #[.int .i64 f0, .string f1, .slice none 0 0, .slice none 0 0] 25)
  rw [e2] at this
  exact this
/-- What turned comes to. -/
def TEnds (W : World) (v : J) (e : Ending) (W' : World) : Prop := ∃ u2 u3 : Value, e = .returned (.agg #[.int .i64 v.f0, .string v.f1, u2, u3]) ∧ Kd.string.R 9 W' W.heap.size (fun _ => True) u2 v.f2 ∧ k25.R 25 W' W.heap.size (fun k => some k ≠ u2.ownBlock) u3 v.f3 ∧ Below W.heap.size W W'
theorem TI.fin {W w : World} {f0 : Int} {f1 : ByteArray} {v2 v3 : Value} {An Ai : Option Addr} {cn ci : Nat} {ln : List ByteArray} {li : List J} (h : TI W f0 f1 v2 v3 (.slice An ln.length cn) (.slice Ai li.length ci) ln li w) :
  TEnds W ⟨f0, f1, ln, li⟩ (.returned (.agg #[.int .i64 f0, .string f1, .slice An ln.length cn, .slice Ai li.length ci])) ((((w.setCell ⟨W.heap.size + 1, 0, none⟩ (.int .i64 f0)).setCell ⟨W.heap.size + 1, 1, none⟩ (.string f1)).setCell ⟨W.heap.size + 1, 2, none⟩ (.slice An ln.length cn)).setCell ⟨W.heap.size + 1, 3, none⟩ (.slice Ai li.length ci)) := by
 refine ⟨_, _, rfl, Kd.R_mono (Kd.R_far (p := ⟨W.heap.size + 1, 3, none⟩) (Kd.R_far (p := ⟨W.heap.size + 1, 2, none⟩) (Kd.R_far (p := ⟨W.heap.size + 1, 1, none⟩) (Kd.R_far (p := ⟨W.heap.size + 1, 0, none⟩) h.names ?_ _) ?_ _) ?_ _) ?_ _) (fun _ _ => trivial), Kd.R_mono (Kd.R_far (p := ⟨W.heap.size + 1, 3, none⟩) (Kd.R_far (p := ⟨W.heap.size + 1, 2, none⟩) (Kd.R_far (p := ⟨W.heap.size + 1, 1, none⟩) (Kd.R_far (p := ⟨W.heap.size + 1, 0, none⟩) h.items ?_ _) ?_ _) ?_ _) ?_ _) (fun _ hk => hk.2), below_set (below_set (below_set (below_set h.bel (by omega)) (by omega)) (by omega)) (by omega)⟩
 all_goals (intro k hk; show k ≠ W.heap.size + 1; first | omega | (have := hk.1; omega))
def TOK (b : Int) (r : Nat) : Prop := ∀ (v : J) (A2 A3 : Option Addr) (c2 c3 : Nat) (W : World), OKJ r v → (∃ B, Bd B 10000 v) → Kd.string.C W A2 v.f2.length v.f2 → v.f2.length ≤ c2 → k25.C W A3 v.f3.length v.f3 → v.f3.length ≤ c3 →
 Calls Tryd.prog 25 #[jVal v.f0 v.f1 A2 A3 v.f2.length c2 v.f3.length c3, .int .i64 b] W (TEnds W (tJ b r v))
theorem rot_take {c i : Nat} {ns : List ByteArray} (hc : c < ns.length) (hi : i < ns.length) : (rotL c ns).take i ++ [nmAt ns ((i + c) % ns.length)] = (rotL c ns).take (i + 1) := by
 have hk : (i + c) % ns.length < ns.length := Nat.mod_lt _ (by omega)
 exact take_at (by rw [rotL_at hc hi, nmAt_eq ns _ hk, List.getElem?_eq_getElem hk])
theorem rot_takeI {c i : Nat} {ys : List J} (t : J → J) (hc : c < ys.length) (hi : i < ys.length) : ((rotL c ys).map t).take i ++ [t (rd_T25 ys (((i + c) % ys.length : Nat) : Int))] = ((rotL c ys).map t).take (i + 1) := by
 have hk : (i + c) % ys.length < ys.length := Nat.mod_lt _ (by omega)
 exact take_at (by rw [List.getElem?_map, rotL_at hc hi, rd_nat ys _ hk, List.getElem?_eq_getElem hk]; rfl)
set_option maxRecDepth 1000000 in
set_option maxHeartbeats 4000000 in
theorem turned_obj (b : Int) (r : Nat) (f1 : ByteArray) (ns : List ByteArray) (ys : List J) (A2 A3 : Option Addr) (c2 c3 : Nat) (W : World) (hl : ns.length = ys.length) (hsz : ys.length ≤ 10000) (hC2 : Kd.string.C W A2 ns.length ns) (hc2 : ns.length ≤ c2) (hC3 : k25.C W A3 ys.length ys) (hc3 : ys.length ≤ c3) (hok : ∀ y, y ∈ ys → OKJ r y ∧ ∃ B, Bd B 10000 y) (IH : TOK b r) :
  Calls Tryd.prog 25 #[jVal 6 f1 A2 A3 ns.length c2 ys.length c3, .int .i64 b] W (TEnds W ⟨6, f1, rotL (rotC b ys.length) ns, (rotL (rotC b ys.length) ys).map (tJ b r)⟩) := by
 have HST := Aside0.mk (TI.start W 6 f1 (.slice A2 ns.length c2) (.slice A3 ys.length c3))
 have HF2 := Aside0.mk (Kd.C_F Kd.heap_string hC2)
 have HF3 := Aside0.mk (Kd.C_F heap25 hC3)
 have HNY := Aside0.mk hl
 have HOK := Aside0.mk hok
 have HIH := Aside0.mk IH
 have l1 : ((ns.length : Int) == (ys.length : Int)) = true := by rw [hl]; simp
 have l2 : ((ns.length : Int) != (ys.length : Int)) = false := by rw [hl]; simp
 have l3 : (ns.length == ys.length) = true := by rw [hl]; simp
 clear hC2 hC3 hl hok IH
 go_enter Tryd.func25, Tryd.ntmps25
 go_wp2
 go_loopg [7] (ys.length + 1) (fun g v7 wr => ∃ (i : Nat) (sn sv : Value), v7 = .int .i64 (i : Int) ∧ i ≤ ys.length ∧ ys.length + 1 ≤ i + g ∧ Aside0 (TI W 6 f1 (.slice A2 ns.length c2) (.slice A3 ys.length c3) sn sv ((rotL (rotC b ys.length) ns).take i) (((rotL (rotC b ys.length) ys).map (tJ b r)).take i) wr))
 case atStart => exact ⟨0, _, _, rfl, by omega, by omega, by rw [List.take_zero, List.take_zero]; exact HST⟩
 case round =>
  obtain ⟨i, sn, sv, rfl, hi, hg, HS⟩ := hrel
  clear HST
  by_cases hlt : i < ys.length
  ·cases gk with
   | zero => omega
   | succ g =>
    have p1 : (0 ≤ (i : Int)) = True := eq_true (by omega)
    have p2 : ((i : Int) < (ys.length : Int)) = True := eq_true (by omega)
    have hwn := wrap_next i ys.length hlt (by omega)
    have HWN := Aside0.mk hwn
    clear hwn
    have hz0 : ((ys.length : Int) == 0) = false := beq_eq_false_iff_ne.mpr (by omega)
    have hz1 : ((ys.length : Int) = 0) = False := eq_false (by omega)
    have hz2 : ¬ (ys = []) := fun h => by rw [h] at hlt; simp at hlt
    have hix := rot_index b (n := ys.length) (by omega) hlt (by omega)
    obtain ⟨k, hk⟩ : ∃ k, k = (i + rotC b ys.length) % ys.length := ⟨_, rfl⟩
    have hkn : k < ys.length := by rw [hk]; exact Nat.mod_lt _ (by omega)
    have hkm : k < ns.length := by have := HNY.out; omega
    rw [← hk] at hix
    have HLN := Aside0.mk (show (rotL (rotC b ys.length) ns).take i ++ [nmAt ns k] = (rotL (rotC b ys.length) ns).take (i + 1) by have h := rot_take (c := rotC b ys.length) (i := i) (ns := ns) (by have := rotC_lt b (show 0 < ys.length by omega); have := HNY.out; omega) (by have := HNY.out; omega); rw [HNY.out, ← hk] at h; exact h)
    have HLI := Aside0.mk (show ((rotL (rotC b ys.length) ys).map (tJ b r)).take i ++ [tJ b r (rd_T25 ys (k : Int))] = ((rotL (rotC b ys.length) ys).map (tJ b r)).take (i + 1) by rw [hk]; exact rot_takeI _ (rotC_lt b (by omega)) hlt)
    clear hk
    have HL1 := Aside0.mk (show ((rotL (rotC b ys.length) ns).take i).length ≤ 10000 by rw [List.length_take]; omega)
    have HL2 := Aside0.mk (show (((rotL (rotC b ys.length) ys).map (tJ b r)).take i).length ≤ 10000 by rw [List.length_take]; omega)
    generalize (rotL (rotC b ys.length) ns).take i = ln at HS HLN HL1
    generalize ((rotL (rotC b ys.length) ys).map (tJ b r)).take i = li at HS HLI HL2
    obtain ⟨An, cn, en⟩ := Kd.R_slice HS.out.names
    subst en
    obtain ⟨Ai, ci, ei⟩ := Kd.R_slice HS.out.items
    subst ei
    obtain ⟨ad, e8, hnk⟩ := name_at HF2.out k hkm
    subst e8
    have HNK := Aside0.mk hnk
    clear hnk
    obtain ⟨ad3, B2, k2, B3, k3, e9, q0, q1, q2, q3, m2, g2, m3, g3⟩ := F_elem HF3.out k (by omega)
    subst e9
    have HQ0 := Aside0.mk (show CellOf W _ _ from q0)
    have HQ1 := Aside0.mk (show CellOf W _ _ from q1)
    have HQ2 := Aside0.mk (show CellOf W _ _ from q2)
    have HQ3 := Aside0.mk (show CellOf W _ _ from q3)
    have HM2 := Aside0.mk m2
    have HM3 := Aside0.mk m3
    have HG2 := Aside0.mk g2
    have HG3 := Aside0.mk g3
    have HOY := Aside0.mk (HOK.out (rd_T25 ys k) (rd_mem ys k (by omega)))
    clear q0 q1 q2 q3 m2 g2 m3 g3
    have p3 : (0 ≤ (k : Int)) = True := eq_true (by omega)
    have p4 : ((k : Int) < (ns.length : Int)) = True := eq_true (by omega)
    have p5 : ((k : Int) < (ys.length : Int)) = True := eq_true (by omega)
    have z0 := (blk_cell HS.out.o 0).trans rfl
    have z2 := (blk_cell HS.out.o 2).trans rfl
    go_wp2
    refine start_ (n := 11) (S := fun w' => w'.cell? ⟨W.heap.size + 1 + 1, 2, none⟩ = some (.slice An ln.length cn) ∧ w'.cell? ⟨W.heap.size, 2, none⟩ = some (.slice (some ad) ns.length c2) ∧ w'.cell? (ad.add k) = some (.string (nmAt ns k))) (ds := [10]) #[false, false, false, false, false, false, false, false, false, false, false] (by kernel_rfl) rfl rfl ⟨(blk_cell HS.out.p 2).trans rfl, (blk_cell HS.out.o 2).trans rfl, HNK.out.at (pw_below_drewN HS.out.bel 1)⟩ (fun hHeld => ?_)
    have HS2 := Aside0.mk (HS.out.below (show Below wr.heap.size wr wr.drew from pw_below_drewN (Below.refl _ _) 1))
    generalize wr.drew = w2 at HS2 hHeld ⊢
    refine pure_ (i := 0) (N := some 42) (v := ?_) (a' := ?_) #[true, false, false, false, false, false, false, false, false, false, false] rfl rfl (by kernel_rfl) (fun _ _ _ h => h) (Or.inl ⟨by rfl, ?_⟩) ?_ ?_
    rotate_left
    ·intro w'
     go_simp
     with_reducible rfl
    rotate_left
    ·simp only [Act.put, sAx, sZx, sSx, i64_w, i32_w]
     rfl
    refine pure_ (i := 2) (N := some 44) (v := ?_) (a' := ?_) #[true, false, true, false, false, false, false, false, false, false, false] rfl rfl (by kernel_rfl) (fun _ _ _ h => h) (Or.inl ⟨by rfl, ?_⟩) ?_ ?_
    rotate_left
    ·intro w'
     go_simp
     with_reducible rfl
    rotate_left
    ·simp only [Act.put, sAx, sZx, sSx, i64_w, i32_w]
     rfl
    refine pure_ (i := 4) (N := some 46) (v := ?_) (a' := ?_) #[true, false, true, false, true, false, false, false, false, false, false] rfl rfl (by kernel_rfl) (fun _ _ _ h => h) (Or.inl ⟨by rfl, ?_⟩) ?_ ?_
    rotate_left
    ·intro w'
     go_simp
     with_reducible rfl
    rotate_left
    ·simp only [Act.put, sAx, sZx, sSx, i64_w, i32_w]
     rfl
    refine take_ (i := 1) (N := some 43) (v := ?_) (a' := ?_) #[true, true, true, false, true, false, false, false, false, false, false] rfl rfl (by kernel_rfl) (fun _ _ _ h => h) (Or.inl ⟨by rfl, ?_⟩) hHeld ?_ ?_
    rotate_left
    ·rintro w' ⟨s0, s1, s2⟩
     go_simp
     with_reducible rfl
    rotate_left
    ·simp only [Act.put, sAx, sZx, sSx, i64_w, i32_w]
     rfl
    refine take_ (i := 3) (N := some 45) (v := ?_) (a' := ?_) #[true, true, true, true, true, false, false, false, false, false, false] rfl rfl (by kernel_rfl) (fun _ _ _ h => h) (Or.inl ⟨by rfl, ?_⟩) hHeld ?_ ?_
    rotate_left
    ·rintro w' ⟨s0, s1, s2⟩
     go_simp
     with_reducible rfl
    rotate_left
    ·simp only [Act.put, sAx, sZx, sSx, i64_w, i32_w]
     rfl
    refine pure_ (i := 5) (N := some 47) (v := ?_) (a' := ?_) #[true, true, true, true, true, true, false, false, false, false, false] rfl rfl (by kernel_rfl) (fun _ _ _ h => h) (Or.inl ⟨by rfl, ?_⟩) ?_ ?_
    rotate_left
    ·intro w'
     go_simp
     with_reducible rfl
    rotate_left
    ·simp only [Act.put, sAx, sZx, sSx, i64_w, i32_w]
     rfl
    refine take_ (i := 6) (N := some 48) (v := ?_) (a' := ?_) #[true, true, true, true, true, true, true, false, false, false, false] rfl rfl (by kernel_rfl) (fun _ _ _ h => h) (Or.inl ⟨by rfl, ?_⟩) hHeld ?_ ?_
    rotate_left
    ·rintro w' ⟨s0, s1, s2⟩
     go_simp
     with_reducible rfl
    rotate_left
    ·simp only [Act.put, sAx, sZx, sSx, i64_w, i32_w]
     rfl
    refine one_ (i := 7) (N := some 49) #[true, true, true, true, true, true, true, true, false, false, false] rfl rfl (by kernel_rfl) (by decide) (fun K hK => ?_)
    refine value_ (w1 := ?_) (v := ?_) (by rfl) rfl ?_ ?_
    rotate_left 2
    ·go_simp
     constructor
     ·rfl
     ·rfl
    refine hK.out _ _ ⟨(blk_cell (blk_alloc HS2.out.p _) 2).trans rfl, (blk_cell (blk_alloc HS2.out.o _) 2).trans rfl, HNK.out.at (below_alloc HS2.out.bel _)⟩ (fun hHeld => ?_)
    clear hK K
    refine norm_ (a' := ?_) ?_ ?_
    rotate_left
    ·show Act.put _ (some 49) _ = _
     simp only [Act.put, sAx, sZx, sSx, i64_w, i32_w]
     rfl
    refine one_ (i := 8) (N := some 50) #[true, true, true, true, true, true, true, true, true, false, false] rfl rfl (by kernel_rfl) (by decide) (fun K hK => ?_)
    refine Kd.R_append_step Kd.string (w0 := W) W.heap.size (by rfl) (.tmp 43) (.tmp 49) 22 9 (.string ⟨#[]⟩) 16 rfl Tryd.underlying22 info9 rfl (by decide) (by omega) (.slice An ln.length cn) ln (nmAt ns k) [.string (nmAt ns k)] (fun k_ => W.heap.size + 1 + 1 + 1 ≤ k_) (fun _ => False) rfl rfl ?aP (fun _ hk => hk.elim) ?aF ?aO ?aB ?aS ?aL ?_
    (case aP => exact rfl)
    (case aF => exact (fun k_ hk => by have := HS2.out.lt; omega))
    (case aO => exact HS2.out.names)
    (case aB => exact HS2.out.bel)
    (case aS => exact HS2.out.ltB)
    (case aL => have := HL1.out; omega)
    intro v1 w6 ho hb hg hat
    obtain ⟨A1, c1, e1⟩ := Kd.R_slice ho
    subst e1
    have b1 := Aside0.mk (blk_grown HS2.out.p hg (Kd.R_ne HS2.out.names HS2.out.p (by decide)))
    have b2 := Aside0.mk (blk_grown HS2.out.o hg (Kd.R_ne HS2.out.names HS2.out.o (by decide)))
    have hs3 := HS2.out.name ho hb hg hat
    rw [List.length_append, List.length_singleton] at hs3
    have HS3 := Aside0.mk hs3
    clear hs3
    have HB6 := Aside0.mk hb
    have x3 := (blk_cell b1.out 2).trans rfl
    have xf := blk_frozen b1.out 2
    clear ho hb hg hat
    refine hK.out _ _ ⟨(blk_cell b1.out 2).trans rfl, (blk_cell b2.out 2).trans rfl, HNK.out.at HB6.out⟩ (fun hHeld => ?_)
    clear hK K
    refine norm_ (a' := ?_) ?_ ?_
    rotate_left
    ·show Act.put _ (some 50) _ = _
     simp only [Act.put, sAx, sZx, sSx, i64_w, i32_w]
     rfl
    refine pure_ (i := 9) (N := some 51) (v := ?_) (a' := ?_) #[true, true, true, true, true, true, true, true, true, true, false] rfl rfl (by kernel_rfl) (fun _ _ _ h => h) (Or.inl ⟨by rfl, ?_⟩) ?_ ?_
    rotate_left
    ·intro w'
     go_simp
     with_reducible rfl
    rotate_left
    ·simp only [Act.put, sAx, sZx, sSx, i64_w, i32_w]
     rfl
    refine last_ (i := 10) (N := none) #[true, true, true, true, true, true, true, true, true, true, true] rfl rfl (by kernel_rfl) (by decide) (fun K hK => ?_)
    refine skip_ (w1 := ?_) (by rfl) rfl ?_ ?_
    rotate_left
    ·go_simp
     rfl
    refine hK.out _ _ ?_
    clear hK K
    refine done_ (by kernel_rfl) ?_
    try go_wp2
    generalize w6.setCell _ _ = w7 at HS3 ⊢
    clear HS HS2 HB6 b1 b2 x3 xf HNK hHeld HL1
    have HS := HS3
    clear HS3
    refine start_ (n := 13) (S := fun w' => w'.cell? ⟨W.heap.size + 1 + 1, 3, none⟩ = some (.slice Ai li.length ci) ∧ w'.cell? ⟨W.heap.size, 3, none⟩ = some (.slice (some ad3) ys.length c3) ∧ w'.cell? (ad3.add (k * 4)) = some (.int .i64 (rd_T25 ys k).f0) ∧ w'.cell? ⟨(ad3.add (k * 4)).block, (ad3.add (k * 4)).off + 1, none⟩ = some (.string (rd_T25 ys k).f1) ∧ w'.cell? ⟨(ad3.add (k * 4)).block, (ad3.add (k * 4)).off + 2, none⟩ = some (.slice B2 (rd_T25 ys k).f2.length k2) ∧ w'.cell? ⟨(ad3.add (k * 4)).block, (ad3.add (k * 4)).off + 3, none⟩ = some (.slice B3 (rd_T25 ys k).f3.length k3)) (ds := [12]) #[false, false, false, false, false, false, false, false, false, false, false, false, false] (by kernel_rfl) rfl rfl ⟨(blk_cell HS.out.p 3).trans rfl, (blk_cell HS.out.o 3).trans rfl, HQ0.out.at (pw_below_drewN HS.out.bel 1), HQ1.out.at (pw_below_drewN HS.out.bel 1), HQ2.out.at (pw_below_drewN HS.out.bel 1), HQ3.out.at (pw_below_drewN HS.out.bel 1)⟩ (fun hHeld => ?_)
    have HS2 := Aside0.mk (HS.out.below (show Below w7.heap.size w7 w7.drew from pw_below_drewN (Below.refl _ _) 1))
    generalize w7.drew = w8 at HS2 hHeld ⊢
    refine pure_ (i := 0) (N := some 52) (v := ?_) (a' := ?_) #[true, false, false, false, false, false, false, false, false, false, false, false, false] rfl rfl (by kernel_rfl) (fun _ _ _ h => h) (Or.inl ⟨by rfl, ?_⟩) ?_ ?_
    rotate_left
    ·intro w'
     go_simp
     with_reducible rfl
    rotate_left
    ·simp only [Act.put, sAx, sZx, sSx, i64_w, i32_w]
     rfl
    refine pure_ (i := 2) (N := some 54) (v := ?_) (a' := ?_) #[true, false, true, false, false, false, false, false, false, false, false, false, false] rfl rfl (by kernel_rfl) (fun _ _ _ h => h) (Or.inl ⟨by rfl, ?_⟩) ?_ ?_
    rotate_left
    ·intro w'
     go_simp
     with_reducible rfl
    rotate_left
    ·simp only [Act.put, sAx, sZx, sSx, i64_w, i32_w]
     rfl
    refine pure_ (i := 4) (N := some 56) (v := ?_) (a' := ?_) #[true, false, true, false, true, false, false, false, false, false, false, false, false] rfl rfl (by kernel_rfl) (fun _ _ _ h => h) (Or.inl ⟨by rfl, ?_⟩) ?_ ?_
    rotate_left
    ·intro w'
     go_simp
     with_reducible rfl
    rotate_left
    ·simp only [Act.put, sAx, sZx, sSx, i64_w, i32_w]
     rfl
    refine take_ (i := 1) (N := some 53) (v := ?_) (a' := ?_) #[true, true, true, false, true, false, false, false, false, false, false, false, false] rfl rfl (by kernel_rfl) (fun _ _ _ h => h) (Or.inl ⟨by rfl, ?_⟩) hHeld ?_ ?_
    rotate_left
    ·rintro w' ⟨s0, s1, s2, s3, s4, s5⟩
     go_simp
     with_reducible rfl
    rotate_left
    ·simp only [Act.put, sAx, sZx, sSx, i64_w, i32_w]
     rfl
    refine take_ (i := 3) (N := some 55) (v := ?_) (a' := ?_) #[true, true, true, true, true, false, false, false, false, false, false, false, false] rfl rfl (by kernel_rfl) (fun _ _ _ h => h) (Or.inl ⟨by rfl, ?_⟩) hHeld ?_ ?_
    rotate_left
    ·rintro w' ⟨s0, s1, s2, s3, s4, s5⟩
     go_simp
     with_reducible rfl
    rotate_left
    ·simp only [Act.put, sAx, sZx, sSx, i64_w, i32_w]
     rfl
    refine pure_ (i := 5) (N := some 57) (v := ?_) (a' := ?_) #[true, true, true, true, true, true, false, false, false, false, false, false, false] rfl rfl (by kernel_rfl) (fun _ _ _ h => h) (Or.inl ⟨by rfl, ?_⟩) ?_ ?_
    rotate_left
    ·intro w'
     go_simp
     with_reducible rfl
    rotate_left
    ·simp only [Act.put, sAx, sZx, sSx, i64_w, i32_w]
     rfl
    refine take_ (i := 6) (N := some 58) (v := ?_) (a' := ?_) #[true, true, true, true, true, true, true, false, false, false, false, false, false] rfl rfl (by kernel_rfl) (fun _ _ _ h => h) (Or.inl ⟨by rfl, ?_⟩) hHeld ?_ ?_
    rotate_left
    ·rintro w' ⟨s0, s1, s2, s3, s4, s5⟩
     go_simp
     with_reducible rfl
    rotate_left
    ·simp only [Act.put, sAx, sZx, sSx, i64_w, i32_w]
     rfl
    refine pure_ (i := 7) (N := some 59) (v := ?_) (a' := ?_) #[true, true, true, true, true, true, true, true, false, false, false, false, false] rfl rfl (by kernel_rfl) (fun _ _ _ h => h) (Or.inl ⟨by rfl, ?_⟩) ?_ ?_
    rotate_left
    ·intro w'
     go_simp
     with_reducible rfl
    rotate_left
    ·simp only [Act.put, sAx, sZx, sSx, i64_w, i32_w]
     rfl
    refine one_ (i := 8) (N := some 60) #[true, true, true, true, true, true, true, true, true, false, false, false, false] rfl rfl (by kernel_rfl) (by decide) (fun K hK => ?_)
    refine goes_ Tryd.func25 (by kernel_rfl) rfl #[jVal (rd_T25 ys k).f0 (rd_T25 ys k).f1 B2 B3 (rd_T25 ys k).f2.length k2 (rd_T25 ys k).f3.length k3, .int .i64 b] (by rfl) rfl rfl (by (try simp only [List.map_toArray, List.map_cons, List.map_nil]); first | done | rfl) ?_
    refine (HIH.out (rd_T25 ys k) B2 B3 k2 k3 w8 HOY.out.1 HOY.out.2 (Kd.F_now (Kd.F_old HG2.out HS2.out.bel)) HM2.out (Kd.F_now (Kd.F_old HG3.out HS2.out.bel)) HM3.out).mono ?_
    rintro e w9 ⟨u2, u3, rfl, g2, g3, hb⟩
    refine ⟨_, rfl, ?_⟩
    have HM := Aside0.mk (jV_M (B' := W.heap.size) (N := w8.heap.size) g2 g3 HS2.out.ltB (Nat.le_refl _))
    have HL8 := Aside0.mk HS2.out.lt
    have HN8 := Aside0.mk (Kd.R_lt HS2.out.names)
    have HI8 := Aside0.mk (Kd.R_lt HS2.out.items)
    have HSZ := Aside0.mk hb.size
    have HS4 := Aside0.mk (HS2.out.below hb)
    obtain ⟨U2, m2, e2⟩ := Kd.R_slice g2
    subst e2
    obtain ⟨U3, m3, e3⟩ := Kd.R_slice g3
    subst e3
    clear g2 g3 hb HS2
    have HS2 := HS4
    clear HS4
    refine hK.out _ _ ⟨(blk_cell HS2.out.p 3).trans rfl, (blk_cell HS2.out.o 3).trans rfl, HQ0.out.at HS2.out.bel, HQ1.out.at HS2.out.bel, HQ2.out.at HS2.out.bel, HQ3.out.at HS2.out.bel⟩ (fun hHeld => ?_)
    clear hK K
    refine norm_ (a' := ?_) ?_ ?_
    rotate_left
    ·show Act.put _ (some 60) _ = _
     simp only [Act.put, sAx, sZx, sSx, i64_w, i32_w]
     rfl
    refine one_ (i := 9) (N := some 61) #[true, true, true, true, true, true, true, true, true, true, false, false, false] rfl rfl (by kernel_rfl) (by decide) (fun K hK => ?_)
    refine value_ (w1 := ?_) (v := ?_) (by rfl) rfl ?_ ?_
    rotate_left 2
    ·go_simp
     constructor
     ·rfl
     ·rfl
    refine hK.out _ _ ⟨(blk_cell (blk_alloc HS2.out.p _) 3).trans rfl, (blk_cell (blk_alloc HS2.out.o _) 3).trans rfl, HQ0.out.at (below_alloc HS2.out.bel _), HQ1.out.at (below_alloc HS2.out.bel _), HQ2.out.at (below_alloc HS2.out.bel _), HQ3.out.at (below_alloc HS2.out.bel _)⟩ (fun hHeld => ?_)
    clear hK K
    refine norm_ (a' := ?_) ?_ ?_
    rotate_left
    ·show Act.put _ (some 61) _ = _
     simp only [Act.put, sAx, sZx, sSx, i64_w, i32_w]
     rfl
    refine one_ (i := 10) (N := some 62) #[true, true, true, true, true, true, true, true, true, true, true, false, false] rfl rfl (by kernel_rfl) (by decide) (fun K hK => ?_)
    refine Kd.R_append_step k25 (w0 := W) W.heap.size (by rfl) (.tmp 53) (.tmp 61) 23 25 (.agg #[(.int .i64 0), (.string ⟨#[]⟩), (.slice none 0 0), (.slice none 0 0)]) 72 rfl Tryd.underlying23 info25 rfl (by decide) (by omega) (.slice Ai li.length ci) li (tJ b r (rd_T25 ys k)) [.int .i64 (tJ b r (rd_T25 ys k)).f0, .string (tJ b r (rd_T25 ys k)).f1, .slice U2 (tJ b r (rd_T25 ys k)).f2.length m2, .slice U3 (tJ b r (rd_T25 ys k)).f3.length m3] (fun k_ => W.heap.size + 1 + 1 + 1 ≤ k_ ∧ some k_ ≠ (Value.slice A1 (ln.length + 1) c1).ownBlock) (fun k_ => w8.heap.size ≤ k_) rfl rfl ?aP ?aK ?aF ?aO ?aB ?aS ?aL ?_
    (case aP => exact HM.out)
    (case aK => exact (fun k_ hk => ⟨⟨by have := HL8.out; omega, fun he => by have := HN8.out k_ he.symm; omega⟩, fun he => by have := HI8.out k_ he.symm; omega⟩))
    (case aF => exact (fun k_ hk => ⟨by have := HS2.out.lt; omega, fun he => by have := Kd.R_lt HS2.out.names k_ he.symm; omega⟩))
    (case aO => exact HS2.out.items)
    (case aB => exact HS2.out.bel)
    (case aS => exact HS2.out.ltB)
    (case aL => have := HL2.out; omega)
    intro v2 w10 ho hb hg hat
    obtain ⟨A4, c4, e4⟩ := Kd.R_slice ho
    subst e4
    have b1 := Aside0.mk (blk_grown HS2.out.p hg (Kd.R_away HS2.out.items (fun k_ hk => by have := hk.1; omega)))
    have b2 := Aside0.mk (blk_grown HS2.out.o hg (Kd.R_away HS2.out.items (fun k_ hk => by have := hk.1; omega)))
    have hs3 := HS2.out.item ho hb hg
    rw [List.length_append, List.length_singleton] at hs3
    have HS3 := Aside0.mk hs3
    clear hs3
    have HB6 := Aside0.mk hb
    have x3 := (blk_cell b1.out 3).trans rfl
    have xf := blk_frozen b1.out 3
    clear ho hb hg hat
    refine hK.out _ _ ⟨(blk_cell b1.out 3).trans rfl, (blk_cell b2.out 3).trans rfl, HQ0.out.at HB6.out, HQ1.out.at HB6.out, HQ2.out.at HB6.out, HQ3.out.at HB6.out⟩ (fun hHeld => ?_)
    clear hK K
    refine norm_ (a' := ?_) ?_ ?_
    rotate_left
    ·show Act.put _ (some 62) _ = _
     simp only [Act.put, sAx, sZx, sSx, i64_w, i32_w]
     rfl
    refine pure_ (i := 11) (N := some 63) (v := ?_) (a' := ?_) #[true, true, true, true, true, true, true, true, true, true, true, true, false] rfl rfl (by kernel_rfl) (fun _ _ _ h => h) (Or.inl ⟨by rfl, ?_⟩) ?_ ?_
    rotate_left
    ·intro w'
     go_simp
     with_reducible rfl
    rotate_left
    ·simp only [Act.put, sAx, sZx, sSx, i64_w, i32_w]
     rfl
    refine last_ (i := 12) (N := none) #[true, true, true, true, true, true, true, true, true, true, true, true, true] rfl rfl (by kernel_rfl) (by decide) (fun K hK => ?_)
    refine skip_ (w1 := ?_) (by rfl) rfl ?_ ?_
    rotate_left
    ·go_simp
     rfl
    refine hK.out _ _ ?_
    clear hK K
    refine done_ (by kernel_rfl) ?_
    try go_wp2
    go_roundg g
    case measure => omega
    case rel => exact ⟨i + 1, _, _, (by first | exact congrArg (Value.int .i64) HWN.out | exact congrArg (Value.int .i64) (show (i : Int) + 1 = ((i + 1 : Nat) : Int) by omega)), by omega, by omega, ⟨by rw [← HLN.out, ← HLI.out]; exact HS3.out⟩⟩
  ·have p2 : ((i : Int) < (ys.length : Int)) = False := eq_false (by omega)
   have e0 : (rotL (rotC b ys.length) ns).take i = rotL (rotC b ys.length) ns := List.take_of_length_le (by rw [rotL_len]; have := HNY.out; omega)
   have e1 : ((rotL (rotC b ys.length) ys).map (tJ b r)).take i = (rotL (rotC b ys.length) ys).map (tJ b r) := List.take_of_length_le (by rw [List.length_map, rotL_len]; omega)
   rw [e0, e1] at HS
   clear e0 e1
   obtain ⟨ln, hln⟩ : ∃ x, x = rotL (rotC b ys.length) ns := ⟨_, rfl⟩
   obtain ⟨li, hli⟩ : ∃ x, x = (rotL (rotC b ys.length) ys).map (tJ b r) := ⟨_, rfl⟩
   rw [← hln, ← hli] at HS
   have HGO := Aside0.mk (show ∀ e w', TEnds W ⟨6, f1, ln, li⟩ e w' → TEnds W ⟨6, f1, rotL (rotC b ys.length) ns, (rotL (rotC b ys.length) ys).map (tJ b r)⟩ e w' from fun _ _ h => by rw [← hln, ← hli]; exact h)
   clear hln hli
   obtain ⟨An, cn, en⟩ := Kd.R_slice HS.out.names
   subst en
   obtain ⟨Ai, ci, ei⟩ := Kd.R_slice HS.out.items
   subst ei
   have o0 := (blk_cell HS.out.o 0).trans rfl
   have o1 := (blk_cell HS.out.o 1).trans rfl
   have o2 := (blk_cell HS.out.o 2).trans rfl
   have o3 := (blk_cell HS.out.o 3).trans rfl
   have x0 := (blk_cell HS.out.p 0).trans rfl
   have x1 := (blk_cell HS.out.p 1).trans rfl
   have x2 := (blk_cell HS.out.p 2).trans rfl
   have x3 := (blk_cell HS.out.p 3).trans rfl
   have y0 := (blk_cell HS.out.r 0).trans rfl
   have z0 := blk_frozen HS.out.r 0
   have y1 := (blk_cell HS.out.r 1).trans rfl
   have z1 := blk_frozen HS.out.r 1
   have y2 := (blk_cell HS.out.r 2).trans rfl
   have z2 := blk_frozen HS.out.r 2
   have y3 := (blk_cell HS.out.r 3).trans rfl
   have z3 := blk_frozen HS.out.r 3
   have HE := Aside0.mk HS.out.fin
   have HR4 := Aside0.mk (blk4 HS.out.r (.int .i64 6) (.string f1) (.slice An ln.length cn) (.slice Ai li.length ci))
   go_wp2
   refine bodyPost_ret (results_cell_row rfl _ _ (W.heap.size + 1) 25 #[.int .i64 6, .string f1, .slice An ln.length cn, .slice Ai li.length ci] (0, 0) _ rfl HR4.out Tryd.underlying25 rfl (by kernel_rfl)) rfl ?_
   exact HGO.out _ _ HE.out
end Go.Proofs.YtaalajhmfdcalaaDoor.X
namespace Go.Proofs.YtaalajhmfdcalaaDoor.X
open Go.RowKit Go.Lib Go.Proofs.YtaalajhmfdcalaaDoorW.PrintWords Go.Proofs.YtaalajhmfdcalaaDoorW.PrintLast Go.Proofs.YtaalajhmfdcalaaDoorW.PrintMore
/-- Behind the copy of no names. -/
theorem TI.copy {W w w1 w2 : World} {f0 : Int} {f1 : ByteArray} {v2 v3 sn sv u1 u2 : Value} {ln : List ByteArray} {li : List J} (h : TI W f0 f1 v2 v3 sn sv ln li w) (h1 : Kd.string.R 9 w1 w.heap.size (fun _ => True) u1 ([] : List ByteArray)) (hb1 : Below w.heap.size w w1)
  (h2 : Kd.string.R 9 w2 W.heap.size (fun k => W.heap.size + 1 + 1 + 1 ≤ k) u2 ([] : List ByteArray)) (hb2 : Below W.heap.size W w2) (hg : w1.grownBy w2 u1.ownBlock) (hat : u2.ownBlock = u1.ownBlock ∨ ∃ b, u2.ownBlock = some b ∧ w1.heap.size ≤ b) :
  TI W f0 f1 v2 v3 u2 sv [] li (w2.setCell ⟨W.heap.size + 1 + 1, 2, none⟩ u2) ∧ w2.heap[W.heap.size + 1 + 1]? = some (.cells #[.int .i64 f0, .string f1, sn, sv] 25 (0, 0)) := by
 have hlt := h.lt
 have key : ∀ {b : Nat} {o : Obj}, b < W.heap.size + 1 + 1 + 1 → w.heap[b]? = some o → w2.heap[b]? = some o := fun {b} {o} hl hk => (hg.block b (by have := hb1.size; omega) (fun he => by have := Kd.R_base h1 b he.symm; omega)).trans ((hb1.block b (by omega)).trans hk)
 have far : ∀ {b : Nat} {o : Obj}, b ≠ W.heap.size + 1 + 1 → w2.heap[b]? = some o → (w2.setCell ⟨W.heap.size + 1 + 1, 2, none⟩ u2).heap[b]? = some o := fun hne hk => (Below.heap_setCell _ _ _ _ hne).trans hk
 have hp := key (by omega) h.p
 have hi : k25.R 25 w W.heap.size (fun k => W.heap.size + 1 + 1 + 1 ≤ k ∧ some k ≠ u1.ownBlock) sv li := Kd.R_mono (Kd.R_bound h.items) (fun k hk => ⟨hk.1.1, fun he => by have := Kd.R_base h1 k he.symm; have := hk.2.2.1; omega⟩)
 have hi2 := Kd.R_after (Kd.R_below hi hb1) hg hat
 exact ⟨⟨far (by omega) (key (by omega) h.o), far (by omega) (key (by omega) h.r), (blk_set 2 u2 hp).trans rfl, Kd.R_far h2 (fun k hk => by show k ≠ W.heap.size + 1 + 1; omega) _, Kd.R_far hi2 (fun k hk => by have := hk.1; show k ≠ W.heap.size + 1 + 1; omega) _, below_set hb2 (by omega)⟩, hp⟩
set_option maxRecDepth 1000000 in
set_option maxHeartbeats 4000000 in
theorem turned_other (b : Int) (r : Nat) (f0 : Int) (f1 : ByteArray) (ys : List J) (A2 A3 : Option Addr) (c2 c3 : Nat) (W : World) (h6 : ¬ f0 = 6) (hsz : ys.length ≤ 10000) (hC2 : Kd.string.C W A2 ([] : List ByteArray).length []) (hC3 : k25.C W A3 ys.length ys) (hc3 : ys.length ≤ c3) (hok : ∀ y, y ∈ ys → OKJ r y ∧ ∃ B, Bd B 10000 y) (IH : 0 < ys.length → TOK b r) :
  Calls Tryd.prog 25 #[jVal f0 f1 A2 A3 0 c2 ys.length c3, .int .i64 b] W (TEnds W ⟨f0, f1, [], ys.map (tJ b r)⟩) := by
 have HST := Aside0.mk (TI.start W f0 f1 (.slice A2 0 c2) (.slice A3 ys.length c3))
 have HF2 := Aside0.mk (Kd.C_F Kd.heap_string hC2)
 have HF3 := Aside0.mk (Kd.C_F heap25 hC3)
 have HOK := Aside0.mk hok
 have HIH := Aside0.mk IH
 have l1 : (f0 == 6) = false := beq_eq_false_iff_ne.mpr h6
 have l2 : (f0 != 6) = true := bne_iff_ne.mpr h6
 clear hC2 hC3 hok IH h6
 go_enter Tryd.func25, Tryd.ntmps25
 go_wp2
 go_loopg [7] (ys.length + 1) (fun g v7 wr => ∃ (i : Nat) (sv : Value), v7 = .int .i64 (i : Int) ∧ i ≤ ys.length ∧ ys.length + 1 ≤ i + g ∧ Aside0 (TI W f0 f1 (.slice A2 0 c2) (.slice A3 ys.length c3) (.slice none 0 0) sv [] ((ys.map (tJ b r)).take i) wr))
 case atStart => exact ⟨0, _, rfl, by omega, by omega, by rw [List.take_zero]; exact HST⟩
 case round =>
  obtain ⟨i, sv, rfl, hi, hg, HS⟩ := hrel
  clear HST
  by_cases hlt : i < ys.length
  ·cases gk with
   | zero => omega
   | succ g =>
    have p1 : (0 ≤ (i : Int)) = True := eq_true (by omega)
    have p2 : ((i : Int) < (ys.length : Int)) = True := eq_true (by omega)
    have hwn := wrap_next i ys.length hlt (by omega)
    have HWN := Aside0.mk hwn
    clear hwn
    have HLI := Aside0.mk (show (ys.map (tJ b r)).take i ++ [tJ b r (rd_T25 ys (i : Int))] = (ys.map (tJ b r)).take (i + 1) from take_at (by rw [List.getElem?_map, rd_nat ys i hlt, List.getElem?_eq_getElem hlt]; rfl))
    have HL2 := Aside0.mk (show ((ys.map (tJ b r)).take i).length ≤ 10000 by rw [List.length_take]; omega)
    generalize (ys.map (tJ b r)).take i = li at HS HLI HL2
    obtain ⟨Ai, ci, ei⟩ := Kd.R_slice HS.out.items
    subst ei
    obtain ⟨ad3, B2, k2, B3, k3, e9, q0, q1, q2, q3, m2, g2, m3, g3⟩ := F_elem HF3.out i (by omega)
    subst e9
    have HQ0 := Aside0.mk (show CellOf W _ _ from q0)
    have HQ1 := Aside0.mk (show CellOf W _ _ from q1)
    have HQ2 := Aside0.mk (show CellOf W _ _ from q2)
    have HQ3 := Aside0.mk (show CellOf W _ _ from q3)
    have HM2 := Aside0.mk m2
    have HM3 := Aside0.mk m3
    have HG2 := Aside0.mk g2
    have HG3 := Aside0.mk g3
    have HOY := Aside0.mk (HOK.out (rd_T25 ys i) (rd_mem ys i (by omega)))
    clear q0 q1 q2 q3 m2 g2 m3 g3
    have z0 := (blk_cell HS.out.o 0).trans rfl
    go_wp2
    refine start_ (n := 13) (S := fun w' => w'.cell? ⟨W.heap.size + 1 + 1, 3, none⟩ = some (.slice Ai li.length ci) ∧ w'.cell? ⟨W.heap.size, 3, none⟩ = some (.slice (some ad3) ys.length c3) ∧ w'.cell? (ad3.add (i * 4)) = some (.int .i64 (rd_T25 ys i).f0) ∧ w'.cell? ⟨(ad3.add (i * 4)).block, (ad3.add (i * 4)).off + 1, none⟩ = some (.string (rd_T25 ys i).f1) ∧ w'.cell? ⟨(ad3.add (i * 4)).block, (ad3.add (i * 4)).off + 2, none⟩ = some (.slice B2 (rd_T25 ys i).f2.length k2) ∧ w'.cell? ⟨(ad3.add (i * 4)).block, (ad3.add (i * 4)).off + 3, none⟩ = some (.slice B3 (rd_T25 ys i).f3.length k3)) (ds := [12]) #[false, false, false, false, false, false, false, false, false, false, false, false, false] (by kernel_rfl) rfl rfl ⟨(blk_cell HS.out.p 3).trans rfl, (blk_cell HS.out.o 3).trans rfl, HQ0.out.at (pw_below_drewN HS.out.bel 1), HQ1.out.at (pw_below_drewN HS.out.bel 1), HQ2.out.at (pw_below_drewN HS.out.bel 1), HQ3.out.at (pw_below_drewN HS.out.bel 1)⟩ (fun hHeld => ?_)
    have HS2 := Aside0.mk (HS.out.below (show Below wr.heap.size wr wr.drew from pw_below_drewN (Below.refl _ _) 1))
    generalize wr.drew = w8 at HS2 hHeld ⊢
    refine pure_ (i := 0) (N := some 52) (v := ?_) (a' := ?_) #[true, false, false, false, false, false, false, false, false, false, false, false, false] rfl rfl (by kernel_rfl) (fun _ _ _ h => h) (Or.inl ⟨by rfl, ?_⟩) ?_ ?_
    rotate_left
    ·intro w'
     go_simp
     with_reducible rfl
    rotate_left
    ·simp only [Act.put, sAx, sZx, sSx, i64_w, i32_w]
     rfl
    refine pure_ (i := 2) (N := some 54) (v := ?_) (a' := ?_) #[true, false, true, false, false, false, false, false, false, false, false, false, false] rfl rfl (by kernel_rfl) (fun _ _ _ h => h) (Or.inl ⟨by rfl, ?_⟩) ?_ ?_
    rotate_left
    ·intro w'
     go_simp
     with_reducible rfl
    rotate_left
    ·simp only [Act.put, sAx, sZx, sSx, i64_w, i32_w]
     rfl
    refine pure_ (i := 4) (N := some 56) (v := ?_) (a' := ?_) #[true, false, true, false, true, false, false, false, false, false, false, false, false] rfl rfl (by kernel_rfl) (fun _ _ _ h => h) (Or.inl ⟨by rfl, ?_⟩) ?_ ?_
    rotate_left
    ·intro w'
     go_simp
     with_reducible rfl
    rotate_left
    ·simp only [Act.put, sAx, sZx, sSx, i64_w, i32_w]
     rfl
    refine take_ (i := 1) (N := some 53) (v := ?_) (a' := ?_) #[true, true, true, false, true, false, false, false, false, false, false, false, false] rfl rfl (by kernel_rfl) (fun _ _ _ h => h) (Or.inl ⟨by rfl, ?_⟩) hHeld ?_ ?_
    rotate_left
    ·rintro w' ⟨s0, s1, s2, s3, s4, s5⟩
     go_simp
     with_reducible rfl
    rotate_left
    ·simp only [Act.put, sAx, sZx, sSx, i64_w, i32_w]
     rfl
    refine take_ (i := 3) (N := some 55) (v := ?_) (a' := ?_) #[true, true, true, true, true, false, false, false, false, false, false, false, false] rfl rfl (by kernel_rfl) (fun _ _ _ h => h) (Or.inl ⟨by rfl, ?_⟩) hHeld ?_ ?_
    rotate_left
    ·rintro w' ⟨s0, s1, s2, s3, s4, s5⟩
     go_simp
     with_reducible rfl
    rotate_left
    ·simp only [Act.put, sAx, sZx, sSx, i64_w, i32_w]
     rfl
    refine pure_ (i := 5) (N := some 57) (v := ?_) (a' := ?_) #[true, true, true, true, true, true, false, false, false, false, false, false, false] rfl rfl (by kernel_rfl) (fun _ _ _ h => h) (Or.inl ⟨by rfl, ?_⟩) ?_ ?_
    rotate_left
    ·intro w'
     go_simp
     with_reducible rfl
    rotate_left
    ·simp only [Act.put, sAx, sZx, sSx, i64_w, i32_w]
     rfl
    refine take_ (i := 6) (N := some 58) (v := ?_) (a' := ?_) #[true, true, true, true, true, true, true, false, false, false, false, false, false] rfl rfl (by kernel_rfl) (fun _ _ _ h => h) (Or.inl ⟨by rfl, ?_⟩) hHeld ?_ ?_
    rotate_left
    ·rintro w' ⟨s0, s1, s2, s3, s4, s5⟩
     go_simp
     with_reducible rfl
    rotate_left
    ·simp only [Act.put, sAx, sZx, sSx, i64_w, i32_w]
     rfl
    refine pure_ (i := 7) (N := some 59) (v := ?_) (a' := ?_) #[true, true, true, true, true, true, true, true, false, false, false, false, false] rfl rfl (by kernel_rfl) (fun _ _ _ h => h) (Or.inl ⟨by rfl, ?_⟩) ?_ ?_
    rotate_left
    ·intro w'
     go_simp
     with_reducible rfl
    rotate_left
    ·simp only [Act.put, sAx, sZx, sSx, i64_w, i32_w]
     rfl
    refine one_ (i := 8) (N := some 60) #[true, true, true, true, true, true, true, true, true, false, false, false, false] rfl rfl (by kernel_rfl) (by decide) (fun K hK => ?_)
    refine goes_ Tryd.func25 (by kernel_rfl) rfl #[jVal (rd_T25 ys i).f0 (rd_T25 ys i).f1 B2 B3 (rd_T25 ys i).f2.length k2 (rd_T25 ys i).f3.length k3, .int .i64 b] (by rfl) rfl rfl (by (try simp only [List.map_toArray, List.map_cons, List.map_nil]); first | done | rfl) ?_
    refine (HIH.out (by omega) (rd_T25 ys i) B2 B3 k2 k3 w8 HOY.out.1 HOY.out.2 (Kd.F_now (Kd.F_old HG2.out HS2.out.bel)) HM2.out (Kd.F_now (Kd.F_old HG3.out HS2.out.bel)) HM3.out).mono ?_
    rintro e w9 ⟨u2, u3, rfl, g2, g3, hb⟩
    refine ⟨_, rfl, ?_⟩
    have HM := Aside0.mk (jV_M (B' := W.heap.size) (N := w8.heap.size) g2 g3 HS2.out.ltB (Nat.le_refl _))
    have HL8 := Aside0.mk HS2.out.lt
    have HN8 := Aside0.mk (Kd.R_lt HS2.out.names)
    have HI8 := Aside0.mk (Kd.R_lt HS2.out.items)
    have HSZ := Aside0.mk hb.size
    have HS4 := Aside0.mk (HS2.out.below hb)
    obtain ⟨U2, m2, e2⟩ := Kd.R_slice g2
    subst e2
    obtain ⟨U3, m3, e3⟩ := Kd.R_slice g3
    subst e3
    clear g2 g3 hb HS2
    have HS2 := HS4
    clear HS4
    refine hK.out _ _ ⟨(blk_cell HS2.out.p 3).trans rfl, (blk_cell HS2.out.o 3).trans rfl, HQ0.out.at HS2.out.bel, HQ1.out.at HS2.out.bel, HQ2.out.at HS2.out.bel, HQ3.out.at HS2.out.bel⟩ (fun hHeld => ?_)
    clear hK K
    refine norm_ (a' := ?_) ?_ ?_
    rotate_left
    ·show Act.put _ (some 60) _ = _
     simp only [Act.put, sAx, sZx, sSx, i64_w, i32_w]
     rfl
    refine one_ (i := 9) (N := some 61) #[true, true, true, true, true, true, true, true, true, true, false, false, false] rfl rfl (by kernel_rfl) (by decide) (fun K hK => ?_)
    refine value_ (w1 := ?_) (v := ?_) (by rfl) rfl ?_ ?_
    rotate_left 2
    ·go_simp
     constructor
     ·rfl
     ·rfl
    refine hK.out _ _ ⟨(blk_cell (blk_alloc HS2.out.p _) 3).trans rfl, (blk_cell (blk_alloc HS2.out.o _) 3).trans rfl, HQ0.out.at (below_alloc HS2.out.bel _), HQ1.out.at (below_alloc HS2.out.bel _), HQ2.out.at (below_alloc HS2.out.bel _), HQ3.out.at (below_alloc HS2.out.bel _)⟩ (fun hHeld => ?_)
    clear hK K
    refine norm_ (a' := ?_) ?_ ?_
    rotate_left
    ·show Act.put _ (some 61) _ = _
     simp only [Act.put, sAx, sZx, sSx, i64_w, i32_w]
     rfl
    refine one_ (i := 10) (N := some 62) #[true, true, true, true, true, true, true, true, true, true, true, false, false] rfl rfl (by kernel_rfl) (by decide) (fun K hK => ?_)
    refine Kd.R_append_step k25 (w0 := W) W.heap.size (by rfl) (.tmp 53) (.tmp 61) 23 25 (.agg #[(.int .i64 0), (.string ⟨#[]⟩), (.slice none 0 0), (.slice none 0 0)]) 72 rfl Tryd.underlying23 info25 rfl (by decide) (by omega) (.slice Ai li.length ci) li (tJ b r (rd_T25 ys i)) [.int .i64 (tJ b r (rd_T25 ys i)).f0, .string (tJ b r (rd_T25 ys i)).f1, .slice U2 (tJ b r (rd_T25 ys i)).f2.length m2, .slice U3 (tJ b r (rd_T25 ys i)).f3.length m3] (fun k_ => W.heap.size + 1 + 1 + 1 ≤ k_ ∧ some k_ ≠ (Value.slice none 0 0).ownBlock) (fun k_ => w8.heap.size ≤ k_) rfl rfl ?aP ?aK ?aF ?aO ?aB ?aS ?aL ?_
    (case aP => exact HM.out)
    (case aK => exact (fun k_ hk => ⟨⟨by have := HL8.out; omega, fun he => by have := HN8.out k_ he.symm; omega⟩, fun he => by have := HI8.out k_ he.symm; omega⟩))
    (case aF => exact (fun k_ hk => ⟨by have := HS2.out.lt; omega, fun he => by have := Kd.R_lt HS2.out.names k_ he.symm; omega⟩))
    (case aO => exact HS2.out.items)
    (case aB => exact HS2.out.bel)
    (case aS => exact HS2.out.ltB)
    (case aL => have := HL2.out; omega)
    intro v2 w10 ho hb hg hat
    obtain ⟨A4, c4, e4⟩ := Kd.R_slice ho
    subst e4
    have b1 := Aside0.mk (blk_grown HS2.out.p hg (Kd.R_away HS2.out.items (fun k_ hk => by have := hk.1; omega)))
    have b2 := Aside0.mk (blk_grown HS2.out.o hg (Kd.R_away HS2.out.items (fun k_ hk => by have := hk.1; omega)))
    have hs3 := HS2.out.item ho hb hg
    rw [List.length_append, List.length_singleton] at hs3
    have HS3 := Aside0.mk hs3
    clear hs3
    have HB6 := Aside0.mk hb
    have x3 := (blk_cell b1.out 3).trans rfl
    have xf := blk_frozen b1.out 3
    clear ho hb hg hat
    refine hK.out _ _ ⟨(blk_cell b1.out 3).trans rfl, (blk_cell b2.out 3).trans rfl, HQ0.out.at HB6.out, HQ1.out.at HB6.out, HQ2.out.at HB6.out, HQ3.out.at HB6.out⟩ (fun hHeld => ?_)
    clear hK K
    refine norm_ (a' := ?_) ?_ ?_
    rotate_left
    ·show Act.put _ (some 62) _ = _
     simp only [Act.put, sAx, sZx, sSx, i64_w, i32_w]
     rfl
    refine pure_ (i := 11) (N := some 63) (v := ?_) (a' := ?_) #[true, true, true, true, true, true, true, true, true, true, true, true, false] rfl rfl (by kernel_rfl) (fun _ _ _ h => h) (Or.inl ⟨by rfl, ?_⟩) ?_ ?_
    rotate_left
    ·intro w'
     go_simp
     with_reducible rfl
    rotate_left
    ·simp only [Act.put, sAx, sZx, sSx, i64_w, i32_w]
     rfl
    refine last_ (i := 12) (N := none) #[true, true, true, true, true, true, true, true, true, true, true, true, true] rfl rfl (by kernel_rfl) (by decide) (fun K hK => ?_)
    refine skip_ (w1 := ?_) (by rfl) rfl ?_ ?_
    rotate_left
    ·go_simp
     rfl
    refine hK.out _ _ ?_
    clear hK K
    refine done_ (by kernel_rfl) ?_
    try go_wp2
    go_roundg g
    case measure => omega
    case rel => exact ⟨i + 1, _, (by first | exact congrArg (Value.int .i64) HWN.out | exact congrArg (Value.int .i64) (show (i : Int) + 1 = ((i + 1 : Nat) : Int) by omega)), by omega, by omega, ⟨by rw [← HLI.out]; exact HS3.out⟩⟩
  ·have p2 : ((i : Int) < (ys.length : Int)) = False := eq_false (by omega)
   obtain rfl : i = ys.length := by omega
   have e1 : (ys.map (tJ b r)).take ys.length = ys.map (tJ b r) := List.take_of_length_le (by rw [List.length_map]; omega)
   rw [e1] at HS
   clear e1
   obtain ⟨li, hli⟩ : ∃ x, x = ys.map (tJ b r) := ⟨_, rfl⟩
   rw [← hli] at HS
   have HGO := Aside0.mk (show ∀ e w', TEnds W ⟨f0, f1, [], li⟩ e w' → TEnds W ⟨f0, f1, [], ys.map (tJ b r)⟩ e w' from fun _ _ h => by rw [← hli]; exact h)
   clear hli
   obtain ⟨Ai, ci, ei⟩ := Kd.R_slice HS.out.items
   subst ei
   have z0 := (blk_cell HS.out.o 0).trans rfl
   have o2 := (blk_cell HS.out.o 2).trans rfl
   go_wp2_with (first | ((with_reducible refine gate_dst (N := 74) rfl ?_); (try (refine gate_guard (by rfl) ?_; dsimp only)); refine Kd.R_lit Kd.string _ 9 ?hg (N := 74) ?hd (xs := ([] : List ByteArray)) (inner := []) (ok := fun _ => True) (okp := fun _ => True) ?hr ?hp (fun _ hk => hk) trivial (Below.refl _ _) (Nat.le_refl _) (by simp) ?_; (case hd => rfl); (case hg => rfl); (case hr => first | (go_simp; done) | (go_simp; rfl)); (case hp => exact (Reps.none _ _)); intro u1 w80 ho81 hb hg_ hnew_; clear hg_ hnew_; have HU1 := Aside0.mk ho81; have HB1 := Aside0.mk hb; have HS1 := Aside0.mk (HS.out.below hb); clear ho81 hb; have o2' := (blk_cell HS1.out.o 2).trans rfl) | ((with_reducible refine gate_builtin (b := .append) (xs := #[.tmp 74, .tmp 76]) rfl ?_); (try (refine gate_guard (by rfl) ?_; dsimp only)); at_builtin; refine Kd.R_append_rows Kd.string (w0 := W) W.heap.size rfl (.tmp 74) (.tmp 76) 22 9 (.string ⟨#[]⟩) 16 rfl Tryd.underlying22 info9 rfl (by decide) (by omega) u1 [] ([] : List ByteArray) _ _ _ (fun k_ => W.heap.size + 1 + 1 + 1 ≤ k_) (fun _ => False) rfl rfl ?aO ?aR (fun _ _ h => h) (fun _ h => h.elim) ?aF ?aB ?aS ?aL ?_; (case aR => exact Kd.F_now (Kd.F_old HF2.out HS1.out.bel)); (case aB => exact HS1.out.bel); (case aF => exact (fun k_ hk => by have := HS1.out.lt; omega)); (case aO => exact Kd.R_lower (Kd.R_mono (Kd.R_bound HU1.out) (fun k_ hk => by have := HS.out.lt; have := hk.2.1; omega)) HS.out.ltB); (case aS => exact HS1.out.ltB); (case aL => simp); intro u2 w83 ho hb hg hat; have HC := Aside0.mk (HS.out.copy HU1.out HB1.out ho hb hg hat); obtain ⟨An, cn, en⟩ := Kd.R_slice ho; subst en; have x0 := (blk_cell HC.out.2 2).trans rfl; have xf := blk_frozen HC.out.2 2; have HQ := Aside0.mk HC.out.1; clear HC ho hb hg hat; have q0 : (w83.setCell ⟨W.heap.size + 1 + 1, 2, none⟩ (.slice An 0 cn)).cell? ⟨W.heap.size + 1 + 1, 0, none⟩ = some (.int .i64 f0) := (blk_cell HQ.out.p 0).trans rfl; have q1 : (w83.setCell ⟨W.heap.size + 1 + 1, 2, none⟩ (.slice An 0 cn)).cell? ⟨W.heap.size + 1 + 1, 1, none⟩ = some (.string f1) := (blk_cell HQ.out.p 1).trans rfl; have q2 : (w83.setCell ⟨W.heap.size + 1 + 1, 2, none⟩ (.slice An 0 cn)).cell? ⟨W.heap.size + 1 + 1, 2, none⟩ = some (.slice An 0 cn) := (blk_cell HQ.out.p 2).trans rfl; have q3 : (w83.setCell ⟨W.heap.size + 1 + 1, 2, none⟩ (.slice An 0 cn)).cell? ⟨W.heap.size + 1 + 1, 3, none⟩ = some (.slice Ai li.length ci) := (blk_cell HQ.out.p 3).trans rfl; have r0 : (w83.setCell ⟨W.heap.size + 1 + 1, 2, none⟩ (.slice An 0 cn)).cell? ⟨W.heap.size + 1, 0, none⟩ = some (.int .i64 0) := (blk_cell HQ.out.r 0).trans rfl; have s0 : (w83.setCell ⟨W.heap.size + 1 + 1, 2, none⟩ (.slice An 0 cn)).frozen? ⟨W.heap.size + 1, 0, none⟩ = false := blk_frozen HQ.out.r 0; have r1 : (w83.setCell ⟨W.heap.size + 1 + 1, 2, none⟩ (.slice An 0 cn)).cell? ⟨W.heap.size + 1, 1, none⟩ = some (.string ⟨#[]⟩) := (blk_cell HQ.out.r 1).trans rfl; have s1 : (w83.setCell ⟨W.heap.size + 1 + 1, 2, none⟩ (.slice An 0 cn)).frozen? ⟨W.heap.size + 1, 1, none⟩ = false := blk_frozen HQ.out.r 1; have r2 : (w83.setCell ⟨W.heap.size + 1 + 1, 2, none⟩ (.slice An 0 cn)).cell? ⟨W.heap.size + 1, 2, none⟩ = some (.slice none 0 0) := (blk_cell HQ.out.r 2).trans rfl; have s2 : (w83.setCell ⟨W.heap.size + 1 + 1, 2, none⟩ (.slice An 0 cn)).frozen? ⟨W.heap.size + 1, 2, none⟩ = false := blk_frozen HQ.out.r 2; have r3 : (w83.setCell ⟨W.heap.size + 1 + 1, 2, none⟩ (.slice An 0 cn)).cell? ⟨W.heap.size + 1, 3, none⟩ = some (.slice none 0 0) := (blk_cell HQ.out.r 3).trans rfl; have s3 : (w83.setCell ⟨W.heap.size + 1 + 1, 2, none⟩ (.slice An 0 cn)).frozen? ⟨W.heap.size + 1, 3, none⟩ = false := blk_frozen HQ.out.r 3))
   have HE := Aside0.mk HQ.out.fin
   have HR4 := Aside0.mk (blk4 HQ.out.r (.int .i64 f0) (.string f1) (.slice An 0 cn) (.slice Ai li.length ci))
   refine bodyPost_ret (results_cell_row rfl _ _ (W.heap.size + 1) 25 #[.int .i64 f0, .string f1, .slice An 0 cn, .slice Ai li.length ci] (0, 0) _ rfl HR4.out Tryd.underlying25 rfl (by kernel_rfl)) rfl ?_
   exact HGO.out _ _ HE.out
theorem tJ_other {b : Int} {r : Nat} {v : J} (h6 : ¬ v.f0 = 6) (h2 : v.f2 = []) (h3 : ¬ v.f0 = 5 → v.f3 = []) : tJ b (r + 1) v = ⟨v.f0, v.f1, [], v.f3.map (tJ b r)⟩ := by
 rw [tJ]
 by_cases h5 : v.f0 = 5
 ·rw [if_pos h5, h2]
 ·rw [if_neg h5, if_neg h6, h3 h5, List.map_nil]
  cases v
  simp only at h2 h3 ⊢
  rw [h2, h3 h5]
theorem nodes_of {v : J} (hn : nodeOK v.f0 v.f1 v.f2.length v.f3.length = true) : (v.f0 = 6 ∧ v.f2.length = v.f3.length) ∨ (¬ v.f0 = 6 ∧ v.f2 = [] ∧ (¬ v.f0 = 5 → v.f3 = [])) := by
 by_cases h6 : v.f0 = 6
 ·rw [h6] at hn; exact .inl ⟨h6, (node6_ hn).2⟩
 ·refine .inr ⟨h6, ?_⟩
  by_cases h5 : v.f0 = 5
  ·rw [h5] at hn; exact ⟨List.length_eq_zero_iff.1 (node5_ hn).2, fun h => absurd h5 h⟩
  ·have h3 : v.f2.length = 0 ∧ v.f3.length = 0 := by
    rcases nodeOK_kinds hn h5 h6 with h | h | h | h | h
    ·exact (node0_ (.inl h) hn).2
    ·exact (node0_ (.inr (.inl h)) hn).2
    ·exact (node0_ (.inr (.inr h)) hn).2
    ·rw [h] at hn; exact (node3_ hn).2
    ·rw [h] at hn; exact (node4_ hn).2
   exact ⟨List.length_eq_zero_iff.1 h3.1, fun _ => List.length_eq_zero_iff.1 h3.2⟩
theorem turned_ok (b : Int) : ∀ r, TOK b r
 | 0 => by
  intro v A2 A3 c2 c3 W hok ⟨B, hbd⟩ hC2 hc2 hC3 hc3
  obtain ⟨hn, h5, h6⟩ := hok
  rcases nodes_of hn with ⟨h, _⟩ | ⟨_, e2, e3⟩
  ·exact absurd h h6
  ·have e3' := e3 h5
   have he : tJ b 0 v = ⟨v.f0, v.f1, [], ([] : List J).map (tJ b 0)⟩ := by
    rw [tJ]; cases v; simp only at e2 e3' ⊢; rw [e2, e3']; rfl
   rw [he]
   rw [e2] at hC2 ⊢
   rw [e3'] at hC3 hc3 ⊢
   exact turned_other b 0 v.f0 v.f1 [] A2 A3 c2 c3 W h6 (Nat.zero_le _) hC2 hC3 hc3 (fun y hy => by cases hy) (fun h => absurd h (by simp))
 | r + 1 => by
  intro v A2 A3 c2 c3 W hok ⟨B, hbd⟩ hC2 hc2 hC3 hc3
  obtain ⟨hn, hi, hm⟩ := hok
  have hb3 : v.f3.length ≤ 10000 ∧ ∀ y, y ∈ v.f3 → Bd B 10000 y := by cases hbd with | mk f0 f1 f2 f3 _ _ _ h3 h4 => exact ⟨h3, h4⟩
  rcases nodes_of hn with ⟨h6, hl⟩ | ⟨h6, e2, e3⟩
  ·have h := turned_obj b r v.f1 v.f2 v.f3 A2 A3 c2 c3 W hl hb3.1 hC2 hc2 hC3 hc3 (fun y hy => ⟨hi (.inr h6) y hy, B, hb3.2 y hy⟩) (turned_ok b r)
   have he : tJ b (r + 1) v = ⟨6, v.f1, rotL (rotC b v.f3.length) v.f2, (rotL (rotC b v.f3.length) v.f3).map (tJ b r)⟩ := by
    rw [tJ, if_neg (by rw [h6]; decide), if_pos h6, h6]
   rw [he, h6]
   exact h
  ·rw [tJ_other h6 e2 e3]
   rw [e2] at hC2 ⊢
   refine turned_other b r v.f0 v.f1 v.f3 A2 A3 c2 c3 W h6 hb3.1 hC2 hC3 hc3 (fun y hy => ?_) (fun _ => turned_ok b r)
   by_cases h5 : v.f0 = 5
   ·exact ⟨hi (.inl h5) y hy, B, hb3.2 y hy⟩
   ·rw [e3 h5] at hy; cases hy
end Go.Proofs.YtaalajhmfdcalaaDoor.X
namespace Go.Proofs.YtaalajhmfdcalaaDoor.X
open Go.RowKit Go.Proofs.YtaalajhmfdcalaaDoorW.PrintWords Go.Proofs.YtaalajhmfdcalaaDoorW.PrintLast Go.Proofs.YtaalajhmfdcalaaDoorW.PrintMore
open Classical in
noncomputable def wicketlaw04_turned.f (_k : Nat) (a0_0 : Int) (a0_1 : ByteArray) (l0_2 : List ByteArray) (l0_3 : List (S25)) (a1 : Int) : Option (Int × ByteArray × List ByteArray × (List (S25))) :=
 if OKJ 32 ⟨a0_0, a0_1, l0_2, l0_3⟩ ∧ ∃ B, Bd B 10000 ⟨a0_0, a0_1, l0_2, l0_3⟩ then some ((tJ a1 32 ⟨a0_0, a0_1, l0_2, l0_3⟩).f0, (tJ a1 32 ⟨a0_0, a0_1, l0_2, l0_3⟩).f1, (tJ a1 32 ⟨a0_0, a0_1, l0_2, l0_3⟩).f2, (tJ a1 32 ⟨a0_0, a0_1, l0_2, l0_3⟩).f3) else none
theorem wicketlaw04_turned.mono : ∀ a0 a1 a2 a3 a4 k, LeO (wicketlaw04_turned.f k a0 a1 a2 a3 a4) (wicketlaw04_turned.f (k + 1) a0 a1 a2 a3 a4) := fun _ _ _ _ _ _ => LeO.refl _
theorem wicketlaw04_turned.calls (k : Nat) : ∀ (a0_0 : Int) (a0_1 : ByteArray) (A0_2 : Option Addr) (c0_2 : Nat) (l0_2 : List ByteArray) (A0_3 : Option Addr) (c0_3 : Nat) (l0_3 : List (S25)) (a1 : Int) (r1 : Int) (r2 : ByteArray) (r3 : List ByteArray) (r4 : List (S25)) (w : World) (hr0_2 : Kd.C Kd.string w A0_2 l0_2.length l0_2) (hc0_2 : l0_2.length ≤ c0_2) (hr0_3 : Kd.C k25 w A0_3 l0_3.length l0_3) (hc0_3 : l0_3.length ≤ c0_3) (h : wicketlaw04_turned.f k a0_0 a0_1 l0_2 l0_3 a1 = some (r1, r2, r3, r4)),
  Calls Tryd.prog 25 #[.agg #[.int .i64 a0_0, .string a0_1, .slice A0_2 l0_2.length c0_2, .slice A0_3 l0_3.length c0_3], .int .i64 a1] w fun e w' => ∃ v2_ v3_ : Value, e = .returned (.agg #[.int .i64 r1, .string r2, v2_, v3_]) ∧ Kd.R Kd.string 9 w' w.heap.size (fun _ => True) v2_ r3 ∧ Kd.R k25 25 w' w.heap.size (fun k_ => some k_ ≠ (v2_ : Value).ownBlock) v3_ r4 ∧ Below w.heap.size w w' := by
 intro a0_0 a0_1 A0_2 c0_2 l0_2 A0_3 c0_3 l0_3 a1 r1 r2 r3 r4 w hr0_2 hc0_2 hr0_3 hc0_3 h
 unfold wicketlaw04_turned.f at h
 split at h
 ·rename_i hok
  simp only [Option.some.injEq, Prod.mk.injEq] at h
  obtain ⟨rfl, rfl, rfl, rfl⟩ := h
  exact turned_ok a1 32 ⟨a0_0, a0_1, l0_2, l0_3⟩ A0_2 A0_3 c0_2 c0_3 w hok.1 hok.2 hr0_2 hc0_2 hr0_3 hc0_3
 ·cases h
end Go.Proofs.YtaalajhmfdcalaaDoor.X
