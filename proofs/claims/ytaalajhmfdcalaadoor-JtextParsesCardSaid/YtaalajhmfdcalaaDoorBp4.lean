/- 'JtextParses': for every text the program's Parse and the document's Parse tell the same value, error and place; the law returns true, and the argument reads as before: the row, then the card. -/
import Derived.Test.YtaalajhmfdcalaaDoorBp0
import Derived.Test.YtaalajhmfdcalaaDoorBp2
import Derived.Test.YtaalajhmfdcalaaDoorBp3
import Derived.Test.YtaalajhmfdcalaaDoorBp1
import Derived.Test.YtaalajhmfdcalaaDoorCards
import Derived.Test.YtaalajhmfdcalaaDoorTie
import Derived.Lay
import Derived.MakeChecks
import Derived.Stop.LaidErr
import Derived.ShapedOpen
import Derived.Shelf.Vars
import Derived.Lib.LaidTab
import Derived.Lib.LaidU8T
import Derived.WalkKit
import Derived.ProofKit
import Derived.OpenShut
import Derived.ShutString
import Derived.Carry
import Derived.SizedLaws
import Derived.Deep.DeepHandedRow
import Derived.Deep.DeepWitnessRowRef
import Derived.Test.YtaalajhmfdcalaaDoorWb
import Derived.Test.YtaalajhmfdcalaaDoorWc
set_option linter.unusedVariables false
set_option linter.unusedSimpArgs false
namespace Go.Proofs.YtaalajhmfdcalaaDoor.X
open Go.RowKit Go.Proofs.YtaalajhmfdcalaaDoor.X Go.Proofs.YtaalajhmfdcalaaDoorW.PrintWords Go.Proofs.YtaalajhmfdcalaaDoorW.PrintLast Go.Proofs.YtaalajhmfdcalaaDoorW.PrintMore
attribute [local go_sem] max2_int min2_int max_two min_two max_three min_three max_four min_four   -- for this text's walks alone
set_option linter.unusedVariables false
set_option linter.unusedSimpArgs false
def wicketlaw04_JtextParses.f (k : Nat) (a0 : ByteArray) : Option (Bool) := (jtext_Parse.f a0).bind fun bt135 => ((wicketref04_Parse.f a0).bind fun bt146 => ((wicketlaw04_live.f).bind fun t157 => (if t157 = true then ((wicketlaw04_num.f bt135.2.2.2.2.1).bind fun t158 => (if t158 = bt146.2.2.2.2.1 then (if bt135.2.2.2.2.2 = bt146.2.2.2.2.2 then ((wicketref04_Equal.f k bt135.1 bt135.2.1 bt135.2.2.1 bt135.2.2.2.1 bt146.1 bt146.2.1 bt146.2.2.1 bt146.2.2.2.1).bind fun t159 => (some t159)) else none) else none)) else none)))
theorem wicketlaw04_JtextParses.mono : ∀ a0 k, LeO (wicketlaw04_JtextParses.f k a0) (wicketlaw04_JtextParses.f (k + 1) a0) := by
  intro a0 k
  unfold wicketlaw04_JtextParses.f
  repeat' first
      | (with_reducible exact wicketref04_Equal.mono _ _ _ _ _ _ _ _ _)
      | (with_reducible exact LeO.refl _)
      | (with_reducible exact LeO.none _)
      | (with_reducible refine LeO.ite ?_ ?_)
      | (with_reducible refine LeO.bind ?_ (fun _ => ?_))
      | exact wicketref04_Equal.mono _ _ _ _ _ _ _ _ _
      | exact LeO.none _
      | refine LeO.ite ?_ ?_
      | refine LeO.bind ?_ (fun _ => ?_)
set_option maxHeartbeats 8000000 in
set_option maxRecDepth 100000 in
theorem wicketlaw04_JtextParses.calls (k : Nat) (a0 : ByteArray) (r : Bool) (w : World) (hG : GL w) (h : wicketlaw04_JtextParses.f k a0 = some r) :
    Calls Tryd.prog 3 #[.string a0] w fun e w' => e = .returned (.bool r) ∧ Below w.heap.size w w' := by
  have hu25 := Tryd.underlying25
  have HB := Aside0.mk (Below.refl w.heap.size w)
  have HG := Aside0.mk hG
  clear hG
  have H : ((jtext_Parse.f a0).bind fun bt135 => ((wicketref04_Parse.f a0).bind fun bt146 => ((wicketlaw04_live.f).bind fun t157 => (if t157 = true then ((wicketlaw04_num.f bt135.2.2.2.2.1).bind fun t158 => (if t158 = bt146.2.2.2.2.1 then (if bt135.2.2.2.2.2 = bt146.2.2.2.2.2 then ((wicketref04_Equal.f k bt135.1 bt135.2.1 bt135.2.2.1 bt135.2.2.2.1 bt146.1 bt146.2.1 bt146.2.2.1 bt146.2.2.2.1).bind fun t159 => (some t159)) else none) else none)) else none)))) = some r := h
  clear h
  replace H := Option.bind_eq_some_iff.mp H
  obtain ⟨⟨t135, t136, t137, t140, t143, t144⟩, A20, H⟩ := H
  replace H : ((wicketref04_Parse.f a0).bind fun bt146 => ((wicketlaw04_live.f).bind fun t157 => (if t157 = true then ((wicketlaw04_num.f t143).bind fun t158 => (if t158 = bt146.2.2.2.2.1 then (if t144 = bt146.2.2.2.2.2 then ((wicketref04_Equal.f k t135 t136 t137 t140 bt146.1 bt146.2.1 bt146.2.2.1 bt146.2.2.2.1).bind fun t159 => (some t159)) else none) else none)) else none))) = some r := H
  have A2 := Aside0.mk A20
  clear A20
  replace H := Option.bind_eq_some_iff.mp H
  obtain ⟨⟨t146, t147, t148, t151, t154, t155⟩, A30, H⟩ := H
  replace H : ((wicketlaw04_live.f).bind fun t157 => (if t157 = true then ((wicketlaw04_num.f t143).bind fun t158 => (if t158 = t154 then (if t144 = t155 then ((wicketref04_Equal.f k t135 t136 t137 t140 t146 t147 t148 t151).bind fun t159 => (some t159)) else none) else none)) else none)) = some r := H
  have A3 := Aside0.mk A30
  clear A30
  replace H := Option.bind_eq_some_iff.mp H
  obtain ⟨t157, A40, H⟩ := H
  replace H : (if t157 = true then ((wicketlaw04_num.f t143).bind fun t158 => (if t158 = t154 then (if t144 = t155 then ((wicketref04_Equal.f k t135 t136 t137 t140 t146 t147 t148 t151).bind fun t159 => (some t159)) else none) else none)) else none) = some r := H
  have A4 := Aside0.mk A40
  clear A40
  by_cases c5 : t157 = true
  · subst c5
    have H1 : ((wicketlaw04_num.f t143).bind fun t158 => (if t158 = t154 then (if t144 = t155 then ((wicketref04_Equal.f k t135 t136 t137 t140 t146 t147 t148 t151).bind fun t159 => (some t159)) else none) else none)) = some r := by rw [if_pos rfl] at H; exact H
    clear H
    have H := H1
    clear H1
    replace H := Option.bind_eq_some_iff.mp H
    obtain ⟨t158, A60, H⟩ := H
    obtain rfl : t143 = t158 := Option.some.inj A60
    replace H : (if t143 = t154 then (if t144 = t155 then ((wicketref04_Equal.f k t135 t136 t137 t140 t146 t147 t148 t151).bind fun t159 => (some t159)) else none) else none) = some r := H
    have A6 := Aside0.mk A60
    clear A60
    by_cases c7 : t143 = t154
    · rw [if_pos c7] at H
      have c7b0 : (t143 == t154) = true := beq_iff_eq.mpr c7
      have c7b1 : (t143 != t154) = false := bne_eq_false_iff_eq.mpr c7
      clear c7
      by_cases c8 : t144 = t155
      · rw [if_pos c8] at H
        have c8b0 : (t144 == t155) = true := beq_iff_eq.mpr c8
        have c8b1 : (t144 != t155) = false := bne_eq_false_iff_eq.mpr c8
        clear c8
        replace H := Option.bind_eq_some_iff.mp H
        obtain ⟨t159, A90, H⟩ := H
        replace H : (some t159) = some r := H
        have A9 := Aside0.mk A90
        clear A90
        obtain rfl := Option.some.inj H
        go_enter Tryd.func3, Tryd.ntmps3
        go_wp2_with (first | ((with_reducible refine gate_callee (f := 11) rfl ?_); refine goesL_ (some 11) rfl rfl Tryd.func11 (by kernel_rfl) rfl #[.string a0] rfl (by (try simp only [List.map_toArray, List.map_cons, List.map_nil]); first | done | rfl | (simp only [List.length_drop, List.length_take]; rfl)) ?_; (with_reducible refine (jtext_Parse.calls a0 t135 t136 t137 t140 t143 t144 _ ?side1 A2.out).mono ?_); (case side1 => exact GL_below HG.out (by repeat (first | (with_reducible first | exact HB.out | apply below_alloc | apply pw_below_drewN | apply below_drew1) | exact HB.out))); rintro e w10 ⟨v138, v141, rfl, ho0, ho1, hb⟩; refine ⟨_, rfl, ?_⟩; have n0_ := Aside0.mk (Kd.R_lower ho0 (below_size (by repeat (first | (with_reducible first | exact HB.out | apply below_alloc | apply pw_below_drewN | apply below_drew1) | exact HB.out)))); have n1_ := Aside0.mk (Kd.R_lower ho1 (below_size (by repeat (first | (with_reducible first | exact HB.out | apply below_alloc | apply pw_below_drewN | apply below_drew1) | exact HB.out)))); have n2_ := Aside0.mk (below_step (by repeat (first | (with_reducible first | exact HB.out | apply below_alloc | apply pw_below_drewN | apply below_drew1) | exact HB.out)) hb); clear HB; have HO139 := n0_; have HO142 := n1_; have HB := n2_; clear n0_ n1_ n2_; (try clear hb); (try clear hb2); (try clear hk); (try clear hi); (try clear ho0); (try clear ho1)) | ((with_reducible refine gate_dst (N := 3) rfl ?_); refine box_event ?hg (N := 3) ?hd (cs := #[.int .i64 0, .string (⟨#[]⟩ : ByteArray), .slice none 0 0, .slice none 0 0]) (t := 25) ?hr ?_; (case hd => rfl); (case hg => rfl); (case hr => first | (go_simp; done) | (go_simp; rfl)); intro gb145 hg w11 hbox hb; have n0_ := Aside0.mk (Kd.R_below (by (with_reducible repeat (first | apply Kd.R_alloc | apply Kd.R_drewN | apply Kd.R_drew)); exact HO139.out) hb); have n1_ := Aside0.mk (Kd.R_below (Kd.R_elderB (by (with_reducible repeat (first | apply Kd.R_alloc | apply Kd.R_drewN | apply Kd.R_drew)); exact HO142.out) gb145 (Nat.le_of_eq hg.symm)) hb); have n2_ := Aside0.mk (below_step (by repeat (first | (with_reducible first | exact HB.out | apply below_alloc | apply pw_below_drewN | apply below_drew1) | exact HB.out)) hb); have n3_ := Aside0.mk (hbox); have n4_ := Aside0.mk ((by rw [hg]; exact (below_size (by repeat (first | (with_reducible first | exact HB.out | apply below_alloc | apply pw_below_drewN | apply below_drew1) | exact HB.out))) : w.heap.size ≤ gb145)); have n5_ := Aside0.mk ((by rw [hg]; exact (below_size (by repeat (first | (with_reducible first | exact HB.out | apply below_alloc | apply pw_below_drewN | apply below_drew1) | exact HB.out))) : w.heap.size ≤ gb145)); clear HO139; clear HO142; clear HB; have HO139 := n0_; have HO142 := n1_; have HB := n2_; have BK145 := n3_; have GW145 := n4_; have GE145 := n5_; clear n0_ n1_ n2_ n3_ n4_ n5_; clear hb hbox hg; have hcz12_0 : w11.cell? ⟨gb145, 0, none⟩ = some (.int .i64 0) := (blk_cell BK145.out 0).trans rfl; have hcz12_1 : w11.cell? ⟨gb145, 1, none⟩ = some (.string (⟨#[]⟩ : ByteArray)) := (blk_cell BK145.out 1).trans rfl; have hcz12_2 : w11.cell? ⟨gb145, 2, none⟩ = some (.slice none 0 0) := (blk_cell BK145.out 2).trans rfl; have hcz12_3 : w11.cell? ⟨gb145, 3, none⟩ = some (.slice none 0 0) := (blk_cell BK145.out 3).trans rfl; have hfz12_0 := blk_frozen BK145.out 0; have hfz12_1 := blk_frozen BK145.out 1; have hfz12_2 := blk_frozen BK145.out 2; have hfz12_3 := blk_frozen BK145.out 3; obtain ⟨Ao13, co13, eo13⟩ := Kd.R_slice HO139.out; subst eo13; obtain ⟨Ao14, co14, eo14⟩ := Kd.R_slice HO142.out; subst eo14) | ((with_reducible refine gate_callee (f := 12) rfl ?_); refine goesL_ (some 17) rfl rfl Tryd.func12 (by kernel_rfl) rfl #[.string a0] rfl (by (try simp only [List.map_toArray, List.map_cons, List.map_nil]); first | done | rfl | (simp only [List.length_drop, List.length_take]; rfl)) ?_; (with_reducible refine (wicketref04_Parse.calls a0 t146 t147 t148 t151 t154 t155 _ ?side1 A3.out).mono ?_); (case side1 => exact GL_below HG.out (by repeat (first | (with_reducible first | exact HB.out | apply below_alloc | apply pw_below_drewN | apply below_drew1 | refine below_set ?_ GE145.out) | exact HB.out))); rintro e w15 ⟨v149, v152, rfl, ho0, ho1, hb⟩; refine ⟨_, rfl, ?_⟩; have n0_ := Aside0.mk (Kd.R_elder' (by (with_reducible repeat (first | apply Kd.R_alloc | apply Kd.R_drewN | apply Kd.R_drew)); exact (Kd.R_mono (Kd.R_far (p := ⟨gb145, 3, none⟩) (Kd.R_far (p := ⟨gb145, 2, none⟩) (Kd.R_far (p := ⟨gb145, 1, none⟩) (Kd.R_far (p := ⟨gb145, 0, none⟩) (Kd.R_types HO139.out BK145.out (by decide)) (fun _ hk => hk.2) (.int .i64 t135)) (fun _ hk => hk.2) (.string t136)) (fun _ hk => hk.2) (.slice Ao13 t137.length co13)) (fun _ hk => hk.2) (.slice Ao14 t140.length co14)) (fun _ h_ => h_.1))) (Kd.R_base ho0) hb); have n1_ := Aside0.mk (Kd.R_mono (Kd.R_told (Kd.R_told (Kd.R_old (by (with_reducible repeat (first | apply Kd.R_alloc | apply Kd.R_drewN | apply Kd.R_drew)); exact (Kd.R_mono (Kd.R_far (p := ⟨gb145, 3, none⟩) (Kd.R_far (p := ⟨gb145, 2, none⟩) (Kd.R_far (p := ⟨gb145, 1, none⟩) (Kd.R_far (p := ⟨gb145, 0, none⟩) (Kd.R_mono HO142.out (fun k_ hk => (⟨hk, hk.2⟩ : _ ∧ k_ ≠ gb145))) (fun _ hk => hk.2) (.int .i64 t135)) (fun _ hk => hk.2) (.string t136)) (fun _ hk => hk.2) (.slice Ao13 t137.length co13)) (fun _ hk => hk.2) (.slice Ao14 t140.length co14)) (fun _ h_ => h_.1))) hb) (Kd.R_base ho0)) (Kd.R_base ho1)) (fun _ h_ => h_.1)); have n2_ := Aside0.mk (Kd.R_lower (Kd.R_new' ho0 (Kd.R_lt (by (with_reducible repeat (first | apply Kd.R_alloc | apply Kd.R_drewN | apply Kd.R_drew)); exact (Kd.R_mono (Kd.R_far (p := ⟨gb145, 3, none⟩) (Kd.R_far (p := ⟨gb145, 2, none⟩) (Kd.R_far (p := ⟨gb145, 1, none⟩) (Kd.R_far (p := ⟨gb145, 0, none⟩) (Kd.R_types HO139.out BK145.out (by decide)) (fun _ hk => hk.2) (.int .i64 t135)) (fun _ hk => hk.2) (.string t136)) (fun _ hk => hk.2) (.slice Ao13 t137.length co13)) (fun _ hk => hk.2) (.slice Ao14 t140.length co14)) (fun _ h_ => h_.1))))) (below_size (by repeat (first | (with_reducible first | exact HB.out | apply below_alloc | apply pw_below_drewN | apply below_drew1 | refine below_set ?_ GE145.out) | exact HB.out)))); have n3_ := Aside0.mk (Kd.R_lower (Kd.R_newB (Kd.R_new' (Kd.R_new' ho1 (Kd.R_lt (by (with_reducible repeat (first | apply Kd.R_alloc | apply Kd.R_drewN | apply Kd.R_drew)); exact (Kd.R_mono (Kd.R_far (p := ⟨gb145, 3, none⟩) (Kd.R_far (p := ⟨gb145, 2, none⟩) (Kd.R_far (p := ⟨gb145, 1, none⟩) (Kd.R_far (p := ⟨gb145, 0, none⟩) (Kd.R_types HO139.out BK145.out (by decide)) (fun _ hk => hk.2) (.int .i64 t135)) (fun _ hk => hk.2) (.string t136)) (fun _ hk => hk.2) (.slice Ao13 t137.length co13)) (fun _ hk => hk.2) (.slice Ao14 t140.length co14)) (fun _ h_ => h_.1))))) (Kd.R_lt (by (with_reducible repeat (first | apply Kd.R_alloc | apply Kd.R_drewN | apply Kd.R_drew)); exact (Kd.R_mono (Kd.R_far (p := ⟨gb145, 3, none⟩) (Kd.R_far (p := ⟨gb145, 2, none⟩) (Kd.R_far (p := ⟨gb145, 1, none⟩) (Kd.R_far (p := ⟨gb145, 0, none⟩) (Kd.R_mono HO142.out (fun k_ hk => (⟨hk, hk.2⟩ : _ ∧ k_ ≠ gb145))) (fun _ hk => hk.2) (.int .i64 t135)) (fun _ hk => hk.2) (.string t136)) (fun _ hk => hk.2) (.slice Ao13 t137.length co13)) (fun _ hk => hk.2) (.slice Ao14 t140.length co14)) (fun _ h_ => h_.1))))) (g := gb145) (o := .cells #[.int .i64 t135, .string t136, .slice Ao13 t137.length co13, .slice Ao14 t140.length co14] 25 (0, 0)) (by (with_reducible repeat (first | refine blk_drewN ?_ _ | refine blk_drew ?_ | refine blk_alloc ?_ _)); refine blk_put (cs := #[.int .i64 t135, .string t136, .slice Ao13 t137.length co13, .slice none 0 0]) ?_ 3 _ rfl; (with_reducible repeat (first | refine blk_drewN ?_ _ | refine blk_drew ?_ | refine blk_alloc ?_ _)); refine blk_put (cs := #[.int .i64 t135, .string t136, .slice none 0 0, .slice none 0 0]) ?_ 2 _ rfl; (with_reducible repeat (first | refine blk_drewN ?_ _ | refine blk_drew ?_ | refine blk_alloc ?_ _)); refine blk_put (cs := #[.int .i64 t135, .string (⟨#[]⟩ : ByteArray), .slice none 0 0, .slice none 0 0]) ?_ 1 _ rfl; (with_reducible repeat (first | refine blk_drewN ?_ _ | refine blk_drew ?_ | refine blk_alloc ?_ _)); refine blk_put (cs := #[.int .i64 0, .string (⟨#[]⟩ : ByteArray), .slice none 0 0, .slice none 0 0]) ?_ 0 _ rfl; (with_reducible repeat (first | refine blk_drewN ?_ _ | refine blk_drew ?_ | refine blk_alloc ?_ _)); exact BK145.out)) (below_size (by repeat (first | (with_reducible first | exact HB.out | apply below_alloc | apply pw_below_drewN | apply below_drew1 | refine below_set ?_ GE145.out) | exact HB.out)))); have n4_ := Aside0.mk (blk_below (g := gb145) (o := .cells #[.int .i64 t135, .string t136, .slice Ao13 t137.length co13, .slice Ao14 t140.length co14] 25 (0, 0)) (by (with_reducible repeat (first | refine blk_drewN ?_ _ | refine blk_drew ?_ | refine blk_alloc ?_ _)); refine blk_put (cs := #[.int .i64 t135, .string t136, .slice Ao13 t137.length co13, .slice none 0 0]) ?_ 3 _ rfl; (with_reducible repeat (first | refine blk_drewN ?_ _ | refine blk_drew ?_ | refine blk_alloc ?_ _)); refine blk_put (cs := #[.int .i64 t135, .string t136, .slice none 0 0, .slice none 0 0]) ?_ 2 _ rfl; (with_reducible repeat (first | refine blk_drewN ?_ _ | refine blk_drew ?_ | refine blk_alloc ?_ _)); refine blk_put (cs := #[.int .i64 t135, .string (⟨#[]⟩ : ByteArray), .slice none 0 0, .slice none 0 0]) ?_ 1 _ rfl; (with_reducible repeat (first | refine blk_drewN ?_ _ | refine blk_drew ?_ | refine blk_alloc ?_ _)); refine blk_put (cs := #[.int .i64 0, .string (⟨#[]⟩ : ByteArray), .slice none 0 0, .slice none 0 0]) ?_ 0 _ rfl; (with_reducible repeat (first | refine blk_drewN ?_ _ | refine blk_drew ?_ | refine blk_alloc ?_ _)); exact BK145.out) hb); have n5_ := Aside0.mk (below_step (by repeat (first | (with_reducible first | exact HB.out | apply below_alloc | apply pw_below_drewN | apply below_drew1 | refine below_set ?_ GE145.out) | exact HB.out)) hb); clear HO139; clear HO142; clear BK145; clear HB; have HO139 := n0_; have HO142 := n1_; have HO150 := n2_; have HO153 := n3_; have BK145 := n4_; have HB := n5_; clear n0_ n1_ n2_ n3_ n4_ n5_; (try clear hb); (try clear hb2); (try clear hk); (try clear hi); (try clear ho0); (try clear ho1)) | ((with_reducible refine gate_dst (N := 6) rfl ?_); refine box_event ?hg (N := 6) ?hd (cs := #[.int .i64 0, .string (⟨#[]⟩ : ByteArray), .slice none 0 0, .slice none 0 0]) (t := 25) ?hr ?_; (case hd => rfl); (case hg => rfl); (case hr => first | (go_simp; done) | (go_simp; rfl)); intro gb156 hg w16 hbox hb; have n0_ := Aside0.mk (Kd.R_below (by (with_reducible repeat (first | apply Kd.R_alloc | apply Kd.R_drewN | apply Kd.R_drew)); exact HO139.out) hb); have n1_ := Aside0.mk (Kd.R_below (Kd.R_elderB (by (with_reducible repeat (first | apply Kd.R_alloc | apply Kd.R_drewN | apply Kd.R_drew)); exact HO142.out) gb156 (Nat.le_of_eq hg.symm)) hb); have n2_ := Aside0.mk (Kd.R_below (by (with_reducible repeat (first | apply Kd.R_alloc | apply Kd.R_drewN | apply Kd.R_drew)); exact HO150.out) hb); have n3_ := Aside0.mk (Kd.R_below (Kd.R_elderB (by (with_reducible repeat (first | apply Kd.R_alloc | apply Kd.R_drewN | apply Kd.R_drew)); exact HO153.out) gb156 (Nat.le_of_eq hg.symm)) hb); have n4_ := Aside0.mk (blk_below (g := gb145) (o := .cells #[.int .i64 t135, .string t136, .slice Ao13 t137.length co13, .slice Ao14 t140.length co14] 25 (0, 0)) (by (with_reducible repeat (first | refine blk_drewN ?_ _ | refine blk_drew ?_ | refine blk_alloc ?_ _)); exact BK145.out) hb); have n5_ := Aside0.mk (below_step (by repeat (first | (with_reducible first | exact HB.out | apply below_alloc | apply pw_below_drewN | apply below_drew1 | refine below_set ?_ GE145.out) | exact HB.out)) hb); have n6_ := Aside0.mk (hbox); have n7_ := Aside0.mk ((by rw [hg]; exact (below_size (by repeat (first | (with_reducible first | exact HB.out | apply below_alloc | apply pw_below_drewN | apply below_drew1 | refine below_set ?_ GE145.out) | exact HB.out))) : w.heap.size ≤ gb156)); have n8_ := Aside0.mk ((by rw [hg]; exact (below_size (by repeat (first | (with_reducible first | exact HB.out | apply below_alloc | apply pw_below_drewN | apply below_drew1 | refine below_set ?_ GE145.out) | exact HB.out))) : w.heap.size ≤ gb156)); have n9_ := Aside0.mk ((by rw [hg]; exact Nat.ne_of_lt (blk_lt (g := gb145) (o := .cells #[.int .i64 t135, .string t136, .slice Ao13 t137.length co13, .slice Ao14 t140.length co14] 25 (0, 0)) (by (with_reducible repeat (first | refine blk_drewN ?_ _ | refine blk_drew ?_ | refine blk_alloc ?_ _)); exact BK145.out)) : gb145 ≠ gb156)); have n10_ := Aside0.mk ((by rw [hg]; exact Nat.ne_of_gt (blk_lt (g := gb145) (o := .cells #[.int .i64 t135, .string t136, .slice Ao13 t137.length co13, .slice Ao14 t140.length co14] 25 (0, 0)) (by (with_reducible repeat (first | refine blk_drewN ?_ _ | refine blk_drew ?_ | refine blk_alloc ?_ _)); exact BK145.out)) : gb156 ≠ gb145)); clear HO139; clear HO142; clear HO150; clear HO153; clear BK145; clear HB; have HO139 := n0_; have HO142 := n1_; have HO150 := n2_; have HO153 := n3_; have BK145 := n4_; have HB := n5_; have BK156 := n6_; have GW156 := n7_; have GE156 := n8_; have NB145_156 := n9_; have NB156_145 := n10_; clear n0_ n1_ n2_ n3_ n4_ n5_ n6_ n7_ n8_ n9_ n10_; clear hb hbox hg; have hnb17 := NB156_145.out; have hnc17 := NB145_156.out; have hcz18_0 : w16.cell? ⟨gb156, 0, none⟩ = some (.int .i64 0) := (blk_cell BK156.out 0).trans rfl; have hcz18_1 : w16.cell? ⟨gb156, 1, none⟩ = some (.string (⟨#[]⟩ : ByteArray)) := (blk_cell BK156.out 1).trans rfl; have hcz18_2 : w16.cell? ⟨gb156, 2, none⟩ = some (.slice none 0 0) := (blk_cell BK156.out 2).trans rfl; have hcz18_3 : w16.cell? ⟨gb156, 3, none⟩ = some (.slice none 0 0) := (blk_cell BK156.out 3).trans rfl; have hfz18_0 := blk_frozen BK156.out 0; have hfz18_1 := blk_frozen BK156.out 1; have hfz18_2 := blk_frozen BK156.out 2; have hfz18_3 := blk_frozen BK156.out 3; obtain ⟨Ao19, co19, eo19⟩ := Kd.R_slice HO150.out; subst eo19; obtain ⟨Ao20, co20, eo20⟩ := Kd.R_slice HO153.out; subst eo20) | ((with_reducible refine gate_callee (f := 13) rfl ?_); refine goesL_ (some 21) rfl rfl Tryd.func13 (by kernel_rfl) rfl #[] rfl (by (try simp only [List.map_toArray, List.map_cons, List.map_nil]); first | done | rfl | (simp only [List.length_drop, List.length_take]; rfl)) ?_; (with_reducible refine (wicketlaw04_live.calls  true _ ?side1 A4.out).mono ?_); (case side1 => exact GL_below HG.out (by repeat (first | (with_reducible first | exact HB.out | apply below_alloc | apply pw_below_drewN | apply below_drew1 | refine below_set ?_ GE145.out | refine below_set ?_ GE156.out) | exact HB.out))); rintro e w21 ⟨rfl, hb⟩; refine ⟨_, rfl, ?_⟩; have n0_ := Aside0.mk (Kd.R_below (by (with_reducible repeat (first | apply Kd.R_alloc | apply Kd.R_drewN | apply Kd.R_drew)); exact (Kd.R_mono (Kd.R_far (p := ⟨gb156, 3, none⟩) (Kd.R_far (p := ⟨gb156, 2, none⟩) (Kd.R_far (p := ⟨gb156, 1, none⟩) (Kd.R_far (p := ⟨gb156, 0, none⟩) (Kd.R_types HO139.out BK156.out (by decide)) (fun _ hk => hk.2) (.int .i64 t146)) (fun _ hk => hk.2) (.string t147)) (fun _ hk => hk.2) (.slice Ao19 t148.length co19)) (fun _ hk => hk.2) (.slice Ao20 t151.length co20)) (fun _ h_ => h_.1))) hb); have n1_ := Aside0.mk (Kd.R_below (by (with_reducible repeat (first | apply Kd.R_alloc | apply Kd.R_drewN | apply Kd.R_drew)); exact (Kd.R_mono (Kd.R_far (p := ⟨gb156, 3, none⟩) (Kd.R_far (p := ⟨gb156, 2, none⟩) (Kd.R_far (p := ⟨gb156, 1, none⟩) (Kd.R_far (p := ⟨gb156, 0, none⟩) (Kd.R_mono HO142.out (fun k_ hk => (⟨hk, hk.2⟩ : _ ∧ k_ ≠ gb156))) (fun _ hk => hk.2) (.int .i64 t146)) (fun _ hk => hk.2) (.string t147)) (fun _ hk => hk.2) (.slice Ao19 t148.length co19)) (fun _ hk => hk.2) (.slice Ao20 t151.length co20)) (fun _ h_ => h_.1))) hb); have n2_ := Aside0.mk (Kd.R_below (by (with_reducible repeat (first | apply Kd.R_alloc | apply Kd.R_drewN | apply Kd.R_drew)); exact (Kd.R_mono (Kd.R_far (p := ⟨gb156, 3, none⟩) (Kd.R_far (p := ⟨gb156, 2, none⟩) (Kd.R_far (p := ⟨gb156, 1, none⟩) (Kd.R_far (p := ⟨gb156, 0, none⟩) (Kd.R_types HO150.out BK156.out (by decide)) (fun _ hk => hk.2) (.int .i64 t146)) (fun _ hk => hk.2) (.string t147)) (fun _ hk => hk.2) (.slice Ao19 t148.length co19)) (fun _ hk => hk.2) (.slice Ao20 t151.length co20)) (fun _ h_ => h_.1))) hb); have n3_ := Aside0.mk (Kd.R_below (by (with_reducible repeat (first | apply Kd.R_alloc | apply Kd.R_drewN | apply Kd.R_drew)); exact (Kd.R_mono (Kd.R_far (p := ⟨gb156, 3, none⟩) (Kd.R_far (p := ⟨gb156, 2, none⟩) (Kd.R_far (p := ⟨gb156, 1, none⟩) (Kd.R_far (p := ⟨gb156, 0, none⟩) (Kd.R_mono HO153.out (fun k_ hk => (⟨hk, hk.2⟩ : _ ∧ k_ ≠ gb156))) (fun _ hk => hk.2) (.int .i64 t146)) (fun _ hk => hk.2) (.string t147)) (fun _ hk => hk.2) (.slice Ao19 t148.length co19)) (fun _ hk => hk.2) (.slice Ao20 t151.length co20)) (fun _ h_ => h_.1))) hb); have n4_ := Aside0.mk (blk_below (g := gb145) (o := .cells #[.int .i64 t135, .string t136, .slice Ao13 t137.length co13, .slice Ao14 t140.length co14] 25 (0, 0)) (by (with_reducible repeat (first | refine blk_drewN ?_ _ | refine blk_drew ?_ | refine blk_alloc ?_ _)); refine blk_far ?_ NB145_156.out _; (with_reducible repeat (first | refine blk_drewN ?_ _ | refine blk_drew ?_ | refine blk_alloc ?_ _)); refine blk_far ?_ NB145_156.out _; (with_reducible repeat (first | refine blk_drewN ?_ _ | refine blk_drew ?_ | refine blk_alloc ?_ _)); refine blk_far ?_ NB145_156.out _; (with_reducible repeat (first | refine blk_drewN ?_ _ | refine blk_drew ?_ | refine blk_alloc ?_ _)); refine blk_far ?_ NB145_156.out _; (with_reducible repeat (first | refine blk_drewN ?_ _ | refine blk_drew ?_ | refine blk_alloc ?_ _)); exact BK145.out) hb); have n5_ := Aside0.mk (blk_below (g := gb156) (o := .cells #[.int .i64 t146, .string t147, .slice Ao19 t148.length co19, .slice Ao20 t151.length co20] 25 (0, 0)) (by (with_reducible repeat (first | refine blk_drewN ?_ _ | refine blk_drew ?_ | refine blk_alloc ?_ _)); refine blk_put (cs := #[.int .i64 t146, .string t147, .slice Ao19 t148.length co19, .slice none 0 0]) ?_ 3 _ rfl; (with_reducible repeat (first | refine blk_drewN ?_ _ | refine blk_drew ?_ | refine blk_alloc ?_ _)); refine blk_put (cs := #[.int .i64 t146, .string t147, .slice none 0 0, .slice none 0 0]) ?_ 2 _ rfl; (with_reducible repeat (first | refine blk_drewN ?_ _ | refine blk_drew ?_ | refine blk_alloc ?_ _)); refine blk_put (cs := #[.int .i64 t146, .string (⟨#[]⟩ : ByteArray), .slice none 0 0, .slice none 0 0]) ?_ 1 _ rfl; (with_reducible repeat (first | refine blk_drewN ?_ _ | refine blk_drew ?_ | refine blk_alloc ?_ _)); refine blk_put (cs := #[.int .i64 0, .string (⟨#[]⟩ : ByteArray), .slice none 0 0, .slice none 0 0]) ?_ 0 _ rfl; (with_reducible repeat (first | refine blk_drewN ?_ _ | refine blk_drew ?_ | refine blk_alloc ?_ _)); exact BK156.out) hb); have n6_ := Aside0.mk (below_step (by repeat (first | (with_reducible first | exact HB.out | apply below_alloc | apply pw_below_drewN | apply below_drew1 | refine below_set ?_ GE145.out | refine below_set ?_ GE156.out) | exact HB.out)) hb); clear HO139; clear HO142; clear HO150; clear HO153; clear BK145; clear BK156; clear HB; have HO139 := n0_; have HO142 := n1_; have HO150 := n2_; have HO153 := n3_; have BK145 := n4_; have BK156 := n5_; have HB := n6_; clear n0_ n1_ n2_ n3_ n4_ n5_ n6_; (try clear hb); (try clear hb2); (try clear hk); (try clear hi)) | (go_at_call 14; (with_reducible refine (wicketlaw04_num.calls t143 t143 _ A6.out).mono ?_); rintro e w' ⟨rfl, ⟨nd, rfl⟩⟩; have hcz22_0 : w21.cell? ⟨gb145, 0, none⟩ = some (.int .i64 t135) := (blk_cell BK145.out 0).trans rfl; have hcz22_1 : w21.cell? ⟨gb145, 1, none⟩ = some (.string t136) := (blk_cell BK145.out 1).trans rfl; have hcz22_2 : w21.cell? ⟨gb145, 2, none⟩ = some (.slice Ao13 t137.length co13) := (blk_cell BK145.out 2).trans rfl; have hcz22_3 : w21.cell? ⟨gb145, 3, none⟩ = some (.slice Ao14 t140.length co14) := (blk_cell BK145.out 3).trans rfl; have hfz22_0 := blk_frozen BK145.out 0; have hfz22_1 := blk_frozen BK145.out 1; have hfz22_2 := blk_frozen BK145.out 2; have hfz22_3 := blk_frozen BK145.out 3; have hcz23_0 : w21.cell? ⟨gb156, 0, none⟩ = some (.int .i64 t146) := (blk_cell BK156.out 0).trans rfl; have hcz23_1 : w21.cell? ⟨gb156, 1, none⟩ = some (.string t147) := (blk_cell BK156.out 1).trans rfl; have hcz23_2 : w21.cell? ⟨gb156, 2, none⟩ = some (.slice Ao19 t148.length co19) := (blk_cell BK156.out 2).trans rfl; have hcz23_3 : w21.cell? ⟨gb156, 3, none⟩ = some (.slice Ao20 t151.length co20) := (blk_cell BK156.out 3).trans rfl; have hfz23_0 := blk_frozen BK156.out 0; have hfz23_1 := blk_frozen BK156.out 1; have hfz23_2 := blk_frozen BK156.out 2; have hfz23_3 := blk_frozen BK156.out 3) | (go_at_call 15; (with_reducible refine (wicketref04_Equal.calls k t135 t136 _ _ t137 _ _ t140 t146 t147 _ _ t148 _ _ t151 t159 _ ?side1 ?side2 ?side3 ?side4 ?side5 ?side6 ?side7 ?side8 A9.out).mono ?_); (case side1 => repeat (first | exact (Kd.R_reads' HO139.out).2.2 | (with_reducible refine Kd.C_alloc ?_ _) | (with_reducible refine Kd.C_drewN ?_ _) | (with_reducible refine Kd.C_drew ?_))); (case side2 => exact (Kd.R_reads' HO139.out).2.1); (case side3 => repeat (first | exact (Kd.R_reads' HO142.out).2.2 | (with_reducible refine Kd.C_alloc ?_ _) | (with_reducible refine Kd.C_drewN ?_ _) | (with_reducible refine Kd.C_drew ?_))); (case side4 => exact (Kd.R_reads' HO142.out).2.1); (case side5 => repeat (first | exact (Kd.R_reads' HO150.out).2.2 | (with_reducible refine Kd.C_alloc ?_ _) | (with_reducible refine Kd.C_drewN ?_ _) | (with_reducible refine Kd.C_drew ?_))); (case side6 => exact (Kd.R_reads' HO150.out).2.1); (case side7 => repeat (first | exact (Kd.R_reads' HO153.out).2.2 | (with_reducible refine Kd.C_alloc ?_ _) | (with_reducible refine Kd.C_drewN ?_ _) | (with_reducible refine Kd.C_drew ?_))); (case side8 => exact (Kd.R_reads' HO153.out).2.1); rintro e w24 ⟨rfl, hb⟩; have n0_ := Aside0.mk (Kd.R_below (by (with_reducible repeat (first | apply Kd.R_alloc | apply Kd.R_drewN | apply Kd.R_drew)); exact HO139.out) hb); have n1_ := Aside0.mk (Kd.R_below (by (with_reducible repeat (first | apply Kd.R_alloc | apply Kd.R_drewN | apply Kd.R_drew)); exact HO142.out) hb); have n2_ := Aside0.mk (Kd.R_below (by (with_reducible repeat (first | apply Kd.R_alloc | apply Kd.R_drewN | apply Kd.R_drew)); exact HO150.out) hb); have n3_ := Aside0.mk (Kd.R_below (by (with_reducible repeat (first | apply Kd.R_alloc | apply Kd.R_drewN | apply Kd.R_drew)); exact HO153.out) hb); have n4_ := Aside0.mk (blk_below (g := gb145) (o := .cells #[.int .i64 t135, .string t136, .slice Ao13 t137.length co13, .slice Ao14 t140.length co14] 25 (0, 0)) (by (with_reducible repeat (first | refine blk_drewN ?_ _ | refine blk_drew ?_ | refine blk_alloc ?_ _)); exact BK145.out) hb); have n5_ := Aside0.mk (blk_below (g := gb156) (o := .cells #[.int .i64 t146, .string t147, .slice Ao19 t148.length co19, .slice Ao20 t151.length co20] 25 (0, 0)) (by (with_reducible repeat (first | refine blk_drewN ?_ _ | refine blk_drew ?_ | refine blk_alloc ?_ _)); exact BK156.out) hb); have n6_ := Aside0.mk (below_step (by repeat (first | (with_reducible first | exact HB.out | apply below_alloc | apply pw_below_drewN | apply below_drew1 | refine below_set ?_ GE145.out | refine below_set ?_ GE156.out) | exact HB.out)) hb); clear HO139; clear HO142; clear HO150; clear HO153; clear BK145; clear BK156; clear HB; have HO139 := n0_; have HO142 := n1_; have HO150 := n2_; have HO153 := n3_; have BK145 := n4_; have BK156 := n5_; have HB := n6_; clear n0_ n1_ n2_ n3_ n4_ n5_ n6_; (try clear hb); (try clear hb2); (try clear hk); (try clear hi)))
        go_ret
        exact ⟨by first | rfl | (simp [errW_none, errW_some] <;> rfl) | (simp [*, errW_none, errW_some] <;> rfl), by repeat (first | (with_reducible first | exact HB.out | apply below_alloc | apply pw_below_drewN | apply below_drew1 | refine below_set ?_ GE145.out | refine below_set ?_ GE156.out) | exact HB.out)⟩
      · rw [if_neg c8] at H
        have c8b0 : (t144 == t155) = false := beq_eq_false_iff_ne.mpr c8
        have c8b1 : (t144 != t155) = true := bne_iff_ne.mpr c8
        cases H
    · rw [if_neg c7] at H
      have c7b0 : (t143 == t154) = false := beq_eq_false_iff_ne.mpr c7
      have c7b1 : (t143 != t154) = true := bne_iff_ne.mpr c7
      cases H
  · replace c5 := Bool.eq_false_iff.mpr c5
    subst c5
    have H1 : none = some r := by rw [if_neg (show ¬ (false = true) by decide)] at H; exact H
    clear H
    have H := H1
    clear H1
    cases H
end Go.Proofs.YtaalajhmfdcalaaDoor.X
namespace Go.Proofs.YtaalajhmfdcalaaDoor.X
open Go.RowKit
theorem live_true : wicketlaw04_live.f = some true := by kernel_rfl
end Go.Proofs.YtaalajhmfdcalaaDoor.X
namespace Go.Proofs.YtaalajhmfdcalaaDoor.X
open Go.RowKit Go.Lib Go.Proofs.YtaalajhmfdcalaaDoorW.PrintWords
theorem parse_f_val {a : ByteArray} {j : J} {q : Nat} (h : parseJ a.data.toList (a.size + 1) = some (.val j q)) : jtext_Parse.f a = some (j.f0, j.f1, j.f2, j.f3, 0, 0) := by unfold jtext_Parse.f; rw [h]
theorem parse_f_err {a : ByteArray} {e q : Nat} (h : parseJ a.data.toList (a.size + 1) = some (.err e q)) : jtext_Parse.f a = some (0, ⟨#[]⟩, [], [], (e : Int), (q : Int)) := by unfold jtext_Parse.f; rw [h]
end Go.Proofs.YtaalajhmfdcalaaDoor.X
namespace Go.Proofs.YtaalajhmfdcalaaDoor.X
open Go.RowKit Go.Lib Go.Proofs.YtaalajhmfdcalaaDoorW.PrintWords
def Vd (l : List UInt8) : Prop := ∀ t, validD (l ++ t) = validD t
theorem Vd.nil : Vd [] := fun _ => rfl
theorem Vd.app {a b : List UInt8} (ha : Vd a) (hb : Vd b) : Vd (a ++ b) := fun t => by rw [List.append_assoc, ha, hb]
theorem Vd.valid {l : List UInt8} (h : Vd l) : validD l = true := by have := h []; rwa [List.append_nil] at this
theorem Vd.one {c : UInt8} (h : c.toNat < 128) : Vd [c] := fun t => validD_cons c t h
theorem vd_step {l t : List UInt8} {c : Nat} (hne : l ≠ []) (hd : decodeL (l ++ t) = (c, l.length)) (hok : ¬ (c = 65533 ∧ l.length = 1)) : validD (l ++ t) = validD t := by
  rw [validD_step _ (by simp [hne]), hd]
  simp only
  rw [if_neg hok, List.drop_left]
theorem vd2 (u0 u1 : UInt8) (x y : Nat) (h0 : u0.toNat = 192 + x) (h1 : u1.toNat = 128 + y) (hx : x < 32) (hy : y < 64) (hv : 128 ≤ x * 64 + y) : Vd [u0, u1] := fun t => by
  refine vd_step (c := x * 64 + y) (by simp) ?_ (by simp)
  show decodeL (u0 :: u1 :: t) = (x * 64 + y, 2)
  rw [decodeL_N]
  simp only [List.getD_cons_zero, List.getD_cons_succ, List.length_cons, h0, h1]
  unfold decodeN
  rw [if_neg (by omega), if_pos ⟨by omega, by omega, by omega⟩, if_pos (by omega)]
  congr 1
  omega
theorem vd3 (u0 u1 u2 : UInt8) (x y z : Nat) (h0 : u0.toNat = 224 + x) (h1 : u1.toNat = 128 + y) (h2 : u2.toNat = 128 + z) (hx : x < 16) (hy : y < 64) (hz : z < 64) (hv : 2048 ≤ x * 4096 + y * 64 + z) (hs : x * 4096 + y * 64 + z < 55296 ∨ 57344 ≤ x * 4096 + y * 64 + z) : Vd [u0, u1, u2] := fun t => by
  refine vd_step (c := x * 4096 + y * 64 + z) (by simp) ?_ (by simp)
  show decodeL (u0 :: u1 :: u2 :: t) = (x * 4096 + y * 64 + z, 3)
  rw [decodeL_N]
  simp only [List.getD_cons_zero, List.getD_cons_succ, List.length_cons, h0, h1, h2]
  unfold decodeN
  have e : (224 + x) % 16 * 4096 + (128 + y) % 64 * 64 + (128 + z) % 64 = x * 4096 + y * 64 + z := by omega
  rw [if_neg (by omega), if_neg (by omega), if_pos ⟨by omega, ⟨by omega, by omega⟩, by omega, by omega⟩, e, if_pos ⟨by omega, by omega⟩]
theorem vd4 (u0 u1 u2 u3 : UInt8) (x y z a : Nat) (h0 : u0.toNat = 240 + x) (h1 : u1.toNat = 128 + y) (h2 : u2.toNat = 128 + z) (h3 : u3.toNat = 128 + a) (hx : x < 8) (hy : y < 64) (hz : z < 64) (ha : a < 64) (hv : 65536 ≤ x * 262144 + y * 4096 + z * 64 + a) (hs : x * 262144 + y * 4096 + z * 64 + a ≤ 1114111) : Vd [u0, u1, u2, u3] := fun t => by
  refine vd_step (c := x * 262144 + y * 4096 + z * 64 + a) (by simp) ?_ (by simp)
  show decodeL (u0 :: u1 :: u2 :: u3 :: t) = (x * 262144 + y * 4096 + z * 64 + a, 4)
  rw [decodeL_N]
  simp only [List.getD_cons_zero, List.getD_cons_succ, List.length_cons, h0, h1, h2, h3]
  unfold decodeN
  have e : (240 + x) % 8 * 262144 + (128 + y) % 64 * 4096 + (128 + z) % 64 * 64 + (128 + a) % 64 = x * 262144 + y * 4096 + z * 64 + a := by omega
  rw [if_neg (by omega), if_neg (by omega), if_neg (by omega), if_pos ⟨by omega, ⟨by omega, by omega⟩, ⟨by omega, by omega⟩, by omega, by omega⟩, e, if_pos ⟨by omega, by omega⟩]
theorem u8_nat (n : Nat) (h : n < 256) : (n.toUInt8).toNat = n := by
  show (UInt8.ofNat n).toNat = n
  rw [UInt8.toNat_ofNat']
  exact Nat.mod_eq_of_lt h
theorem vd_rune (r : Nat) : Vd (encodeRune (r : Int)) := by
  unfold encodeRune
  by_cases h1 : r ≤ 127
  · rw [encodeRuneZ_one (by omega) (by omega)]
    exact Vd.one (by rw [u8_nat _ (by omega)]; omega)
  · by_cases h2 : r ≤ 2047
    · rw [encodeRuneZ_two (by omega) (by omega)]
      exact vd2 _ _ (r / 64) (r % 64) (by rw [u8_nat _ (by omega)]; omega) (by rw [u8_nat _ (by omega)]; omega) (by omega) (by omega) (by omega)
    · by_cases h3 : (2048 ≤ r ∧ r < 55296) ∨ (57343 < r ∧ r ≤ 65535)
      · rw [encodeRuneZ_three (by omega)]
        exact vd3 _ _ _ (r / 4096) (r / 64 % 64) (r % 64) (by rw [u8_nat _ (by omega)]; omega) (by rw [u8_nat _ (by omega)]; omega) (by rw [u8_nat _ (by omega)]; omega) (by omega) (by omega) (by omega) (by omega) (by omega)
      · by_cases h4 : 65536 ≤ r ∧ r ≤ 1114111
        · rw [encodeRuneZ_four (by omega) (by omega)]
          exact vd4 _ _ _ _ (r / 262144) (r / 4096 % 64) (r / 64 % 64) (r % 64) (by rw [u8_nat _ (by omega)]; omega) (by rw [u8_nat _ (by omega)]; omega) (by rw [u8_nat _ (by omega)]; omega) (by rw [u8_nat _ (by omega)]; omega) (by omega) (by omega) (by omega) (by omega) (by omega) (by omega)
        · rw [encodeRuneZ_bad (by omega)]
          exact vd3 _ _ _ 15 63 61 (by decide) (by decide) (by decide) (by decide) (by decide) (by decide) (by decide) (by decide)
theorem vd_run (l : List UInt8) (hne : l ≠ []) (hv : ¬ ((decodeL l).1 = 65533 ∧ (decodeL l).2 = 1)) : Vd (l.take (decodeL l).2) := by
  rw [← encode_decode l hne hv]
  exact vd_rune _
theorem go_L (l : List UInt8) (hne : l ≠ []) : decodeGo ⟨l.toArray⟩ = decodeL l := by
  unfold decodeGo decodeL
  rw [if_neg]
  intro h
  have : l.length = 0 := by simpa [ByteArray.size] using h
  exact hne (List.length_eq_zero_iff.1 this)
theorem textF_vd (s : List UInt8) : ∀ (k : Nat) (out : List UInt8) (p q : Nat) (t : List UInt8), Vd out → textF s k out p = some (.val t q) → Vd t
  | 0, out, p, q, t, _, h => by simp [textF] at h
  | k + 1, out, p, q, t, ho, h => by
    cases hc : s[p]? with
    | none => rw [textF_short _ _ _ _ hc] at h; injection h with h; cases h
    | some c =>
      have hlt := (List.getElem?_eq_some_iff.1 hc).1
      by_cases h34 : c = 34
      · rw [textF_end _ _ _ _ _ hc h34] at h
        injection h with h
        injection h with h _
        exact h ▸ ho
      · by_cases h32 : c.toNat < 32
        · rw [textF_low _ _ _ _ _ hc h32] at h; injection h with h; cases h
        · by_cases h92 : c = 92
          · rw [textF_esc _ _ _ _ _ hc h92] at h
            cases hes : escF s p with
            | err e q1 => rw [hes] at h; injection h with h; cases h
            | val r q1 =>
              rw [hes] at h
              exact textF_vd s k _ _ _ _ (ho.app (vd_rune r)) h
          · by_cases h128 : c.toNat < 128
            · rw [textF_ascii _ _ _ _ _ hc h34 h32 h92 h128] at h
              exact textF_vd s k _ _ _ _ (ho.app (Vd.one h128)) h
            · have hne : s.drop p ≠ [] := by
                intro h0
                have := congrArg List.length h0
                rw [List.length_drop, List.length_nil] at this
                omega
              rw [textF] at h
              simp only [hc, if_neg h34, if_neg h32, if_neg h92, if_neg h128] at h
              rw [go_L _ hne] at h
              split at h
              · split at h <;> (injection h with h; cases h)
              · rename_i hd
                exact textF_vd s k _ _ _ _ (ho.app (vd_run _ hne (fun hh => hd ⟨hh.1, by omega⟩))) h
end Go.Proofs.YtaalajhmfdcalaaDoor.X
namespace Go.Proofs.YtaalajhmfdcalaaDoor.X
open Go.RowKit Go.Lib Go.Proofs.YtaalajhmfdcalaaDoorW.PrintWords
theorem sevL_inv {α : Type} (one : α → Nat → Option (Out α)) (s : List UInt8) (en : UInt8) (I : α → Nat → Prop) (hI : ∀ a q q', q ≤ q' → I a q → I a q') (hone : ∀ a q a' q', q ≤ s.length → one a q = some (.val a' q') → q < q' ∧ q' ≤ s.length) (hst : ∀ a q a' q', q ≤ s.length → I a q → one a q = some (.val a' q') → I a' q') :
    ∀ (k : Nat) (a a' : α) (q q' : Nat), q ≤ s.length → I a q → sevL one s en k a q = some (.val a' q') → I a' q'
  | 0, a, a', q, q', hq, hi, h => by simp [sevL] at h
  | k + 1, a, a', q, q', hq, hi, h => by
    rcases sevL_item _ _ _ _ _ _ _ h with ⟨e, p, _, h2⟩ | ⟨b, q1, h1, h2⟩
    · cases h2
    · obtain ⟨h3, h4⟩ := hone _ _ _ _ hq h1
      have hb := hst _ _ _ _ hq hi h1
      have h5 := blanks_ge s q1
      rcases h2 with ⟨_, h2⟩ | ⟨c, hc, h2⟩
      · cases h2
      · have hlt := (List.getElem?_eq_some_iff.1 hc).1
        rcases h2 with ⟨_, h2⟩ | ⟨_, _, h2⟩ | ⟨_, _, h2⟩
        · injection h2 with h2 h3
          rw [h2]
          exact hI _ _ _ (by omega) hb
        · have h6 := blanks_ge s (blanksF s q1 + 1)
          have h7 := blanks_le s (blanksF s q1 + 1) (by omega)
          exact sevL_inv one s en I hI hone hst k _ _ _ _ h7 (hI _ _ _ (by omega) hb) h2
        · cases h2
theorem sevF_inv {α : Type} (one : α → Nat → Option (Out α)) (s : List UInt8) (en : UInt8) (I : α → Nat → Prop) (hI : ∀ a q q', q ≤ q' → I a q → I a q') (hone : ∀ a q a' q', q ≤ s.length → one a q = some (.val a' q') → q < q' ∧ q' ≤ s.length) (hst : ∀ a q a' q', q ≤ s.length → I a q → one a q = some (.val a' q') → I a' q')
    (k : Nat) (a a' : α) (p q' : Nat) (hp : p < s.length) (hi : ∀ q, I a q) (h : sevF one s en k a p = some (.val a' q')) : I a' q' := by
  unfold sevF at h
  have h7 := blanks_le s (p + 1) (by omega)
  cases hc : s[blanksF s (p + 1)]? with
  | none => rw [hc] at h; injection h with h; cases h
  | some c =>
    rw [hc] at h
    simp only at h
    split at h
    · injection h with h
      injection h with h _
      exact h ▸ hi _
    · exact sevL_inv one s en I hI hone hst k _ _ _ _ h7 (hi _) h
theorem bsJ_toList (l : List UInt8) : (bsJ l).data.toList = l := by simp [bsJ]
theorem bsJ_size (l : List UInt8) : (bsJ l).size = l.length := by rw [← size_data, bsJ_toList]
theorem leaf_OK {r : Nat} {v : J} (hn : nodeOK v.f0 v.f1 v.f2.length v.f3.length = true) (h5 : ¬ v.f0 = 5) (h6 : ¬ v.f0 = 6) : OKJ r v := by
  cases r with
  | zero => exact ⟨hn, h5, h6⟩
  | succ r => exact ⟨hn, fun h => absurd h (by rintro (h | h); exact h5 h; exact h6 h), fun h => absurd h h6⟩
theorem leaf_Bd {B L : Nat} {f0 : Int} {f1 : ByteArray} (h : f1.size ≤ B) : Bd B L ⟨f0, f1, [], []⟩ := .mk _ _ _ _ h (fun _ h => by cases h) (Nat.zero_le _) (Nat.zero_le _) (fun _ h => by cases h)
theorem numberF_fit {s : List UInt8} {p q : Nat} {t : List UInt8} (h : numberF s p = .val t q) : litF t = (t.length, true) ∧ t.length ≤ s.length := by
  unfold numberF at h
  split at h
  · rename_i h1
    injection h with h2 _
    have hle := litF_le (s.drop p)
    have hl : t.length = (litF (s.drop p)).1 := by rw [← h2, List.length_take]; omega
    have ha := Ag.take (s.drop p) (litF (s.drop p)).1 (litF (s.drop p)).1 hle (Nat.le_refl _)
    have h3 : litF (s.drop p) = ((litF (s.drop p)).1, true) := Prod.ext rfl h1
    have h4 := litF_ag h3 ha
    rw [h2] at h4
    rw [List.length_drop] at hle
    exact ⟨by rw [h4, hl], by omega⟩
  · split at h <;> cases h
def RI (s : List UInt8) (r : Nat) (l : List J) (q : Nat) : Prop := l.length ≤ q ∧ ∀ y, y ∈ l → OKJ r y ∧ Bd (2 * s.length) s.length y
def RM (s : List UInt8) (r : Nat) (a : List ByteArray × List J) (q : Nat) : Prop := a.1.length = a.2.length ∧ RI s r a.2 q ∧ (∀ b, b ∈ a.1 → validD b.data.toList = true ∧ b.size ≤ 2 * s.length) ∧ (a.1.map (fun b => b.data.toList)).Nodup
theorem oneM_fit {s : List UInt8} {k r : Nat} {v : Nat → Option (Out J)} (hval : ∀ q j q', q ≤ s.length → v q = some (.val j q') → q < q' ∧ q' ≤ s.length) (hv : ∀ q j q', q ≤ s.length → v q = some (.val j q') → OKJ r j ∧ Bd (2 * s.length) s.length j) {a a' : List ByteArray × List J} {q q' : Nat} (hq : q ≤ s.length) (hi : RM s r a q) (h : oneM v s k a q = some (.val a' q')) : RM s r a' q' := by
  obtain ⟨i1, ⟨i2, i3⟩, i4, i5⟩ := hi
  unfold oneM at h
  split at h
  · injection h with h; cases h
  · split at h
    · split at h
      · cases h
      · injection h with h; cases h
      · rename_i nm q1 ht
        have h1 := textF_val _ _ _ _ _ _ ht
        have h1v := (textF_vd _ _ _ _ _ _ Vd.nil ht).valid
        have h1l := textF_len _ _ _ _ _ _ ht
        rw [List.length_nil] at h1l
        split at h
        · injection h with h; cases h
        · rename_i hnm
          split at h
          · injection h with h; cases h
          · rename_i c hc
            have hlt := (List.getElem?_eq_some_iff.1 hc).1
            split at h
            · obtain ⟨j, h2, h2e⟩ := omap_val _ _ _ _ h
              have h3 := blanks_ge s q1
              have h4 := blanks_ge s (blanksF s q1 + 1)
              have h5 := blanks_le s (blanksF s q1 + 1) (by omega)
              have h6 := hval _ _ _ h5 h2
              have h7 := hv _ _ _ h5 h2
              subst h2e
              refine ⟨by simp [i1], ⟨by simp; omega, fun y hy => ?_⟩, fun b hb => ?_, ?_⟩
              · rcases List.mem_append.1 hy with hy | hy
                · exact i3 y hy
                · rw [List.mem_singleton] at hy; rw [hy]; exact h7
              · rcases List.mem_append.1 hb with hb | hb
                · exact i4 b hb
                · rw [List.mem_singleton] at hb; rw [hb, bsJ_toList, bsJ_size]; exact ⟨h1v, by omega⟩
              · show ((a.1 ++ [bsJ nm]).map _).Nodup
                rw [List.map_append, List.nodup_append]
                refine ⟨i5, by simp, fun x hx y hy => ?_⟩
                simp only [List.map_cons, List.map_nil, List.mem_singleton, bsJ_toList] at hy
                rw [hy]
                rintro rfl
                exact hnm hx
            · injection h with h; cases h
    · injection h with h; cases h
theorem valueF_fit (s : List UInt8) (k : Nat) : ∀ (r p q : Nat) (j : J), p ≤ s.length → valueF s k r p = some (.val j q) → OKJ r j ∧ Bd (2 * s.length) s.length j
  | r, p, q, j, hp, h => by
    have word : ∀ f0 : Int, (f0 = 0 ∨ f0 = 1 ∨ f0 = 2) → OKJ r (⟨f0, bsJ [], [], []⟩ : J) ∧ Bd (2 * s.length) s.length (⟨f0, bsJ [], [], []⟩ : J) := fun f0 h0 => by
      have hn : nodeOK f0 (bsJ []) ([] : List ByteArray).length ([] : List J).length = true := by rcases h0 with rfl | rfl | rfl <;> rfl
      exact ⟨leaf_OK (v := ⟨f0, bsJ [], [], []⟩) hn (by show ¬ f0 = 5; omega) (by show ¬ f0 = 6; omega), leaf_Bd (by rw [bsJ_size]; simp)⟩
    unfold valueF at h
    split at h
    · injection h with h; cases h
    · rename_i c hc
      have hlt := (List.getElem?_eq_some_iff.1 hc).1
      split at h
      · injection h with h
        obtain ⟨a, h1, rfl⟩ := map_val _ _ _ _ h
        exact word 0 (.inl rfl)
      · split at h
        · injection h with h
          obtain ⟨a, h1, rfl⟩ := map_val _ _ _ _ h
          exact word 2 (.inr (.inr rfl))
        · split at h
          · injection h with h
            obtain ⟨a, h1, rfl⟩ := map_val _ _ _ _ h
            exact word 1 (.inr (.inl rfl))
          · split at h
            · injection h with h
              obtain ⟨t, h1, rfl⟩ := map_val _ _ _ _ h
              obtain ⟨h2, h3⟩ := numberF_fit h1
              refine ⟨leaf_OK (v := ⟨3, bsJ t, [], []⟩) ?_ (by show ¬ (3 : Int) = 5; decide) (by show ¬ (3 : Int) = 6; decide), leaf_Bd (by rw [bsJ_size]; omega)⟩
              show nodeOK 3 (bsJ t) 0 0 = true
              unfold nodeOK
              rw [if_neg (by decide), if_pos rfl, bsJ_toList, h2, bsJ_size]
              simp
            · split at h
              · obtain ⟨t, h1, rfl⟩ := omap_val _ _ _ _ h
                have h2 := textF_val s _ _ _ _ _ h1
                have h3 := textF_len s _ _ _ _ _ h1
                rw [List.length_nil] at h3
                refine ⟨leaf_OK (v := ⟨4, bsJ t, [], []⟩) ?_ (by show ¬ (4 : Int) = 5; decide) (by show ¬ (4 : Int) = 6; decide), leaf_Bd (by rw [bsJ_size]; omega)⟩
                show nodeOK 4 (bsJ t) 0 0 = true
                unfold nodeOK
                rw [if_neg (by decide), if_neg (by decide), if_pos rfl, bsJ_toList, (textF_vd _ _ _ _ _ _ Vd.nil h1).valid]
                simp
              · split at h
                · cases r with
                  | zero => injection h with h; cases h
                  | succ r =>
                    have hval : ∀ q j q', q ≤ s.length → valueF s k r q = some (.val j q') → q < q' ∧ q' ≤ s.length := fun q j q' hq => valueF_val s k r q q' j hq
                    have hv : ∀ q j q', q ≤ s.length → valueF s k r q = some (.val j q') → OKJ r j ∧ Bd (2 * s.length) s.length j := fun q j q' hq => valueF_fit s k r q q' j hq
                    simp only at h
                    split at h
                    · obtain ⟨l, h1, rfl⟩ := omap_val _ _ _ _ h
                      have hq := (sevF_val _ s _ (fun a q a' q' hq => oneI_val s _ hval a q a' q' hq) k _ _ _ _ hlt h1).2
                      have hi := sevF_inv _ s _ (RI s r) (fun a q q' hq hi => ⟨Nat.le_trans hi.1 hq, hi.2⟩) (fun a q a' q' hq => oneI_val s _ hval a q a' q' hq) (fun a q a' q' hq hi h => by
                        obtain ⟨j, h1, rfl⟩ := omap_val _ _ _ _ h
                        have h2 := hval _ _ _ hq h1
                        refine ⟨by have := hi.1; simp; omega, fun y hy => ?_⟩
                        rcases List.mem_append.1 hy with hy | hy
                        · exact hi.2 y hy
                        · rw [List.mem_singleton] at hy; rw [hy]; exact hv _ _ _ hq h1) k _ _ _ _ hlt (fun q => ⟨Nat.zero_le _, fun y hy => by cases hy⟩) h1
                      refine ⟨⟨rfl, fun _ y hy => (hi.2 y hy).1, fun h6 => absurd (show (5 : Int) = 6 from h6) (by decide)⟩, .mk _ _ _ _ (by rw [bsJ_size]; simp) (fun _ h => by cases h) (Nat.zero_le _) (Nat.le_trans hi.1 hq) (fun y hy => (hi.2 y hy).2)⟩
                    · obtain ⟨a, h1, rfl⟩ := omap_val _ _ _ _ h
                      have hq := (sevF_val _ s _ (fun a q a' q' hq => oneM_val s k _ hval a q a' q' hq) k _ _ _ _ hlt h1).2
                      obtain ⟨i1, i2, i3, i4⟩ := sevF_inv _ s _ (RM s r) (fun a q q' hq hi => ⟨hi.1, ⟨Nat.le_trans hi.2.1.1 hq, hi.2.1.2⟩, hi.2.2.1, hi.2.2.2⟩) (fun a q a' q' hq => oneM_val s k _ hval a q a' q' hq) (fun a q a' q' hq hi h => oneM_fit hval hv hq hi h) k _ _ _ _ hlt (fun q => show RM s r (([] : List ByteArray), ([] : List J)) q from ⟨rfl, ⟨Nat.zero_le _, fun y hy => by cases hy⟩, (fun b hb => by cases hb), List.nodup_nil⟩) h1
                      refine ⟨⟨?_, fun _ y hy => (i2.2 y hy).1, fun _ => ⟨fun b hb => (i3 b hb).1, i4⟩⟩, .mk _ _ _ _ (by rw [bsJ_size]; simp) (fun b hb => (i3 b hb).2) (by rw [i1]; exact Nat.le_trans i2.1 hq) (Nat.le_trans i2.1 hq) (fun y hy => (i2.2 y hy).2)⟩
                      show nodeOK 6 (bsJ []) a.1.length a.2.length = true
                      unfold nodeOK
                      rw [if_neg (by decide), if_neg (by decide), if_neg (by decide), if_neg (by decide), if_pos rfl, i1]
                      simp [bsJ_size]
                · injection h with h; cases h
end Go.Proofs.YtaalajhmfdcalaaDoor.X
namespace Go.Proofs.YtaalajhmfdcalaaDoor.X
open Go.RowKit Go.Lib Go.Proofs.YtaalajhmfdcalaaDoorW.PrintWords
theorem equal_l1 (v : J) (hl : v.f3.length ≤ 9223372036854775806) (ih : ∀ y, y ∈ v.f3 → ∃ K, ∀ k, K ≤ k → wicketref04_Equal.f k y.f0 y.f1 y.f2 y.f3 y.f0 y.f1 y.f2 y.f3 = some true) :
    ∀ (d i : Nat), i + d = v.f3.length → ∃ K, ∀ k, K ≤ k → wicketref04_Equal.l1 k (i : Int) v.f0 v.f1 v.f2 v.f3 v.f0 v.f1 v.f2 v.f3 = some true
  | 0, i, h => ⟨1, fun k hk => by
      obtain ⟨k, rfl, _⟩ := ge_succ hk
      rw [wicketref04_Equal.l1, if_neg (by omega)]⟩
  | d + 1, i, h => by
    obtain ⟨K1, h1⟩ := equal_l1 v hl ih d (i + 1) (by omega)
    have hi : i < v.f3.length := by omega
    obtain ⟨K2, h2⟩ := ih _ (List.getElem_mem hi)
    refine ⟨max K1 K2 + 1, fun k hk => ?_⟩
    obtain ⟨k, rfl, hj⟩ := ge_succ hk
    rw [wicketref04_Equal.l1, if_pos (by omega), if_pos (by omega), if_pos (by omega), rd_nat _ _ hi, h2 k (by omega)]
    simp only [Option.bind_some, if_true]
    rw [wrap_id _ (by omega) (by omega)]
    exact h1 k (by omega)
theorem equal_l0 (v : J) (hl : v.f2.length ≤ 9223372036854775806) {K0 : Nat} (h0 : ∀ k, K0 ≤ k → wicketref04_Equal.l1 k 0 v.f0 v.f1 v.f2 v.f3 v.f0 v.f1 v.f2 v.f3 = some true) :
    ∀ (d i : Nat), i + d = v.f2.length → ∃ K, ∀ k, K ≤ k → wicketref04_Equal.l0 k (i : Int) v.f0 v.f1 v.f2 v.f3 v.f0 v.f1 v.f2 v.f3 = some true
  | 0, i, h => ⟨K0 + 1, fun k hk => by
      obtain ⟨k, rfl, hj⟩ := ge_succ hk
      rw [wicketref04_Equal.l0, if_neg (by omega)]
      exact h0 k hj⟩
  | d + 1, i, h => by
    obtain ⟨K1, h1⟩ := equal_l0 v hl h0 d (i + 1) (by omega)
    refine ⟨K1 + 1, fun k hk => ?_⟩
    obtain ⟨k, rfl, hj⟩ := ge_succ hk
    rw [wicketref04_Equal.l0, if_pos (by omega), if_pos (by omega), if_pos (by omega), if_pos rfl, wrap_id _ (by omega) (by omega)]
    exact h1 k hj
theorem equal_self {B L : Nat} (hL : L ≤ 9223372036854775806) {v : J} (h : Bd B L v) : ∃ K, ∀ k, K ≤ k → wicketref04_Equal.f k v.f0 v.f1 v.f2 v.f3 v.f0 v.f1 v.f2 v.f3 = some true := by
  induction h with
  | mk f0 f1 f2 f3 _ _ h2 h3 _ ih =>
    obtain ⟨K1, h1⟩ := equal_l1 ⟨f0, f1, f2, f3⟩ (by show f3.length ≤ _; omega) ih f3.length 0 (by show 0 + f3.length = f3.length; omega)
    obtain ⟨K0, h0⟩ := equal_l0 ⟨f0, f1, f2, f3⟩ (by show f2.length ≤ _; omega) h1 f2.length 0 (by show 0 + f2.length = f2.length; omega)
    refine ⟨K0 + 2, fun k hk => ?_⟩
    obtain ⟨k, rfl, hj⟩ := ge_succ hk
    rw [wicketref04_Equal.f, if_pos rfl, if_pos rfl, if_pos rfl]
    obtain ⟨k, rfl, hi⟩ := ge_succ hj
    rw [wicketref04_Equal.j0, if_neg (by simp)]
    exact h0 k (by omega)
end Go.Proofs.YtaalajhmfdcalaaDoor.X
namespace Go.Proofs.YtaalajhmfdcalaaDoor.X
open Go.RowKit Go.Lib Go.Proofs.YtaalajhmfdcalaaDoorW.PrintWords
section
variable {α : Type}
end
end Go.Proofs.YtaalajhmfdcalaaDoor.X
namespace Go.Proofs.YtaalajhmfdcalaaDoor.X
open Go.RowKit Go.Lib Go.Proofs.YtaalajhmfdcalaaDoorW.PrintWords
theorem parses_law (a0 : ByteArray) (hs : a0.size ≤ 140737488351232) : ∃ k, wicketlaw04_JtextParses.f k a0 = some true := by
  obtain ⟨o, ho⟩ := parseJ_total a0.data.toList (k := a0.size + 1) (by rw [size_data]; omega)
  have hR : wicketref04_Parse.f a0 = jtext_Parse.f a0 := by unfold wicketref04_Parse.f; rw [if_pos (by omega)]
  cases o with
  | val j q =>
    have hbd : Bd (2 * a0.size) a0.size j ∧ a0.size ≤ 16384 := by
      unfold parseJ at ho
      split at ho
      · injection ho with ho; cases ho
      · rename_i hl
        rw [size_data] at hl
        cases hv : valueF a0.data.toList (a0.size + 1) 32 (blanksF a0.data.toList 0) with
        | none => rw [hv] at ho; cases ho
        | some o1 =>
          rw [hv] at ho
          cases o1 with
          | err e p => simp only at ho; injection ho with ho; cases ho
          | val j1 q1 =>
            simp only at ho
            split at ho
            · injection ho with ho; cases ho
            · injection ho with ho
              injection ho with h1 h2
              subst h1
              have := (valueF_fit _ _ 32 _ _ _ (blanks_le _ 0 (Nat.zero_le _)) hv).2
              rw [size_data] at this
              exact ⟨this, by omega⟩
    obtain ⟨K, hK⟩ := equal_self (by omega) hbd.1
    refine ⟨K, ?_⟩
    unfold wicketlaw04_JtextParses.f
    rw [hR, parse_f_val ho]
    simp [live_true, wicketlaw04_num.f, hK K (Nat.le_refl _)]
  | err e p =>
    obtain ⟨K, hK⟩ := equal_self (v := ⟨0, ⟨#[]⟩, [], []⟩) (by decide) (leaf_Bd (B := 0) (L := 0) (Nat.le_refl _))
    refine ⟨K, ?_⟩
    unfold wicketlaw04_JtextParses.f
    rw [hR, parse_f_err ho]
    simp [live_true, wicketlaw04_num.f]
    exact hK K (Nat.le_refl _)
end Go.Proofs.YtaalajhmfdcalaaDoor.X
namespace Go.Proofs.YtaalajhmfdcalaaDoor.X
open Go.RowKit Go.Lib
set_option maxRecDepth 100000 in
theorem first_eq : Rows.laid_unicode_utf8_first = firstData := by kernel_rfl
set_option maxRecDepth 100000 in
theorem accept_eq : (Rows.laid_unicode_utf8_acceptRanges : DataW Unit) = acceptData := by kernel_rfl
theorem words_of {W : World} (h : VarReads Tryd.prog W "wicket/jtext.words" Rows.laid_wicket_jtext_words) : GLw W := by
  obtain ⟨g, t, cs, fuel, p, hg, hty, hvar, hd⟩ := h
  obtain rfl : 0 = g := Option.some.inj ((show Tryd.prog.globalNamed "wicket/jtext.words" = some 0 by kernel_rfl).symm.trans hg)
  obtain rfl : 104 = t := Option.some.inj ((show (Tryd.prog.globals[0]?).map (·.type) = some 104 by kernel_rfl).symm.trans hty)
  have key : ∀ (i : Nat), i < 3 → ∀ l : List UInt8, (([.lit (.string [110, 117, 108, 108]), .lit (.string [102, 97, 108, 115, 101]), .lit (.string [116, 114, 117, 101])] : List (DataW Unit))[i]? = some (.lit (.string l))) → W.cell? ⟨0, i, none⟩ = some (.string ⟨l.toArray⟩) := by
    intro i hi l hl
    obtain ⟨fuel', d, q, hdi, he⟩ := array_elem Tryd.underlying104 hd i hi
    rw [hl] at hdi
    injection hdi with hdi
    subst hdi
    rw [show Tryd.prog.cellsOf 9 = 1 by kernel_rfl] at he
    obtain ⟨s, hcs, hs, _⟩ := DataW.trod_string Tryd.underlying9 he
    injection hs with hs _
    injection hs with hs
    injection hs with hs
    have e0 := congrArg (·[0]?) hcs
    simp only [List.getElem?_take, List.getElem?_drop] at e0
    rw [World.var?_cell hg hvar i, ← Array.getElem?_toList]
    have e1 : s = ⟨l.toArray⟩ := by
      apply ByteArray.ext
      apply Array.ext'
      rw [hs]
    rw [← e1]
    simpa using e0
  exact ⟨key 0 (by omega) _ rfl, key 1 (by omega) _ rfl, key 2 (by omega) _ rfl⟩
theorem GL_of {W : World} (hL : laidMetH Tryd.prog Rows.jtextFirstRow.laid W) : GL W := by
  rw [MakeChecks.laidMetH_plain _ _ _ (by kernel_rfl)] at hL
  have h1 := laidMet.reads hL (n := "unicode/utf8.acceptRanges") (d := Rows.laid_unicode_utf8_acceptRanges) (.head _)
  have h2 := laidMet.reads hL (n := "wicket/jtext.words") (d := Rows.laid_wicket_jtext_words) (.tail _ (.head _))
  have h3 := laidMet.reads hL (n := "unicode/utf8.first") (d := Rows.laid_unicode_utf8_first) (.tail _ (.tail _ (.head _)))
  rw [first_eq] at h3
  rw [accept_eq] at h1
  exact ⟨words_of h2, utf8Tabs_of_readsT (U8Types.of196 Tryd.lays196) ⟨by kernel_rfl, by kernel_rfl, by kernel_rfl, by kernel_rfl, by kernel_rfl, by kernel_rfl, by kernel_rfl⟩ h3 h1⟩
end Go.Proofs.YtaalajhmfdcalaaDoor.X
namespace Go.Proofs.YtaalajhmfdcalaaDoor.jtextParses
open Go.ChangeShapes Go.WideShapes Go.ChangeAt Go.RowKit
open Go.ChangeMaps (open_string shut_string)
theorem own : ownKnob Tryd.prog.godebug = none := by kernel_rfl
theorem laidOut : laidOutB Tryd.prog = true := by kernel_rfl
set_option maxRecDepth 100000 in
theorem contract (H : Type) (enc : TypeId × Value → H) (W : World) (base : Nat) (args : Array Value) (ds gs : List (DataW H)) (before : List MemPlace)
    (hval0 : ∀ (j : Nat) t v, Tryd.f3.params[j]? = some t → args[j]? = some v → Value.okWide Tryd.prog W .any base t v)
    (hW : DataW.Whole enc Tryd.prog Tryd.f3.params.toList Rows.jtextParsesSpec.vars false W args.toList ds gs before)
    (hsz0 : (DataW.weightsEach Tryd.prog (Tryd.f3.params.toList ++ Rows.jtextParsesSpec.plain.varTypes Tryd.prog) (ds ++ gs)).all (· ≤ reachBytes) = true) (hG : X.GL W) :
    Calls Tryd.prog 3 args W fun e W' => ∃ v, e = .returned v ∧ Rows.jtextParsesSpec.post enc Tryd.prog Tryd.f3 false true false false W args v W' := by
  have hval := hval0
  have hsz := hsz0
  have hW' := hW
  obtain ⟨p, q, hA0, hV, rfl, hfz, hnd⟩ := hW
  have hA : DataW.TrodAll enc Tryd.prog W 0 (fun _ => true) true Tryd.f3.params.toList args.toList ds p := hA0
  rw [Tryd.params3] at hA hval hsz
  obtain ⟨v0, vs0, d0, ds0, p0, q0, hargs, rfl, rfl, h0, r0⟩ := trodAll_cons hA
  obtain ⟨rfl, rfl, rfl⟩ := trodAll_nil r0
  obtain rfl : args = #[v0] := by cases args; simp_all
  obtain ⟨rfl, rfl⟩ := trodVars_none hV
  obtain ⟨a0, rfl, rfl, rfl, y0⟩ := open_string Tryd.underlying9 (hval 0 9 v0 rfl rfl) h0
  have w0 : a0.size ≤ 140737488351232 := by
    have z := sized_string hsz (j := 0) (t := 9) rfl rfl
    rw [Array.length_toList] at z
    exact z
  clear hA0 hval0 hsz0 hsz
  refine (let ⟨k, hk⟩ := X.parses_law a0 w0; X.wicketlaw04_JtextParses.calls k a0 true _ hG hk).mono fun e W' ⟨he, bel⟩ => ?_
  subst he
  exact ⟨_, rfl, _, _, _, [], _, [], hW', trodAll_mk1 (shut_bool Tryd.underlying4 _), (trodAll_cons_mk (shut_string Tryd.underlying9 y0) trodAll_mk0), rfl, bel.frame _, fun h => by cases h⟩
theorem lay_met (os : Os) : laidMetH Tryd.prog Rows.jtextParsesRow.laid ((World.laidAll Tryd.prog os Rows.jtextParsesRow.laid).forCall (fun _ _ => 0) ⟨#[], #[.string ⟨#[]⟩], []⟩).memory := by
  rw [MakeChecks.laidMetH_plain _ _ _ (by kernel_rfl)]
  exact laidMet_laidAll _ (by kernel_rfl) (by kernel_rfl)
theorem reads (os : Os) {H : Type} (enc : TypeId × Value → H) : ∃ places, DataW.whole enc Tryd.prog ((World.laidAll Tryd.prog os Rows.jtextParsesRow.laid).forCall (fun _ _ => 0) ⟨#[], #[.string ⟨#[]⟩], []⟩).memory Tryd.f3.params.toList Rows.jtextParsesSpec.vars false (#[.string ⟨#[]⟩] : Array Value).toList 8 = some ([.lit (.string [])], [], places) := ⟨[], by kernel_rfl⟩
set_option maxRecDepth 100000 in
theorem lifted (os : Os) (started : os.Started) (H : Type) (enc : TypeId × Value → H) (F : Stop.Interp) :
    ReturnsInHanded {} Tryd.checked os 3 .any ((OpenSpec.ofChange Rows.jtextParsesSpec).preRow enc Tryd.prog Tryd.f3 Rows.jtextParsesRow.domain false Rows.jtextParsesRow.laid) (((OpenSpec.ofChange Rows.jtextParsesSpec).at F).post enc Tryd.prog Tryd.f3 false true false false) := by
  obtain ⟨places, hx⟩ := reads os enc
  refine returnsInHanded_of_row (C := Tryd.checked) (s := OpenSpec.ofChange Rows.jtextParsesSpec) own started (by kernel_rfl) Tryd.func3
    (witness_row_atRef (enc := enc) (C := Tryd.checked) false (World.laidAll Tryd.prog os Rows.jtextParsesRow.laid) #[.string ⟨#[]⟩] (World.laidAll_os _ _ _) (by kernel_rfl) (by kernel_rfl) (by kernel_rfl)
      (OpenSpec.preRow_of_cond 8 hx (by kernel_rfl) (fun k hk => by cases hk) (by kernel_rfl) (lay_met os))) ?_
  intro W base args ds gs before hval hW _ _ hsz hL hS _
  exact contract H enc W base args ds gs before hval hW hsz (X.GL_of hL)
theorem said : Rows.JtextParsesSaid :=
  OpenClaim.holds_of_cond 3 Tryd.f3 rfl rfl rfl rfl rfl rfl rfl ⟨rfl, rfl, rfl, rfl, rfl⟩ rfl rfl rfl rfl rfl (by kernel_rfl) Tryd.func3 (by kernel_rfl)
    (of_decide_eq_true (by kernel_rfl)) (by unfold Func.isWrapper; first | (rw [if_pos (by decide +kernel)]; kernel_rfl) | (rw [if_neg (by decide +kernel)]; exact ⟨rfl, rfl⟩))
    (fun os started H enc _ F => by rw [OpenClaim.pre_eq_preRow]; exact lifted os started H enc F)
theorem plain (f : FuncId) (fn : Func) (hf : Tryd.pinned.checked.prog.funcNamed "wicket/wicketlaw04.JtextParses" = some f) (hfn : Tryd.pinned.checked.prog.funcs[f]? = some fn) :
    true = Tryd.pinned.checked.prog.looks [] ∧ ∀ (j : Nat) t, fn.params[j]? = some t → Tryd.pinned.checked.prog.wantsStandIn t = false := by
  obtain rfl : f = 3 := Option.some.inj ((show Tryd.prog.funcNamed "wicket/wicketlaw04.JtextParses" = some 3 by kernel_rfl).symm.trans hf) |>.symm
  obtain rfl : fn = Tryd.f3 := (Option.some.inj (Tryd.func3.symm.trans hfn)).symm
  refine ⟨by kernel_rfl, fun j t ht => ?_⟩
  rw [Tryd.params3] at ht
  have hm := Array.mem_of_getElem? ht
  simp only [List.mem_toArray, List.mem_cons, List.not_mem_nil, or_false] at hm
  subst hm
  exact (show Tryd.prog.wantsStandIn 9 = false by kernel_rfl)
theorem card : Rows.JtextParsesCardSaid :=
  Claim7.holds_tied_plain_at .later [] _ _ _ _ said (fun _ h => by cases h) (by kernel_rfl) (fun _ h => by cases h) jtextParses_row_tie rfl ⟨rfl, rfl⟩ (by kernel_rfl) rfl plain (by kernel_rfl)
#print axioms card
end Go.Proofs.YtaalajhmfdcalaaDoor.jtextParses
