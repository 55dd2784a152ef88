/- 'JtextSames': for every two values of a size that a machine holds, the program's Same and the document's Same tell the same, and what is handed in stays: the row, then the card. -/
import Derived.Test.YtaalajhmfdcalaaDoorBs1
import Derived.Test.YtaalajhmfdcalaaDoorBp0
import Derived.Lib.SmallJoins
import Derived.Deep.SlicePairs
import Derived.SizedLaws
import Derived.ProofKit
import Derived.Test.YtaalajhmfdcalaaDoorBs0
import Derived.Test.YtaalajhmfdcalaaDoorRows
import Derived.Test.YtaalajhmfdcalaaDoorCards
import Derived.Test.YtaalajhmfdcalaaDoorTie
import Derived.Lay
import Derived.MakeChecks
import Derived.Stop.LaidErr
import Derived.ShapedOpen
import Derived.Shelf.Vars
import Derived.Lib.LaidTab
import Derived.Lib.LaidU8T
import Derived.WalkKit
import Derived.OpenShut
import Derived.ShutString
import Derived.Carry
import Derived.Deep.DeepHandedRow
import Derived.Deep.DeepWitnessRowRef
import Derived.Test.YtaalajhmfdcalaaDoorWb
import Derived.Test.YtaalajhmfdcalaaDoorWc
set_option linter.unusedVariables false
set_option linter.unusedSimpArgs false
namespace Go.Proofs.YtaalajhmfdcalaaDoor.X
open Go.RowKit Go.Lib Go.Proofs.YtaalajhmfdcalaaDoorW.PrintWords Go.Proofs.YtaalajhmfdcalaaDoorW.PrintLast Go.Proofs.YtaalajhmfdcalaaDoorW.PrintMore
def sameS (v : J) : St := valW true true 32 v ⟨[], 0⟩
def sameB (a b : J) : Bool := decide ((sameS a).e = 0) && (decide ((sameS b).e = 0) && decide ((sameS a).out = (sameS b).out))
theorem fit_free (n : Nat) (h : n ≤ 140737488355328) : Fit true ⟨[], 0⟩ n := ⟨(fun _ => by show 0 + n ≤ _; omega), (fun h => by cases h)⟩
def sW (W : World) (b1 b2 : Obj) : World := (((W.alloc b1).alloc b2).alloc (.cells #[.slice none 0 0, .bool true, .int .i64 0] 60)).alloc (.cells #[.slice none 0 0, .bool true, .int .i64 0] 60)
theorem sW_facts (W : World) (b1 b2 : Obj) : Below W.heap.size W (sW W b1 b2) ∧ (sW W b1 b2).heap[W.heap.size]? = some b1 ∧ (sW W b1 b2).heap[W.heap.size + 1]? = some b2 ∧ (sW W b1 b2).heap[W.heap.size + 1 + 1]? = some (.cells #[.slice none 0 0, .bool true, .int .i64 0] 60 (0, 0)) ∧ (sW W b1 b2).heap[W.heap.size + 1 + 1 + 1]? = some (.cells #[.slice none 0 0, .bool true, .int .i64 0] 60 (0, 0)) ∧ (sW W b1 b2).heap.size = W.heap.size + 1 + 1 + 1 + 1 := by
 have e1 : (W.alloc b1).heap.size = W.heap.size + 1 := by simp
 have e2 : ((W.alloc b1).alloc b2).heap.size = W.heap.size + 1 + 1 := by simp
 have e3 : (((W.alloc b1).alloc b2).alloc (.cells #[.slice none 0 0, .bool true, .int .i64 0] 60)).heap.size = W.heap.size + 1 + 1 + 1 := by simp
 have h0 := heap_alloc_new W b1
 have h1 := heap_alloc_new (W.alloc b1) b2
 have h2 := heap_alloc_new ((W.alloc b1).alloc b2) (.cells #[.slice none 0 0, .bool true, .int .i64 0] 60)
 have h3 := heap_alloc_new (((W.alloc b1).alloc b2).alloc (.cells #[.slice none 0 0, .bool true, .int .i64 0] 60)) (.cells #[.slice none 0 0, .bool true, .int .i64 0] 60)
 rw [e1] at h1
 rw [e2] at h2
 rw [e3] at h3
 exact ⟨below_alloc (below_alloc (below_alloc (below_alloc (Below.refl _ _) _) _) _) _, Below.alloc_at (Below.alloc_at (Below.alloc_at h0)), Below.alloc_at (Below.alloc_at h1), Below.alloc_at h2, h3, by simp [sW]⟩
theorem bs_beq (a b : List UInt8) : ((bs a).toList == (bs b).toList) = decide (a = b) := by
 have h : ∀ l : List UInt8, (bs l).toList = l := fun l => by rw [toList_data]; simp [bs]
 rw [h, h, Bool.eq_iff_iff]
 simp
theorem ne_e {n : Nat} (h : ¬ n = 0) : ((n : Int) != 0) = true := by
 have : ¬ (n : Int) = 0 := by omega
 simp only [bne_iff_ne, ne_eq]
 exact this
theorem eq_e {n : Nat} (h : n = 0) : ((n : Int) != 0) = false := by rw [h]; rfl
structure Q1 (W : World) (va : St) (v2 : Array Value) (st : St) (sl : Value) (w : World) : Prop where
 sm : Sm true st va
 bel : Below W.heap.size W w
 two : w.heap[W.heap.size + 1]? = some (.cells v2 25 (0, 0))
 x : Wr (W.heap.size + 1 + 1) true st sl w
 y : w.heap[W.heap.size + 1 + 1 + 1]? = some (.cells #[.slice none 0 0, .bool true, .int .i64 0] 60 (0, 0))
 own : ∀ g, sl.ownBlock = some g → W.heap.size + 1 + 1 + 1 + 1 ≤ g
theorem q1_of {W w : World} {v1 v2 : Array Value} {va : St} {wt : Nat} {x : Ending} (h : VEnds (W.heap.size + 1 + 1) true true ⟨[], 0⟩ (.slice none 0 0) (sW W (.cells v1 25) (.cells v2 25)) wt va x w) : x = .returned (.tuple #[]) ∧ ∃ st sl, Q1 W va v2 st sl w := by
 obtain ⟨hx, st, sl, hs, _, hw, ho⟩ := h
 obtain ⟨f0, f1, f2, f3, f4, f5⟩ := sW_facts W (.cells v1 25) (.cells v2 25)
 refine ⟨hx, st, sl, hs, f0.trans (ho.low.mono (by omega)), (ho.low.block _ (by omega)).trans f2, hw, (ho.kept _ (by omega) (by omega) (by simp [Value.ownBlock])).trans f4, fun g hg => ?_⟩
 rcases ho.at_ with h1 | ⟨b, h1, h2⟩
 ·rw [hg] at h1; simp [Value.ownBlock] at h1
 ·rw [hg] at h1; injection h1 with h1; omega
structure Q2 (W : World) (va vb : St) (st1 st2 : St) (sl1 sl2 : Value) (w : World) : Prop where
 sm1 : Sm true st1 va
 sm2 : Sm true st2 vb
 bel : Below W.heap.size W w
 x : Wr (W.heap.size + 1 + 1) true st1 sl1 w
 y : Wr (W.heap.size + 1 + 1 + 1) true st2 sl2 w
theorem q2_of {W w1 w : World} {v2 : Array Value} {va vb st1 : St} {sl1 : Value} {wt : Nat} {x : Ending} (q : Q1 W va v2 st1 sl1 w1) (h : VEnds (W.heap.size + 1 + 1 + 1) true true ⟨[], 0⟩ (.slice none 0 0) w1 wt vb x w) : x = .returned (.tuple #[]) ∧ ∃ st2 sl2, Q2 W va vb st1 st2 sl1 sl2 w := by
 obtain ⟨hx, st, sl, hs, _, hw, ho⟩ := h
 refine ⟨hx, st, sl, q.sm, hs, q.bel.trans (ho.low.mono (by omega)), ⟨(ho.low.block _ (by omega)).trans q.x.blk, q.x.own.heap ho.size (fun g hg => ho.kept g (q.x.own.lt g hg).2 (by have := q.own g hg; omega) (by simp [Value.ownBlock]))⟩, hw⟩
set_option maxRecDepth 1000000 in
set_option maxHeartbeats 4000000 in
theorem same_calls (f0 : Int) (f1 : ByteArray) (l2 : List ByteArray) (l3 : List J) (A2 A3 : Option Addr) (c2 c3 : Nat) (g0 : Int) (g1 : ByteArray) (m2 : List ByteArray) (m3 : List J) (B2 B3 : Option Addr) (k2 k3 : Nat) (W : World) (hsm : SmJ 32 ⟨f0, f1, l2, l3⟩) (hln : LnJ 32 ⟨f0, f1, l2, l3⟩) (hwt : wtJ 32 ⟨f0, f1, l2, l3⟩ ≤ 140737488355328) (hC2 : Kd.string.C W A2 l2.length l2) (hc2 : l2.length ≤ c2) (hC3 : k25.C W A3 l3.length l3) (hc3 : l3.length ≤ c3) (hsm' : SmJ 32 ⟨g0, g1, m2, m3⟩) (hln' : LnJ 32 ⟨g0, g1, m2, m3⟩) (hwt' : wtJ 32 ⟨g0, g1, m2, m3⟩ ≤ 140737488355328) (hD2 : Kd.string.C W B2 m2.length m2) (hd2 : m2.length ≤ k2) (hD3 : k25.C W B3 m3.length m3) (hd3 : m3.length ≤ k3) (hG : GLw W) (hT : Tabs W) :
  Calls Tryd.prog 22 #[jVal f0 f1 A2 A3 l2.length c2 l3.length c3, jVal g0 g1 B2 B3 m2.length k2 m3.length k3] W fun x W' => x = .returned (.bool (sameB ⟨f0, f1, l2, l3⟩ ⟨g0, g1, m2, m3⟩)) ∧ Below W.heap.size W W' := by
 obtain ⟨F0, F1, F2, F3, F4, F5⟩ := sW_facts W (.cells #[.int .i64 f0, .string f1, .slice A2 l2.length c2, .slice A3 l3.length c3] 25) (.cells #[.int .i64 g0, .string g1, .slice B2 m2.length k2, .slice B3 m3.length k3] 25)
 have hv1 := writer_val (free := true) (canon := true) (v := ⟨f0, f1, l2, l3⟩) (Wd := W.heap.size + 1 + 1) (w := (sW W (.cells #[.int .i64 f0, .string f1, .slice A2 l2.length c2, .slice A3 l3.length c3] 25) (.cells #[.int .i64 g0, .string g1, .slice B2 m2.length k2, .slice B3 m3.length k3] 25))) hsm (fun _ => hln) (fit_free _ hwt) hC2 hc2 hC3 hc3 hG hT F0 (by omega) F3
 have hv2 := fun (w : World) (hb : Below W.heap.size W w) (hw : w.heap[W.heap.size + 1 + 1 + 1]? = some (.cells #[.slice none 0 0, .bool true, .int .i64 0] 60 (0, 0))) => writer_val (free := true) (canon := true) (v := ⟨g0, g1, m2, m3⟩) (Wd := W.heap.size + 1 + 1 + 1) (w := w) hsm' (fun _ => hln') (fit_free _ hwt') hD2 hd2 hD3 hd3 hG hT hb (by omega) hw
 have x0 : ((((W.alloc (.cells #[.int .i64 f0, .string f1, .slice A2 l2.length c2, .slice A3 l3.length c3] 25)).alloc (.cells #[.int .i64 g0, .string g1, .slice B2 m2.length k2, .slice B3 m3.length k3] 25)).alloc (.cells #[.slice none 0 0, .bool true, .int .i64 0] 60)).alloc (.cells #[.slice none 0 0, .bool true, .int .i64 0] 60)).cell? ⟨W.heap.size, 0, none⟩ = some (.int .i64 f0) := (blk_cell F1 0).trans rfl
 have x1 : ((((W.alloc (.cells #[.int .i64 f0, .string f1, .slice A2 l2.length c2, .slice A3 l3.length c3] 25)).alloc (.cells #[.int .i64 g0, .string g1, .slice B2 m2.length k2, .slice B3 m3.length k3] 25)).alloc (.cells #[.slice none 0 0, .bool true, .int .i64 0] 60)).alloc (.cells #[.slice none 0 0, .bool true, .int .i64 0] 60)).cell? ⟨W.heap.size, 1, none⟩ = some (.string f1) := (blk_cell F1 1).trans rfl
 have x2 : ((((W.alloc (.cells #[.int .i64 f0, .string f1, .slice A2 l2.length c2, .slice A3 l3.length c3] 25)).alloc (.cells #[.int .i64 g0, .string g1, .slice B2 m2.length k2, .slice B3 m3.length k3] 25)).alloc (.cells #[.slice none 0 0, .bool true, .int .i64 0] 60)).alloc (.cells #[.slice none 0 0, .bool true, .int .i64 0] 60)).cell? ⟨W.heap.size, 2, none⟩ = some (.slice A2 l2.length c2) := (blk_cell F1 2).trans rfl
 have x3 : ((((W.alloc (.cells #[.int .i64 f0, .string f1, .slice A2 l2.length c2, .slice A3 l3.length c3] 25)).alloc (.cells #[.int .i64 g0, .string g1, .slice B2 m2.length k2, .slice B3 m3.length k3] 25)).alloc (.cells #[.slice none 0 0, .bool true, .int .i64 0] 60)).alloc (.cells #[.slice none 0 0, .bool true, .int .i64 0] 60)).cell? ⟨W.heap.size, 3, none⟩ = some (.slice A3 l3.length c3) := (blk_cell F1 3).trans rfl
 unfold sW at hv1
 have HV1 := Aside0.mk hv1
 have HV2 := Aside0.mk hv2
 clear hv1 hv2 hsm hln hwt hC2 hc2 hC3 hc3 hsm' hln' hwt' hD2 hd2 hD3 hd3 hG hT F0 F1 F2 F3 F4 F5
 have HSB := Aside0.mk (show sameB ⟨f0, f1, l2, l3⟩ ⟨g0, g1, m2, m3⟩ = (decide ((sameS ⟨f0, f1, l2, l3⟩).e = 0) && (decide ((sameS ⟨g0, g1, m2, m3⟩).e = 0) && decide ((sameS ⟨f0, f1, l2, l3⟩).out = (sameS ⟨g0, g1, m2, m3⟩).out))) from rfl)
 have HS1 := Aside0.mk (show sameS ⟨f0, f1, l2, l3⟩ = valW true true 32 ⟨f0, f1, l2, l3⟩ ⟨[], 0⟩ from rfl)
 have HS2 := Aside0.mk (show sameS ⟨g0, g1, m2, m3⟩ = valW true true 32 ⟨g0, g1, m2, m3⟩ ⟨[], 0⟩ from rfl)
 generalize sameS ⟨f0, f1, l2, l3⟩ = sa at *
 generalize sameS ⟨g0, g1, m2, m3⟩ = sb at *
 generalize sameB ⟨f0, f1, l2, l3⟩ ⟨g0, g1, m2, m3⟩ = r at *
 by_cases h1 : sa.e = 0
 ·by_cases h2 : sb.e = 0
  ·have HP := Aside0.mk (show r = decide (sa.out = sb.out) by rw [HSB.out, decide_eq_true h1, decide_eq_true h2]; rfl)
   go_enter Tryd.func22, Tryd.ntmps22
   go_wp2_with (first | (go_at_call 33; (with_reducible refine (HV2.out _ HQ.out.bel HQ.out.y).mono ?_); intro e w6 hh; obtain ⟨rfl, st2, sl2, hq⟩ := q2_of HQ.out hh; have HR := Aside0.mk hq; clear hh hq; have z0 := (blk_cell HR.out.x.blk 0).trans rfl; have z2 := (blk_cell HR.out.x.blk 2).trans rfl; have u0 := (blk_cell HR.out.y.blk 0).trans rfl; have u2 := (blk_cell HR.out.y.blk 2).trans rfl; have hv1 := own_string HR.out.x.own; have hv2 := own_string HR.out.y.own; have hv3 := own_string (show Own _ w6.drew sl1 st1.out from HR.out.x.own.heap (Nat.le_refl _) (fun _ _ => rfl)); have hv4 := own_string (show Own _ w6.drew sl2 st2.out from HR.out.y.own.heap (Nat.le_refl _) (fun _ _ => rfl)); have m1 := HR.out.sm1.e_iff; have m2' := HR.out.sm2.e_iff; rw [← HS1.out] at m1; rw [← HS2.out] at m2'; have e1 : ((st1.e : Int) != 0) = false := eq_e (m1.2 h1); have e2 : ((st2.e : Int) != 0) = false := eq_e (m2'.2 h2); have HO1 := Aside0.mk (show st1 = sa from HS1.out ▸ HR.out.sm1.ok (HS1.out ▸ h1)); have HO2 := Aside0.mk (show st2 = sb from HS2.out ▸ HR.out.sm2.ok (HS2.out ▸ h2)); clear m1 m2'; dsimp at z0 z2 u0 u2) | (go_at_call 33; (with_reducible refine HV1.out.mono ?_); intro e w5 hh; obtain ⟨rfl, st1, sl1, hq⟩ := q1_of (v1 := #[.int .i64 f0, .string f1, .slice A2 l2.length c2, .slice A3 l3.length c3]) (v2 := #[.int .i64 g0, .string g1, .slice B2 m2.length k2, .slice B3 m3.length k3]) hh; have HQ := Aside0.mk hq; clear hh hq; have y0 : w5.cell? ⟨W.heap.size + 1, 0, none⟩ = some (.int .i64 g0) := (blk_cell HQ.out.two 0).trans rfl; have y1 : w5.cell? ⟨W.heap.size + 1, 1, none⟩ = some (.string g1) := (blk_cell HQ.out.two 1).trans rfl; have y2 : w5.cell? ⟨W.heap.size + 1, 2, none⟩ = some (.slice B2 m2.length k2) := (blk_cell HQ.out.two 2).trans rfl; have y3 : w5.cell? ⟨W.heap.size + 1, 3, none⟩ = some (.slice B3 m3.length k3) := (blk_cell HQ.out.two 3).trans rfl))
   go_region
   go_wp2
   go_ret
   exact ⟨by rw [HP.out, HO1.out, HO2.out]; exact congrArg (fun b => Ending.returned (Value.bool b)) (bs_beq _ _), by repeat (first | exact HR.out.bel | apply below_drewN | apply below_drew1)⟩
  ·have HP := Aside0.mk (show r = false by rw [HSB.out, decide_eq_true h1, decide_eq_false h2]; rfl)
   go_enter Tryd.func22, Tryd.ntmps22
   go_wp2_with (first | (go_at_call 33; (with_reducible refine (HV2.out _ HQ.out.bel HQ.out.y).mono ?_); intro e w6 hh; obtain ⟨rfl, st2, sl2, hq⟩ := q2_of HQ.out hh; have HR := Aside0.mk hq; clear hh hq; have z0 := (blk_cell HR.out.x.blk 0).trans rfl; have z2 := (blk_cell HR.out.x.blk 2).trans rfl; have u0 := (blk_cell HR.out.y.blk 0).trans rfl; have u2 := (blk_cell HR.out.y.blk 2).trans rfl; have hv1 := own_string HR.out.x.own; have hv2 := own_string HR.out.y.own; have hv3 := own_string (show Own _ w6.drew sl1 st1.out from HR.out.x.own.heap (Nat.le_refl _) (fun _ _ => rfl)); have hv4 := own_string (show Own _ w6.drew sl2 st2.out from HR.out.y.own.heap (Nat.le_refl _) (fun _ _ => rfl)); have m1 := HR.out.sm1.e_iff; have m2' := HR.out.sm2.e_iff; rw [← HS1.out] at m1; rw [← HS2.out] at m2'; have e1 : ((st1.e : Int) != 0) = false := eq_e (m1.2 h1); have e2 : ((st2.e : Int) != 0) = true := ne_e (fun h => h2 (m2'.1 h)); clear m1 m2'; dsimp at z0 z2 u0 u2) | (go_at_call 33; (with_reducible refine HV1.out.mono ?_); intro e w5 hh; obtain ⟨rfl, st1, sl1, hq⟩ := q1_of (v1 := #[.int .i64 f0, .string f1, .slice A2 l2.length c2, .slice A3 l3.length c3]) (v2 := #[.int .i64 g0, .string g1, .slice B2 m2.length k2, .slice B3 m3.length k3]) hh; have HQ := Aside0.mk hq; clear hh hq; have y0 : w5.cell? ⟨W.heap.size + 1, 0, none⟩ = some (.int .i64 g0) := (blk_cell HQ.out.two 0).trans rfl; have y1 : w5.cell? ⟨W.heap.size + 1, 1, none⟩ = some (.string g1) := (blk_cell HQ.out.two 1).trans rfl; have y2 : w5.cell? ⟨W.heap.size + 1, 2, none⟩ = some (.slice B2 m2.length k2) := (blk_cell HQ.out.two 2).trans rfl; have y3 : w5.cell? ⟨W.heap.size + 1, 3, none⟩ = some (.slice B3 m3.length k3) := (blk_cell HQ.out.two 3).trans rfl))
   go_ret
   exact ⟨by rw [HP.out]; rfl, HR.out.bel⟩
 ·have HP := Aside0.mk (show r = false by rw [HSB.out, decide_eq_false h1]; rfl)
  go_enter Tryd.func22, Tryd.ntmps22
  go_wp2_with (first | (go_at_call 33; (with_reducible refine (HV2.out _ HQ.out.bel HQ.out.y).mono ?_); intro e w6 hh; obtain ⟨rfl, st2, sl2, hq⟩ := q2_of HQ.out hh; have HR := Aside0.mk hq; clear hh hq; have z0 := (blk_cell HR.out.x.blk 0).trans rfl; have z2 := (blk_cell HR.out.x.blk 2).trans rfl; have u0 := (blk_cell HR.out.y.blk 0).trans rfl; have u2 := (blk_cell HR.out.y.blk 2).trans rfl; have hv1 := own_string HR.out.x.own; have hv2 := own_string HR.out.y.own; have hv3 := own_string (show Own _ w6.drew sl1 st1.out from HR.out.x.own.heap (Nat.le_refl _) (fun _ _ => rfl)); have hv4 := own_string (show Own _ w6.drew sl2 st2.out from HR.out.y.own.heap (Nat.le_refl _) (fun _ _ => rfl)); have m1 := HR.out.sm1.e_iff; have m2' := HR.out.sm2.e_iff; rw [← HS1.out] at m1; rw [← HS2.out] at m2'; have e1 : ((st1.e : Int) != 0) = true := ne_e (fun h => h1 (m1.1 h)); clear m1 m2'; dsimp at z0 z2 u0 u2) | (go_at_call 33; (with_reducible refine HV1.out.mono ?_); intro e w5 hh; obtain ⟨rfl, st1, sl1, hq⟩ := q1_of (v1 := #[.int .i64 f0, .string f1, .slice A2 l2.length c2, .slice A3 l3.length c3]) (v2 := #[.int .i64 g0, .string g1, .slice B2 m2.length k2, .slice B3 m3.length k3]) hh; have HQ := Aside0.mk hq; clear hh hq; have y0 : w5.cell? ⟨W.heap.size + 1, 0, none⟩ = some (.int .i64 g0) := (blk_cell HQ.out.two 0).trans rfl; have y1 : w5.cell? ⟨W.heap.size + 1, 1, none⟩ = some (.string g1) := (blk_cell HQ.out.two 1).trans rfl; have y2 : w5.cell? ⟨W.heap.size + 1, 2, none⟩ = some (.slice B2 m2.length k2) := (blk_cell HQ.out.two 2).trans rfl; have y3 : w5.cell? ⟨W.heap.size + 1, 3, none⟩ = some (.slice B3 m3.length k3) := (blk_cell HQ.out.two 3).trans rfl))
  go_ret
  exact ⟨by rw [HP.out]; rfl, HR.out.bel⟩
end Go.Proofs.YtaalajhmfdcalaaDoor.X
namespace Go.Proofs.YtaalajhmfdcalaaDoor.X
open Go.RowKit Go.Lib Go.Proofs.YtaalajhmfdcalaaDoorW.PrintWords Go.Proofs.YtaalajhmfdcalaaDoorW.PrintLast Go.Proofs.YtaalajhmfdcalaaDoorW.PrintMore
def lnB : Nat → J → Bool
 | 0, _ => true
 | r + 1, v => decide (v.f3.length ≤ 1000000) && v.f3.all (fun y => lnB r y)
theorem lnB_iff : ∀ (r : Nat) (v : J), lnB r v = true ↔ LnJ r v
 | 0, v => by simp [lnB, LnJ]
 | r + 1, v => by
  simp only [lnB, LnJ, Bool.and_eq_true, decide_eq_true_eq, List.all_eq_true]
  refine and_congr Iff.rfl ⟨fun h y hy => (lnB_iff r y).1 (h y hy), fun h y hy => (lnB_iff r y).2 (h y hy)⟩
def canOK (v : J) : Bool := smB 32 v && (lnB 32 v && (decide ((printS v).e ≠ 0) || decide ((canonS v).e = 0)))
def jtext_Canon.f (a0_0 : Int) (a0_1 : ByteArray) (l0_2 : List ByteArray) (l0_3 : List (S25)) : Option (ByteArray × Int) :=
 if canOK ⟨a0_0, a0_1, l0_2, l0_3⟩ = true then some (canonB ⟨a0_0, a0_1, l0_2, l0_3⟩, ((printS ⟨a0_0, a0_1, l0_2, l0_3⟩).e : Int)) else none
def samOK (v : J) : Bool := smB 32 v && (lnB 32 v && decide (wtJ 32 v ≤ 140737488355328))
def jtext_Same.f (a0_0 : Int) (a0_1 : ByteArray) (l0_2 : List ByteArray) (l0_3 : List (S25)) (a1_0 : Int) (a1_1 : ByteArray) (l1_2 : List ByteArray) (l1_3 : List (S25)) : Option Bool :=
 if samOK ⟨a0_0, a0_1, l0_2, l0_3⟩ && samOK ⟨a1_0, a1_1, l1_2, l1_3⟩ = true then some (sameB ⟨a0_0, a0_1, l0_2, l0_3⟩ ⟨a1_0, a1_1, l1_2, l1_3⟩) else none
theorem jtext_Same.calls (a0_0 : Int) (a0_1 : ByteArray) (A0_2 : Option Addr) (c0_2 : Nat) (l0_2 : List ByteArray) (A0_3 : Option Addr) (c0_3 : Nat) (l0_3 : List (S25)) (a1_0 : Int) (a1_1 : ByteArray) (A1_2 : Option Addr) (c1_2 : Nat) (l1_2 : List ByteArray) (A1_3 : Option Addr) (c1_3 : Nat) (l1_3 : List (S25)) (r1 : Bool) (w : World) (hr0_2 : Kd.C Kd.string w A0_2 l0_2.length l0_2) (hc0_2 : l0_2.length ≤ c0_2) (hr0_3 : Kd.C k25 w A0_3 l0_3.length l0_3) (hc0_3 : l0_3.length ≤ c0_3) (hr1_2 : Kd.C Kd.string w A1_2 l1_2.length l1_2) (hc1_2 : l1_2.length ≤ c1_2) (hr1_3 : Kd.C k25 w A1_3 l1_3.length l1_3) (hc1_3 : l1_3.length ≤ c1_3) (hG : GL w) (h : jtext_Same.f a0_0 a0_1 l0_2 l0_3 a1_0 a1_1 l1_2 l1_3 = some r1) :
  Calls Tryd.prog 22 #[.agg #[.int .i64 a0_0, .string a0_1, .slice A0_2 l0_2.length c0_2, .slice A0_3 l0_3.length c0_3], .agg #[.int .i64 a1_0, .string a1_1, .slice A1_2 l1_2.length c1_2, .slice A1_3 l1_3.length c1_3]] w fun e w' => e = .returned (.bool r1) ∧ Below w.heap.size w w' := by
 unfold jtext_Same.f at h
 split at h
 ·rename_i hs
  simp only [Option.some.injEq] at h
  subst h
  simp only [samOK, Bool.and_eq_true, decide_eq_true_eq] at hs
  exact same_calls a0_0 a0_1 l0_2 l0_3 A0_2 A0_3 c0_2 c0_3 a1_0 a1_1 l1_2 l1_3 A1_2 A1_3 c1_2 c1_3 w ((smB_iff 32 _).1 hs.1.1) ((lnB_iff 32 _).1 hs.1.2.1) hs.1.2.2 hr0_2 hc0_2 hr0_3 hc0_3 ((smB_iff 32 _).1 hs.2.1) ((lnB_iff 32 _).1 hs.2.2.1) hs.2.2.2 hr1_2 hc1_2 hr1_3 hc1_3 hG.words hG.tabs
 ·cases h
end Go.Proofs.YtaalajhmfdcalaaDoor.X
namespace Go.Proofs.YtaalajhmfdcalaaDoor.X
open Go.RowKit Go.Lib Go.Proofs.YtaalajhmfdcalaaDoorW.PrintWords
structure Fits (v : J) : Prop where
 ok : OKJ 32 v
 len : (encJ 32 v).length ≤ 16384
theorem Fits.printS {v : J} (h : Fits v) : printS v = ⟨encJ 32 v, 0⟩ := by
 unfold X.printS
 rw [valW_yes false 32 v ⟨[], 0⟩ h.ok rfl (fun _ => by have := h.len; show 0 + _ ≤ _; omega)]
 rfl
theorem Fits.printB {v : J} (h : Fits v) : printB v = bs (encJ 32 v) := by unfold X.printB; rw [h.printS, if_pos rfl]
theorem Fits.sort {v : J} (h : Fits v) : Fits (sJ 32 v) := ⟨OKJ_sJ 32 v h.ok, by rw [encJ_sJ_len]; exact h.len⟩
theorem canonS_eq (v : J) : canonS v = printS (sJ 32 v) := canon_sort false 32 v ⟨[], 0⟩
theorem Fits.canonS {v : J} (h : Fits v) : canonS v = ⟨encJ 32 (sJ 32 v), 0⟩ := by rw [canonS_eq, h.sort.printS]
theorem Fits.canonB {v : J} (h : Fits v) : canonB v = bs (encJ 32 (sJ 32 v)) := by unfold X.canonB; rw [h.printS, if_pos rfl, h.canonS]
theorem Fits.sameS {v : J} (h : Fits v) : sameS v = ⟨encJ 32 (sJ 32 v), 0⟩ := by
 unfold X.sameS
 rw [canon_sort, valW_yes true 32 (sJ 32 v) ⟨[], 0⟩ h.sort.ok rfl (fun hf => by cases hf)]
 rfl
theorem Fits.wt {v : J} (h : Fits v) : wtJ 32 v ≤ 1064960 := by
 have := wt_enc 32 v h.ok
 have := h.len
 omega
theorem lnB_of {B L : Nat} (hL : L ≤ 1000000) : ∀ (r : Nat) {v : J}, Bd B L v → lnB r v = true
 | 0, v, h => rfl
 | r + 1, v, h => by
  cases h with
  | mk f0 f1 f2 f3 _ _ _ h2 h3 =>
   unfold lnB
   simp only [Bool.and_eq_true, decide_eq_true_eq, List.all_eq_true]
   exact ⟨by omega, fun y hy => lnB_of hL r (h3 y hy)⟩
end Go.Proofs.YtaalajhmfdcalaaDoor.X
namespace Go.Proofs.YtaalajhmfdcalaaDoor.X
open Go.RowKit Go.Lib Go.Proofs.YtaalajhmfdcalaaDoorW.PrintWords
def bdB (B L : Nat) (v : J) : Bool := decide (v.f1.size ≤ B) && (v.f2.all (fun s => decide (s.size ≤ B)) && (decide (v.f2.length ≤ L) && (decide (v.f3.length ≤ L) && v.f3.attach.all (fun y => bdB B L y.1))))
termination_by SizeOf.sizeOf v
decreasing_by
 have h1 := List.sizeOf_lt_of_mem y.2
 cases v
 simp only [S25.mk.sizeOf_spec] at h1 ⊢
 omega
theorem bdB_iff (B L : Nat) (v : J) (h : bdB B L v = true) : Bd B L v := by
 cases v with
 | mk f0 f1 f2 f3 =>
  unfold bdB at h
  simp only [Bool.and_eq_true, decide_eq_true_eq, List.all_eq_true, List.mem_attach, forall_const, Subtype.forall] at h
  refine Bd.mk f0 f1 f2 f3 h.1 h.2.1 h.2.2.1 h.2.2.2.1 (fun y hy => ?_)
  exact bdB_iff B L y (h.2.2.2.2 y hy)
termination_by SizeOf.sizeOf v
decreasing_by
 have h1 := List.sizeOf_lt_of_mem hy
 subst_vars
 simp only [S25.mk.sizeOf_spec]
 omega
def okB : Nat → J → Bool
 | 0, v => nodeOK v.f0 v.f1 v.f2.length v.f3.length && (decide (¬ v.f0 = 5) && decide (¬ v.f0 = 6))
 | r + 1, v => nodeOK v.f0 v.f1 v.f2.length v.f3.length && ((decide (¬ (v.f0 = 5 ∨ v.f0 = 6)) || v.f3.all (okB r)) && (decide (¬ v.f0 = 6) || (v.f2.all (fun s => validD s.data.toList) && decide (v.f2.map (fun b => b.data.toList)).Nodup)))
theorem okB_iff : ∀ (r : Nat) (v : J), okB r v = true ↔ OKJ r v
 | 0, v => by simp [okB, OKJ]
 | r + 1, v => by
  simp only [okB, OKJ, Bool.and_eq_true, Bool.or_eq_true, decide_eq_true_eq, List.all_eq_true]
  refine and_congr Iff.rfl (and_congr ⟨fun h hk y hy => (okB_iff r y).1 (h.elim (fun h2 => absurd hk h2) (fun h2 => h2 y hy)), fun h => ?_⟩ ⟨fun h hk => h.elim (fun h2 => absurd hk h2) id, fun h => ?_⟩)
  ·by_cases hk : v.f0 = 5 ∨ v.f0 = 6
   ·exact Or.inr (fun y hy => (okB_iff r y).2 (h hk y hy))
   ·exact Or.inl hk
  ·by_cases hk : v.f0 = 6
   ·exact Or.inr (h hk)
   ·exact Or.inl hk
end Go.Proofs.YtaalajhmfdcalaaDoor.X
namespace Go.Proofs.YtaalajhmfdcalaaDoor.X
open Go.RowKit Go.Lib Go.Proofs.YtaalajhmfdcalaaDoorW.PrintWords
theorem enc_inj {r : Nat} {a b : J} (ha : OKJ r a) (hb : OKJ r b) (h : encJ r a = encJ r b) : a = b := by
 have h1 := value_back (s := encJ r a) (k := (encJ r a).length + 1) (by omega) r a ha 0 (by simp [Has]) (by simp [Stop])
 have h2 := value_back (s := encJ r a) (k := (encJ r a).length + 1) (by omega) r b hb 0 (by simp [Has, h]) (by simp [Stop, h])
 rw [h1] at h2
 simp only [Option.some.injEq, Out.val.injEq] at h2
 exact h2.1
def saysB (a b : J) : Bool := okB 32 a && (okB 32 b && decide (encJ 32 (sJ 32 a) = encJ 32 (sJ 32 b)))
theorem saysB_iff (a b : J) : saysB a b = true ↔ (OKJ 32 a ∧ OKJ 32 b ∧ sJ 32 a = sJ 32 b) := by
 simp only [saysB, Bool.and_eq_true, decide_eq_true_eq, okB_iff]
 exact ⟨fun h => ⟨h.1, h.2.1, enc_inj (OKJ_sJ 32 a h.1) (OKJ_sJ 32 b h.2.1) h.2.2⟩, fun h => ⟨h.1, h.2.1, by rw [h.2.2]⟩⟩
end Go.Proofs.YtaalajhmfdcalaaDoor.X
namespace Go.Proofs.YtaalajhmfdcalaaDoor.X
open Go.RowKit Go.Proofs.YtaalajhmfdcalaaDoorW.PrintWords Go.Proofs.YtaalajhmfdcalaaDoorW.PrintLast Go.Proofs.YtaalajhmfdcalaaDoorW.PrintMore
attribute [local go_sem] max2_int min2_int max_two min_two max_three min_three max_four min_four   -- for this text's walks alone
set_option linter.unusedVariables false
set_option linter.unusedSimpArgs false
mutual
def wicketref04_Twin.l0 : Nat → Int → Int → ByteArray → List ByteArray → List (S25) → Int → ByteArray → List ByteArray → List (S25) → Option (Int × ByteArray × List ByteArray × (List (S25)))
 | 0, _, _, _, _, _, _, _, _, _ => none
 | k + 1, x4, x504000, x504001, x504002, x504003, x512000, x512001, x512002, x512003 => if x4 < (x504003.length : Int) then (if 0 ≤ x4 then ((wicketref04_Twin.f k ((rd_T25 x504003 x4).f0) ((rd_T25 x504003 x4).f1) ((rd_T25 x504003 x4).f2) ((rd_T25 x504003 x4).f3)).bind fun bt513 => (if x512003.length < 1954687338268 then (wicketref04_Twin.l0 k (wrap64 (x4 + 1)) x504000 x504001 x504002 x504003 x512000 x512001 x512002 (x512003 ++ [(⟨bt513.1, bt513.2.1, bt513.2.2.1, bt513.2.2.2⟩ : S25)])) else (none))) else (none)) else (some (x512000, x512001, x512002, x512003))
def wicketref04_Twin.f : Nat → Int → ByteArray → List ByteArray → List (S25) → Option (Int × ByteArray × List ByteArray × (List (S25)))
 | 0, _, _, _, _ => none
 | k + 1, a0_0, a0_1, l0_2, l0_3 => (some (([] : List ByteArray) : List ByteArray)).bind fun y505 => (if y505.length + l0_2.length < 8796093022208 then (wicketref04_Twin.l0 k 0 a0_0 a0_1 l0_2 l0_3 a0_0 a0_1 (y505 ++ l0_2) ([] : List (S25))) else (none))
end
theorem wicketref04_Twin.mono_l : ∀ k, (∀ y0 y1 y2 y3, LeO (wicketref04_Twin.f k y0 y1 y2 y3) (wicketref04_Twin.f (k + 1) y0 y1 y2 y3)) ∧ (∀ y0 y1 y2 y3 y4 y5 y6 y7 y8, LeO (wicketref04_Twin.l0 k y0 y1 y2 y3 y4 y5 y6 y7 y8) (wicketref04_Twin.l0 (k + 1) y0 y1 y2 y3 y4 y5 y6 y7 y8))
 | 0 => ⟨fun _ _ _ _ r h => by simp [wicketref04_Twin.f] at h, fun _ _ _ _ _ _ _ _ _ r h => by simp [wicketref04_Twin.l0] at h⟩
 | k + 1 => by
  obtain ⟨ih0, ih1⟩ := wicketref04_Twin.mono_l k
  refine ⟨?_, ?_⟩
  ·intro y0 y1 y2 y3
   unfold wicketref04_Twin.f
   repeat' first
   | (with_reducible exact ih0 _ _ _ _)
   | (with_reducible exact ih1 _ _ _ _ _ _ _ _ _)
   | (with_reducible exact LeO.refl _)
   | (with_reducible exact LeO.none _)
   | (with_reducible refine LeO.ite ?_ ?_)
   | (with_reducible refine LeO.bind ?_ (fun _ => ?_))
   | exact ih0 _ _ _ _
   | exact ih1 _ _ _ _ _ _ _ _ _
   | exact LeO.none _
   | refine LeO.ite ?_ ?_
   | refine LeO.bind ?_ (fun _ => ?_)
  ·intro y0 y1 y2 y3 y4 y5 y6 y7 y8
   unfold wicketref04_Twin.l0
   repeat' first
   | (with_reducible exact ih0 _ _ _ _)
   | (with_reducible exact ih1 _ _ _ _ _ _ _ _ _)
   | (with_reducible exact LeO.refl _)
   | (with_reducible exact LeO.none _)
   | (with_reducible refine LeO.ite ?_ ?_)
   | (with_reducible refine LeO.bind ?_ (fun _ => ?_))
   | exact ih0 _ _ _ _
   | exact ih1 _ _ _ _ _ _ _ _ _
   | exact LeO.none _
   | refine LeO.ite ?_ ?_
   | refine LeO.bind ?_ (fun _ => ?_)
theorem wicketref04_Twin.mono : ∀ a0 a1 a2 a3 k, LeO (wicketref04_Twin.f k a0 a1 a2 a3) (wicketref04_Twin.f (k + 1) a0 a1 a2 a3) := by
 intro a0 a1 a2 a3 k
 obtain ⟨ih0, ih1⟩ := wicketref04_Twin.mono_l k
 exact ih0 a0 a1 a2 a3
def wicketref04_Twin.T1 : Bool × List (List Nat × List Nat) := (true, [([], []), ([0], [0]), ([], []), ([2], [2]), ([], []), ([], []), ([5], [5]), ([4, 6], [4, 6]), ([1, 3, 7], [1, 3, 7]), ([], []), ([9, 8, 7, 0, 1, 2, 3, 4, 5, 6, 7, 8, 9], [8, 9])])
def wicketref04_Twin.B1 : List Nat := [0, 1, 0, 4, 0, 0, 32, 112, 255, 0, 1023]
theorem wicketref04_Twin.tab1 : rtab .any (opsOf Tryd.f18 1) = wicketref04_Twin.T1 := by kernel_rfl
theorem wicketref04_Twin.bits1 : waitsOk wicketref04_Twin.T1.2 wicketref04_Twin.B1 = true := by kernel_rfl
def wicketref04_Twin.T5 : Bool × List (List Nat × List Nat) := (true, [([], []), ([0], [0]), ([], []), ([2], [2]), ([], []), ([3, 4], [3, 4]), ([5], [5]), ([6], [6]), ([7], [7]), ([1, 8, 7], [1, 8]), ([0, 1, 2, 3, 4, 5, 6, 7, 8, 9], []), ([10, 9, 9, 0, 1, 2, 3, 4, 5, 6, 7, 8, 9], [9, 10])])
def wicketref04_Twin.B5 : List Nat := [0, 1, 0, 4, 0, 28, 60, 124, 252, 511, 1023, 2047]
theorem wicketref04_Twin.tab5 : rtab .any (opsOf Tryd.f18 5) = wicketref04_Twin.T5 := by kernel_rfl
theorem wicketref04_Twin.bits5 : waitsOk wicketref04_Twin.T5.2 wicketref04_Twin.B5 = true := by kernel_rfl
set_option maxHeartbeats 8000000 in
set_option maxRecDepth 100000 in
theorem wicketref04_Twin.calls (k : Nat) : ∀ (a0_0 : Int) (a0_1 : ByteArray) (A0_2 : Option Addr) (c0_2 : Nat) (l0_2 : List ByteArray) (A0_3 : Option Addr) (c0_3 : Nat) (l0_3 : List (S25)) (r1 : Int) (r2 : ByteArray) (r3 : List ByteArray) (r4 : List (S25)) (w : World) (hr0_2 : Kd.C Kd.string w A0_2 l0_2.length l0_2) (hc0_2 : l0_2.length ≤ c0_2) (hr0_3 : Kd.C k25 w A0_3 l0_3.length l0_3) (hc0_3 : l0_3.length ≤ c0_3) (h : wicketref04_Twin.f k a0_0 a0_1 l0_2 l0_3 = some (r1, r2, r3, r4)),
  Calls Tryd.prog 18 #[.agg #[.int .i64 a0_0, .string a0_1, .slice A0_2 l0_2.length c0_2, .slice A0_3 l0_3.length c0_3]] w fun e w' => ∃ v2_ v3_ : Value, e = .returned (.agg #[.int .i64 r1, .string r2, v2_, v3_]) ∧ Kd.R Kd.string 9 w' w.heap.size (fun _ => True) v2_ r3 ∧ Kd.R k25 25 w' w.heap.size (fun k_ => some k_ ≠ (v2_ : Value).ownBlock) v3_ r4 ∧ Below w.heap.size w w' := by
 induction k using Nat.strongRecOn with
 | _ k ih =>
 intro a0_0 a0_1 A0_2 c0_2 l0_2 A0_3 c0_3 l0_3 r1 r2 r3 r4 w hr0_2 hc0_2 hr0_3 hc0_3 h
 cases k with
 | zero => exact absurd h (by simp [wicketref04_Twin.f])
 | succ k =>
 simp only [wicketref04_Twin.f] at h
 have hu25 := Tryd.underlying25
 have HR0_2 := Aside0.mk hr0_2
 have HC0_2 := Aside0.mk hc0_2
 clear hr0_2 hc0_2
 have HR0_3 := Aside0.mk hr0_3
 have HC0_3 := Aside0.mk hc0_3
 clear hr0_3 hc0_3
 have HB := Aside0.mk (Below.refl w.heap.size w)
 have H : ((some (([] : List ByteArray) : List ByteArray)).bind fun y505 => (if y505.length + l0_2.length < 8796093022208 then (wicketref04_Twin.l0 k 0 a0_0 a0_1 l0_2 l0_3 a0_0 a0_1 (y505 ++ l0_2) ([] : List (S25))) else (none))) = some (r1, r2, r3, r4) := h
 clear h
 obtain ⟨y505, hy505⟩ : ∃ y_ : List ByteArray, y_ = (([] : List ByteArray)) := ⟨_, rfl⟩
 replace H : (if y505.length + l0_2.length < 8796093022208 then (wicketref04_Twin.l0 k 0 a0_0 a0_1 l0_2 l0_3 a0_0 a0_1 (y505 ++ l0_2) ([] : List (S25))) else (none)) = some (r1, r2, r3, r4) := by first | (rw [hy505]; with_reducible exact H) | (have H2_ := (Option.bind_some _ _).symm.trans H; rw [hy505]; with_reducible exact H2_) | (have H2_ := (Option.bind_some _ _).symm.trans H; with_reducible exact H2_) | with_reducible exact H | (rw [hy505]; exact H) | exact H
 have Ny505 := Aside0.mk hy505
 clear hy505
 by_cases c2 : y505.length + l0_2.length < 8796093022208
 ·rw [if_pos c2] at H
  have LMc2 := Aside0.mk c2
  clear c2
  obtain ⟨y508, hy508⟩ : ∃ y_ : List ByteArray, y_ = (y505 ++ l0_2) := ⟨_, rfl⟩
  replace H : (wicketref04_Twin.l0 k 0 a0_0 a0_1 l0_2 l0_3 a0_0 a0_1 y508 ([] : List (S25))) = some (r1, r2, r3, r4) := by first | (rw [hy508]; with_reducible exact H) | (have H2_ := (Option.bind_some _ _).symm.trans H; rw [hy508]; with_reducible exact H2_) | (have H2_ := (Option.bind_some _ _).symm.trans H; with_reducible exact H2_) | with_reducible exact H | (rw [hy508]; exact H) | exact H
  have Ny508 := Aside0.mk hy508
  clear hy508
  have H' := Aside0.mk H
  clear H
  go_enter Tryd.func18, Tryd.ntmps18
  try go_wp2_with (first | ((with_reducible refine gate_dst (N := 1) rfl ?_); refine box_event ?hg (N := 1) ?hd (cs := #[.int .i64 a0_0, .string a0_1, .slice A0_2 l0_2.length c0_2, .slice A0_3 l0_3.length c0_3]) (t := 25) ?hr ?_; (case hd => rfl); (case hg => rfl); (case hr => first | (go_simp; done) | (go_simp; rfl)); intro gb503 hg w3 hbox hb; have n0_ := Aside0.mk (below_step (by repeat (first | (with_reducible first | exact HB.out | apply below_alloc | apply pw_below_drewN | apply below_drew1) | exact HB.out)) hb); have n1_ := Aside0.mk (hbox); have n2_ := Aside0.mk ((by rw [hg]; exact (below_size (by repeat (first | (with_reducible first | exact HB.out | apply below_alloc | apply pw_below_drewN | apply below_drew1) | exact HB.out))) : w.heap.size ≤ gb503)); have n3_ := Aside0.mk ((by rw [hg]; exact (below_size (by repeat (first | (with_reducible first | exact HB.out | apply below_alloc | apply pw_below_drewN | apply below_drew1) | exact HB.out))) : w.heap.size ≤ gb503)); clear HB; have HB := n0_; have BK503 := n1_; have GW503 := n2_; have GE503 := n3_; clear n0_ n1_ n2_ n3_; clear hb hbox hg) | ((with_reducible refine gate_dst (N := 2) rfl ?_); refine box_event ?hg (N := 2) ?hd (cs := #[.int .i64 0, .string (⟨#[]⟩ : ByteArray), .slice none 0 0, .slice none 0 0]) (t := 25) ?hr ?_; (case hd => rfl); (case hg => rfl); (case hr => first | (go_simp; done) | (go_simp; rfl)); intro gb504 hg w4 hbox hb; have n0_ := Aside0.mk (blk_below (g := gb503) (o := .cells #[.int .i64 a0_0, .string a0_1, .slice A0_2 l0_2.length c0_2, .slice A0_3 l0_3.length c0_3] 25 (0, 0)) (by (with_reducible repeat (first | refine blk_drewN ?_ _ | refine blk_drew ?_ | refine blk_alloc ?_ _)); exact BK503.out) hb); have n1_ := Aside0.mk (below_step (by repeat (first | (with_reducible first | exact HB.out | apply below_alloc | apply pw_below_drewN | apply below_drew1 | refine below_set ?_ GE503.out) | exact HB.out)) hb); have n2_ := Aside0.mk (hbox); have n3_ := Aside0.mk ((by rw [hg]; exact (below_size (by repeat (first | (with_reducible first | exact HB.out | apply below_alloc | apply pw_below_drewN | apply below_drew1 | refine below_set ?_ GE503.out) | exact HB.out))) : w.heap.size ≤ gb504)); have n4_ := Aside0.mk ((by rw [hg]; exact (below_size (by repeat (first | (with_reducible first | exact HB.out | apply below_alloc | apply pw_below_drewN | apply below_drew1 | refine below_set ?_ GE503.out) | exact HB.out))) : w.heap.size ≤ gb504)); have n5_ := Aside0.mk ((by rw [hg]; exact Nat.ne_of_lt (blk_lt (g := gb503) (o := .cells #[.int .i64 a0_0, .string a0_1, .slice A0_2 l0_2.length c0_2, .slice A0_3 l0_3.length c0_3] 25 (0, 0)) (by (with_reducible repeat (first | refine blk_drewN ?_ _ | refine blk_drew ?_ | refine blk_alloc ?_ _)); exact BK503.out)) : gb503 ≠ gb504)); have n6_ := Aside0.mk ((by rw [hg]; exact Nat.ne_of_gt (blk_lt (g := gb503) (o := .cells #[.int .i64 a0_0, .string a0_1, .slice A0_2 l0_2.length c0_2, .slice A0_3 l0_3.length c0_3] 25 (0, 0)) (by (with_reducible repeat (first | refine blk_drewN ?_ _ | refine blk_drew ?_ | refine blk_alloc ?_ _)); exact BK503.out)) : gb504 ≠ gb503)); clear BK503; clear HB; have BK503 := n0_; have HB := n1_; have BK504 := n2_; have GW504 := n3_; have GE504 := n4_; have NB503_504 := n5_; have NB504_503 := n6_; clear n0_ n1_ n2_ n3_ n4_ n5_ n6_; clear hb hbox hg))
  have n0_ := Aside0.mk (blk_drew BK503.out)
  have n1_ := Aside0.mk (blk_drew BK504.out)
  have n2_ := Aside0.mk (below_drew1 HB.out)
  clear BK503
  clear BK504
  clear HB
  have BK503 := n0_
  have BK504 := n1_
  have HB := n2_
  clear n0_ n1_ n2_
  refine start_ (n := 11) (S := fun w' => w'.cell? ⟨gb503, 0, none⟩ = some (.int .i64 a0_0) ∧ w'.cell? ⟨gb503, 1, none⟩ = some (.string a0_1) ∧ w'.cell? ⟨gb503, 2, none⟩ = some (.slice A0_2 l0_2.length c0_2) ∧ w'.cell? ⟨gb503, 3, none⟩ = some (.slice A0_3 l0_3.length c0_3)) (ds := []) #[false, false, false, false, false, false, false, false, false, false, false] (by kernel_rfl) rfl rfl ⟨(blk_cell BK503.out 0).trans rfl, (blk_cell BK503.out 1).trans rfl, (blk_cell BK503.out 2).trans rfl, (blk_cell BK503.out 3).trans rfl⟩ (fun hHeld => ?_); refine with_tabW wicketref04_Twin.tab1 wicketref04_Twin.bits1 (fun HT_ HW_ => ?_)
  generalize w4.drew = w5 at BK503 BK504 HB hHeld ⊢
  refine pure_ (i := 0) (N := some 5) (v := ?_) (a' := ?_) #[true, false, false, false, false, false, false, false, false, false, false] rfl rfl (any_of HT_.out (by kernel_rfl)) (fun _ _ _ h => h) (Or.inl ⟨by rfl, ?_⟩) ?_ ?_
  rotate_left
  ·intro w'
   go_simp
   with_reducible rfl
  rotate_left
  ·simp only [Act.put, List.setIfInBounds_toArray, List.set_cons_zero, List.set_cons_succ, i64_w, i32_w]
   rfl
  refine pure_ (i := 2) (N := some 7) (v := ?_) (a' := ?_) #[true, false, true, false, false, false, false, false, false, false, false] rfl rfl (any_of HT_.out (by kernel_rfl)) (fun _ _ _ h => h) (Or.inl ⟨by rfl, ?_⟩) ?_ ?_
  rotate_left
  ·intro w'
   go_simp
   with_reducible rfl
  rotate_left
  ·simp only [Act.put, List.setIfInBounds_toArray, List.set_cons_zero, List.set_cons_succ, i64_w, i32_w]
   rfl
  refine pure_ (i := 5) (N := some 10) (v := ?_) (a' := ?_) #[true, false, true, false, false, true, false, false, false, false, false] rfl rfl (any_of HT_.out (by kernel_rfl)) (fun _ _ _ h => h) (Or.inl ⟨by rfl, ?_⟩) ?_ ?_
  rotate_left
  ·intro w'
   go_simp
   with_reducible rfl
  rotate_left
  ·simp only [Act.put, List.setIfInBounds_toArray, List.set_cons_zero, List.set_cons_succ, i64_w, i32_w]
   rfl
  refine take_ (i := 1) (N := some 6) (v := ?_) (a' := ?_) #[true, true, true, false, false, true, false, false, false, false, false] rfl rfl (take_ofW HT_.out HW_.out (by kernel_rfl)) (fun _ _ _ h => h) (Or.inl ⟨by rfl, ?_⟩) hHeld ?_ ?_
  rotate_left
  ·rintro w' ⟨s0, s1, s2, s3⟩
   go_simp
   with_reducible rfl
  rotate_left
  ·simp only [Act.put, List.setIfInBounds_toArray, List.set_cons_zero, List.set_cons_succ, i64_w, i32_w]
   rfl
  refine take_ (i := 3) (N := some 8) (v := ?_) (a' := ?_) #[true, true, true, true, false, true, false, false, false, false, false] rfl rfl (take_ofW HT_.out HW_.out (by kernel_rfl)) (fun _ _ _ h => h) (Or.inl ⟨by rfl, ?_⟩) hHeld ?_ ?_
  rotate_left
  ·rintro w' ⟨s0, s1, s2, s3⟩
   go_simp
   with_reducible rfl
  rotate_left
  ·simp only [Act.put, List.setIfInBounds_toArray, List.set_cons_zero, List.set_cons_succ, i64_w, i32_w]
   rfl
  refine take_ (i := 6) (N := some 11) (v := ?_) (a' := ?_) #[true, true, true, true, false, true, true, false, false, false, false] rfl rfl (take_ofW HT_.out HW_.out (by kernel_rfl)) (fun _ _ _ h => h) (Or.inl ⟨by rfl, ?_⟩) hHeld ?_ ?_
  rotate_left
  ·rintro w' ⟨s0, s1, s2, s3⟩
   go_simp
   with_reducible rfl
  rotate_left
  ·simp only [Act.put, List.setIfInBounds_toArray, List.set_cons_zero, List.set_cons_succ, i64_w, i32_w]
   rfl
  refine join_ (σ := Value × Value × Nat) 1 #[true, true, true, true, true, true, true, true, true, true, false] (fun s_ => [(9, s_.1), (12, s_.2.1), (3, .pointer (some ⟨s_.2.2, 0, none⟩)), (13, .agg #[.int .i64 a0_0, .string a0_1, s_.2.1, .slice none 0 0])]) (fun s_ w' => (w'.cell? ⟨gb503, 0, none⟩ = some (.int .i64 a0_0) ∧ w'.cell? ⟨gb503, 1, none⟩ = some (.string a0_1) ∧ w'.cell? ⟨gb503, 2, none⟩ = some (.slice A0_2 l0_2.length c0_2) ∧ w'.cell? ⟨gb503, 3, none⟩ = some (.slice A0_3 l0_3.length c0_3)) ∧ (Kd.R Kd.string 9 w' w.heap.size (fun _ => True) s_.2.1 y508) ∧ (w'.heap[gb503]? = some (.cells #[.int .i64 a0_0, .string a0_1, .slice A0_2 l0_2.length c0_2, .slice A0_3 l0_3.length c0_3] 25 (0, 0))) ∧ (w'.heap[gb504]? = some (.cells #[.int .i64 0, .string (⟨#[]⟩ : ByteArray), .slice none 0 0, .slice none 0 0] 25 (0, 0))) ∧ (w'.heap[s_.2.2]? = some (.cells #[.int .i64 0, .string (⟨#[]⟩ : ByteArray), .slice none 0 0, .slice none 0 0] 25 (0, 0))) ∧ (w.heap.size ≤ s_.2.2) ∧ (w.heap.size ≤ s_.2.2) ∧ (gb503 ≠ s_.2.2) ∧ (s_.2.2 ≠ gb503) ∧ (gb504 ≠ s_.2.2) ∧ (s_.2.2 ≠ gb504) ∧ (Below w.heap.size w w')) ?_ ?_
  rotate_left
  ·intro hCont
   refine two_ (i := 4) (j := 9) (Ni := some 9) (Nj := some 3) #[true, true, true, true, true, true, true, false, false, false, false] #[true, true, true, true, false, true, true, false, false, true, false] rfl rfl rfl rfl (two_of HT_.out (by kernel_rfl)) (by decide) (by decide) (fun K hK => ?_) (fun K hK => ?_)
   ·skip
    refine Kd.R_lit_step Kd.string _ 9 ?hg (N := 9) ?hd (xs := ([] : List ByteArray)) (inner := []) (ok := fun _ => True) (okp := fun _ => True) ?hr ?hp (fun _ hk => hk) trivial (Below.refl _ _) (Nat.le_refl _) (by simp) ?_; (case hd => rfl); (case hg => rfl); (case hr => first | (go_simp; done) | (go_simp; rfl)); (case hp => exact (Reps.none _ _))
    intro v506 w6 ho7 hb hg_ hnew_
    clear hg_ hnew_
    (first | rw [← Ny505.out] at ho7 | (simp only [Int.reduceToNat] at ho7; rw [← Ny505.out] at ho7))
    have n0_ := Aside0.mk (Kd.R_lower ho7 (below_size (by repeat (first | (with_reducible first | exact HB.out | apply below_alloc | apply pw_below_drewN | apply below_drew1 | refine below_set ?_ GE503.out | refine below_set ?_ GE504.out) | exact HB.out))))
    have n1_ := Aside0.mk (blk_below (g := gb503) (o := .cells #[.int .i64 a0_0, .string a0_1, .slice A0_2 l0_2.length c0_2, .slice A0_3 l0_3.length c0_3] 25 (0, 0)) (by (with_reducible repeat (first | refine blk_drewN ?_ _ | refine blk_drew ?_ | refine blk_alloc ?_ _)); exact BK503.out) hb)
    have n2_ := Aside0.mk (blk_below (g := gb504) (o := .cells #[.int .i64 0, .string (⟨#[]⟩ : ByteArray), .slice none 0 0, .slice none 0 0] 25 (0, 0)) (by (with_reducible repeat (first | refine blk_drewN ?_ _ | refine blk_drew ?_ | refine blk_alloc ?_ _)); exact BK504.out) hb)
    have n3_ := Aside0.mk (below_step (by repeat (first | (with_reducible first | exact HB.out | apply below_alloc | apply pw_below_drewN | apply below_drew1 | refine below_set ?_ GE503.out | refine below_set ?_ GE504.out) | exact HB.out)) hb)
    clear BK503
    clear BK504
    clear HB
    have HO507 := n0_
    have BK503 := n1_
    have BK504 := n2_
    have HB := n3_
    clear n0_ n1_ n2_ n3_
    clear hb ho7
    refine hK.out _ _ ⟨(blk_cell BK503.out 0).trans rfl, (blk_cell BK503.out 1).trans rfl, (blk_cell BK503.out 2).trans rfl, (blk_cell BK503.out 3).trans rfl⟩ (fun hHeld => ?_)
    clear hK K
    refine norm_ (a' := ?_) ?_ ?_
    rotate_left
    ·show Act.put _ (some 9) _ = _
     simp only [Act.put, List.setIfInBounds_toArray, List.set_cons_zero, List.set_cons_succ, i64_w, i32_w]
     rfl
    refine two_ (i := 7) (j := 9) (Ni := some 12) (Nj := some 3) #[true, true, true, true, true, true, true, true, false, false, false] #[true, true, true, true, true, true, true, false, false, true, false] rfl rfl rfl rfl (two_of HT_.out (by kernel_rfl)) (by decide) (by decide) (fun K hK => ?_) (fun K hK => ?_)
    ·skip
     refine Kd.R_append_rows_step Kd.string (w0 := w) w.heap.size (by rfl) (.tmp 9) (.tmp 11) 22 9 (.string ⟨#[]⟩) 16 rfl Tryd.underlying22 info9 rfl (by decide) (by omega) v506 y505 l0_2 _ _ _ (fun _ => True) (fun _ => False) rfl rfl ?aO ?aR (fun _ _ h => h) (fun _ h => h.elim) ?aF ?aB ?aS ?aL ?_
     (case aR => repeat (first | exact (Kd.C_below HR0_2.out HB.out) | (with_reducible refine Kd.C_alloc ?_ _) | (with_reducible refine Kd.C_drewN ?_ _) | (with_reducible refine Kd.C_drew ?_)))
     (case aB => exact (by repeat (first | (with_reducible first | exact HB.out | apply below_alloc | apply pw_below_drewN | apply below_drew1 | refine below_set ?_ GE503.out | refine below_set ?_ GE504.out) | exact HB.out)))
     (case aF => exact (fun _ _ => trivial))
     (case aO => exact (by (with_reducible repeat (first | apply Kd.R_alloc | apply Kd.R_drewN | apply Kd.R_drew)); exact HO507.out))
     (case aS => exact (below_size (by repeat (first | (with_reducible first | exact HB.out | apply below_alloc | apply pw_below_drewN | apply below_drew1 | refine below_set ?_ GE503.out | refine below_set ?_ GE504.out) | exact HB.out))))
     (case aL => have := LMc2.out; omega)
     intro v509 w8 ho hb hg hat
     rw [← Ny508.out] at ho
     have n0_ := Aside0.mk (blk_grown (g := gb503) (o := .cells #[.int .i64 a0_0, .string a0_1, .slice A0_2 l0_2.length c0_2, .slice A0_3 l0_3.length c0_3] 25 (0, 0)) (by (with_reducible repeat (first | refine blk_drewN ?_ _ | refine blk_drew ?_ | refine blk_alloc ?_ _)); exact BK503.out) hg (Kd.R_ne HO507.out BK503.out (by decide)))
     have n1_ := Aside0.mk (blk_grown (g := gb504) (o := .cells #[.int .i64 0, .string (⟨#[]⟩ : ByteArray), .slice none 0 0, .slice none 0 0] 25 (0, 0)) (by (with_reducible repeat (first | refine blk_drewN ?_ _ | refine blk_drew ?_ | refine blk_alloc ?_ _)); exact BK504.out) hg (Kd.R_ne HO507.out BK504.out (by decide)))
     have n2_ := Aside0.mk (hb)
     have n3_ := Aside0.mk (ho)
     clear BK503
     clear BK504
     clear HB
     clear HO507
     have BK503 := n0_
     have BK504 := n1_
     have HB := n2_
     have HO510 := n3_
     clear n0_ n1_ n2_ n3_
     clear ho hb hg hat
     obtain ⟨Ao9, co9, eo9⟩ := Kd.R_slice HO510.out
     (first | subst eo9 | (injection eo9 with f1_ f2_ f3_; have f4_ := f1_.symm; have f5_ := f3_.symm; clear f1_ f2_ f3_; subst f4_; subst f5_))
     refine hK.out _ _ ⟨(blk_cell BK503.out 0).trans rfl, (blk_cell BK503.out 1).trans rfl, (blk_cell BK503.out 2).trans rfl, (blk_cell BK503.out 3).trans rfl⟩ (fun hHeld => ?_)
     clear hK K
     refine norm_ (a' := ?_) ?_ ?_
     rotate_left
     ·show Act.put _ (some 12) _ = _
      simp only [Act.put, List.setIfInBounds_toArray, List.set_cons_zero, List.set_cons_succ, i64_w, i32_w]
      rfl
     refine pure_ (i := 8) (N := some 13) (v := ?_) (a' := ?_) #[true, true, true, true, true, true, true, true, true, false, false] rfl rfl (any_of HT_.out (by kernel_rfl)) (fun _ _ _ h => h) (Or.inl ⟨by rfl, ?_⟩) ?_ ?_
     rotate_left
     ·intro w'
      go_simp
      with_reducible rfl
     rotate_left
     ·simp only [Act.put, List.setIfInBounds_toArray, List.set_cons_zero, List.set_cons_succ, i64_w, i32_w]
      rfl
     refine one_ (i := 9) (N := some 3) #[true, true, true, true, true, true, true, true, true, true, false] rfl rfl (one_of HT_.out (by kernel_rfl)) (by decide) (fun K hK => ?_)
     refine box_step ?hg (N := 3) ?hd (cs := #[.int .i64 0, .string (⟨#[]⟩ : ByteArray), .slice none 0 0, .slice none 0 0]) (t := 25) ?hr ?_; (case hd => rfl); (case hg => rfl); (case hr => first | (go_simp; done) | (go_simp; rfl))
     intro gb511 hg w10 hbox hb
     have n0_ := Aside0.mk (Kd.R_below (by (with_reducible repeat (first | apply Kd.R_alloc | apply Kd.R_drewN | apply Kd.R_drew)); exact HO510.out) hb)
     have n1_ := Aside0.mk (blk_below (g := gb503) (o := .cells #[.int .i64 a0_0, .string a0_1, .slice A0_2 l0_2.length c0_2, .slice A0_3 l0_3.length c0_3] 25 (0, 0)) (by (with_reducible repeat (first | refine blk_drewN ?_ _ | refine blk_drew ?_ | refine blk_alloc ?_ _)); exact BK503.out) hb)
     have n2_ := Aside0.mk (blk_below (g := gb504) (o := .cells #[.int .i64 0, .string (⟨#[]⟩ : ByteArray), .slice none 0 0, .slice none 0 0] 25 (0, 0)) (by (with_reducible repeat (first | refine blk_drewN ?_ _ | refine blk_drew ?_ | refine blk_alloc ?_ _)); exact BK504.out) hb)
     have n3_ := Aside0.mk (below_step (by repeat (first | (with_reducible first | exact HB.out | apply below_alloc | apply pw_below_drewN | apply below_drew1 | refine below_set ?_ GE503.out | refine below_set ?_ GE504.out) | exact HB.out)) hb)
     have n4_ := Aside0.mk (hbox)
     have n5_ := Aside0.mk ((by rw [hg]; exact (below_size (by repeat (first | (with_reducible first | exact HB.out | apply below_alloc | apply pw_below_drewN | apply below_drew1 | refine below_set ?_ GE503.out | refine below_set ?_ GE504.out) | exact HB.out))) : w.heap.size ≤ gb511))
     have n6_ := Aside0.mk ((by rw [hg]; exact (below_size (by repeat (first | (with_reducible first | exact HB.out | apply below_alloc | apply pw_below_drewN | apply below_drew1 | refine below_set ?_ GE503.out | refine below_set ?_ GE504.out) | exact HB.out))) : w.heap.size ≤ gb511))
     have n7_ := Aside0.mk ((by rw [hg]; exact Nat.ne_of_lt (blk_lt (g := gb503) (o := .cells #[.int .i64 a0_0, .string a0_1, .slice A0_2 l0_2.length c0_2, .slice A0_3 l0_3.length c0_3] 25 (0, 0)) (by (with_reducible repeat (first | refine blk_drewN ?_ _ | refine blk_drew ?_ | refine blk_alloc ?_ _)); exact BK503.out)) : gb503 ≠ gb511))
     have n8_ := Aside0.mk ((by rw [hg]; exact Nat.ne_of_gt (blk_lt (g := gb503) (o := .cells #[.int .i64 a0_0, .string a0_1, .slice A0_2 l0_2.length c0_2, .slice A0_3 l0_3.length c0_3] 25 (0, 0)) (by (with_reducible repeat (first | refine blk_drewN ?_ _ | refine blk_drew ?_ | refine blk_alloc ?_ _)); exact BK503.out)) : gb511 ≠ gb503))
     have n9_ := Aside0.mk ((by rw [hg]; exact Nat.ne_of_lt (blk_lt (g := gb504) (o := .cells #[.int .i64 0, .string (⟨#[]⟩ : ByteArray), .slice none 0 0, .slice none 0 0] 25 (0, 0)) (by (with_reducible repeat (first | refine blk_drewN ?_ _ | refine blk_drew ?_ | refine blk_alloc ?_ _)); exact BK504.out)) : gb504 ≠ gb511))
     have n10_ := Aside0.mk ((by rw [hg]; exact Nat.ne_of_gt (blk_lt (g := gb504) (o := .cells #[.int .i64 0, .string (⟨#[]⟩ : ByteArray), .slice none 0 0, .slice none 0 0] 25 (0, 0)) (by (with_reducible repeat (first | refine blk_drewN ?_ _ | refine blk_drew ?_ | refine blk_alloc ?_ _)); exact BK504.out)) : gb511 ≠ gb504))
     clear HO510
     clear BK503
     clear BK504
     clear HB
     have HO510 := n0_
     have BK503 := n1_
     have BK504 := n2_
     have HB := n3_
     have BK511 := n4_
     have GW511 := n5_
     have GE511 := n6_
     have NB503_511 := n7_
     have NB511_503 := n8_
     have NB504_511 := n9_
     have NB511_504 := n10_
     clear n0_ n1_ n2_ n3_ n4_ n5_ n6_ n7_ n8_ n9_ n10_
     clear hb hbox hg
     refine hK.out _ _ ⟨(blk_cell BK503.out 0).trans rfl, (blk_cell BK503.out 1).trans rfl, (blk_cell BK503.out 2).trans rfl, (blk_cell BK503.out 3).trans rfl⟩ (fun hHeld => ?_)
     clear hK K
     refine norm_ (a' := ?_) ?_ ?_
     rotate_left
     ·show Act.put _ (some 3) _ = _
      simp only [Act.put, List.setIfInBounds_toArray, List.set_cons_zero, List.set_cons_succ, i64_w, i32_w]
      rfl
     exact norm_ (by simp only [putAll, Act.put, List.setIfInBounds_toArray, List.set_cons_zero, List.set_cons_succ]) (hCont (v506, .slice Ao9 y508.length co9, gb511) _ ⟨hHeld, (by (with_reducible repeat (first | apply Kd.R_alloc | apply Kd.R_drewN | apply Kd.R_drew)); exact HO510.out), (by (with_reducible repeat (first | refine blk_drewN ?_ _ | refine blk_drew ?_ | refine blk_alloc ?_ _)); exact BK503.out), (by (with_reducible repeat (first | refine blk_drewN ?_ _ | refine blk_drew ?_ | refine blk_alloc ?_ _)); exact BK504.out), (by (with_reducible repeat (first | refine blk_drewN ?_ _ | refine blk_drew ?_ | refine blk_alloc ?_ _)); exact BK511.out), GW511.out, GE511.out, NB503_511.out, NB511_503.out, NB504_511.out, NB511_504.out, (by repeat (first | (with_reducible first | exact HB.out | apply below_alloc | apply pw_below_drewN | apply below_drew1 | refine below_set ?_ GE503.out | refine below_set ?_ GE504.out | refine below_set ?_ GE511.out) | exact HB.out))⟩)
    ·skip
     refine box_step ?hg (N := 3) ?hd (cs := #[.int .i64 0, .string (⟨#[]⟩ : ByteArray), .slice none 0 0, .slice none 0 0]) (t := 25) ?hr ?_; (case hd => rfl); (case hg => rfl); (case hr => first | (go_simp; done) | (go_simp; rfl))
     intro gb511 hg w8 hbox hb
     have n0_ := Aside0.mk (Kd.R_below (by (with_reducible repeat (first | apply Kd.R_alloc | apply Kd.R_drewN | apply Kd.R_drew)); exact HO507.out) hb)
     have n1_ := Aside0.mk (blk_below (g := gb503) (o := .cells #[.int .i64 a0_0, .string a0_1, .slice A0_2 l0_2.length c0_2, .slice A0_3 l0_3.length c0_3] 25 (0, 0)) (by (with_reducible repeat (first | refine blk_drewN ?_ _ | refine blk_drew ?_ | refine blk_alloc ?_ _)); exact BK503.out) hb)
     have n2_ := Aside0.mk (blk_below (g := gb504) (o := .cells #[.int .i64 0, .string (⟨#[]⟩ : ByteArray), .slice none 0 0, .slice none 0 0] 25 (0, 0)) (by (with_reducible repeat (first | refine blk_drewN ?_ _ | refine blk_drew ?_ | refine blk_alloc ?_ _)); exact BK504.out) hb)
     have n3_ := Aside0.mk (below_step (by repeat (first | (with_reducible first | exact HB.out | apply below_alloc | apply pw_below_drewN | apply below_drew1 | refine below_set ?_ GE503.out | refine below_set ?_ GE504.out) | exact HB.out)) hb)
     have n4_ := Aside0.mk (hbox)
     have n5_ := Aside0.mk ((by rw [hg]; exact (below_size (by repeat (first | (with_reducible first | exact HB.out | apply below_alloc | apply pw_below_drewN | apply below_drew1 | refine below_set ?_ GE503.out | refine below_set ?_ GE504.out) | exact HB.out))) : w.heap.size ≤ gb511))
     have n6_ := Aside0.mk ((by rw [hg]; exact (below_size (by repeat (first | (with_reducible first | exact HB.out | apply below_alloc | apply pw_below_drewN | apply below_drew1 | refine below_set ?_ GE503.out | refine below_set ?_ GE504.out) | exact HB.out))) : w.heap.size ≤ gb511))
     have n7_ := Aside0.mk ((by rw [hg]; exact Nat.ne_of_lt (blk_lt (g := gb503) (o := .cells #[.int .i64 a0_0, .string a0_1, .slice A0_2 l0_2.length c0_2, .slice A0_3 l0_3.length c0_3] 25 (0, 0)) (by (with_reducible repeat (first | refine blk_drewN ?_ _ | refine blk_drew ?_ | refine blk_alloc ?_ _)); exact BK503.out)) : gb503 ≠ gb511))
     have n8_ := Aside0.mk ((by rw [hg]; exact Nat.ne_of_gt (blk_lt (g := gb503) (o := .cells #[.int .i64 a0_0, .string a0_1, .slice A0_2 l0_2.length c0_2, .slice A0_3 l0_3.length c0_3] 25 (0, 0)) (by (with_reducible repeat (first | refine blk_drewN ?_ _ | refine blk_drew ?_ | refine blk_alloc ?_ _)); exact BK503.out)) : gb511 ≠ gb503))
     have n9_ := Aside0.mk ((by rw [hg]; exact Nat.ne_of_lt (blk_lt (g := gb504) (o := .cells #[.int .i64 0, .string (⟨#[]⟩ : ByteArray), .slice none 0 0, .slice none 0 0] 25 (0, 0)) (by (with_reducible repeat (first | refine blk_drewN ?_ _ | refine blk_drew ?_ | refine blk_alloc ?_ _)); exact BK504.out)) : gb504 ≠ gb511))
     have n10_ := Aside0.mk ((by rw [hg]; exact Nat.ne_of_gt (blk_lt (g := gb504) (o := .cells #[.int .i64 0, .string (⟨#[]⟩ : ByteArray), .slice none 0 0, .slice none 0 0] 25 (0, 0)) (by (with_reducible repeat (first | refine blk_drewN ?_ _ | refine blk_drew ?_ | refine blk_alloc ?_ _)); exact BK504.out)) : gb511 ≠ gb504))
     clear HO507
     clear BK503
     clear BK504
     clear HB
     have HO507 := n0_
     have BK503 := n1_
     have BK504 := n2_
     have HB := n3_
     have BK511 := n4_
     have GW511 := n5_
     have GE511 := n6_
     have NB503_511 := n7_
     have NB511_503 := n8_
     have NB504_511 := n9_
     have NB511_504 := n10_
     clear n0_ n1_ n2_ n3_ n4_ n5_ n6_ n7_ n8_ n9_ n10_
     clear hb hbox hg
     refine hK.out _ _ ⟨(blk_cell BK503.out 0).trans rfl, (blk_cell BK503.out 1).trans rfl, (blk_cell BK503.out 2).trans rfl, (blk_cell BK503.out 3).trans rfl⟩ (fun hHeld => ?_)
     clear hK K
     refine norm_ (a' := ?_) ?_ ?_
     rotate_left
     ·show Act.put _ (some 3) _ = _
      simp only [Act.put, List.setIfInBounds_toArray, List.set_cons_zero, List.set_cons_succ, i64_w, i32_w]
      rfl
     refine one_ (i := 7) (N := some 12) #[true, true, true, true, true, true, true, true, false, true, false] rfl rfl (one_of HT_.out (by kernel_rfl)) (by decide) (fun K hK => ?_)
     refine Kd.R_append_rows_step Kd.string (w0 := w) w.heap.size (by rfl) (.tmp 9) (.tmp 11) 22 9 (.string ⟨#[]⟩) 16 rfl Tryd.underlying22 info9 rfl (by decide) (by omega) v506 y505 l0_2 _ _ _ (fun _ => True) (fun _ => False) rfl rfl ?aO ?aR (fun _ _ h => h) (fun _ h => h.elim) ?aF ?aB ?aS ?aL ?_
     (case aR => repeat (first | exact (Kd.C_below HR0_2.out HB.out) | (with_reducible refine Kd.C_alloc ?_ _) | (with_reducible refine Kd.C_drewN ?_ _) | (with_reducible refine Kd.C_drew ?_)))
     (case aB => exact (by repeat (first | (with_reducible first | exact HB.out | apply below_alloc | apply pw_below_drewN | apply below_drew1 | refine below_set ?_ GE503.out | refine below_set ?_ GE504.out | refine below_set ?_ GE511.out) | exact HB.out)))
     (case aF => exact (fun _ _ => trivial))
     (case aO => exact (by (with_reducible repeat (first | apply Kd.R_alloc | apply Kd.R_drewN | apply Kd.R_drew)); exact HO507.out))
     (case aS => exact (below_size (by repeat (first | (with_reducible first | exact HB.out | apply below_alloc | apply pw_below_drewN | apply below_drew1 | refine below_set ?_ GE503.out | refine below_set ?_ GE504.out | refine below_set ?_ GE511.out) | exact HB.out))))
     (case aL => have := LMc2.out; omega)
     intro v509 w9 ho hb hg hat
     rw [← Ny508.out] at ho
     have n0_ := Aside0.mk (blk_grown (g := gb503) (o := .cells #[.int .i64 a0_0, .string a0_1, .slice A0_2 l0_2.length c0_2, .slice A0_3 l0_3.length c0_3] 25 (0, 0)) (by (with_reducible repeat (first | refine blk_drewN ?_ _ | refine blk_drew ?_ | refine blk_alloc ?_ _)); exact BK503.out) hg (Kd.R_ne HO507.out BK503.out (by decide)))
     have n1_ := Aside0.mk (blk_grown (g := gb504) (o := .cells #[.int .i64 0, .string (⟨#[]⟩ : ByteArray), .slice none 0 0, .slice none 0 0] 25 (0, 0)) (by (with_reducible repeat (first | refine blk_drewN ?_ _ | refine blk_drew ?_ | refine blk_alloc ?_ _)); exact BK504.out) hg (Kd.R_ne HO507.out BK504.out (by decide)))
     have n2_ := Aside0.mk (blk_grown (g := gb511) (o := .cells #[.int .i64 0, .string (⟨#[]⟩ : ByteArray), .slice none 0 0, .slice none 0 0] 25 (0, 0)) (by (with_reducible repeat (first | refine blk_drewN ?_ _ | refine blk_drew ?_ | refine blk_alloc ?_ _)); exact BK511.out) hg (Kd.R_ne HO507.out BK511.out (by decide)))
     have n3_ := Aside0.mk (hb)
     have n4_ := Aside0.mk (ho)
     clear BK503
     clear BK504
     clear BK511
     clear HB
     clear HO507
     have BK503 := n0_
     have BK504 := n1_
     have BK511 := n2_
     have HB := n3_
     have HO510 := n4_
     clear n0_ n1_ n2_ n3_ n4_
     clear ho hb hg hat
     obtain ⟨Ao10, co10, eo10⟩ := Kd.R_slice HO510.out
     (first | subst eo10 | (injection eo10 with f1_ f2_ f3_; have f4_ := f1_.symm; have f5_ := f3_.symm; clear f1_ f2_ f3_; subst f4_; subst f5_))
     refine hK.out _ _ ⟨(blk_cell BK503.out 0).trans rfl, (blk_cell BK503.out 1).trans rfl, (blk_cell BK503.out 2).trans rfl, (blk_cell BK503.out 3).trans rfl⟩ (fun hHeld => ?_)
     clear hK K
     refine norm_ (a' := ?_) ?_ ?_
     rotate_left
     ·show Act.put _ (some 12) _ = _
      simp only [Act.put, List.setIfInBounds_toArray, List.set_cons_zero, List.set_cons_succ, i64_w, i32_w]
      rfl
     refine pure_ (i := 8) (N := some 13) (v := ?_) (a' := ?_) #[true, true, true, true, true, true, true, true, true, true, false] rfl rfl (any_of HT_.out (by kernel_rfl)) (fun _ _ _ h => h) (Or.inl ⟨by rfl, ?_⟩) ?_ ?_
     rotate_left
     ·intro w'
      go_simp
      with_reducible rfl
     rotate_left
     ·simp only [Act.put, List.setIfInBounds_toArray, List.set_cons_zero, List.set_cons_succ, i64_w, i32_w]
      rfl
     exact norm_ (by simp only [putAll, Act.put, List.setIfInBounds_toArray, List.set_cons_zero, List.set_cons_succ]) (hCont (v506, .slice Ao10 y508.length co10, gb511) _ ⟨hHeld, (by (with_reducible repeat (first | apply Kd.R_alloc | apply Kd.R_drewN | apply Kd.R_drew)); exact HO510.out), (by (with_reducible repeat (first | refine blk_drewN ?_ _ | refine blk_drew ?_ | refine blk_alloc ?_ _)); exact BK503.out), (by (with_reducible repeat (first | refine blk_drewN ?_ _ | refine blk_drew ?_ | refine blk_alloc ?_ _)); exact BK504.out), (by (with_reducible repeat (first | refine blk_drewN ?_ _ | refine blk_drew ?_ | refine blk_alloc ?_ _)); exact BK511.out), GW511.out, GE511.out, NB503_511.out, NB511_503.out, NB504_511.out, NB511_504.out, (by repeat (first | (with_reducible first | exact HB.out | apply below_alloc | apply pw_below_drewN | apply below_drew1 | refine below_set ?_ GE503.out | refine below_set ?_ GE504.out | refine below_set ?_ GE511.out) | exact HB.out))⟩)
   ·skip
    refine box_step ?hg (N := 3) ?hd (cs := #[.int .i64 0, .string (⟨#[]⟩ : ByteArray), .slice none 0 0, .slice none 0 0]) (t := 25) ?hr ?_; (case hd => rfl); (case hg => rfl); (case hr => first | (go_simp; done) | (go_simp; rfl))
    intro gb511 hg w6 hbox hb
    have n0_ := Aside0.mk (blk_below (g := gb503) (o := .cells #[.int .i64 a0_0, .string a0_1, .slice A0_2 l0_2.length c0_2, .slice A0_3 l0_3.length c0_3] 25 (0, 0)) (by (with_reducible repeat (first | refine blk_drewN ?_ _ | refine blk_drew ?_ | refine blk_alloc ?_ _)); exact BK503.out) hb)
    have n1_ := Aside0.mk (blk_below (g := gb504) (o := .cells #[.int .i64 0, .string (⟨#[]⟩ : ByteArray), .slice none 0 0, .slice none 0 0] 25 (0, 0)) (by (with_reducible repeat (first | refine blk_drewN ?_ _ | refine blk_drew ?_ | refine blk_alloc ?_ _)); exact BK504.out) hb)
    have n2_ := Aside0.mk (below_step (by repeat (first | (with_reducible first | exact HB.out | apply below_alloc | apply pw_below_drewN | apply below_drew1 | refine below_set ?_ GE503.out | refine below_set ?_ GE504.out) | exact HB.out)) hb)
    have n3_ := Aside0.mk (hbox)
    have n4_ := Aside0.mk ((by rw [hg]; exact (below_size (by repeat (first | (with_reducible first | exact HB.out | apply below_alloc | apply pw_below_drewN | apply below_drew1 | refine below_set ?_ GE503.out | refine below_set ?_ GE504.out) | exact HB.out))) : w.heap.size ≤ gb511))
    have n5_ := Aside0.mk ((by rw [hg]; exact (below_size (by repeat (first | (with_reducible first | exact HB.out | apply below_alloc | apply pw_below_drewN | apply below_drew1 | refine below_set ?_ GE503.out | refine below_set ?_ GE504.out) | exact HB.out))) : w.heap.size ≤ gb511))
    have n6_ := Aside0.mk ((by rw [hg]; exact Nat.ne_of_lt (blk_lt (g := gb503) (o := .cells #[.int .i64 a0_0, .string a0_1, .slice A0_2 l0_2.length c0_2, .slice A0_3 l0_3.length c0_3] 25 (0, 0)) (by (with_reducible repeat (first | refine blk_drewN ?_ _ | refine blk_drew ?_ | refine blk_alloc ?_ _)); exact BK503.out)) : gb503 ≠ gb511))
    have n7_ := Aside0.mk ((by rw [hg]; exact Nat.ne_of_gt (blk_lt (g := gb503) (o := .cells #[.int .i64 a0_0, .string a0_1, .slice A0_2 l0_2.length c0_2, .slice A0_3 l0_3.length c0_3] 25 (0, 0)) (by (with_reducible repeat (first | refine blk_drewN ?_ _ | refine blk_drew ?_ | refine blk_alloc ?_ _)); exact BK503.out)) : gb511 ≠ gb503))
    have n8_ := Aside0.mk ((by rw [hg]; exact Nat.ne_of_lt (blk_lt (g := gb504) (o := .cells #[.int .i64 0, .string (⟨#[]⟩ : ByteArray), .slice none 0 0, .slice none 0 0] 25 (0, 0)) (by (with_reducible repeat (first | refine blk_drewN ?_ _ | refine blk_drew ?_ | refine blk_alloc ?_ _)); exact BK504.out)) : gb504 ≠ gb511))
    have n9_ := Aside0.mk ((by rw [hg]; exact Nat.ne_of_gt (blk_lt (g := gb504) (o := .cells #[.int .i64 0, .string (⟨#[]⟩ : ByteArray), .slice none 0 0, .slice none 0 0] 25 (0, 0)) (by (with_reducible repeat (first | refine blk_drewN ?_ _ | refine blk_drew ?_ | refine blk_alloc ?_ _)); exact BK504.out)) : gb511 ≠ gb504))
    clear BK503
    clear BK504
    clear HB
    have BK503 := n0_
    have BK504 := n1_
    have HB := n2_
    have BK511 := n3_
    have GW511 := n4_
    have GE511 := n5_
    have NB503_511 := n6_
    have NB511_503 := n7_
    have NB504_511 := n8_
    have NB511_504 := n9_
    clear n0_ n1_ n2_ n3_ n4_ n5_ n6_ n7_ n8_ n9_
    clear hb hbox hg
    refine hK.out _ _ ⟨(blk_cell BK503.out 0).trans rfl, (blk_cell BK503.out 1).trans rfl, (blk_cell BK503.out 2).trans rfl, (blk_cell BK503.out 3).trans rfl⟩ (fun hHeld => ?_)
    clear hK K
    refine norm_ (a' := ?_) ?_ ?_
    rotate_left
    ·show Act.put _ (some 3) _ = _
     simp only [Act.put, List.setIfInBounds_toArray, List.set_cons_zero, List.set_cons_succ, i64_w, i32_w]
     rfl
    refine one_ (i := 4) (N := some 9) #[true, true, true, true, true, true, true, false, false, true, false] rfl rfl (one_of HT_.out (by kernel_rfl)) (by decide) (fun K hK => ?_)
    refine Kd.R_lit_step Kd.string _ 9 ?hg (N := 9) ?hd (xs := ([] : List ByteArray)) (inner := []) (ok := fun _ => True) (okp := fun _ => True) ?hr ?hp (fun _ hk => hk) trivial (Below.refl _ _) (Nat.le_refl _) (by simp) ?_; (case hd => rfl); (case hg => rfl); (case hr => first | (go_simp; done) | (go_simp; rfl)); (case hp => exact (Reps.none _ _))
    intro v506 w7 ho8 hb hg_ hnew_
    clear hg_ hnew_
    (first | rw [← Ny505.out] at ho8 | (simp only [Int.reduceToNat] at ho8; rw [← Ny505.out] at ho8))
    have n0_ := Aside0.mk (Kd.R_lower ho8 (below_size (by repeat (first | (with_reducible first | exact HB.out | apply below_alloc | apply pw_below_drewN | apply below_drew1 | refine below_set ?_ GE503.out | refine below_set ?_ GE504.out | refine below_set ?_ GE511.out) | exact HB.out))))
    have n1_ := Aside0.mk (blk_below (g := gb503) (o := .cells #[.int .i64 a0_0, .string a0_1, .slice A0_2 l0_2.length c0_2, .slice A0_3 l0_3.length c0_3] 25 (0, 0)) (by (with_reducible repeat (first | refine blk_drewN ?_ _ | refine blk_drew ?_ | refine blk_alloc ?_ _)); exact BK503.out) hb)
    have n2_ := Aside0.mk (blk_below (g := gb504) (o := .cells #[.int .i64 0, .string (⟨#[]⟩ : ByteArray), .slice none 0 0, .slice none 0 0] 25 (0, 0)) (by (with_reducible repeat (first | refine blk_drewN ?_ _ | refine blk_drew ?_ | refine blk_alloc ?_ _)); exact BK504.out) hb)
    have n3_ := Aside0.mk (blk_below (g := gb511) (o := .cells #[.int .i64 0, .string (⟨#[]⟩ : ByteArray), .slice none 0 0, .slice none 0 0] 25 (0, 0)) (by (with_reducible repeat (first | refine blk_drewN ?_ _ | refine blk_drew ?_ | refine blk_alloc ?_ _)); exact BK511.out) hb)
    have n4_ := Aside0.mk (below_step (by repeat (first | (with_reducible first | exact HB.out | apply below_alloc | apply pw_below_drewN | apply below_drew1 | refine below_set ?_ GE503.out | refine below_set ?_ GE504.out | refine below_set ?_ GE511.out) | exact HB.out)) hb)
    clear BK503
    clear BK504
    clear BK511
    clear HB
    have HO507 := n0_
    have BK503 := n1_
    have BK504 := n2_
    have BK511 := n3_
    have HB := n4_
    clear n0_ n1_ n2_ n3_ n4_
    clear hb ho8
    refine hK.out _ _ ⟨(blk_cell BK503.out 0).trans rfl, (blk_cell BK503.out 1).trans rfl, (blk_cell BK503.out 2).trans rfl, (blk_cell BK503.out 3).trans rfl⟩ (fun hHeld => ?_)
    clear hK K
    refine norm_ (a' := ?_) ?_ ?_
    rotate_left
    ·show Act.put _ (some 9) _ = _
     simp only [Act.put, List.setIfInBounds_toArray, List.set_cons_zero, List.set_cons_succ, i64_w, i32_w]
     rfl
    refine one_ (i := 7) (N := some 12) #[true, true, true, true, true, true, true, true, false, true, false] rfl rfl (one_of HT_.out (by kernel_rfl)) (by decide) (fun K hK => ?_)
    refine Kd.R_append_rows_step Kd.string (w0 := w) w.heap.size (by rfl) (.tmp 9) (.tmp 11) 22 9 (.string ⟨#[]⟩) 16 rfl Tryd.underlying22 info9 rfl (by decide) (by omega) v506 y505 l0_2 _ _ _ (fun _ => True) (fun _ => False) rfl rfl ?aO ?aR (fun _ _ h => h) (fun _ h => h.elim) ?aF ?aB ?aS ?aL ?_
    (case aR => repeat (first | exact (Kd.C_below HR0_2.out HB.out) | (with_reducible refine Kd.C_alloc ?_ _) | (with_reducible refine Kd.C_drewN ?_ _) | (with_reducible refine Kd.C_drew ?_)))
    (case aB => exact (by repeat (first | (with_reducible first | exact HB.out | apply below_alloc | apply pw_below_drewN | apply below_drew1 | refine below_set ?_ GE503.out | refine below_set ?_ GE504.out | refine below_set ?_ GE511.out) | exact HB.out)))
    (case aF => exact (fun _ _ => trivial))
    (case aO => exact (by (with_reducible repeat (first | apply Kd.R_alloc | apply Kd.R_drewN | apply Kd.R_drew)); exact HO507.out))
    (case aS => exact (below_size (by repeat (first | (with_reducible first | exact HB.out | apply below_alloc | apply pw_below_drewN | apply below_drew1 | refine below_set ?_ GE503.out | refine below_set ?_ GE504.out | refine below_set ?_ GE511.out) | exact HB.out))))
    (case aL => have := LMc2.out; omega)
    intro v509 w9 ho hb hg hat
    rw [← Ny508.out] at ho
    have n0_ := Aside0.mk (blk_grown (g := gb503) (o := .cells #[.int .i64 a0_0, .string a0_1, .slice A0_2 l0_2.length c0_2, .slice A0_3 l0_3.length c0_3] 25 (0, 0)) (by (with_reducible repeat (first | refine blk_drewN ?_ _ | refine blk_drew ?_ | refine blk_alloc ?_ _)); exact BK503.out) hg (Kd.R_ne HO507.out BK503.out (by decide)))
    have n1_ := Aside0.mk (blk_grown (g := gb504) (o := .cells #[.int .i64 0, .string (⟨#[]⟩ : ByteArray), .slice none 0 0, .slice none 0 0] 25 (0, 0)) (by (with_reducible repeat (first | refine blk_drewN ?_ _ | refine blk_drew ?_ | refine blk_alloc ?_ _)); exact BK504.out) hg (Kd.R_ne HO507.out BK504.out (by decide)))
    have n2_ := Aside0.mk (blk_grown (g := gb511) (o := .cells #[.int .i64 0, .string (⟨#[]⟩ : ByteArray), .slice none 0 0, .slice none 0 0] 25 (0, 0)) (by (with_reducible repeat (first | refine blk_drewN ?_ _ | refine blk_drew ?_ | refine blk_alloc ?_ _)); exact BK511.out) hg (Kd.R_ne HO507.out BK511.out (by decide)))
    have n3_ := Aside0.mk (hb)
    have n4_ := Aside0.mk (ho)
    clear BK503
    clear BK504
    clear BK511
    clear HB
    clear HO507
    have BK503 := n0_
    have BK504 := n1_
    have BK511 := n2_
    have HB := n3_
    have HO510 := n4_
    clear n0_ n1_ n2_ n3_ n4_
    clear ho hb hg hat
    obtain ⟨Ao10, co10, eo10⟩ := Kd.R_slice HO510.out
    (first | subst eo10 | (injection eo10 with f1_ f2_ f3_; have f4_ := f1_.symm; have f5_ := f3_.symm; clear f1_ f2_ f3_; subst f4_; subst f5_))
    refine hK.out _ _ ⟨(blk_cell BK503.out 0).trans rfl, (blk_cell BK503.out 1).trans rfl, (blk_cell BK503.out 2).trans rfl, (blk_cell BK503.out 3).trans rfl⟩ (fun hHeld => ?_)
    clear hK K
    refine norm_ (a' := ?_) ?_ ?_
    rotate_left
    ·show Act.put _ (some 12) _ = _
     simp only [Act.put, List.setIfInBounds_toArray, List.set_cons_zero, List.set_cons_succ, i64_w, i32_w]
     rfl
    refine pure_ (i := 8) (N := some 13) (v := ?_) (a' := ?_) #[true, true, true, true, true, true, true, true, true, true, false] rfl rfl (any_of HT_.out (by kernel_rfl)) (fun _ _ _ h => h) (Or.inl ⟨by rfl, ?_⟩) ?_ ?_
    rotate_left
    ·intro w'
     go_simp
     with_reducible rfl
    rotate_left
    ·simp only [Act.put, List.setIfInBounds_toArray, List.set_cons_zero, List.set_cons_succ, i64_w, i32_w]
     rfl
    exact norm_ (by simp only [putAll, Act.put, List.setIfInBounds_toArray, List.set_cons_zero, List.set_cons_succ]) (hCont (v506, .slice Ao10 y508.length co10, gb511) _ ⟨hHeld, (by (with_reducible repeat (first | apply Kd.R_alloc | apply Kd.R_drewN | apply Kd.R_drew)); exact HO510.out), (by (with_reducible repeat (first | refine blk_drewN ?_ _ | refine blk_drew ?_ | refine blk_alloc ?_ _)); exact BK503.out), (by (with_reducible repeat (first | refine blk_drewN ?_ _ | refine blk_drew ?_ | refine blk_alloc ?_ _)); exact BK504.out), (by (with_reducible repeat (first | refine blk_drewN ?_ _ | refine blk_drew ?_ | refine blk_alloc ?_ _)); exact BK511.out), GW511.out, GE511.out, NB503_511.out, NB511_503.out, NB504_511.out, NB511_504.out, (by repeat (first | (with_reducible first | exact HB.out | apply below_alloc | apply pw_below_drewN | apply below_drew1 | refine below_set ?_ GE503.out | refine below_set ?_ GE504.out | refine below_set ?_ GE511.out) | exact HB.out))⟩)
  rintro ⟨v506, v509, gb511⟩ w11 ⟨hS_, h0_, h1_, h2_, h3_, h4_, h5_, h6_, h7_, h8_, h9_, h10_⟩
  have n0_ : Aside0 (Kd.R Kd.string 9 w11 w.heap.size (fun _ => True) v509 y508) := ⟨h0_⟩
  have n1_ : Aside0 (w11.heap[gb503]? = some (.cells #[.int .i64 a0_0, .string a0_1, .slice A0_2 l0_2.length c0_2, .slice A0_3 l0_3.length c0_3] 25 (0, 0))) := ⟨h1_⟩
  have n2_ : Aside0 (w11.heap[gb504]? = some (.cells #[.int .i64 0, .string (⟨#[]⟩ : ByteArray), .slice none 0 0, .slice none 0 0] 25 (0, 0))) := ⟨h2_⟩
  have n3_ : Aside0 (w11.heap[gb511]? = some (.cells #[.int .i64 0, .string (⟨#[]⟩ : ByteArray), .slice none 0 0, .slice none 0 0] 25 (0, 0))) := ⟨h3_⟩
  have n4_ : Aside0 (w.heap.size ≤ gb511) := ⟨h4_⟩
  have n5_ : Aside0 (w.heap.size ≤ gb511) := ⟨h5_⟩
  have n6_ : Aside0 (gb503 ≠ gb511) := ⟨h6_⟩
  have n7_ : Aside0 (gb511 ≠ gb503) := ⟨h7_⟩
  have n8_ : Aside0 (gb504 ≠ gb511) := ⟨h8_⟩
  have n9_ : Aside0 (gb511 ≠ gb504) := ⟨h9_⟩
  have n10_ : Aside0 (Below w.heap.size w w11) := ⟨h10_⟩
  clear BK503
  clear BK504
  clear HB
  clear h0_ h1_ h2_ h3_ h4_ h5_ h6_ h7_ h8_ h9_ h10_
  have HO510 := n0_
  have BK503 := n1_
  have BK504 := n2_
  have BK511 := n3_
  have GW511 := n4_
  have GE511 := n5_
  have NB503_511 := n6_
  have NB511_503 := n7_
  have NB504_511 := n8_
  have NB511_504 := n9_
  have HB := n10_
  clear n0_ n1_ n2_ n3_ n4_ n5_ n6_ n7_ n8_ n9_ n10_
  have hHeld : w11.cell? ⟨gb503, 0, none⟩ = some (.int .i64 a0_0) ∧ w11.cell? ⟨gb503, 1, none⟩ = some (.string a0_1) ∧ w11.cell? ⟨gb503, 2, none⟩ = some (.slice A0_2 l0_2.length c0_2) ∧ w11.cell? ⟨gb503, 3, none⟩ = some (.slice A0_3 l0_3.length c0_3) := hS_
  obtain ⟨Ao12, co12, eo12⟩ := Kd.R_slice HO510.out
  (first | subst eo12 | (injection eo12 with f1_ f2_ f3_; have f4_ := f1_.symm; have f5_ := f3_.symm; clear f1_ f2_ f3_; subst f4_; subst f5_))
  refine norm_ (a' := ?_) ?_ ?_
  rotate_left
  ·simp only [putAll, Act.put, List.setIfInBounds_toArray, List.set_cons_zero, List.set_cons_succ]
   rfl
  refine one_ (i := 10) (N := none) #[true, true, true, true, true, true, true, true, true, true, true] rfl rfl (one_of HT_.out (by kernel_rfl)) (by decide) (fun K hK => ?_)
  have hs13 : w11.cell? ⟨gb511, 0, none⟩ = some (.int .i64 0) := (blk_cell BK511.out 0).trans rfl
  have hfs13 := blk_frozen BK511.out 0
  have hns13_0 := NB503_511.out
  have hns13_1 := NB504_511.out
  have hms13_0 := NB511_503.out
  have hms13_1 := NB511_504.out
  have hs14 : w11.cell? ⟨gb511, 1, none⟩ = some (.string (⟨#[]⟩ : ByteArray)) := (blk_cell BK511.out 1).trans rfl
  have hfs14 := blk_frozen BK511.out 1
  have hns14_0 := NB503_511.out
  have hns14_1 := NB504_511.out
  have hms14_0 := NB511_503.out
  have hms14_1 := NB511_504.out
  have hs15 : w11.cell? ⟨gb511, 2, none⟩ = some (.slice none 0 0) := (blk_cell BK511.out 2).trans rfl
  have hfs15 := blk_frozen BK511.out 2
  have hns15_0 := NB503_511.out
  have hns15_1 := NB504_511.out
  have hms15_0 := NB511_503.out
  have hms15_1 := NB511_504.out
  have hs16 : w11.cell? ⟨gb511, 3, none⟩ = some (.slice none 0 0) := (blk_cell BK511.out 3).trans rfl
  have hfs16 := blk_frozen BK511.out 3
  have hns16_0 := NB503_511.out
  have hns16_1 := NB504_511.out
  have hms16_0 := NB511_503.out
  have hms16_1 := NB511_504.out
  refine skip_ (w1 := ?_) (by rfl) rfl ?_ ?_
  rotate_left
  ·go_simp
   rfl
  refine hK.out _ _ ⟨((cell_far (p := ⟨gb511, _, none⟩) NB503_511.out _).trans (((cell_far (p := ⟨gb511, _, none⟩) NB503_511.out _).trans (((cell_far (p := ⟨gb511, _, none⟩) NB503_511.out _).trans (((cell_far (p := ⟨gb511, _, none⟩) NB503_511.out _).trans (hHeld.1)))))))), ((cell_far (p := ⟨gb511, _, none⟩) NB503_511.out _).trans (((cell_far (p := ⟨gb511, _, none⟩) NB503_511.out _).trans (((cell_far (p := ⟨gb511, _, none⟩) NB503_511.out _).trans (((cell_far (p := ⟨gb511, _, none⟩) NB503_511.out _).trans (hHeld.2.1)))))))), ((cell_far (p := ⟨gb511, _, none⟩) NB503_511.out _).trans (((cell_far (p := ⟨gb511, _, none⟩) NB503_511.out _).trans (((cell_far (p := ⟨gb511, _, none⟩) NB503_511.out _).trans (((cell_far (p := ⟨gb511, _, none⟩) NB503_511.out _).trans (hHeld.2.2.1)))))))), ((cell_far (p := ⟨gb511, _, none⟩) NB503_511.out _).trans (((cell_far (p := ⟨gb511, _, none⟩) NB503_511.out _).trans (((cell_far (p := ⟨gb511, _, none⟩) NB503_511.out _).trans (((cell_far (p := ⟨gb511, _, none⟩) NB503_511.out _).trans (hHeld.2.2.2))))))))⟩ (fun hHeld => ?_)
  clear hK K
  refine done_ (done_of HT_.out (by kernel_rfl)) ?_
  try go_wp2
  go_loopg [4] k (fun kq v4 w' => ∃ (x4_1 : Int) (x512003_1 : List (S25)) (u512003 : Value), v4 = .int .i64 x4_1 ∧ Aside0 (wicketref04_Twin.l0 kq x4_1 a0_0 a0_1 l0_2 l0_3 a0_0 a0_1 y508 x512003_1 = some (r1, r2, r3, r4)) ∧ Aside0 (kq ≤ k) ∧ Aside0 (Kd.R Kd.string 9 w' w.heap.size (fun _ => True) (.slice Ao12 y508.length co12) y508) ∧ Aside0 (Kd.R k25 25 w' w.heap.size (fun k_ => some k_ ≠ ((.slice Ao12 y508.length co12) : Value).ownBlock ∧ k_ ≠ gb503 ∧ k_ ≠ gb504 ∧ k_ ≠ gb511) u512003 x512003_1) ∧ Aside0 (w'.heap[gb503]? = some (.cells #[.int .i64 a0_0, .string a0_1, (.slice A0_2 l0_2.length c0_2), (.slice A0_3 l0_3.length c0_3)] 25 (0, 0))) ∧ Aside0 (w'.heap[gb504]? = some (.cells #[.int .i64 0, .string (⟨#[]⟩ : ByteArray), (.slice none 0 0), (.slice none 0 0)] 25 (0, 0))) ∧ Aside0 (w'.heap[gb511]? = some (.cells #[.int .i64 a0_0, .string a0_1, (.slice Ao12 y508.length co12), u512003] 25 (0, 0))) ∧ Aside0 (Below w.heap.size w w'))
  case atStart => exact ⟨(0), (([] : List (S25))), (.slice none 0 0), (by first | rfl | (simp; done) | (simp [*]; done)), H', ⟨Nat.le_refl _⟩, ⟨by (with_reducible repeat (first | apply Kd.R_alloc | apply Kd.R_drewN | apply Kd.R_drew)); exact Kd.R_mono (Kd.R_far (p := ⟨gb511, 3, none⟩) (Kd.R_far (p := ⟨gb511, 2, none⟩) (Kd.R_far (p := ⟨gb511, 1, none⟩) (Kd.R_far (p := ⟨gb511, 0, none⟩) (Kd.R_types HO510.out BK511.out (by decide)) (fun _ hk => hk.2) (.int .i64 a0_0)) (fun _ hk => hk.2) (.string a0_1)) (fun _ hk => hk.2) (.slice Ao12 y508.length co12)) (fun _ hk => hk.2) (.slice none 0 0)) (fun _ hk => trivial)⟩, ⟨by first | exact Kd.R_nil _ _ _ _ _ | exact Kd.N_nil _ _ _ _ _ | exact Kd.V_nil _ _ _ _ _ | exact Kd.Q_nil _ _ _ _ _ | exact Kd.S_nil _ _ _ _ _⟩, ⟨by (with_reducible repeat (first | refine blk_drewN ?_ _ | refine blk_drew ?_ | refine blk_alloc ?_ _)); refine blk_far ?_ NB503_511.out _; (with_reducible repeat (first | refine blk_drewN ?_ _ | refine blk_drew ?_ | refine blk_alloc ?_ _)); refine blk_far ?_ NB503_511.out _; (with_reducible repeat (first | refine blk_drewN ?_ _ | refine blk_drew ?_ | refine blk_alloc ?_ _)); refine blk_far ?_ NB503_511.out _; (with_reducible repeat (first | refine blk_drewN ?_ _ | refine blk_drew ?_ | refine blk_alloc ?_ _)); refine blk_far ?_ NB503_511.out _; (with_reducible repeat (first | refine blk_drewN ?_ _ | refine blk_drew ?_ | refine blk_alloc ?_ _)); exact BK503.out⟩, ⟨by (with_reducible repeat (first | refine blk_drewN ?_ _ | refine blk_drew ?_ | refine blk_alloc ?_ _)); refine blk_far ?_ NB504_511.out _; (with_reducible repeat (first | refine blk_drewN ?_ _ | refine blk_drew ?_ | refine blk_alloc ?_ _)); refine blk_far ?_ NB504_511.out _; (with_reducible repeat (first | refine blk_drewN ?_ _ | refine blk_drew ?_ | refine blk_alloc ?_ _)); refine blk_far ?_ NB504_511.out _; (with_reducible repeat (first | refine blk_drewN ?_ _ | refine blk_drew ?_ | refine blk_alloc ?_ _)); refine blk_far ?_ NB504_511.out _; (with_reducible repeat (first | refine blk_drewN ?_ _ | refine blk_drew ?_ | refine blk_alloc ?_ _)); exact BK504.out⟩, ⟨by (with_reducible repeat (first | refine blk_drewN ?_ _ | refine blk_drew ?_ | refine blk_alloc ?_ _)); refine blk_put (cs := #[.int .i64 a0_0, .string a0_1, .slice Ao12 y508.length co12, .slice none 0 0]) ?_ 3 _ rfl; (with_reducible repeat (first | refine blk_drewN ?_ _ | refine blk_drew ?_ | refine blk_alloc ?_ _)); refine blk_put (cs := #[.int .i64 a0_0, .string a0_1, .slice none 0 0, .slice none 0 0]) ?_ 2 _ rfl; (with_reducible repeat (first | refine blk_drewN ?_ _ | refine blk_drew ?_ | refine blk_alloc ?_ _)); refine blk_put (cs := #[.int .i64 a0_0, .string (⟨#[]⟩ : ByteArray), .slice none 0 0, .slice none 0 0]) ?_ 1 _ rfl; (with_reducible repeat (first | refine blk_drewN ?_ _ | refine blk_drew ?_ | refine blk_alloc ?_ _)); refine blk_put (cs := #[.int .i64 0, .string (⟨#[]⟩ : ByteArray), .slice none 0 0, .slice none 0 0]) ?_ 0 _ rfl; (with_reducible repeat (first | refine blk_drewN ?_ _ | refine blk_drew ?_ | refine blk_alloc ?_ _)); exact BK511.out⟩, ⟨by repeat (first | (with_reducible first | exact HB.out | apply below_alloc | apply pw_below_drewN | apply below_drew1 | refine below_set ?_ GE503.out | refine below_set ?_ GE504.out | refine below_set ?_ GE511.out) | exact HB.out)⟩⟩
  case round =>
   clear H'
   try clear c1
   try clear c2
   try clear p2
   obtain ⟨x4_1, x512003_1, u512003, rfl, HA, HK1, HO_512002, HO_512003, BK503, BK504, BK511, HB⟩ := hrel
   cases gk with
   | zero => exact absurd HA.out (by simp [wicketref04_Twin.l0])
   | succ k1 =>
    have H := HA.out
    clear HA
    simp only [wicketref04_Twin.l0] at H
    by_cases c17 : x4_1 < (l0_3.length : Int)
    ·rw [if_pos c17] at H
     have c17b0 : decide (x4_1 < (l0_3.length : Int)) = true := decide_eq_true c17
     clear c17
     by_cases c18 : 0 ≤ x4_1
     ·rw [if_pos c18] at H
      have c18b0 : decide (0 ≤ x4_1) = true := decide_eq_true c18
      clear c18
      replace H := Option.bind_eq_some_iff.mp H
      obtain ⟨⟨t513, t514, t515, t518⟩, A190, H⟩ := H
      replace H : (if x512003_1.length < 1954687338268 then (wicketref04_Twin.l0 k1 (wrap64 (x4_1 + 1)) a0_0 a0_1 l0_2 l0_3 a0_0 a0_1 y508 (x512003_1 ++ [(⟨t513, t514, t515, t518⟩ : S25)])) else (none)) = some (r1, r2, r3, r4) := H
      have A19 := Aside0.mk A190
      clear A190
      by_cases c20 : x512003_1.length < 1954687338268
      ·rw [if_pos c20] at H
       have LMc20 := Aside0.mk c20
       clear c20
       obtain ⟨y521, hy521⟩ : ∃ y_ : List (S25), y_ = (x512003_1 ++ [(⟨t513, t514, t515, t518⟩ : S25)]) := ⟨_, rfl⟩
       replace H : (wicketref04_Twin.l0 k1 (wrap64 (x4_1 + 1)) a0_0 a0_1 l0_2 l0_3 a0_0 a0_1 y508 y521) = some (r1, r2, r3, r4) := by first | (rw [hy521]; with_reducible exact H) | (have H2_ := (Option.bind_some _ _).symm.trans H; rw [hy521]; with_reducible exact H2_) | (have H2_ := (Option.bind_some _ _).symm.trans H; with_reducible exact H2_) | with_reducible exact H | (rw [hy521]; exact H) | exact H
       have Ny521 := Aside0.mk hy521
       clear hy521
       have H' := Aside0.mk H
       clear H
       have hnb21 := NB503_504.out
       have hnc21 := NB504_503.out
       have hnb22 := NB503_511.out
       have hnc22 := NB511_503.out
       have hcz23_0 : wr.cell? ⟨gb503, 0, none⟩ = some (.int .i64 a0_0) := (blk_cell BK503.out 0).trans rfl
       have hcz23_1 : wr.cell? ⟨gb503, 1, none⟩ = some (.string a0_1) := (blk_cell BK503.out 1).trans rfl
       have hcz23_2 : wr.cell? ⟨gb503, 2, none⟩ = some (.slice A0_2 l0_2.length c0_2) := (blk_cell BK503.out 2).trans rfl
       have hcz23_3 : wr.cell? ⟨gb503, 3, none⟩ = some (.slice A0_3 l0_3.length c0_3) := (blk_cell BK503.out 3).trans rfl
       have hfz23_0 := blk_frozen BK503.out 0
       have hfz23_1 := blk_frozen BK503.out 1
       have hfz23_2 := blk_frozen BK503.out 2
       have hfz23_3 := blk_frozen BK503.out 3
       try go_wp2
       have n0_ := Aside0.mk (Kd.R_drew HO_512002.out)
       have n1_ := Aside0.mk (Kd.R_drew HO_512003.out)
       have n2_ := Aside0.mk (blk_drew BK503.out)
       have n3_ := Aside0.mk (blk_drew BK504.out)
       have n4_ := Aside0.mk (blk_drew BK511.out)
       have n5_ := Aside0.mk (below_drew1 HB.out)
       clear HO_512002
       clear HO_512003
       clear BK503
       clear BK504
       clear BK511
       clear HB
       have HO_512002 := n0_
       have HO_512003 := n1_
       have BK503 := n2_
       have BK504 := n3_
       have BK511 := n4_
       have HB := n5_
       clear n0_ n1_ n2_ n3_ n4_ n5_
       have p512 : 0 ≤ (x4_1 : Int) := of_decide_eq_true (by first | (with_reducible assumption) | assumption)
       have q512 : x4_1 < (l0_3.length : Int) := of_decide_eq_true (by first | (with_reducible assumption) | assumption)
       obtain ⟨ad512, A512_2, c512_2, A512_3, c512_3, e512, hx512_0, hx512_1, hx512_2, hx512_3, hl512_2, hi512_2, hl512_3, hi512_3⟩ := at_T25 HR0_3.out x4_1 p512 q512
       have hw512_3 := hx512_3
       have hw512_2 := hx512_2
       have hw512_1 := hx512_1
       have hw512_0 := hx512_0
       cases e512
       replace hx512_0 := (HB.out.cell (World.block_lt_of_cell? w _ hx512_0)).trans hx512_0
       replace hx512_1 := (HB.out.cell (World.block_lt_of_cell? w _ hx512_1)).trans hx512_1
       replace hx512_2 := (HB.out.cell (World.block_lt_of_cell? w _ hx512_2)).trans hx512_2
       replace hx512_3 := (HB.out.cell (World.block_lt_of_cell? w _ hx512_3)).trans hx512_3
       have HR512_2 := Aside0.mk hi512_2
       have HC512_2 := Aside0.mk hl512_2
       clear hi512_2 hl512_2
       have HR512_3 := Aside0.mk hi512_3
       have HC512_3 := Aside0.mk hl512_3
       clear hi512_3 hl512_3
       replace p512 := eq_true p512
       replace q512 := eq_true q512
       refine start_ (n := 12) (S := fun w' => w'.cell? ⟨gb511, 0, none⟩ = some (.int .i64 a0_0) ∧ w'.cell? ⟨gb511, 1, none⟩ = some (.string a0_1) ∧ w'.cell? ⟨gb511, 2, none⟩ = some (.slice Ao12 y508.length co12) ∧ w'.cell? ⟨gb511, 3, none⟩ = some (u512003) ∧ w'.cell? ⟨gb503, 0, none⟩ = some (.int .i64 a0_0) ∧ w'.cell? ⟨gb503, 1, none⟩ = some (.string a0_1) ∧ w'.cell? ⟨gb503, 2, none⟩ = some (.slice A0_2 l0_2.length c0_2) ∧ w'.cell? ⟨gb503, 3, none⟩ = some (.slice (some ad512) l0_3.length c0_3) ∧ w'.cell? (ad512.add ((x4_1).toNat * 4)) = some (.int .i64 ((rd_T25 l0_3 x4_1).f0)) ∧ w'.cell? ⟨(ad512.add ((x4_1).toNat * 4)).block, (ad512.add ((x4_1).toNat * 4)).off + 1, none⟩ = some (.string ((rd_T25 l0_3 x4_1).f1)) ∧ w'.cell? ⟨(ad512.add ((x4_1).toNat * 4)).block, (ad512.add ((x4_1).toNat * 4)).off + 2, none⟩ = some (.slice A512_2 ((rd_T25 l0_3 x4_1).f2).length c512_2) ∧ w'.cell? ⟨(ad512.add ((x4_1).toNat * 4)).block, (ad512.add ((x4_1).toNat * 4)).off + 3, none⟩ = some (.slice A512_3 ((rd_T25 l0_3 x4_1).f3).length c512_3)) (ds := [11]) #[false, false, false, false, false, false, false, false, false, false, false, false] (by kernel_rfl) rfl rfl ⟨(blk_cell BK511.out 0).trans rfl, (blk_cell BK511.out 1).trans rfl, (blk_cell BK511.out 2).trans rfl, (blk_cell BK511.out 3).trans rfl, (blk_cell BK503.out 0).trans rfl, (blk_cell BK503.out 1).trans rfl, (blk_cell BK503.out 2).trans rfl, (blk_cell BK503.out 3).trans rfl, ((HB.out.cell (World.block_lt_of_cell? w _ hw512_0)).trans hw512_0), ((HB.out.cell (World.block_lt_of_cell? w _ hw512_1)).trans hw512_1), ((HB.out.cell (World.block_lt_of_cell? w _ hw512_2)).trans hw512_2), ((HB.out.cell (World.block_lt_of_cell? w _ hw512_3)).trans hw512_3)⟩ (fun hHeld => ?_); refine with_tabW wicketref04_Twin.tab5 wicketref04_Twin.bits5 (fun HT_ HW_ => ?_)
       generalize wr.drew = w24 at HO_512002 HO_512003 BK503 BK504 BK511 HB HR512_2 HR512_3 hx512_0 hx512_1 hx512_2 hx512_3 hHeld ⊢
       refine pure_ (i := 0) (N := some 21) (v := ?_) (a' := ?_) #[true, false, false, false, false, false, false, false, false, false, false, false] rfl rfl (any_of HT_.out (by kernel_rfl)) (fun _ _ _ h => h) (Or.inl ⟨by rfl, ?_⟩) ?_ ?_
       rotate_left
       ·intro w'
        go_simp
        with_reducible rfl
       rotate_left
       ·simp only [Act.put, List.setIfInBounds_toArray, List.set_cons_zero, List.set_cons_succ, i64_w, i32_w]
        rfl
       refine pure_ (i := 2) (N := some 23) (v := ?_) (a' := ?_) #[true, false, true, false, false, false, false, false, false, false, false, false] rfl rfl (any_of HT_.out (by kernel_rfl)) (fun _ _ _ h => h) (Or.inl ⟨by rfl, ?_⟩) ?_ ?_
       rotate_left
       ·intro w'
        go_simp
        with_reducible rfl
       rotate_left
       ·simp only [Act.put, List.setIfInBounds_toArray, List.set_cons_zero, List.set_cons_succ, i64_w, i32_w]
        rfl
       refine pure_ (i := 4) (N := some 25) (v := ?_) (a' := ?_) #[true, false, true, false, true, false, false, false, false, false, false, false] rfl rfl (any_of HT_.out (by kernel_rfl)) (fun _ _ _ h => h) (Or.inl ⟨by rfl, ?_⟩) ?_ ?_
       rotate_left
       ·intro w'
        go_simp
        with_reducible rfl
       rotate_left
       ·simp only [Act.put, List.setIfInBounds_toArray, List.set_cons_zero, List.set_cons_succ, i64_w, i32_w]
        rfl
       refine take_ (i := 1) (N := some 22) (v := ?_) (a' := ?_) #[true, true, true, false, true, false, false, false, false, false, false, false] rfl rfl (take_ofW HT_.out HW_.out (by kernel_rfl)) (fun _ _ _ h => h) (Or.inl ⟨by rfl, ?_⟩) hHeld ?_ ?_
       rotate_left
       ·rintro w' ⟨s0, s1, s2, s3, s4, s5, s6, s7, s8, s9, s10, s11⟩
        go_simp
        with_reducible rfl
       rotate_left
       ·simp only [Act.put, List.setIfInBounds_toArray, List.set_cons_zero, List.set_cons_succ, i64_w, i32_w]
        rfl
       refine take_ (i := 3) (N := some 24) (v := ?_) (a' := ?_) #[true, true, true, true, true, false, false, false, false, false, false, false] rfl rfl (take_ofW HT_.out HW_.out (by kernel_rfl)) (fun _ _ _ h => h) (Or.inl ⟨by rfl, ?_⟩) hHeld ?_ ?_
       rotate_left
       ·rintro w' ⟨s0, s1, s2, s3, s4, s5, s6, s7, s8, s9, s10, s11⟩
        go_simp
        with_reducible rfl
       rotate_left
       ·simp only [Act.put, List.setIfInBounds_toArray, List.set_cons_zero, List.set_cons_succ, i64_w, i32_w]
        rfl
       refine pure_ (i := 5) (N := some 26) (v := ?_) (a' := ?_) #[true, true, true, true, true, true, false, false, false, false, false, false] rfl rfl (any_of HT_.out (by kernel_rfl)) (fun _ _ _ h => h) (Or.inl ⟨by rfl, ?_⟩) ?_ ?_
       rotate_left
       ·intro w'
        go_simp
        with_reducible rfl
       rotate_left
       ·simp only [Act.put, List.setIfInBounds_toArray, List.set_cons_zero, List.set_cons_succ, i64_w, i32_w]
        rfl
       refine take_ (i := 6) (N := some 27) (v := ?_) (a' := ?_) #[true, true, true, true, true, true, true, false, false, false, false, false] rfl rfl (take_ofW HT_.out HW_.out (by kernel_rfl)) (fun _ _ _ h => h) (Or.inl ⟨by rfl, ?_⟩) hHeld ?_ ?_
       rotate_left
       ·rintro w' ⟨s0, s1, s2, s3, s4, s5, s6, s7, s8, s9, s10, s11⟩
        go_simp
        with_reducible rfl
       rotate_left
       ·simp only [Act.put, List.setIfInBounds_toArray, List.set_cons_zero, List.set_cons_succ, i64_w, i32_w]
        rfl
       refine one_ (i := 7) (N := some 28) #[true, true, true, true, true, true, true, true, false, false, false, false] rfl rfl (one_of HT_.out (by kernel_rfl)) (by decide) (fun K hK => ?_)
       refine goes_ Tryd.func18 (by kernel_rfl) rfl #[.agg #[.int .i64 ((rd_T25 l0_3 x4_1).f0), .string ((rd_T25 l0_3 x4_1).f1), .slice A512_2 ((rd_T25 l0_3 x4_1).f2).length c512_2, .slice A512_3 ((rd_T25 l0_3 x4_1).f3).length c512_3]] (by rfl) rfl rfl (by (try simp only [List.map_toArray, List.map_cons, List.map_nil]); first | done | rfl | (simp only [List.length_drop, List.length_take]; rfl)) ?_
       with_reducible refine (ih k1 (by have := HK1.out; omega) ((rd_T25 l0_3 x4_1).f0) ((rd_T25 l0_3 x4_1).f1) _ _ ((rd_T25 l0_3 x4_1).f2) _ _ ((rd_T25 l0_3 x4_1).f3) t513 t514 t515 t518 _ ?side1 ?side2 ?side3 ?side4 A19.out).mono ?_
       (case side1 => repeat (first | exact (Kd.C_below HR512_2.out HB.out) | (with_reducible refine Kd.C_alloc ?_ _) | (with_reducible refine Kd.C_drewN ?_ _) | (with_reducible refine Kd.C_drew ?_)))
       (case side2 => exact HC512_2.out)
       (case side3 => repeat (first | exact (Kd.C_below HR512_3.out HB.out) | (with_reducible refine Kd.C_alloc ?_ _) | (with_reducible refine Kd.C_drewN ?_ _) | (with_reducible refine Kd.C_drew ?_)))
       (case side4 => exact HC512_3.out)
       rintro e w25 ⟨v516, v519, rfl, ho0, ho1, hb⟩
       refine ⟨_, rfl, ?_⟩
       have n0_ := Aside0.mk (Kd.R_elder' (by (with_reducible repeat (first | apply Kd.R_alloc | apply Kd.R_drewN | apply Kd.R_drew)); exact HO_512002.out) (Kd.R_base ho0) hb)
       have n1_ := Aside0.mk (Kd.R_mono (Kd.R_told (Kd.R_told (Kd.R_old (by (with_reducible repeat (first | apply Kd.R_alloc | apply Kd.R_drewN | apply Kd.R_drew)); exact HO_512003.out) hb) (Kd.R_base ho0)) (Kd.R_base ho1)) (fun _ h_ => h_.1))
       have n2_ := Aside0.mk (Kd.R_lower (Kd.R_new' ho0 (Kd.R_lt (by (with_reducible repeat (first | apply Kd.R_alloc | apply Kd.R_drewN | apply Kd.R_drew)); exact HO_512002.out))) (below_size (by repeat (first | (with_reducible first | exact HB.out | apply below_alloc | apply pw_below_drewN | apply below_drew1 | refine below_set ?_ GE503.out | refine below_set ?_ GE504.out | refine below_set ?_ GE511.out) | exact HB.out))))
       have n3_ := Aside0.mk (Kd.R_lower (Kd.R_newB (Kd.R_newB (Kd.R_newB (Kd.R_new' (Kd.R_new' ho1 (Kd.R_lt (by (with_reducible repeat (first | apply Kd.R_alloc | apply Kd.R_drewN | apply Kd.R_drew)); exact HO_512002.out))) (Kd.R_lt (by (with_reducible repeat (first | apply Kd.R_alloc | apply Kd.R_drewN | apply Kd.R_drew)); exact HO_512003.out))) (g := gb503) (o := .cells #[.int .i64 a0_0, .string a0_1, .slice A0_2 l0_2.length c0_2, .slice (some ad512) l0_3.length c0_3] 25 (0, 0)) (by (with_reducible repeat (first | refine blk_drewN ?_ _ | refine blk_drew ?_ | refine blk_alloc ?_ _)); exact BK503.out)) (g := gb504) (o := .cells #[.int .i64 0, .string (⟨#[]⟩ : ByteArray), .slice none 0 0, .slice none 0 0] 25 (0, 0)) (by (with_reducible repeat (first | refine blk_drewN ?_ _ | refine blk_drew ?_ | refine blk_alloc ?_ _)); exact BK504.out)) (g := gb511) (o := .cells #[.int .i64 a0_0, .string a0_1, .slice Ao12 y508.length co12, u512003] 25 (0, 0)) (by (with_reducible repeat (first | refine blk_drewN ?_ _ | refine blk_drew ?_ | refine blk_alloc ?_ _)); exact BK511.out)) (below_size (by repeat (first | (with_reducible first | exact HB.out | apply below_alloc | apply pw_below_drewN | apply below_drew1 | refine below_set ?_ GE503.out | refine below_set ?_ GE504.out | refine below_set ?_ GE511.out) | exact HB.out))))
       have n4_ := Aside0.mk (blk_below (g := gb503) (o := .cells #[.int .i64 a0_0, .string a0_1, .slice A0_2 l0_2.length c0_2, .slice (some ad512) l0_3.length c0_3] 25 (0, 0)) (by (with_reducible repeat (first | refine blk_drewN ?_ _ | refine blk_drew ?_ | refine blk_alloc ?_ _)); exact BK503.out) hb)
       have n5_ := Aside0.mk (blk_below (g := gb504) (o := .cells #[.int .i64 0, .string (⟨#[]⟩ : ByteArray), .slice none 0 0, .slice none 0 0] 25 (0, 0)) (by (with_reducible repeat (first | refine blk_drewN ?_ _ | refine blk_drew ?_ | refine blk_alloc ?_ _)); exact BK504.out) hb)
       have n6_ := Aside0.mk (blk_below (g := gb511) (o := .cells #[.int .i64 a0_0, .string a0_1, .slice Ao12 y508.length co12, u512003] 25 (0, 0)) (by (with_reducible repeat (first | refine blk_drewN ?_ _ | refine blk_drew ?_ | refine blk_alloc ?_ _)); exact BK511.out) hb)
       have n7_ := Aside0.mk (below_step (by repeat (first | (with_reducible first | exact HB.out | apply below_alloc | apply pw_below_drewN | apply below_drew1 | refine below_set ?_ GE503.out | refine below_set ?_ GE504.out | refine below_set ?_ GE511.out) | exact HB.out)) hb)
       clear HO_512002
       clear HO_512003
       clear BK503
       clear BK504
       clear BK511
       clear HB
       have HO_512002 := n0_
       have HO_512003 := n1_
       have HO517 := n2_
       have HO520 := n3_
       have BK503 := n4_
       have BK504 := n5_
       have BK511 := n6_
       have HB := n7_
       clear n0_ n1_ n2_ n3_ n4_ n5_ n6_ n7_
       (try clear hb)
       (try clear hb2)
       (try clear hk)
       (try clear hi)
       (try clear ho0)
       (try clear ho1)
       obtain ⟨Ao27, co27, eo27⟩ := Kd.R_slice HO517.out
       (first | subst eo27 | (injection eo27 with f1_ f2_ f3_; have f4_ := f1_.symm; have f5_ := f3_.symm; clear f1_ f2_ f3_; subst f4_; subst f5_))
       obtain ⟨Ao28, co28, eo28⟩ := Kd.R_slice HO520.out
       (first | subst eo28 | (injection eo28 with f1_ f2_ f3_; have f4_ := f1_.symm; have f5_ := f3_.symm; clear f1_ f2_ f3_; subst f4_; subst f5_))
       refine hK.out _ _ ⟨(blk_cell BK511.out 0).trans rfl, (blk_cell BK511.out 1).trans rfl, (blk_cell BK511.out 2).trans rfl, (blk_cell BK511.out 3).trans rfl, (blk_cell BK503.out 0).trans rfl, (blk_cell BK503.out 1).trans rfl, (blk_cell BK503.out 2).trans rfl, (blk_cell BK503.out 3).trans rfl, ((HB.out.cell (World.block_lt_of_cell? w _ hw512_0)).trans hw512_0), ((HB.out.cell (World.block_lt_of_cell? w _ hw512_1)).trans hw512_1), ((HB.out.cell (World.block_lt_of_cell? w _ hw512_2)).trans hw512_2), ((HB.out.cell (World.block_lt_of_cell? w _ hw512_3)).trans hw512_3)⟩ (fun hHeld => ?_)
       clear hK K
       refine norm_ (a' := ?_) ?_ ?_
       rotate_left
       ·show Act.put _ (some 28) _ = _
        simp only [Act.put, List.setIfInBounds_toArray, List.set_cons_zero, List.set_cons_succ, i64_w, i32_w]
        rfl
       refine one_ (i := 8) (N := some 29) #[true, true, true, true, true, true, true, true, true, false, false, false] rfl rfl (one_of HT_.out (by kernel_rfl)) (by decide) (fun K hK => ?_)
       refine value_ (w1 := ?_) (v := ?_) (by rfl) rfl ?_ ?_
       rotate_left 2
       ·go_simp
        constructor
        ·rfl
        ·rfl
       refine hK.out _ _ ⟨(blk_cell (blk_alloc BK511.out _) 0).trans rfl, (blk_cell (blk_alloc BK511.out _) 1).trans rfl, (blk_cell (blk_alloc BK511.out _) 2).trans rfl, (blk_cell (blk_alloc BK511.out _) 3).trans rfl, (blk_cell (blk_alloc BK503.out _) 0).trans rfl, (blk_cell (blk_alloc BK503.out _) 1).trans rfl, (blk_cell (blk_alloc BK503.out _) 2).trans rfl, (blk_cell (blk_alloc BK503.out _) 3).trans rfl, (World.cell?_alloc_lt _ _ _ (World.block_lt_of_cell? _ _ (((HB.out.cell (World.block_lt_of_cell? w _ hw512_0)).trans hw512_0)))).trans (((HB.out.cell (World.block_lt_of_cell? w _ hw512_0)).trans hw512_0)), (World.cell?_alloc_lt _ _ _ (World.block_lt_of_cell? _ _ (((HB.out.cell (World.block_lt_of_cell? w _ hw512_1)).trans hw512_1)))).trans (((HB.out.cell (World.block_lt_of_cell? w _ hw512_1)).trans hw512_1)), (World.cell?_alloc_lt _ _ _ (World.block_lt_of_cell? _ _ (((HB.out.cell (World.block_lt_of_cell? w _ hw512_2)).trans hw512_2)))).trans (((HB.out.cell (World.block_lt_of_cell? w _ hw512_2)).trans hw512_2)), (World.cell?_alloc_lt _ _ _ (World.block_lt_of_cell? _ _ (((HB.out.cell (World.block_lt_of_cell? w _ hw512_3)).trans hw512_3)))).trans (((HB.out.cell (World.block_lt_of_cell? w _ hw512_3)).trans hw512_3))⟩ (fun hHeld => ?_)
       clear hK K
       refine norm_ (a' := ?_) ?_ ?_
       rotate_left
       ·show Act.put _ (some 29) _ = _
        simp only [Act.put, List.setIfInBounds_toArray, List.set_cons_zero, List.set_cons_succ, i64_w, i32_w]
        rfl
       refine one_ (i := 9) (N := some 30) #[true, true, true, true, true, true, true, true, true, true, false, false] rfl rfl (one_of HT_.out (by kernel_rfl)) (by decide) (fun K hK => ?_)
       refine Kd.R_append_step k25 (w0 := w) w.heap.size (by rfl) (.tmp 22) (.tmp 29) 23 25 (.agg #[(.int .i64 0), (.string ⟨#[]⟩), (.slice none 0 0), (.slice none 0 0)]) 72 rfl Tryd.underlying23 info25 rfl (by decide) (by omega) u512003 x512003_1 (⟨t513, t514, t515, t518⟩ : S25) [.int .i64 t513, .string t514, .slice Ao27 t515.length co27, .slice Ao28 t518.length co28] (fun k_ => some k_ ≠ (.slice Ao12 y508.length co12 : Value).ownBlock ∧ k_ ≠ gb503 ∧ k_ ≠ gb504 ∧ k_ ≠ gb511) (fun k_ => ((fun k_ => some k_ ≠ (.slice Ao12 y508.length co12 : Value).ownBlock ∧ k_ ≠ gb503 ∧ k_ ≠ gb504 ∧ k_ ≠ gb511)) k_ ∧ some k_ ≠ (u512003 : Value).ownBlock) rfl rfl ?aP (fun _ hk => hk) ?aF ?aO ?aB ?aS ?aL ?_
       (case aP => exact k25_mkM _ _ _ (⟨t513, t514, t515, t518⟩ : S25) (Kd.R_mono (Kd.R_types (Kd.R_types (Kd.R_types (Kd.R_apart' (HO517.out) (Kd.R_typed HO_512003.out) (by decide)) BK503.out (by decide)) BK504.out (by decide)) BK511.out (by decide)) (fun k_ hk => ⟨⟨hk.1.1.1.1.2, ⟨hk.1.1.2, ⟨hk.1.2, hk.2⟩⟩⟩, hk.1.1.1.2⟩)) (Kd.R_mono (HO520.out) (fun k_ hk => ⟨⟨hk.1.1.1.1.2, ⟨hk.1.1.2, ⟨hk.1.2, hk.2⟩⟩⟩, hk.1.1.1.2⟩)))
       (case aB => exact (by repeat (first | (with_reducible first | exact HB.out | apply below_alloc | apply pw_below_drewN | apply below_drew1 | refine below_set ?_ GE503.out | refine below_set ?_ GE504.out | refine below_set ?_ GE511.out) | exact HB.out)))
       (case aF => exact (fun k_ hk => ⟨Kd.fresh' (Kd.R_lt (by (with_reducible repeat (first | apply Kd.R_alloc | apply Kd.R_drewN | apply Kd.R_drew)); exact HO_512002.out)) k_ hk, Kd.freshB (g := gb503) (o := .cells #[.int .i64 a0_0, .string a0_1, .slice A0_2 l0_2.length c0_2, .slice (some ad512) l0_3.length c0_3] 25 (0, 0)) (by (with_reducible repeat (first | refine blk_drewN ?_ _ | refine blk_drew ?_ | refine blk_alloc ?_ _)); exact BK503.out) k_ hk, Kd.freshB (g := gb504) (o := .cells #[.int .i64 0, .string (⟨#[]⟩ : ByteArray), .slice none 0 0, .slice none 0 0] 25 (0, 0)) (by (with_reducible repeat (first | refine blk_drewN ?_ _ | refine blk_drew ?_ | refine blk_alloc ?_ _)); exact BK504.out) k_ hk, Kd.freshB (g := gb511) (o := .cells #[.int .i64 a0_0, .string a0_1, .slice Ao12 y508.length co12, u512003] 25 (0, 0)) (by (with_reducible repeat (first | refine blk_drewN ?_ _ | refine blk_drew ?_ | refine blk_alloc ?_ _)); exact BK511.out) k_ hk⟩))
       (case aO => exact (by (with_reducible repeat (first | apply Kd.R_alloc | apply Kd.R_drewN | apply Kd.R_drew)); exact Kd.R_mono HO_512003.out (fun _ hk => ⟨hk.1.1.1, ⟨hk.1.1.2.1, ⟨hk.1.1.2.2.1, hk.1.1.2.2.2⟩⟩⟩)))
       (case aS => exact (below_size (by repeat (first | (with_reducible first | exact HB.out | apply below_alloc | apply pw_below_drewN | apply below_drew1 | refine below_set ?_ GE503.out | refine below_set ?_ GE504.out | refine below_set ?_ GE511.out) | exact HB.out))))
       (case aL => have := LMc20.out; omega)
       intro v522 w26 ho hb hg hat
       rw [← Ny521.out] at ho
       have n0_ := Aside0.mk (Kd.R_over' (by (with_reducible repeat (first | apply Kd.R_alloc | apply Kd.R_drewN | apply Kd.R_drew)); exact HO_512002.out) (Kd.R_typed (by (with_reducible repeat (first | apply Kd.R_alloc | apply Kd.R_drewN | apply Kd.R_drew)); exact HO_512003.out)) (by decide) hg)
       have n1_ := Aside0.mk (blk_grown (g := gb503) (o := .cells #[.int .i64 a0_0, .string a0_1, .slice A0_2 l0_2.length c0_2, .slice (some ad512) l0_3.length c0_3] 25 (0, 0)) (by (with_reducible repeat (first | refine blk_drewN ?_ _ | refine blk_drew ?_ | refine blk_alloc ?_ _)); exact BK503.out) hg (Kd.R_away HO_512003.out (fun _ hk => hk.1.1.2.1)))
       have n2_ := Aside0.mk (blk_grown (g := gb504) (o := .cells #[.int .i64 0, .string (⟨#[]⟩ : ByteArray), .slice none 0 0, .slice none 0 0] 25 (0, 0)) (by (with_reducible repeat (first | refine blk_drewN ?_ _ | refine blk_drew ?_ | refine blk_alloc ?_ _)); exact BK504.out) hg (Kd.R_away HO_512003.out (fun _ hk => hk.1.1.2.2.1)))
       have n3_ := Aside0.mk (blk_grown (g := gb511) (o := .cells #[.int .i64 a0_0, .string a0_1, .slice Ao12 y508.length co12, u512003] 25 (0, 0)) (by (with_reducible repeat (first | refine blk_drewN ?_ _ | refine blk_drew ?_ | refine blk_alloc ?_ _)); exact BK511.out) hg (Kd.R_away HO_512003.out (fun _ hk => hk.1.1.2.2.2)))
       have n4_ := Aside0.mk (hb)
       have n5_ := Aside0.mk (ho)
       clear HO_512002
       clear BK503
       clear BK504
       clear BK511
       clear HB
       clear HO_512003
       clear HO517
       clear HO520
       have HO_512002 := n0_
       have BK503 := n1_
       have BK504 := n2_
       have BK511 := n3_
       have HB := n4_
       have HO523 := n5_
       clear n0_ n1_ n2_ n3_ n4_ n5_
       clear ho hb hg hat
       obtain ⟨Ao29, co29, eo29⟩ := Kd.R_slice HO523.out
       (first | subst eo29 | (injection eo29 with f1_ f2_ f3_; have f4_ := f1_.symm; have f5_ := f3_.symm; clear f1_ f2_ f3_; subst f4_; subst f5_))
       refine hK.out _ _ ⟨(blk_cell BK511.out 0).trans rfl, (blk_cell BK511.out 1).trans rfl, (blk_cell BK511.out 2).trans rfl, (blk_cell BK511.out 3).trans rfl, (blk_cell BK503.out 0).trans rfl, (blk_cell BK503.out 1).trans rfl, (blk_cell BK503.out 2).trans rfl, (blk_cell BK503.out 3).trans rfl, ((HB.out.cell (World.block_lt_of_cell? w _ hw512_0)).trans hw512_0), ((HB.out.cell (World.block_lt_of_cell? w _ hw512_1)).trans hw512_1), ((HB.out.cell (World.block_lt_of_cell? w _ hw512_2)).trans hw512_2), ((HB.out.cell (World.block_lt_of_cell? w _ hw512_3)).trans hw512_3)⟩ (fun hHeld => ?_)
       clear hK K
       refine norm_ (a' := ?_) ?_ ?_
       rotate_left
       ·show Act.put _ (some 30) _ = _
        simp only [Act.put, List.setIfInBounds_toArray, List.set_cons_zero, List.set_cons_succ, i64_w, i32_w]
        rfl
       refine pure_ (i := 10) (N := some 31) (v := ?_) (a' := ?_) #[true, true, true, true, true, true, true, true, true, true, true, false] rfl rfl (any_of HT_.out (by kernel_rfl)) (fun _ _ _ h => h) (Or.inl ⟨by rfl, ?_⟩) ?_ ?_
       rotate_left
       ·intro w'
        go_simp
        with_reducible rfl
       rotate_left
       ·simp only [Act.put, List.setIfInBounds_toArray, List.set_cons_zero, List.set_cons_succ, i64_w, i32_w]
        rfl
       refine last_ (i := 11) (N := none) #[true, true, true, true, true, true, true, true, true, true, true, true] rfl rfl (one_of HT_.out (by kernel_rfl)) (by decide) (fun K hK => ?_)
       have hs30 : w26.cell? ⟨gb511, 3, none⟩ = some (u512003) := (blk_cell BK511.out 3).trans rfl
       have hfs30 := blk_frozen BK511.out 3
       have hns30_0 := NB503_511.out
       have hns30_1 := NB504_511.out
       have hms30_0 := NB511_503.out
       have hms30_1 := NB511_504.out
       refine skip_ (w1 := ?_) (by rfl) rfl ?_ ?_
       rotate_left
       ·go_simp
        rfl
       refine hK.out _ _ ?_
       clear hK K
       refine done_ (done_of HT_.out (by kernel_rfl)) ?_
       try go_wp2
       go_roundg k1
       case measure => have := HK1.out; omega
       case rel => exact ⟨(wrap64 (x4_1 + 1)), (y521), (.slice Ao29 y521.length co29), (by first | rfl | (simp; done) | (simp [*]; done)), H', ⟨by have := HK1.out; omega⟩, ⟨by (with_reducible repeat (first | apply Kd.R_alloc | apply Kd.R_drewN | apply Kd.R_drew)); exact Kd.R_mono (Kd.R_far (p := ⟨gb511, 3, none⟩) (Kd.R_types HO_512002.out BK511.out (by decide)) (fun _ hk => hk.2) (.slice Ao29 y521.length co29)) (fun _ hk => trivial)⟩, ⟨by (with_reducible repeat (first | apply Kd.R_alloc | apply Kd.R_drewN | apply Kd.R_drew)); exact Kd.R_mono (Kd.R_far (p := ⟨gb511, 3, none⟩) (Kd.R_mono HO523.out (fun k_ hk => (⟨hk, hk.2.2.2⟩ : _ ∧ k_ ≠ gb511))) (fun _ hk => hk.2) (.slice Ao29 y521.length co29)) (fun _ hk => ⟨hk.1.1, ⟨hk.1.2.1, ⟨hk.1.2.2.1, hk.1.2.2.2⟩⟩⟩)⟩, ⟨by (with_reducible repeat (first | refine blk_drewN ?_ _ | refine blk_drew ?_ | refine blk_alloc ?_ _)); refine blk_far ?_ NB503_511.out _; (with_reducible repeat (first | refine blk_drewN ?_ _ | refine blk_drew ?_ | refine blk_alloc ?_ _)); exact BK503.out⟩, ⟨by (with_reducible repeat (first | refine blk_drewN ?_ _ | refine blk_drew ?_ | refine blk_alloc ?_ _)); refine blk_far ?_ NB504_511.out _; (with_reducible repeat (first | refine blk_drewN ?_ _ | refine blk_drew ?_ | refine blk_alloc ?_ _)); exact BK504.out⟩, ⟨by (with_reducible repeat (first | refine blk_drewN ?_ _ | refine blk_drew ?_ | refine blk_alloc ?_ _)); refine blk_put (cs := #[.int .i64 a0_0, .string a0_1, .slice Ao12 y508.length co12, u512003]) ?_ 3 _ rfl; (with_reducible repeat (first | refine blk_drewN ?_ _ | refine blk_drew ?_ | refine blk_alloc ?_ _)); exact BK511.out⟩, ⟨by repeat (first | (with_reducible first | exact HB.out | apply below_alloc | apply pw_below_drewN | apply below_drew1 | refine below_set ?_ GE503.out | refine below_set ?_ GE504.out | refine below_set ?_ GE511.out) | exact HB.out)⟩⟩
      ·rw [if_neg c20] at H
       exact absurd H (by simp)
     ·rw [if_neg c18] at H
      exact absurd H (by simp)
    ·rw [if_neg c17] at H
     have c17b0 : decide (x4_1 < (l0_3.length : Int)) = false := decide_eq_false c17
     clear c17
     simp only [Option.some.injEq, Prod.mk.injEq] at H
     obtain ⟨rfl, rfl, rfl, rfl⟩ := H
     have hnb31 := NB503_504.out
     have hnc31 := NB504_503.out
     have hnb32 := NB503_511.out
     have hnc32 := NB511_503.out
     have hcz33_0 : wr.cell? ⟨gb503, 0, none⟩ = some (.int .i64 a0_0) := (blk_cell BK503.out 0).trans rfl
     have hcz33_1 : wr.cell? ⟨gb503, 1, none⟩ = some (.string a0_1) := (blk_cell BK503.out 1).trans rfl
     have hcz33_2 : wr.cell? ⟨gb503, 2, none⟩ = some (.slice A0_2 l0_2.length c0_2) := (blk_cell BK503.out 2).trans rfl
     have hcz33_3 : wr.cell? ⟨gb503, 3, none⟩ = some (.slice A0_3 l0_3.length c0_3) := (blk_cell BK503.out 3).trans rfl
     have hfz33_0 := blk_frozen BK503.out 0
     have hfz33_1 := blk_frozen BK503.out 1
     have hfz33_2 := blk_frozen BK503.out 2
     have hfz33_3 := blk_frozen BK503.out 3
     have hnb34 := NB511_504.out
     have hnc34 := NB504_511.out
     have hcz35_0 : wr.cell? ⟨gb511, 0, none⟩ = some (.int .i64 a0_0) := (blk_cell BK511.out 0).trans rfl
     have hcz35_1 : wr.cell? ⟨gb511, 1, none⟩ = some (.string a0_1) := (blk_cell BK511.out 1).trans rfl
     have hcz35_2 : wr.cell? ⟨gb511, 2, none⟩ = some (.slice Ao12 y508.length co12) := (blk_cell BK511.out 2).trans rfl
     have hcz35_3 : wr.cell? ⟨gb511, 3, none⟩ = some (u512003) := (blk_cell BK511.out 3).trans rfl
     have hfz35_0 := blk_frozen BK511.out 0
     have hfz35_1 := blk_frozen BK511.out 1
     have hfz35_2 := blk_frozen BK511.out 2
     have hfz35_3 := blk_frozen BK511.out 3
     have hcz36_0 : wr.cell? ⟨gb504, 0, none⟩ = some (.int .i64 0) := (blk_cell BK504.out 0).trans rfl
     have hcz36_1 : wr.cell? ⟨gb504, 1, none⟩ = some (.string (⟨#[]⟩ : ByteArray)) := (blk_cell BK504.out 1).trans rfl
     have hcz36_2 : wr.cell? ⟨gb504, 2, none⟩ = some (.slice none 0 0) := (blk_cell BK504.out 2).trans rfl
     have hcz36_3 : wr.cell? ⟨gb504, 3, none⟩ = some (.slice none 0 0) := (blk_cell BK504.out 3).trans rfl
     have hfz36_0 := blk_frozen BK504.out 0
     have hfz36_1 := blk_frozen BK504.out 1
     have hfz36_2 := blk_frozen BK504.out 2
     have hfz36_3 := blk_frozen BK504.out 3
     obtain ⟨Ao37, co37, eo37⟩ := Kd.R_slice HO_512003.out
     subst eo37
     go_wp2
     refine bodyPost_ret (results_cell_row rfl _ _ gb504 25 #[.int .i64 a0_0, .string a0_1, .slice Ao12 y508.length co12, .slice Ao37 x512003_1.length co37] (0, 0) _ rfl (by (with_reducible repeat (first | refine blk_drewN ?_ _ | refine blk_drew ?_ | refine blk_alloc ?_ _)); refine blk_put (cs := #[.int .i64 a0_0, .string a0_1, .slice Ao12 y508.length co12, .slice none 0 0]) ?_ 3 _ rfl; (with_reducible repeat (first | refine blk_drewN ?_ _ | refine blk_drew ?_ | refine blk_alloc ?_ _)); refine blk_put (cs := #[.int .i64 a0_0, .string a0_1, .slice none 0 0, .slice none 0 0]) ?_ 2 _ rfl; (with_reducible repeat (first | refine blk_drewN ?_ _ | refine blk_drew ?_ | refine blk_alloc ?_ _)); refine blk_put (cs := #[.int .i64 a0_0, .string (⟨#[]⟩ : ByteArray), .slice none 0 0, .slice none 0 0]) ?_ 1 _ rfl; (with_reducible repeat (first | refine blk_drewN ?_ _ | refine blk_drew ?_ | refine blk_alloc ?_ _)); refine blk_put (cs := #[.int .i64 0, .string (⟨#[]⟩ : ByteArray), .slice none 0 0, .slice none 0 0]) ?_ 0 _ rfl; (with_reducible repeat (first | refine blk_drewN ?_ _ | refine blk_drew ?_ | refine blk_alloc ?_ _)); exact BK504.out) Tryd.underlying25 rfl (by kernel_rfl)) rfl ?_
     exact ⟨_, _, by first | rfl | (simp [errW_none, errW_some] <;> rfl) | (simp [*, errW_none, errW_some] <;> rfl), by (with_reducible repeat (first | apply Kd.R_alloc | apply Kd.R_drewN | apply Kd.R_drew)); exact Kd.R_mono (Kd.R_far (p := ⟨gb504, 3, none⟩) (Kd.R_far (p := ⟨gb504, 2, none⟩) (Kd.R_far (p := ⟨gb504, 1, none⟩) (Kd.R_far (p := ⟨gb504, 0, none⟩) (Kd.R_types HO_512002.out BK504.out (by decide)) (fun _ hk => hk.2) (.int .i64 a0_0)) (fun _ hk => hk.2) (.string a0_1)) (fun _ hk => hk.2) (.slice Ao12 y508.length co12)) (fun _ hk => hk.2) (.slice Ao37 x512003_1.length co37)) (fun _ hk => trivial), by (with_reducible repeat (first | apply Kd.R_alloc | apply Kd.R_drewN | apply Kd.R_drew)); exact Kd.R_mono (Kd.R_far (p := ⟨gb504, 3, none⟩) (Kd.R_far (p := ⟨gb504, 2, none⟩) (Kd.R_far (p := ⟨gb504, 1, none⟩) (Kd.R_far (p := ⟨gb504, 0, none⟩) (Kd.R_mono HO_512003.out (fun k_ hk => (⟨hk, hk.2.2.1⟩ : _ ∧ k_ ≠ gb504))) (fun _ hk => hk.2) (.int .i64 a0_0)) (fun _ hk => hk.2) (.string a0_1)) (fun _ hk => hk.2) (.slice Ao12 y508.length co12)) (fun _ hk => hk.2) (.slice Ao37 x512003_1.length co37)) (fun _ hk => hk.1.1), by repeat (first | (with_reducible first | exact HB.out | apply below_alloc | apply pw_below_drewN | apply below_drew1 | refine below_set ?_ GE503.out | refine below_set ?_ GE504.out | refine below_set ?_ GE511.out) | exact HB.out)⟩
 ·rw [if_neg c2] at H
  exact absurd H (by simp)
mutual
def wicketref04_Parts.l0 : Nat → Int → Int → Int → Int → ByteArray → List ByteArray → List (S25) → Option (Int)
 | 0, _, _, _, _, _, _, _ => none
 | k + 1, x1, x5, x6, x499000, x499001, x499002, x499003 => if x6 < (x499003.length : Int) then (if x5 ≤ x1 then (if 0 ≤ x6 then ((wicketref04_Parts.f k ((rd_T25 x499003 x6).f0) ((rd_T25 x499003 x6).f1) ((rd_T25 x499003 x6).f2) ((rd_T25 x499003 x6).f3) (wrap64 (x1 - x5))).bind fun t500 => (wicketref04_Parts.l0 k x1 (wrap64 (x5 + t500)) (wrap64 (x6 + 1)) x499000 x499001 x499002 x499003)) else (none)) else (some x5)) else (some x5)
def wicketref04_Parts.f : Nat → Int → ByteArray → List ByteArray → List (S25) → Int → Option (Int)
 | 0, _, _, _, _, _ => none
 | k + 1, a0_0, a0_1, l0_2, l0_3, a1 => wicketref04_Parts.l0 k a1 (wrap64 (1 + (l0_2.length : Int))) 0 a0_0 a0_1 l0_2 l0_3
end
theorem wicketref04_Parts.mono_l : ∀ k, (∀ y0 y1 y2 y3 y4, LeO (wicketref04_Parts.f k y0 y1 y2 y3 y4) (wicketref04_Parts.f (k + 1) y0 y1 y2 y3 y4)) ∧ (∀ y0 y1 y2 y3 y4 y5 y6, LeO (wicketref04_Parts.l0 k y0 y1 y2 y3 y4 y5 y6) (wicketref04_Parts.l0 (k + 1) y0 y1 y2 y3 y4 y5 y6))
 | 0 => ⟨fun _ _ _ _ _ r h => by simp [wicketref04_Parts.f] at h, fun _ _ _ _ _ _ _ r h => by simp [wicketref04_Parts.l0] at h⟩
 | k + 1 => by
  obtain ⟨ih0, ih1⟩ := wicketref04_Parts.mono_l k
  refine ⟨?_, ?_⟩
  ·intro y0 y1 y2 y3 y4
   unfold wicketref04_Parts.f
   repeat' first
   | (with_reducible exact ih0 _ _ _ _ _)
   | (with_reducible exact ih1 _ _ _ _ _ _ _)
   | (with_reducible exact LeO.refl _)
   | (with_reducible exact LeO.none _)
   | (with_reducible refine LeO.ite ?_ ?_)
   | (with_reducible refine LeO.bind ?_ (fun _ => ?_))
   | exact ih0 _ _ _ _ _
   | exact ih1 _ _ _ _ _ _ _
   | exact LeO.none _
   | refine LeO.ite ?_ ?_
   | refine LeO.bind ?_ (fun _ => ?_)
  ·intro y0 y1 y2 y3 y4 y5 y6
   unfold wicketref04_Parts.l0
   repeat' first
   | (with_reducible exact ih0 _ _ _ _ _)
   | (with_reducible exact ih1 _ _ _ _ _ _ _)
   | (with_reducible exact LeO.refl _)
   | (with_reducible exact LeO.none _)
   | (with_reducible refine LeO.ite ?_ ?_)
   | (with_reducible refine LeO.bind ?_ (fun _ => ?_))
   | exact ih0 _ _ _ _ _
   | exact ih1 _ _ _ _ _ _ _
   | exact LeO.none _
   | refine LeO.ite ?_ ?_
   | refine LeO.bind ?_ (fun _ => ?_)
theorem wicketref04_Parts.mono : ∀ a0 a1 a2 a3 a4 k, LeO (wicketref04_Parts.f k a0 a1 a2 a3 a4) (wicketref04_Parts.f (k + 1) a0 a1 a2 a3 a4) := by
 intro a0 a1 a2 a3 a4 k
 obtain ⟨ih0, ih1⟩ := wicketref04_Parts.mono_l k
 exact ih0 a0 a1 a2 a3 a4
set_option maxHeartbeats 8000000 in
set_option maxRecDepth 100000 in
theorem wicketref04_Parts.calls (k : Nat) : ∀ (a0_0 : Int) (a0_1 : ByteArray) (A0_2 : Option Addr) (c0_2 : Nat) (l0_2 : List ByteArray) (A0_3 : Option Addr) (c0_3 : Nat) (l0_3 : List (S25)) (a1 : Int) (r : Int) (w : World) (hr0_2 : Kd.C Kd.string w A0_2 l0_2.length l0_2) (hc0_2 : l0_2.length ≤ c0_2) (hr0_3 : Kd.C k25 w A0_3 l0_3.length l0_3) (hc0_3 : l0_3.length ≤ c0_3) (h : wicketref04_Parts.f k a0_0 a0_1 l0_2 l0_3 a1 = some r),
  Calls Tryd.prog 32 #[.agg #[.int .i64 a0_0, .string a0_1, .slice A0_2 l0_2.length c0_2, .slice A0_3 l0_3.length c0_3], .int .i64 a1] w fun e w' => e = .returned (.int .i64 r) ∧ Below w.heap.size w w' := by
 induction k using Nat.strongRecOn with
 | _ k ih =>
 intro a0_0 a0_1 A0_2 c0_2 l0_2 A0_3 c0_3 l0_3 a1 r w hr0_2 hc0_2 hr0_3 hc0_3 h
 cases k with
 | zero => exact absurd h (by simp [wicketref04_Parts.f])
 | succ k =>
 simp only [wicketref04_Parts.f] at h
 have hu25 := Tryd.underlying25
 have HR0_2 := Aside0.mk hr0_2
 have HC0_2 := Aside0.mk hc0_2
 clear hr0_2 hc0_2
 have HR0_3 := Aside0.mk hr0_3
 have HC0_3 := Aside0.mk hc0_3
 clear hr0_3 hc0_3
 have HB := Aside0.mk (Below.refl w.heap.size w)
 have H : (wicketref04_Parts.l0 k a1 (wrap64 (1 + (l0_2.length : Int))) 0 a0_0 a0_1 l0_2 l0_3) = some r := h
 clear h
 have H' := Aside0.mk H
 clear H
 go_enter Tryd.func32, Tryd.ntmps32
 go_wp2_with (first | ((with_reducible refine gate_dst (N := 2) rfl ?_); refine box_event ?hg (N := 2) ?hd (cs := #[.int .i64 a0_0, .string a0_1, .slice A0_2 l0_2.length c0_2, .slice A0_3 l0_3.length c0_3]) (t := 25) ?hr ?_; (case hd => rfl); (case hg => rfl); (case hr => first | (go_simp; done) | (go_simp; rfl)); intro gb498 hg w3 hbox hb; have n0_ := Aside0.mk (below_step (by repeat (first | (with_reducible first | exact HB.out | apply below_alloc | apply pw_below_drewN | apply below_drew1) | exact HB.out)) hb); have n1_ := Aside0.mk (hbox); have n2_ := Aside0.mk ((by rw [hg]; exact (below_size (by repeat (first | (with_reducible first | exact HB.out | apply below_alloc | apply pw_below_drewN | apply below_drew1) | exact HB.out))) : w.heap.size ≤ gb498)); have n3_ := Aside0.mk ((by rw [hg]; exact (below_size (by repeat (first | (with_reducible first | exact HB.out | apply below_alloc | apply pw_below_drewN | apply below_drew1) | exact HB.out))) : w.heap.size ≤ gb498)); clear HB; have HB := n0_; have BK498 := n1_; have GW498 := n2_; have GE498 := n3_; clear n0_ n1_ n2_ n3_; clear hb hbox hg; have hcz4_0 : w3.cell? ⟨gb498, 0, none⟩ = some (.int .i64 a0_0) := (blk_cell BK498.out 0).trans rfl; have hcz4_1 : w3.cell? ⟨gb498, 1, none⟩ = some (.string a0_1) := (blk_cell BK498.out 1).trans rfl; have hcz4_2 : w3.cell? ⟨gb498, 2, none⟩ = some (.slice A0_2 l0_2.length c0_2) := (blk_cell BK498.out 2).trans rfl; have hcz4_3 : w3.cell? ⟨gb498, 3, none⟩ = some (.slice A0_3 l0_3.length c0_3) := (blk_cell BK498.out 3).trans rfl; have hfz4_0 := blk_frozen BK498.out 0; have hfz4_1 := blk_frozen BK498.out 1; have hfz4_2 := blk_frozen BK498.out 2; have hfz4_3 := blk_frozen BK498.out 3))
 go_loopg [5, 6] k (fun kq v5 v6 w' => ∃ (x5_1 : Int) (x6_1 : Int), v5 = .int .i64 x5_1 ∧ v6 = .int .i64 x6_1 ∧ Aside0 (wicketref04_Parts.l0 kq a1 x5_1 x6_1 a0_0 a0_1 l0_2 l0_3 = some r) ∧ Aside0 (kq ≤ k) ∧ Aside0 (w'.heap[gb498]? = some (.cells #[.int .i64 a0_0, .string a0_1, (.slice A0_2 l0_2.length c0_2), (.slice A0_3 l0_3.length c0_3)] 25 (0, 0))) ∧ Aside0 (Below w.heap.size w w'))
 case atStart => exact ⟨(wrap64 (1 + (l0_2.length : Int))), (0), (by first | rfl | (simp; done) | (simp [*]; done)), (by first | rfl | (simp; done) | (simp [*]; done)), H', ⟨Nat.le_refl _⟩, ⟨by (with_reducible repeat (first | refine blk_drewN ?_ _ | refine blk_drew ?_ | refine blk_alloc ?_ _)); exact BK498.out⟩, ⟨by repeat (first | (with_reducible first | exact HB.out | apply below_alloc | apply pw_below_drewN | apply below_drew1 | refine below_set ?_ GE498.out) | exact HB.out)⟩⟩
 case round =>
  clear H'
  try clear p2
  try clear c3
  try clear hcz4_0
  try clear hcz4_1
  try clear hcz4_2
  try clear hcz4_3
  try clear hfz4_0
  try clear hfz4_1
  try clear hfz4_2
  try clear hfz4_3
  obtain ⟨x5_1, x6_1, rfl, rfl, HA, HK1, BK498, HB⟩ := hrel
  cases gk with
  | zero => exact absurd HA.out (by simp [wicketref04_Parts.l0])
  | succ k1 =>
   have H := HA.out
   clear HA
   simp only [wicketref04_Parts.l0] at H
   by_cases c5 : x6_1 < (l0_3.length : Int)
   ·rw [if_pos c5] at H
    have c5b0 : decide (x6_1 < (l0_3.length : Int)) = true := decide_eq_true c5
    clear c5
    by_cases c6 : x5_1 ≤ a1
    ·rw [if_pos c6] at H
     have c6b0 : decide (x5_1 ≤ a1) = true := decide_eq_true c6
     clear c6
     by_cases c7 : 0 ≤ x6_1
     ·rw [if_pos c7] at H
      have c7b0 : decide (0 ≤ x6_1) = true := decide_eq_true c7
      clear c7
      replace H := Option.bind_eq_some_iff.mp H
      obtain ⟨t500, A80, H⟩ := H
      replace H : (wicketref04_Parts.l0 k1 a1 (wrap64 (x5_1 + t500)) (wrap64 (x6_1 + 1)) a0_0 a0_1 l0_2 l0_3) = some r := H
      have A8 := Aside0.mk A80
      clear A80
      have H' := Aside0.mk H
      clear H
      have hcz9_0 : wr.cell? ⟨gb498, 0, none⟩ = some (.int .i64 a0_0) := (blk_cell BK498.out 0).trans rfl
      have hcz9_1 : wr.cell? ⟨gb498, 1, none⟩ = some (.string a0_1) := (blk_cell BK498.out 1).trans rfl
      have hcz9_2 : wr.cell? ⟨gb498, 2, none⟩ = some (.slice A0_2 l0_2.length c0_2) := (blk_cell BK498.out 2).trans rfl
      have hcz9_3 : wr.cell? ⟨gb498, 3, none⟩ = some (.slice A0_3 l0_3.length c0_3) := (blk_cell BK498.out 3).trans rfl
      have hfz9_0 := blk_frozen BK498.out 0
      have hfz9_1 := blk_frozen BK498.out 1
      have hfz9_2 := blk_frozen BK498.out 2
      have hfz9_3 := blk_frozen BK498.out 3
      have p499 : 0 ≤ (x6_1 : Int) := of_decide_eq_true (by first | (with_reducible assumption) | assumption)
      have q499 : x6_1 < (l0_3.length : Int) := of_decide_eq_true (by first | (with_reducible assumption) | assumption)
      obtain ⟨ad499, A499_2, c499_2, A499_3, c499_3, e499, hx499_0, hx499_1, hx499_2, hx499_3, hl499_2, hi499_2, hl499_3, hi499_3⟩ := at_T25 HR0_3.out x6_1 p499 q499
      cases e499
      replace hx499_0 := (HB.out.cell (World.block_lt_of_cell? w _ hx499_0)).trans hx499_0
      replace hx499_1 := (HB.out.cell (World.block_lt_of_cell? w _ hx499_1)).trans hx499_1
      replace hx499_2 := (HB.out.cell (World.block_lt_of_cell? w _ hx499_2)).trans hx499_2
      replace hx499_3 := (HB.out.cell (World.block_lt_of_cell? w _ hx499_3)).trans hx499_3
      have HR499_2 := Aside0.mk hi499_2
      have HC499_2 := Aside0.mk hl499_2
      clear hi499_2 hl499_2
      have HR499_3 := Aside0.mk hi499_3
      have HC499_3 := Aside0.mk hl499_3
      clear hi499_3 hl499_3
      replace p499 := eq_true p499
      replace q499 := eq_true q499
      go_wp2_with (first | ((with_reducible refine gate_callee (f := 32) rfl ?_); refine goesL_ (some 32) rfl rfl Tryd.func32 (by kernel_rfl) rfl #[.agg #[.int .i64 ((rd_T25 l0_3 x6_1).f0), .string ((rd_T25 l0_3 x6_1).f1), .slice A499_2 ((rd_T25 l0_3 x6_1).f2).length c499_2, .slice A499_3 ((rd_T25 l0_3 x6_1).f3).length c499_3], .int .i64 (wrap64 (a1 - x5_1))] rfl (by (try simp only [List.map_toArray, List.map_cons, List.map_nil]); first | done | rfl | (simp only [List.length_drop, List.length_take]; rfl)) ?_; (with_reducible refine (ih k1 (by have := HK1.out; omega) ((rd_T25 l0_3 x6_1).f0) ((rd_T25 l0_3 x6_1).f1) _ _ ((rd_T25 l0_3 x6_1).f2) _ _ ((rd_T25 l0_3 x6_1).f3) (wrap64 (a1 - x5_1)) t500 _ ?side1 ?side2 ?side3 ?side4 A8.out).mono ?_); (case side1 => repeat (first | exact (Kd.C_below HR499_2.out HB.out) | (with_reducible refine Kd.C_alloc ?_ _) | (with_reducible refine Kd.C_drewN ?_ _) | (with_reducible refine Kd.C_drew ?_))); (case side2 => exact HC499_2.out); (case side3 => repeat (first | exact (Kd.C_below HR499_3.out HB.out) | (with_reducible refine Kd.C_alloc ?_ _) | (with_reducible refine Kd.C_drewN ?_ _) | (with_reducible refine Kd.C_drew ?_))); (case side4 => exact HC499_3.out); rintro e w10 ⟨rfl, hb⟩; refine ⟨_, rfl, ?_⟩; have n0_ := Aside0.mk (blk_below (g := gb498) (o := .cells #[.int .i64 a0_0, .string a0_1, .slice A0_2 l0_2.length c0_2, .slice (some ad499) l0_3.length c0_3] 25 (0, 0)) (by (with_reducible repeat (first | refine blk_drewN ?_ _ | refine blk_drew ?_ | refine blk_alloc ?_ _)); exact BK498.out) hb); have n1_ := Aside0.mk (below_step (by repeat (first | (with_reducible first | exact HB.out | apply below_alloc | apply pw_below_drewN | apply below_drew1 | refine below_set ?_ GE498.out) | exact HB.out)) hb); clear BK498; clear HB; have BK498 := n0_; have HB := n1_; clear n0_ n1_; (try clear hb); (try clear hb2); (try clear hk); (try clear hi)))
      go_roundg k1
      case measure => have := HK1.out; omega
      case rel => exact ⟨(wrap64 (x5_1 + t500)), (wrap64 (x6_1 + 1)), (by first | rfl | (simp; done) | (simp [*]; done)), (by first | rfl | (simp; done) | (simp [*]; done)), H', ⟨by have := HK1.out; omega⟩, ⟨by (with_reducible repeat (first | refine blk_drewN ?_ _ | refine blk_drew ?_ | refine blk_alloc ?_ _)); exact BK498.out⟩, ⟨by repeat (first | (with_reducible first | exact HB.out | apply below_alloc | apply pw_below_drewN | apply below_drew1 | refine below_set ?_ GE498.out) | exact HB.out)⟩⟩
     ·rw [if_neg c7] at H
      exact absurd H (by simp)
    ·rw [if_neg c6] at H
     have c6b0 : decide (x5_1 ≤ a1) = false := decide_eq_false c6
     clear c6
     obtain rfl := Option.some.inj H
     have hcz11_0 : wr.cell? ⟨gb498, 0, none⟩ = some (.int .i64 a0_0) := (blk_cell BK498.out 0).trans rfl
     have hcz11_1 : wr.cell? ⟨gb498, 1, none⟩ = some (.string a0_1) := (blk_cell BK498.out 1).trans rfl
     have hcz11_2 : wr.cell? ⟨gb498, 2, none⟩ = some (.slice A0_2 l0_2.length c0_2) := (blk_cell BK498.out 2).trans rfl
     have hcz11_3 : wr.cell? ⟨gb498, 3, none⟩ = some (.slice A0_3 l0_3.length c0_3) := (blk_cell BK498.out 3).trans rfl
     have hfz11_0 := blk_frozen BK498.out 0
     have hfz11_1 := blk_frozen BK498.out 1
     have hfz11_2 := blk_frozen BK498.out 2
     have hfz11_3 := blk_frozen BK498.out 3
     go_wp2
     go_ret
     exact ⟨by first | rfl | (simp [errW_none, errW_some] <;> rfl) | (simp [*, errW_none, errW_some] <;> rfl), by repeat (first | (with_reducible first | exact HB.out | apply below_alloc | apply pw_below_drewN | apply below_drew1 | refine below_set ?_ GE498.out) | exact HB.out)⟩
   ·rw [if_neg c5] at H
    have c5b0 : decide (x6_1 < (l0_3.length : Int)) = false := decide_eq_false c5
    clear c5
    obtain rfl := Option.some.inj H
    have hcz12_0 : wr.cell? ⟨gb498, 0, none⟩ = some (.int .i64 a0_0) := (blk_cell BK498.out 0).trans rfl
    have hcz12_1 : wr.cell? ⟨gb498, 1, none⟩ = some (.string a0_1) := (blk_cell BK498.out 1).trans rfl
    have hcz12_2 : wr.cell? ⟨gb498, 2, none⟩ = some (.slice A0_2 l0_2.length c0_2) := (blk_cell BK498.out 2).trans rfl
    have hcz12_3 : wr.cell? ⟨gb498, 3, none⟩ = some (.slice A0_3 l0_3.length c0_3) := (blk_cell BK498.out 3).trans rfl
    have hfz12_0 := blk_frozen BK498.out 0
    have hfz12_1 := blk_frozen BK498.out 1
    have hfz12_2 := blk_frozen BK498.out 2
    have hfz12_3 := blk_frozen BK498.out 3
    go_wp2
    go_ret
    exact ⟨by first | rfl | (simp [errW_none, errW_some] <;> rfl) | (simp [*, errW_none, errW_some] <;> rfl), by repeat (first | (with_reducible first | exact HB.out | apply below_alloc | apply pw_below_drewN | apply below_drew1 | refine below_set ?_ GE498.out) | exact HB.out)⟩
end Go.Proofs.YtaalajhmfdcalaaDoor.X
namespace Go.Proofs.YtaalajhmfdcalaaDoor.X
open Go.RowKit Go.Proofs.YtaalajhmfdcalaaDoor.X Go.Proofs.YtaalajhmfdcalaaDoorW.PrintWords Go.Proofs.YtaalajhmfdcalaaDoorW.PrintLast Go.Proofs.YtaalajhmfdcalaaDoorW.PrintMore
attribute [local go_sem] max2_int min2_int max_two min_two max_three min_three max_four min_four   -- for this text's walks alone
set_option linter.unusedVariables false
set_option linter.unusedSimpArgs false
def wicketlaw04_large.f (k : Nat) (a0_0 : Int) (a0_1 : ByteArray) (l0_2 : List ByteArray) (l0_3 : List (S25)) : Option (Bool) := (wicketref04_Parts.f k a0_0 a0_1 l0_2 l0_3 10000).bind fun t179 => (some (decide (t179 > 10000)))
theorem wicketlaw04_large.mono : ∀ a0 a1 a2 a3 k, LeO (wicketlaw04_large.f k a0 a1 a2 a3) (wicketlaw04_large.f (k + 1) a0 a1 a2 a3) := by
 intro a0 a1 a2 a3 k
 unfold wicketlaw04_large.f
 repeat' first
   | (with_reducible exact wicketref04_Parts.mono _ _ _ _ _ _)
   | (with_reducible exact LeO.refl _)
   | (with_reducible exact LeO.none _)
   | (with_reducible refine LeO.ite ?_ ?_)
   | (with_reducible refine LeO.bind ?_ (fun _ => ?_))
   | exact wicketref04_Parts.mono _ _ _ _ _ _
   | exact LeO.none _
   | refine LeO.ite ?_ ?_
   | refine LeO.bind ?_ (fun _ => ?_)
set_option maxHeartbeats 8000000 in
set_option maxRecDepth 100000 in
theorem wicketlaw04_large.calls (k : Nat) (a0_0 : Int) (a0_1 : ByteArray) (A0_2 : Option Addr) (c0_2 : Nat) (l0_2 : List ByteArray) (A0_3 : Option Addr) (c0_3 : Nat) (l0_3 : List (S25)) (r : Bool) (w : World) (hr0_2 : Kd.C Kd.string w A0_2 l0_2.length l0_2) (hc0_2 : l0_2.length ≤ c0_2) (hr0_3 : Kd.C k25 w A0_3 l0_3.length l0_3) (hc0_3 : l0_3.length ≤ c0_3) (h : wicketlaw04_large.f k a0_0 a0_1 l0_2 l0_3 = some r) :
  Calls Tryd.prog 16 #[.agg #[.int .i64 a0_0, .string a0_1, .slice A0_2 l0_2.length c0_2, .slice A0_3 l0_3.length c0_3]] w fun e w' => e = .returned (.bool r) ∧ Below w.heap.size w w' := by
 have hu25 := Tryd.underlying25
 have HR0_2 := Aside0.mk hr0_2
 have HC0_2 := Aside0.mk hc0_2
 clear hr0_2 hc0_2
 have HR0_3 := Aside0.mk hr0_3
 have HC0_3 := Aside0.mk hc0_3
 clear hr0_3 hc0_3
 have HB := Aside0.mk (Below.refl w.heap.size w)
 have H : ((wicketref04_Parts.f k a0_0 a0_1 l0_2 l0_3 10000).bind fun t179 => (some (decide (t179 > 10000)))) = some r := h
 clear h
 replace H := Option.bind_eq_some_iff.mp H
 obtain ⟨t179, A20, H⟩ := H
 replace H : (some (decide (t179 > 10000))) = some r := H
 have A2 := Aside0.mk A20
 clear A20
 obtain rfl := Option.some.inj H
 go_enter Tryd.func16, Tryd.ntmps16
 go_wp2_with (first | ((with_reducible refine gate_dst (N := 1) rfl ?_); refine box_event ?hg (N := 1) ?hd (cs := #[.int .i64 a0_0, .string a0_1, .slice A0_2 l0_2.length c0_2, .slice A0_3 l0_3.length c0_3]) (t := 25) ?hr ?_; (case hd => rfl); (case hg => rfl); (case hr => first | (go_simp; done) | (go_simp; rfl)); intro gb178 hg w3 hbox hb; have n0_ := Aside0.mk (below_step (by repeat (first | (with_reducible first | exact HB.out | apply below_alloc | apply pw_below_drewN | apply below_drew1) | exact HB.out)) hb); have n1_ := Aside0.mk (hbox); have n2_ := Aside0.mk ((by rw [hg]; exact (below_size (by repeat (first | (with_reducible first | exact HB.out | apply below_alloc | apply pw_below_drewN | apply below_drew1) | exact HB.out))) : w.heap.size ≤ gb178)); have n3_ := Aside0.mk ((by rw [hg]; exact (below_size (by repeat (first | (with_reducible first | exact HB.out | apply below_alloc | apply pw_below_drewN | apply below_drew1) | exact HB.out))) : w.heap.size ≤ gb178)); clear HB; have HB := n0_; have BK178 := n1_; have GW178 := n2_; have GE178 := n3_; clear n0_ n1_ n2_ n3_; clear hb hbox hg; have hcz4_0 : w3.cell? ⟨gb178, 0, none⟩ = some (.int .i64 a0_0) := (blk_cell BK178.out 0).trans rfl; have hcz4_1 : w3.cell? ⟨gb178, 1, none⟩ = some (.string a0_1) := (blk_cell BK178.out 1).trans rfl; have hcz4_2 : w3.cell? ⟨gb178, 2, none⟩ = some (.slice A0_2 l0_2.length c0_2) := (blk_cell BK178.out 2).trans rfl; have hcz4_3 : w3.cell? ⟨gb178, 3, none⟩ = some (.slice A0_3 l0_3.length c0_3) := (blk_cell BK178.out 3).trans rfl; have hfz4_0 := blk_frozen BK178.out 0; have hfz4_1 := blk_frozen BK178.out 1; have hfz4_2 := blk_frozen BK178.out 2; have hfz4_3 := blk_frozen BK178.out 3) | ((with_reducible refine gate_callee (f := 32) rfl ?_); refine goesL_ (some 4) rfl rfl Tryd.func32 (by kernel_rfl) rfl #[.agg #[.int .i64 a0_0, .string a0_1, .slice A0_2 l0_2.length c0_2, .slice A0_3 l0_3.length c0_3], .int .i64 10000] rfl (by (try simp only [List.map_toArray, List.map_cons, List.map_nil]); first | done | rfl | (simp only [List.length_drop, List.length_take]; rfl)) ?_; (with_reducible refine (wicketref04_Parts.calls k a0_0 a0_1 _ _ l0_2 _ _ l0_3 10000 t179 _ ?side1 ?side2 ?side3 ?side4 A2.out).mono ?_); (case side1 => repeat (first | exact (Kd.C_below HR0_2.out HB.out) | (with_reducible refine Kd.C_alloc ?_ _) | (with_reducible refine Kd.C_drewN ?_ _) | (with_reducible refine Kd.C_drew ?_))); (case side2 => exact HC0_2.out); (case side3 => repeat (first | exact (Kd.C_below HR0_3.out HB.out) | (with_reducible refine Kd.C_alloc ?_ _) | (with_reducible refine Kd.C_drewN ?_ _) | (with_reducible refine Kd.C_drew ?_))); (case side4 => exact HC0_3.out); rintro e w5 ⟨rfl, hb⟩; refine ⟨_, rfl, ?_⟩; have n0_ := Aside0.mk (blk_below (g := gb178) (o := .cells #[.int .i64 a0_0, .string a0_1, .slice A0_2 l0_2.length c0_2, .slice A0_3 l0_3.length c0_3] 25 (0, 0)) (by (with_reducible repeat (first | refine blk_drewN ?_ _ | refine blk_drew ?_ | refine blk_alloc ?_ _)); exact BK178.out) hb); have n1_ := Aside0.mk (below_step (by repeat (first | (with_reducible first | exact HB.out | apply below_alloc | apply pw_below_drewN | apply below_drew1 | refine below_set ?_ GE178.out) | exact HB.out)) hb); clear BK178; clear HB; have BK178 := n0_; have HB := n1_; clear n0_ n1_; (try clear hb); (try clear hb2); (try clear hk); (try clear hi)))
 go_ret
 exact ⟨by first | rfl | (simp [errW_none, errW_some] <;> rfl) | (simp [*, errW_none, errW_some] <;> rfl), by repeat (first | (with_reducible first | exact HB.out | apply below_alloc | apply pw_below_drewN | apply below_drew1 | refine below_set ?_ GE178.out) | exact HB.out)⟩
end Go.Proofs.YtaalajhmfdcalaaDoor.X
namespace Go.Proofs.YtaalajhmfdcalaaDoor.X
open Go.RowKit Go.Lib Go.Proofs.YtaalajhmfdcalaaDoorW.PrintWords
theorem twin_l0 {L : Nat} (hL : L ≤ 1000000000) (v : J) (hl : v.f3.length ≤ L) (ih : ∀ y, y ∈ v.f3 → ∃ K, ∀ k, K ≤ k → wicketref04_Twin.f k y.f0 y.f1 y.f2 y.f3 = some (y.f0, y.f1, y.f2, y.f3)) :
  ∀ (d i : Nat), i + d = v.f3.length → ∃ K, ∀ k, K ≤ k → wicketref04_Twin.l0 k (i : Int) v.f0 v.f1 v.f2 v.f3 v.f0 v.f1 v.f2 (v.f3.take i) = some (v.f0, v.f1, v.f2, v.f3)
 | 0, i, h => ⟨1, fun k hk => by
   obtain ⟨k, rfl, _⟩ := ge_succ hk
   rw [wicketref04_Twin.l0, if_neg (by omega), List.take_of_length_le (by omega)]⟩
 | d + 1, i, h => by
  obtain ⟨K1, h1⟩ := twin_l0 hL v hl ih d (i + 1) (by omega)
  have hi : i < v.f3.length := by omega
  obtain ⟨K2, h2⟩ := ih _ (List.getElem_mem hi)
  refine ⟨max K1 K2 + 1, fun k hk => ?_⟩
  obtain ⟨k, rfl, hj⟩ := ge_succ hk
  rw [wicketref04_Twin.l0, if_pos (by omega), if_pos (by omega), rd_nat _ _ hi, h2 k (by omega)]
  simp only [Option.bind_some]
  rw [if_pos (by rw [List.length_take]; omega), wrap_id _ (by omega) (by omega)]
  have := h1 k (by omega)
  rw [List.take_succ_eq_append_getElem hi] at this
  have e : (i : Int) + 1 = ((i + 1 : Nat) : Int) := by omega
  rw [e, eta_J]
  exact this
theorem twin_self {B L : Nat} (hL : L ≤ 1000000000) {v : J} (h : Bd B L v) : ∃ K, ∀ k, K ≤ k → wicketref04_Twin.f k v.f0 v.f1 v.f2 v.f3 = some (v.f0, v.f1, v.f2, v.f3) := by
 induction h with
 | mk f0 f1 f2 f3 _ _ h2 h3 _ ih =>
  obtain ⟨K1, h1⟩ := twin_l0 hL ⟨f0, f1, f2, f3⟩ h3 ih f3.length 0 (by show 0 + f3.length = f3.length; omega)
  refine ⟨K1 + 1, fun k hk => ?_⟩
  obtain ⟨k, rfl, hj⟩ := ge_succ hk
  rw [wicketref04_Twin.f]
  simp only [Option.bind_some]
  rw [if_pos (by simp; omega)]
  exact h1 k hj
theorem parts_l0 {B L : Nat} (hL : L ≤ 281474976710656) (v : J) (h3 : v.f3.length ≤ L) (ih : ∀ y, y ∈ v.f3 → ∀ most : Int, 0 ≤ most → most ≤ 1152921504606846976 → ∃ K n, (∀ k, K ≤ k → wicketref04_Parts.f k y.f0 y.f1 y.f2 y.f3 most = some n) ∧ 1 ≤ n ∧ n ≤ most + 1 + L ∧ ∀ M : Nat, n ≤ most → most ≤ M → Bd B M y) (most : Int) (hm0 : 0 ≤ most) (hm : most ≤ 1152921504606846976) :
  ∀ (d i : Nat) (x : Int), i + d = v.f3.length → 1 ≤ x → x ≤ most + 1 + L → ∃ K n, (∀ k, K ≤ k → wicketref04_Parts.l0 k most x (i : Int) v.f0 v.f1 v.f2 v.f3 = some n) ∧ x ≤ n ∧ n ≤ most + 1 + L ∧ ∀ M : Nat, n ≤ most → most ≤ M → x + d ≤ n ∧ ∀ y, y ∈ v.f3.drop i → Bd B M y
 | 0, i, x, h, hx, hx2 => ⟨1, x, fun k hk => by
   obtain ⟨k, rfl, _⟩ := ge_succ hk
   rw [wicketref04_Parts.l0, if_neg (by omega)], Int.le_refl _, hx2, fun M _ _ => ⟨by omega, fun y hy => by rw [List.drop_of_length_le (by omega)] at hy; cases hy⟩⟩
 | d + 1, i, x, h, hx, hx2 => by
  have hi : i < v.f3.length := by omega
  by_cases hxm : x ≤ most
  ·obtain ⟨K2, t, h2, ht1, ht2, ht3⟩ := ih _ (List.getElem_mem hi) (most - x) (by omega) (by omega)
   obtain ⟨K1, n, h1, hn1, hn2, hn3⟩ := parts_l0 hL v h3 ih most hm0 hm d (i + 1) (x + t) (by omega) (by omega) (by omega)
   refine ⟨max K1 K2 + 1, n, fun k hk => ?_, by omega, hn2, fun M hM hM2 => ?_⟩
   ·obtain ⟨k, rfl, hj⟩ := ge_succ hk
    rw [wicketref04_Parts.l0, if_pos (by omega), if_pos hxm, if_pos (by omega), rd_nat _ _ hi, wrap_id (most - x) (by omega) (by omega), h2 k (by omega)]
    simp only [Option.bind_some]
    rw [wrap_id (x + t) (by omega) (by omega), wrap_id _ (by omega) (by omega)]
    exact h1 k (by omega)
   ·obtain ⟨g1, g2⟩ := hn3 M hM hM2
    refine ⟨by omega, fun y hy => ?_⟩
    rw [List.drop_eq_getElem_cons hi] at hy
    rcases List.mem_cons.1 hy with rfl | hy
    ·exact ht3 M (by omega) (by omega)
    ·exact g2 y hy
  ·refine ⟨1, x, fun k hk => ?_, Int.le_refl _, hx2, fun M hM _ => absurd hM hxm⟩
   obtain ⟨k, rfl, _⟩ := ge_succ hk
   rw [wicketref04_Parts.l0, if_pos (by omega), if_neg hxm]
theorem parts_of {B L : Nat} (hL : L ≤ 281474976710656) {v : J} (h : Bd B L v) : ∀ most : Int, 0 ≤ most → most ≤ 1152921504606846976 → ∃ K n, (∀ k, K ≤ k → wicketref04_Parts.f k v.f0 v.f1 v.f2 v.f3 most = some n) ∧ 1 ≤ n ∧ n ≤ most + 1 + L ∧ ∀ M : Nat, n ≤ most → most ≤ M → Bd B M v := by
 induction h with
 | mk f0 f1 f2 f3 g1 g2 h2 h3 _ ih =>
  intro most hm0 hm
  obtain ⟨K, n, k1, k2, k3, k4⟩ := parts_l0 (B := B) hL ⟨f0, f1, f2, f3⟩ h3 ih most hm0 hm f3.length 0 (1 + (f2.length : Int)) (by show 0 + f3.length = f3.length; omega) (by omega) (by omega)
  refine ⟨K + 1, n, fun k hk => ?_, by omega, k3, fun M hM hM2 => ?_⟩
  ·obtain ⟨k, rfl, hj⟩ := ge_succ hk
   rw [wicketref04_Parts.f, wrap_id _ (by show _ ≤ 1 + (f2.length : Int); omega) (by show 1 + (f2.length : Int) ≤ _; omega)]
   exact k1 k hj
  ·obtain ⟨q1, q2⟩ := k4 M hM hM2
   exact .mk f0 f1 f2 f3 g1 g2 (by omega) (by omega) (fun y hy => q2 y (by rw [List.drop_zero]; exact hy))
theorem large_of {B L : Nat} (hL : L ≤ 281474976710656) {v : J} (h : Bd B L v) : ∃ K, (∀ k, K ≤ k → wicketlaw04_large.f k v.f0 v.f1 v.f2 v.f3 = some true) ∨ ((∀ k, K ≤ k → wicketlaw04_large.f k v.f0 v.f1 v.f2 v.f3 = some false) ∧ Bd B 10000 v) := by
 obtain ⟨K, n, h1, h2, h3, h4⟩ := parts_of hL h 10000 (by omega) (by omega)
 refine ⟨K, ?_⟩
 by_cases hn : n ≤ 10000
 ·refine .inr ⟨fun k hk => ?_, h4 10000 hn (by omega)⟩
  unfold wicketlaw04_large.f
  rw [h1 k hk]
  simp only [Option.bind_some]
  rw [decide_eq_false (by omega)]
 ·refine .inl fun k hk => ?_
  unfold wicketlaw04_large.f
  rw [h1 k hk]
  simp only [Option.bind_some]
  rw [decide_eq_true (by omega)]
end Go.Proofs.YtaalajhmfdcalaaDoor.X
namespace Go.Proofs.YtaalajhmfdcalaaDoor.X
open Go.RowKit Go.Proofs.YtaalajhmfdcalaaDoorW.PrintWords Go.Proofs.YtaalajhmfdcalaaDoorW.PrintLast Go.Proofs.YtaalajhmfdcalaaDoorW.PrintMore
attribute [local go_sem] max2_int min2_int max_two min_two max_three min_three max_four min_four   -- for this text's walks alone
set_option linter.unusedVariables false
set_option linter.unusedSimpArgs false
mutual
def wicketref04_Equal.j0 : Nat → Bool → Int → ByteArray → List ByteArray → List (S25) → Int → ByteArray → List ByteArray → List (S25) → Option (Bool)
 | 0, _, _, _, _, _, _, _, _, _ => none
 | k + 1, x36, x492000, x492001, x492002, x492003, x493000, x493001, x493002, x493003 => if x36 = true then none else (wicketref04_Equal.l0 k 0 x492000 x492001 x492002 x492003 x493000 x493001 x493002 x493003)
def wicketref04_Equal.l0 : Nat → Int → Int → ByteArray → List ByteArray → List (S25) → Int → ByteArray → List ByteArray → List (S25) → Option (Bool)
 | 0, _, _, _, _, _, _, _, _, _ => none
 | k + 1, x5, x492000, x492001, x492002, x492003, x493000, x493001, x493002, x493003 => if x5 < (x492002.length : Int) then (if 0 ≤ x5 then (if x5 < (x493002.length : Int) then (if (rdOf ByteArray.empty x492002 x5).toList = (rdOf ByteArray.empty x493002 x5).toList then (wicketref04_Equal.l0 k (wrap64 (x5 + 1)) x492000 x492001 x492002 x492003 x493000 x493001 x493002 x493003) else none) else (none)) else (none)) else (wicketref04_Equal.l1 k 0 x492000 x492001 x492002 x492003 x493000 x493001 x493002 x493003)
def wicketref04_Equal.l1 : Nat → Int → Int → ByteArray → List ByteArray → List (S25) → Int → ByteArray → List ByteArray → List (S25) → Option (Bool)
 | 0, _, _, _, _, _, _, _, _, _ => none
 | k + 1, x6, x492000, x492001, x492002, x492003, x493000, x493001, x493002, x493003 => if x6 < (x492003.length : Int) then (if 0 ≤ x6 then (if x6 < (x493003.length : Int) then ((wicketref04_Equal.f k ((rd_T25 x492003 x6).f0) ((rd_T25 x492003 x6).f1) ((rd_T25 x492003 x6).f2) ((rd_T25 x492003 x6).f3) ((rd_T25 x493003 x6).f0) ((rd_T25 x493003 x6).f1) ((rd_T25 x493003 x6).f2) ((rd_T25 x493003 x6).f3)).bind fun t497 => (if t497 = true then (wicketref04_Equal.l1 k (wrap64 (x6 + 1)) x492000 x492001 x492002 x492003 x493000 x493001 x493002 x493003) else none)) else (none)) else (none)) else (some true)
def wicketref04_Equal.f : Nat → Int → ByteArray → List ByteArray → List (S25) → Int → ByteArray → List ByteArray → List (S25) → Option (Bool)
 | 0, _, _, _, _, _, _, _, _ => none
 | k + 1, a0_0, a0_1, l0_2, l0_3, a1_0, a1_1, l1_2, l1_3 => if a0_0 = a1_0 then (if a0_1.toList = a1_1.toList then (if (l0_2.length : Int) = (l1_2.length : Int) then (wicketref04_Equal.j0 k ((l0_3.length : Int) != (l1_3.length : Int)) a0_0 a0_1 l0_2 l0_3 a1_0 a1_1 l1_2 l1_3) else (wicketref04_Equal.j0 k true a0_0 a0_1 l0_2 l0_3 a1_0 a1_1 l1_2 l1_3)) else (wicketref04_Equal.j0 k true a0_0 a0_1 l0_2 l0_3 a1_0 a1_1 l1_2 l1_3)) else (wicketref04_Equal.j0 k true a0_0 a0_1 l0_2 l0_3 a1_0 a1_1 l1_2 l1_3)
end
theorem wicketref04_Equal.mono_l : ∀ k, (∀ y0 y1 y2 y3 y4 y5 y6 y7, LeO (wicketref04_Equal.f k y0 y1 y2 y3 y4 y5 y6 y7) (wicketref04_Equal.f (k + 1) y0 y1 y2 y3 y4 y5 y6 y7)) ∧ (∀ y0 y1 y2 y3 y4 y5 y6 y7 y8, LeO (wicketref04_Equal.j0 k y0 y1 y2 y3 y4 y5 y6 y7 y8) (wicketref04_Equal.j0 (k + 1) y0 y1 y2 y3 y4 y5 y6 y7 y8)) ∧ (∀ y0 y1 y2 y3 y4 y5 y6 y7 y8, LeO (wicketref04_Equal.l0 k y0 y1 y2 y3 y4 y5 y6 y7 y8) (wicketref04_Equal.l0 (k + 1) y0 y1 y2 y3 y4 y5 y6 y7 y8)) ∧ (∀ y0 y1 y2 y3 y4 y5 y6 y7 y8, LeO (wicketref04_Equal.l1 k y0 y1 y2 y3 y4 y5 y6 y7 y8) (wicketref04_Equal.l1 (k + 1) y0 y1 y2 y3 y4 y5 y6 y7 y8))
 | 0 => ⟨fun _ _ _ _ _ _ _ _ r h => by simp [wicketref04_Equal.f] at h, fun _ _ _ _ _ _ _ _ _ r h => by simp [wicketref04_Equal.j0] at h, fun _ _ _ _ _ _ _ _ _ r h => by simp [wicketref04_Equal.l0] at h, fun _ _ _ _ _ _ _ _ _ r h => by simp [wicketref04_Equal.l1] at h⟩
 | k + 1 => by
  obtain ⟨ih0, ih1, ih2, ih3⟩ := wicketref04_Equal.mono_l k
  refine ⟨?_, ?_, ?_, ?_⟩
  ·intro y0 y1 y2 y3 y4 y5 y6 y7
   unfold wicketref04_Equal.f
   repeat' first
   | (with_reducible exact ih0 _ _ _ _ _ _ _ _)
   | (with_reducible exact ih1 _ _ _ _ _ _ _ _ _)
   | (with_reducible exact ih2 _ _ _ _ _ _ _ _ _)
   | (with_reducible exact ih3 _ _ _ _ _ _ _ _ _)
   | (with_reducible exact LeO.refl _)
   | (with_reducible exact LeO.none _)
   | (with_reducible refine LeO.ite ?_ ?_)
   | (with_reducible refine LeO.bind ?_ (fun _ => ?_))
   | exact ih0 _ _ _ _ _ _ _ _
   | exact ih1 _ _ _ _ _ _ _ _ _
   | exact ih2 _ _ _ _ _ _ _ _ _
   | exact ih3 _ _ _ _ _ _ _ _ _
   | exact LeO.none _
   | refine LeO.ite ?_ ?_
   | refine LeO.bind ?_ (fun _ => ?_)
  ·intro y0 y1 y2 y3 y4 y5 y6 y7 y8
   unfold wicketref04_Equal.j0
   repeat' first
   | (with_reducible exact ih0 _ _ _ _ _ _ _ _)
   | (with_reducible exact ih1 _ _ _ _ _ _ _ _ _)
   | (with_reducible exact ih2 _ _ _ _ _ _ _ _ _)
   | (with_reducible exact ih3 _ _ _ _ _ _ _ _ _)
   | (with_reducible exact LeO.refl _)
   | (with_reducible exact LeO.none _)
   | (with_reducible refine LeO.ite ?_ ?_)
   | (with_reducible refine LeO.bind ?_ (fun _ => ?_))
   | exact ih0 _ _ _ _ _ _ _ _
   | exact ih1 _ _ _ _ _ _ _ _ _
   | exact ih2 _ _ _ _ _ _ _ _ _
   | exact ih3 _ _ _ _ _ _ _ _ _
   | exact LeO.none _
   | refine LeO.ite ?_ ?_
   | refine LeO.bind ?_ (fun _ => ?_)
  ·intro y0 y1 y2 y3 y4 y5 y6 y7 y8
   unfold wicketref04_Equal.l0
   repeat' first
   | (with_reducible exact ih0 _ _ _ _ _ _ _ _)
   | (with_reducible exact ih1 _ _ _ _ _ _ _ _ _)
   | (with_reducible exact ih2 _ _ _ _ _ _ _ _ _)
   | (with_reducible exact ih3 _ _ _ _ _ _ _ _ _)
   | (with_reducible exact LeO.refl _)
   | (with_reducible exact LeO.none _)
   | (with_reducible refine LeO.ite ?_ ?_)
   | (with_reducible refine LeO.bind ?_ (fun _ => ?_))
   | exact ih0 _ _ _ _ _ _ _ _
   | exact ih1 _ _ _ _ _ _ _ _ _
   | exact ih2 _ _ _ _ _ _ _ _ _
   | exact ih3 _ _ _ _ _ _ _ _ _
   | exact LeO.none _
   | refine LeO.ite ?_ ?_
   | refine LeO.bind ?_ (fun _ => ?_)
  ·intro y0 y1 y2 y3 y4 y5 y6 y7 y8
   unfold wicketref04_Equal.l1
   repeat' first
   | (with_reducible exact ih0 _ _ _ _ _ _ _ _)
   | (with_reducible exact ih1 _ _ _ _ _ _ _ _ _)
   | (with_reducible exact ih2 _ _ _ _ _ _ _ _ _)
   | (with_reducible exact ih3 _ _ _ _ _ _ _ _ _)
   | (with_reducible exact LeO.refl _)
   | (with_reducible exact LeO.none _)
   | (with_reducible refine LeO.ite ?_ ?_)
   | (with_reducible refine LeO.bind ?_ (fun _ => ?_))
   | exact ih0 _ _ _ _ _ _ _ _
   | exact ih1 _ _ _ _ _ _ _ _ _
   | exact ih2 _ _ _ _ _ _ _ _ _
   | exact ih3 _ _ _ _ _ _ _ _ _
   | exact LeO.none _
   | refine LeO.ite ?_ ?_
   | refine LeO.bind ?_ (fun _ => ?_)
theorem wicketref04_Equal.mono : ∀ a0 a1 a2 a3 a4 a5 a6 a7 k, LeO (wicketref04_Equal.f k a0 a1 a2 a3 a4 a5 a6 a7) (wicketref04_Equal.f (k + 1) a0 a1 a2 a3 a4 a5 a6 a7) := by
 intro a0 a1 a2 a3 a4 a5 a6 a7 k
 obtain ⟨ih0, ih1, ih2, ih3⟩ := wicketref04_Equal.mono_l k
 exact ih0 a0 a1 a2 a3 a4 a5 a6 a7
end Go.Proofs.YtaalajhmfdcalaaDoor.X

namespace Go.Proofs.YtaalajhmfdcalaaDoor.X
open Go.RowKit Go.Lib Go.Proofs.YtaalajhmfdcalaaDoorW.PrintWords Go.Proofs.YtaalajhmfdcalaaDoorW.PrintLast Go.Proofs.YtaalajhmfdcalaaDoorW.PrintMore
def bdT (v : J) : Bool := bdB 4611686018427387904 4611686018427387904 v
def wicketref04_Valid.f (a0_0 : Int) (a0_1 : ByteArray) (l0_2 : List ByteArray) (l0_3 : List (S25)) (a1 : Int) : Option Bool :=
 if bdT ⟨a0_0, a0_1, l0_2, l0_3⟩ && decide (a1 = 0) = true then some (okB 32 ⟨a0_0, a0_1, l0_2, l0_3⟩) else none
theorem wicketref04_Valid.calls (a0_0 : Int) (a0_1 : ByteArray) (A0_2 : Option Addr) (c0_2 : Nat) (l0_2 : List ByteArray) (A0_3 : Option Addr) (c0_3 : Nat) (l0_3 : List (S25)) (a1 : Int) (r1 : Bool) (w : World) (hr0_2 : Kd.C Kd.string w A0_2 l0_2.length l0_2) (hc0_2 : l0_2.length ≤ c0_2) (hr0_3 : Kd.C k25 w A0_3 l0_3.length l0_3) (hc0_3 : l0_3.length ≤ c0_3) (hG : GL w) (h : wicketref04_Valid.f a0_0 a0_1 l0_2 l0_3 a1 = some r1) :
  Calls Tryd.prog 24 #[.agg #[.int .i64 a0_0, .string a0_1, .slice A0_2 l0_2.length c0_2, .slice A0_3 l0_3.length c0_3], .int .i64 a1] w fun e w' => e = .returned (.bool r1) ∧ Below w.heap.size w w' := by
 unfold wicketref04_Valid.f at h
 split at h
 ·rename_i hs
  simp only [Option.some.injEq] at h
  subst h
  simp only [bdT, Bool.and_eq_true, decide_eq_true_eq] at hs
  obtain ⟨h1, rfl⟩ := hs
  refine (valid_ok 4611686018427387904 4611686018427387904 (by decide) (by decide) 32 (by decide) ⟨a0_0, a0_1, l0_2, l0_3⟩ A0_2 A0_3 c0_2 c0_3 w (bdB_iff _ _ _ h1) hr0_2 hr0_3).mono ?_
  rintro e w' ⟨b, rfl, hb, hbel⟩
  refine ⟨?_, hbel⟩
  have : b = okB 32 ⟨a0_0, a0_1, l0_2, l0_3⟩ := Bool.eq_iff_iff.2 (hb.trans (okB_iff 32 _).symm)
  rw [this]
 ·cases h
def wicketref04_Same.f (a0_0 : Int) (a0_1 : ByteArray) (l0_2 : List ByteArray) (l0_3 : List (S25)) (a1_0 : Int) (a1_1 : ByteArray) (l1_2 : List ByteArray) (l1_3 : List (S25)) : Option Bool :=
 if bdT ⟨a0_0, a0_1, l0_2, l0_3⟩ && bdT ⟨a1_0, a1_1, l1_2, l1_3⟩ = true then some (saysB ⟨a0_0, a0_1, l0_2, l0_3⟩ ⟨a1_0, a1_1, l1_2, l1_3⟩) else none
theorem wicketref04_Same.calls (a0_0 : Int) (a0_1 : ByteArray) (A0_2 : Option Addr) (c0_2 : Nat) (l0_2 : List ByteArray) (A0_3 : Option Addr) (c0_3 : Nat) (l0_3 : List (S25)) (a1_0 : Int) (a1_1 : ByteArray) (A1_2 : Option Addr) (c1_2 : Nat) (l1_2 : List ByteArray) (A1_3 : Option Addr) (c1_3 : Nat) (l1_3 : List (S25)) (r1 : Bool) (w : World) (hr0_2 : Kd.C Kd.string w A0_2 l0_2.length l0_2) (hc0_2 : l0_2.length ≤ c0_2) (hr0_3 : Kd.C k25 w A0_3 l0_3.length l0_3) (hc0_3 : l0_3.length ≤ c0_3) (hr1_2 : Kd.C Kd.string w A1_2 l1_2.length l1_2) (hc1_2 : l1_2.length ≤ c1_2) (hr1_3 : Kd.C k25 w A1_3 l1_3.length l1_3) (hc1_3 : l1_3.length ≤ c1_3) (hG : GL w) (h : wicketref04_Same.f a0_0 a0_1 l0_2 l0_3 a1_0 a1_1 l1_2 l1_3 = some r1) :
  Calls Tryd.prog 23 #[.agg #[.int .i64 a0_0, .string a0_1, .slice A0_2 l0_2.length c0_2, .slice A0_3 l0_3.length c0_3], .agg #[.int .i64 a1_0, .string a1_1, .slice A1_2 l1_2.length c1_2, .slice A1_3 l1_3.length c1_3]] w fun e w' => e = .returned (.bool r1) ∧ Below w.heap.size w w' := by
 unfold wicketref04_Same.f at h
 split at h
 ·rename_i hs
  simp only [Option.some.injEq] at h
  subst h
  simp only [bdT, Bool.and_eq_true, decide_eq_true_eq] at hs
  refine (rsame_ok 4611686018427387904 4611686018427387904 (by decide) (by decide) ⟨a0_0, a0_1, l0_2, l0_3⟩ ⟨a1_0, a1_1, l1_2, l1_3⟩ A0_2 A0_3 A1_2 A1_3 c0_2 c0_3 c1_2 c1_3 w (bdB_iff _ _ _ hs.1) (bdB_iff _ _ _ (by first | exact hs.2 | exact of_decide_eq_true hs.2)) hr0_2 hr0_3 hr1_2 hr1_3).mono ?_
  rintro e w' ⟨b, rfl, hb, hbel⟩
  refine ⟨?_, hbel⟩
  have : b = saysB ⟨a0_0, a0_1, l0_2, l0_3⟩ ⟨a1_0, a1_1, l1_2, l1_3⟩ := Bool.eq_iff_iff.2 (hb.trans (saysB_iff _ _).symm)
  rw [this]
 ·cases h
end Go.Proofs.YtaalajhmfdcalaaDoor.X
namespace Go.Proofs.YtaalajhmfdcalaaDoor.X
open Go.RowKit Go.Proofs.YtaalajhmfdcalaaDoor.X Go.Proofs.YtaalajhmfdcalaaDoorW.PrintWords Go.Proofs.YtaalajhmfdcalaaDoorW.PrintLast Go.Proofs.YtaalajhmfdcalaaDoorW.PrintMore
attribute [local go_sem] max2_int min2_int max_two min_two max_three min_three max_four min_four   -- for this text's walks alone
set_option linter.unusedVariables false
set_option linter.unusedSimpArgs false
mutual
def wicketlaw04_JtextSames.j0 : Nat → Bool → Int → ByteArray → List ByteArray → List (S25) → Int → ByteArray → List ByteArray → List (S25) → Option (Bool)
 | 0, _, _, _, _, _, _, _, _, _ => none
 | k + 1, x12, x162000, x162001, x162002, x162003, x163000, x163001, x163002, x163003 => if x12 = true then (some true) else ((wicketref04_Twin.f k x162000 x162001 x162002 x162003).bind fun bt165 => ((wicketref04_Twin.f k x163000 x163001 x163002 x163003).bind fun bt173 => ((jtext_Same.f bt165.1 bt165.2.1 bt165.2.2.1 bt165.2.2.2 bt173.1 bt173.2.1 bt173.2.2.1 bt173.2.2.2).bind fun t183 => ((wicketref04_Same.f x162000 x162001 x162002 x162003 x163000 x163001 x163002 x163003).bind fun t184 => (if (t183 != t184) = true then none else ((jtext_Same.f bt173.1 bt173.2.1 bt173.2.2.1 bt173.2.2.2 bt165.1 bt165.2.1 bt165.2.2.1 bt165.2.2.2).bind fun t185 => ((wicketref04_Same.f x162000 x162001 x162002 x162003 x163000 x163001 x163002 x163003).bind fun t186 => (if (t185 != t186) = true then none else ((wicketref04_Twin.f k x162000 x162001 x162002 x162003).bind fun bt187 => ((jtext_Same.f bt165.1 bt165.2.1 bt165.2.2.1 bt165.2.2.2 bt187.1 bt187.2.1 bt187.2.2.1 bt187.2.2.2).bind fun t195 => ((wicketref04_Valid.f x162000 x162001 x162002 x162003 0).bind fun t196 => (wicketlaw04_JtextSames.j1 k (t195 != t196) x162000 x162001 x162002 x162003 x163000 x163001 x163002 x163003 bt165.1 bt165.2.1 bt165.2.2.1 bt165.2.2.2 bt173.1 bt173.2.1 bt173.2.2.1 bt173.2.2.2))))))))))))
def wicketlaw04_JtextSames.j1 : Nat → Bool → Int → ByteArray → List ByteArray → List (S25) → Int → ByteArray → List ByteArray → List (S25) → Int → ByteArray → List ByteArray → List (S25) → Int → ByteArray → List ByteArray → List (S25) → Option (Bool)
 | 0, _, _, _, _, _, _, _, _, _, _, _, _, _, _, _, _, _ => none
 | k + 1, x41, x162000, x162001, x162002, x162003, x163000, x163001, x163002, x163003, x182000, x182001, x182002, x182003, x183000, x183001, x183002, x183003 => if x41 = true then none else ((wicketlaw04_live.f).bind fun t197 => (if t197 = true then ((wicketref04_Equal.f k x182000 x182001 x182002 x182003 x162000 x162001 x162002 x162003).bind fun t198 => (if t198 = true then ((wicketref04_Equal.f k x183000 x183001 x183002 x183003 x163000 x163001 x163002 x163003).bind fun t199 => (some t199)) else none)) else none))
end
def wicketlaw04_JtextSames.f (k : Nat) (a0_0 : Int) (a0_1 : ByteArray) (l0_2 : List ByteArray) (l0_3 : List (S25)) (a1_0 : Int) (a1_1 : ByteArray) (l1_2 : List ByteArray) (l1_3 : List (S25)) : Option (Bool) := (wicketlaw04_large.f k a0_0 a0_1 l0_2 l0_3).bind fun t163 => (if t163 = true then (wicketlaw04_JtextSames.j0 k true a0_0 a0_1 l0_2 l0_3 a1_0 a1_1 l1_2 l1_3) else ((wicketlaw04_large.f k a1_0 a1_1 l1_2 l1_3).bind fun t164 => (wicketlaw04_JtextSames.j0 k t164 a0_0 a0_1 l0_2 l0_3 a1_0 a1_1 l1_2 l1_3)))
theorem wicketlaw04_JtextSames.mono_l : ∀ k, (∀ y0 y1 y2 y3 y4 y5 y6 y7 y8, LeO (wicketlaw04_JtextSames.j0 k y0 y1 y2 y3 y4 y5 y6 y7 y8) (wicketlaw04_JtextSames.j0 (k + 1) y0 y1 y2 y3 y4 y5 y6 y7 y8)) ∧ (∀ y0 y1 y2 y3 y4 y5 y6 y7 y8 y9 y10 y11 y12 y13 y14 y15 y16, LeO (wicketlaw04_JtextSames.j1 k y0 y1 y2 y3 y4 y5 y6 y7 y8 y9 y10 y11 y12 y13 y14 y15 y16) (wicketlaw04_JtextSames.j1 (k + 1) y0 y1 y2 y3 y4 y5 y6 y7 y8 y9 y10 y11 y12 y13 y14 y15 y16))
 | 0 => ⟨fun _ _ _ _ _ _ _ _ _ r h => by simp [wicketlaw04_JtextSames.j0] at h, fun _ _ _ _ _ _ _ _ _ _ _ _ _ _ _ _ _ r h => by simp [wicketlaw04_JtextSames.j1] at h⟩
 | k + 1 => by
  obtain ⟨ih0, ih1⟩ := wicketlaw04_JtextSames.mono_l k
  refine ⟨?_, ?_⟩
  ·intro y0 y1 y2 y3 y4 y5 y6 y7 y8
   unfold wicketlaw04_JtextSames.j0
   repeat' first
   | (with_reducible exact ih0 _ _ _ _ _ _ _ _ _)
   | (with_reducible exact ih1 _ _ _ _ _ _ _ _ _ _ _ _ _ _ _ _ _)
   | (with_reducible exact wicketlaw04_large.mono _ _ _ _ _)
   | (with_reducible exact wicketref04_Equal.mono _ _ _ _ _ _ _ _ _)
   | (with_reducible exact wicketref04_Twin.mono _ _ _ _ _)
   | (with_reducible exact LeO.refl _)
   | (with_reducible exact LeO.none _)
   | (with_reducible refine LeO.ite ?_ ?_)
   | (with_reducible refine LeO.bind ?_ (fun _ => ?_))
   | exact ih0 _ _ _ _ _ _ _ _ _
   | exact ih1 _ _ _ _ _ _ _ _ _ _ _ _ _ _ _ _ _
   | exact wicketlaw04_large.mono _ _ _ _ _
   | exact wicketref04_Equal.mono _ _ _ _ _ _ _ _ _
   | exact wicketref04_Twin.mono _ _ _ _ _
   | exact LeO.none _
   | refine LeO.ite ?_ ?_
   | refine LeO.bind ?_ (fun _ => ?_)
  ·intro y0 y1 y2 y3 y4 y5 y6 y7 y8 y9 y10 y11 y12 y13 y14 y15 y16
   unfold wicketlaw04_JtextSames.j1
   repeat' first
   | (with_reducible exact ih0 _ _ _ _ _ _ _ _ _)
   | (with_reducible exact ih1 _ _ _ _ _ _ _ _ _ _ _ _ _ _ _ _ _)
   | (with_reducible exact wicketlaw04_large.mono _ _ _ _ _)
   | (with_reducible exact wicketref04_Equal.mono _ _ _ _ _ _ _ _ _)
   | (with_reducible exact wicketref04_Twin.mono _ _ _ _ _)
   | (with_reducible exact LeO.refl _)
   | (with_reducible exact LeO.none _)
   | (with_reducible refine LeO.ite ?_ ?_)
   | (with_reducible refine LeO.bind ?_ (fun _ => ?_))
   | exact ih0 _ _ _ _ _ _ _ _ _
   | exact ih1 _ _ _ _ _ _ _ _ _ _ _ _ _ _ _ _ _
   | exact wicketlaw04_large.mono _ _ _ _ _
   | exact wicketref04_Equal.mono _ _ _ _ _ _ _ _ _
   | exact wicketref04_Twin.mono _ _ _ _ _
   | exact LeO.none _
   | refine LeO.ite ?_ ?_
   | refine LeO.bind ?_ (fun _ => ?_)
theorem wicketlaw04_JtextSames.mono : ∀ a0 a1 a2 a3 a4 a5 a6 a7 k, LeO (wicketlaw04_JtextSames.f k a0 a1 a2 a3 a4 a5 a6 a7) (wicketlaw04_JtextSames.f (k + 1) a0 a1 a2 a3 a4 a5 a6 a7) := by
 intro a0 a1 a2 a3 a4 a5 a6 a7 k
 obtain ⟨ih0, ih1⟩ := wicketlaw04_JtextSames.mono_l k
 unfold wicketlaw04_JtextSames.f
 repeat' first
   | (with_reducible exact ih0 _ _ _ _ _ _ _ _ _)
   | (with_reducible exact ih1 _ _ _ _ _ _ _ _ _ _ _ _ _ _ _ _ _)
   | (with_reducible exact wicketlaw04_large.mono _ _ _ _ _)
   | (with_reducible exact wicketref04_Equal.mono _ _ _ _ _ _ _ _ _)
   | (with_reducible exact wicketref04_Twin.mono _ _ _ _ _)
   | (with_reducible exact LeO.refl _)
   | (with_reducible exact LeO.none _)
   | (with_reducible refine LeO.ite ?_ ?_)
   | (with_reducible refine LeO.bind ?_ (fun _ => ?_))
   | exact ih0 _ _ _ _ _ _ _ _ _
   | exact ih1 _ _ _ _ _ _ _ _ _ _ _ _ _ _ _ _ _
   | exact wicketlaw04_large.mono _ _ _ _ _
   | exact wicketref04_Equal.mono _ _ _ _ _ _ _ _ _
   | exact wicketref04_Twin.mono _ _ _ _ _
   | exact LeO.none _
   | refine LeO.ite ?_ ?_
   | refine LeO.bind ?_ (fun _ => ?_)
def wicketlaw04_JtextSames.B3 : List Nat := [0, 1, 0, 7, 0, 0, 63, 127]
end Go.Proofs.YtaalajhmfdcalaaDoor.X
namespace Go.Proofs.YtaalajhmfdcalaaDoor.X
open Go.RowKit Go.Lib Go.Proofs.YtaalajhmfdcalaaDoorW.PrintWords
theorem OKJ_sJ_inv : ∀ (r : Nat) (v : J), OKJ r (sJ r v) → OKJ r v
 | 0, v, h => h
 | r + 1, v, h => by
  have IH := OKJ_sJ_inv r
  by_cases h5 : v.f0 = 5
  ·rw [sJ_5 h5] at h
   obtain ⟨hn, hi, _⟩ := h
   refine ⟨?_, fun _ y hy => ?_, fun h6 => absurd (h5.symm.trans h6) (by decide)⟩
   ·have hn' : nodeOK v.f0 v.f1 v.f2.length (v.f3.map (sJ r)).length = true := hn
    rw [List.length_map] at hn'; exact hn'
   ·exact IH y (hi (.inl h5) (sJ r y) (List.mem_map.2 ⟨y, hy, rfl⟩))
  ·by_cases h6 : v.f0 = 6
   ·by_cases hl : v.f2.length = v.f3.length
    ·rw [sJ_6 h6 hl] at h
     obtain ⟨hn, hi, hm⟩ := h
     obtain ⟨g1, g2⟩ := hm h6
     refine ⟨?_, fun _ y hy => ?_, fun _ => ⟨fun s hs => g1 s ((namesOf_perm hl).symm.subset hs), ?_⟩⟩
     ·have hn' : nodeOK v.f0 v.f1 (namesOf true v.f2 v.f3).length ((itemsOf true v.f2 v.f3).map (sJ r)).length = true := hn
      rw [h6] at hn' ⊢
      exact nodeOK_6 hn' hl
     ·exact IH y (hi (.inr h6) (sJ r y) (List.mem_map.2 ⟨y, (items_perm hl).symm.subset hy, rfl⟩))
     ·exact ((namesOf_perm hl).map _).nodup_iff.1 g2
    ·rw [sJ_x h5 (fun h => hl h.2)] at h
     exact h
   ·rw [sJ_x h5 (fun h => h6 h.1)] at h
    exact h
theorem sameS_e (v : J) : (sameS v).e = 0 ↔ OKJ 32 v := by
 unfold sameS
 rw [canon_sort]
 constructor
 ·intro h
  exact OKJ_sJ_inv 32 v (valW_ok true 32 (sJ 32 v) ⟨[], 0⟩ h).2.1
 ·intro h
  rw [valW_yes true 32 (sJ 32 v) ⟨[], 0⟩ (OKJ_sJ 32 v h) rfl (fun hf => by cases hf)]
theorem sameS_out {v : J} (h : OKJ 32 v) : (sameS v).out = encJ 32 (sJ 32 v) := by
 unfold sameS
 rw [canon_sort, valW_yes true 32 (sJ 32 v) ⟨[], 0⟩ (OKJ_sJ 32 v h) rfl (fun hf => by cases hf)]
 rfl
theorem same_says (a b : J) : sameB a b = saysB a b := by
 unfold sameB
 have ha := sameS_e a
 have hb := sameS_e b
 rw [← okB_iff] at ha hb
 unfold saysB
 by_cases h1 : okB 32 a = true
 ·by_cases h2 : okB 32 b = true
  ·rw [h1, h2, decide_eq_true (ha.2 h1), decide_eq_true (hb.2 h2), sameS_out ((okB_iff 32 a).1 h1), sameS_out ((okB_iff 32 b).1 h2)]
  ·rw [h1, decide_eq_false (fun h => h2 (hb.1 h)), Bool.eq_false_iff.2 h2]
   simp
 ·rw [decide_eq_false (fun h => h1 (ha.1 h)), Bool.eq_false_iff.2 h1]
  simp
theorem says_comm (a b : J) : saysB a b = saysB b a := by
 rw [Bool.eq_iff_iff, saysB_iff, saysB_iff]
 exact ⟨fun h => ⟨h.2.1, h.1, h.2.2.symm⟩, fun h => ⟨h.2.1, h.1, h.2.2.symm⟩⟩
theorem says_self (a : J) : saysB a a = okB 32 a := by
 rw [Bool.eq_iff_iff, saysB_iff, okB_iff]
 exact ⟨fun h => h.1, fun h => ⟨h, h, rfl⟩⟩
theorem bdB_of {B L B' L' : Nat} (hB : B ≤ B') (hL : L ≤ L') {v : J} (h : Bd B L v) : bdB B' L' v = true := by
 induction h with
 | mk f0 f1 f2 f3 h0 h1 h2 h3 _ ih =>
  unfold bdB
  simp only [Bool.and_eq_true, decide_eq_true_eq, List.all_eq_true, List.mem_attach, forall_const, Subtype.forall]
  exact ⟨by omega, fun s hs => Nat.le_trans (h1 s hs) hB, by omega, by omega, fun y hy => ih y hy⟩
theorem same_f_ok {B : Nat} (hB : B ≤ 288230376151711743) {a b : J} (ha : Bd B 10000 a) (hb : Bd B 10000 b) (wa : wtJ 32 a ≤ 140737488355328) (wb : wtJ 32 b ≤ 140737488355328) : jtext_Same.f a.f0 a.f1 a.f2 a.f3 b.f0 b.f1 b.f2 b.f3 = some (saysB a b) := by
 unfold jtext_Same.f
 have sa : samOK a = true := by
  unfold samOK
  rw [smB_of hB 32 ha, lnB_of (by decide) 32 ha, decide_eq_true wa]; rfl
 have sb : samOK b = true := by
  unfold samOK
  rw [smB_of hB 32 hb, lnB_of (by decide) 32 hb, decide_eq_true wb]; rfl
 rw [eta_J, eta_J, sa, sb, if_pos (by decide), same_says]
theorem rsame_f_ok {B : Nat} (hB : B ≤ 288230376151711743) {a b : J} (ha : Bd B 10000 a) (hb : Bd B 10000 b) : wicketref04_Same.f a.f0 a.f1 a.f2 a.f3 b.f0 b.f1 b.f2 b.f3 = some (saysB a b) := by
 unfold wicketref04_Same.f bdT
 rw [eta_J, eta_J, bdB_of (by omega) (by decide) ha, bdB_of (by omega) (by decide) hb, if_pos (by decide)]
theorem rvalid_f_ok {B : Nat} (hB : B ≤ 288230376151711743) {a : J} (ha : Bd B 10000 a) : wicketref04_Valid.f a.f0 a.f1 a.f2 a.f3 0 = some (okB 32 a) := by
 unfold wicketref04_Valid.f bdT
 rw [eta_J, bdB_of (by omega) (by decide) ha, if_pos (by decide)]
end Go.Proofs.YtaalajhmfdcalaaDoor.X
namespace Go.Proofs.YtaalajhmfdcalaaDoor.X
open Go.ChangeShapes Go.WideShapes Go.RowKit Go.Proofs.YtaalajhmfdcalaaDoorW.PrintWords
variable {H : Type} {enc : TypeId × Value → H}
theorem weightsAll_mem {P : Program} {e : TypeId} {n : Nat} : ∀ {l : List (DataW H)} {d : DataW H}, d ∈ l → n ∈ d.weights P e → n ∈ DataW.weightsAll P e l
 | x :: r, d, hd, hn => by
  simp only [DataW.weightsAll, List.mem_append]
  rcases List.mem_cons.1 hd with rfl | hd
  ·exact .inl hn
  ·exact .inr (weightsAll_mem hd hn)
abbrev lim : Nat := 140737488351232
abbrev limL : Nat := 281474976710656
instance : Inhabited J := ⟨z25⟩
end Go.Proofs.YtaalajhmfdcalaaDoor.X
namespace Go.Proofs.YtaalajhmfdcalaaDoor.X
open Go.ChangeShapes Go.WideShapes Go.RowKit Go.Proofs.YtaalajhmfdcalaaDoorW.PrintWords
variable {H : Type} {enc : TypeId × Value → H}
theorem bulk_all_append : ∀ (a b : List (DataW H)), Rows.uptoBulkAll (a ++ b) = Rows.uptoBulkAll a + Rows.uptoBulkAll b
 | [], b => by simp [Rows.uptoBulkAll]
 | x :: a, b => by simp only [List.cons_append, Rows.uptoBulkAll, bulk_all_append a b]; omega
theorem sum_range_le {α : Type} (wt : α → Nat) (q : Nat → α) (elems : List (DataW H)) : ∀ (len : Nat), len ≤ elems.length → (∀ i (h : i < elems.length), i < len → wt (q i) ≤ 17 * Rows.uptoBulk elems[i]) → (((List.range len).map q).map wt).sum ≤ 17 * Rows.uptoBulkAll (elems.take len)
 | 0, _, _ => by simp
 | n + 1, h, hh => by
  have h1 := sum_range_le wt q elems n (by omega) (fun i hi hn => hh i hi (by omega))
  have h2 := hh n (by omega) (by omega)
  rw [List.range_succ, List.map_append, List.map_append, List.sum_append, List.take_succ_eq_append_getElem (by omega), bulk_all_append]
  simp only [List.map_cons, List.map_nil, List.sum_cons, List.sum_nil, Rows.uptoBulkAll]
  omega
theorem bulk_take (l : List (DataW H)) (n : Nat) : Rows.uptoBulkAll (l.take n) ≤ Rows.uptoBulkAll l := by
 have := bulk_all_append (l.take n) (l.drop n)
 rw [List.take_append_drop] at this
 omega
set_option maxRecDepth 100000 in
theorem open_row_up {α ι : Type} [Inhabited α] (d : Kd α) {e t : TypeId} (ht : Tryd.prog.underlying t = some (.slice e)) (hsz : Tryd.prog.cellsOf e = d.sz) (Q : α → Prop) (wt : ι → α → Nat) {W : World} {n : Nat} {v : Value} {y : DataW H × List MemPlace}
  (hel : ∀ n' cs (x : DataW H × List MemPlace), n' < n → DataW.trod enc Tryd.prog W 0 (fun _ => true) true n' e cs = some x → (∀ k ∈ x.1.weights Tryd.prog e, k ≤ lim) → cs.length = d.sz ∧ ∃ a : α, d.K W a cs ∧ Q a ∧ ∀ r, wt r a ≤ 17 * Rows.uptoBulk x.1)
  (h : DataW.trod enc Tryd.prog W 0 (fun _ => true) true n t [v] = some y) (hw : ∀ k ∈ y.1.weights Tryd.prog t, k ≤ lim) :
  ∃ (A : Option Addr) (l : List α) (c : Nat), v = .slice A l.length c ∧ l.length ≤ c ∧ Kd.C d W A l.length l ∧ (∀ a ∈ l, Q a) ∧ l.length * Tryd.prog.bytesOf e ≤ lim ∧ ∀ r, (l.map (wt r)).sum + 17 ≤ 17 * Rows.uptoBulk y.1 := by
 rcases DataW.trod_slice ht h with ⟨hc, hy⟩ | ⟨a, len, cap, elems, rest, m, rfl, hc, rfl, _, hl, hm, hel1, hx, _, _⟩
 ·obtain rfl : v = .slice none 0 0 := by simpa using hc
  refine ⟨none, [], 0, rfl, Nat.le_refl _, ⟨rfl, by simp, fun h => absurd h (by simp)⟩, (fun f hf => by cases hf), by rw [List.length_nil, Nat.zero_mul]; exact Nat.zero_le _, fun r => ?_⟩
  rw [hy]
  simp [Rows.uptoBulk]
 ·obtain rfl : v = .slice (some a) len cap := by simpa using hc
  have hwl : (elems.length + rest.length) * Tryd.prog.bytesOf e ≤ lim := by
   refine hw _ ?_
   simp only [DataW.weights, ht, List.length_map]
   exact List.mem_cons_self ..
  have each : ∀ i, i < len → ∃ q : α, ∃ cs, W.cells? 0 (a.add (i * d.sz)) d.sz = some cs ∧ cs.length = d.sz ∧ d.K W q cs ∧ Q q ∧ ∀ (hi : i < (elems.map Prod.fst).length) r, wt r q ≤ 17 * Rows.uptoBulk (elems.map Prod.fst)[i] := by
   intro i hi
   have h1 := hx i hi
   rw [List.getElem?_eq_getElem (by omega), hsz] at h1
   obtain ⟨cs, h2, h3⟩ := Option.bind_eq_some_iff.1 h1
   obtain ⟨h4, q, h5, h6, h7⟩ := hel m cs _ (Nat.lt_succ_self m) h3 (fun k hk => hw k (by
    simp only [DataW.weights, ht, List.mem_cons, List.mem_append]
    exact .inr (.inl (weightsAll_mem (List.mem_map.2 ⟨_, List.getElem_mem (by omega : i < elems.length), rfl⟩) hk))))
   exact ⟨q, cs, h2, h4, h5, h6, fun hi r => by rw [List.getElem_map]; exact h7 r⟩
  obtain ⟨q, hq⟩ := Go.Deep.choose_lt each
  have hlen : ((List.range len).map q).length = len := by simp
  refine ⟨some a, (List.range len).map q, cap, by rw [hlen], by rw [hlen]; exact hl, ⟨rfl, ?_, fun _ => ⟨a, rfl, ?_⟩⟩, ?_, ?_, ?_⟩
  ·rw [hlen]
   have : maxLen = 9223372036854775807 := rfl
   omega
  ·intro j p hj
   have hj' : j < len := by
    have := (List.getElem?_eq_some_iff.1 hj).1
    simpa using this
   have hp : p = q j := by
    simp [List.getElem?_map, List.getElem?_range hj'] at hj
    exact hj.symm
   subst hp
   obtain ⟨cs, h1, h2, h3, _⟩ := hq j hj'
   obtain ⟨_, h5, h6⟩ := World.cells?_some h1
   refine ⟨cs, h2, h3, fun i u hu => ?_⟩
   have hi : i < d.sz := by have := (List.getElem?_eq_some_iff.1 hu).1; omega
   have := h6 i hi
   rw [hu] at this
   rw [← this]
   rw [Addr.add_add]
  ·intro f hf
   obtain ⟨i, hi, rfl⟩ := List.mem_map.1 hf
   obtain ⟨cs, _, _, _, h4, _⟩ := hq i (List.mem_range.1 hi)
   exact h4
  ·rw [hlen]
   have hle : len ≤ elems.length + rest.length := by omega
   have hmul : len * Tryd.prog.bytesOf e ≤ (elems.length + rest.length) * Tryd.prog.bytesOf e := Nat.mul_le_mul_right _ hle
   exact Nat.le_trans hmul hwl
  ·intro r
   have h1 := sum_range_le (wt r) q (elems.map Prod.fst) len (by rw [List.length_map]; omega) (fun i hi hn => by
    obtain ⟨cs, _, _, _, _, h5⟩ := hq i hn
    exact h5 hi r)
   have h2 := bulk_take (elems.map Prod.fst) len
   change _ + 17 ≤ 17 * (Rows.uptoBulkAll (elems.map Prod.fst) + Rows.uptoBulkAll (rest.map Prod.fst) + 1)
   omega
theorem open_str_up {W : World} {n : Nat} {cs : List Value} {x : DataW H × List MemPlace} (h : DataW.trod enc Tryd.prog W 0 (fun _ => true) true n 9 cs = some x) (hw : ∀ k ∈ x.1.weights Tryd.prog 9, k ≤ lim) : ∃ s : ByteArray, cs = [.string s] ∧ s.size ≤ lim ∧ s.size + 1 = Rows.uptoBulk x.1 := by
 obtain ⟨s, e, rfl, _⟩ := DataW.trod_string Tryd.underlying9 h
 refine ⟨s, e, ?_, ?_⟩
 ·have := hw s.data.toList.length (by simp [DataW.weights])
  rw [Array.length_toList] at this
  exact this
 ·simp only [Rows.uptoBulk, Array.length_toList]
  rfl
theorem open_strs_up {W : World} {n : Nat} {v : Value} {y : DataW H × List MemPlace} (h : DataW.trod enc Tryd.prog W 0 (fun _ => true) true n 22 [v] = some y) (hw : ∀ k ∈ y.1.weights Tryd.prog 22, k ≤ lim) :
  ∃ (A : Option Addr) (l : List ByteArray) (c : Nat), v = .slice A l.length c ∧ l.length ≤ c ∧ Kd.C Kd.string W A l.length l ∧ (∀ a ∈ l, a.size ≤ lim) ∧ l.length ≤ limL ∧ (l.map (fun s => 12 * s.size + 16)).sum + 17 ≤ 17 * Rows.uptoBulk y.1 := by
 haveI : Inhabited ByteArray := ⟨⟨#[]⟩⟩
 obtain ⟨A, l, c, e1, h1, h2, h3, h4, h5⟩ := open_row_up (ι := Unit) (H := H) (enc := enc) Kd.string Tryd.underlying22 (by kernel_rfl) (fun s => s.size ≤ lim) (fun _ s => 12 * s.size + 16) (fun n' cs x _ hx hk => by
  obtain ⟨s, rfl, hs, hb⟩ := open_str_up hx hk
  exact ⟨rfl, s, rfl, hs, fun _ => by omega⟩) h hw
 rw [show Tryd.prog.bytesOf 9 = 16 by kernel_rfl] at h4
 have h4' : l.length * 16 ≤ 140737488351232 := h4
 exact ⟨A, l, c, e1, h1, h2, h3, by show l.length ≤ 281474976710656; omega, h5 ()⟩
set_option maxRecDepth 100000 in
theorem open_cells_up {W : World} : ∀ (n : Nat) (cs : List Value) (x : DataW H × List MemPlace), DataW.trod enc Tryd.prog W 0 (fun _ => true) true n 25 cs = some x → (∀ k ∈ x.1.weights Tryd.prog 25, k ≤ lim) → cs.length = 4 ∧ ∃ v : J, k25.K W v cs ∧ Bd lim limL v ∧ ∀ r, wtJ r v + 1 ≤ 17 * Rows.uptoBulk x.1 := by
 intro n
 induction n using Nat.strongRecOn with
 | _ n ih =>
 intro cs x h hw
 obtain ⟨xs, m, rfl, rfl, hcl, hxl, hall⟩ := DataW.trod_struct Tryd.underlying25 h
 rw [show Tryd.prog.cellsOf 25 = 4 by kernel_rfl] at hcl
 obtain ⟨c0, c1, c2, c3, rfl⟩ : ∃ c0 c1 c2 c3, cs = [c0, c1, c2, c3] := by
  match cs, hcl with
  | [c0, c1, c2, c3], _ => exact ⟨c0, c1, c2, c3, rfl⟩
 obtain ⟨y0, y1, y2, y3, rfl⟩ : ∃ y0 y1 y2 y3, xs = [y0, y1, y2, y3] := by
  match xs, hxl with
  | [c0, c1, c2, c3], _ => exact ⟨c0, c1, c2, c3, rfl⟩
 have k1 : Tryd.prog.cellsOf 3 = 1 := by kernel_rfl
 have k2 : Tryd.prog.cellsOf 9 = 1 := by kernel_rfl
 have k3 : Tryd.prog.cellsOf 22 = 1 := by kernel_rfl
 have k4 : Tryd.prog.cellsOf 23 = 1 := by kernel_rfl
 have h0 : DataW.trod enc Tryd.prog W 0 (fun _ => true) true m 3 [c0] = some y0 := by have := hall 0 _ rfl; simpa [k1] using this
 have h1 : DataW.trod enc Tryd.prog W 0 (fun _ => true) true m 9 [c1] = some y1 := by have := hall 1 _ rfl; simpa [k2] using this
 have h2 : DataW.trod enc Tryd.prog W 0 (fun _ => true) true m 22 [c2] = some y2 := by have := hall 2 _ rfl; simpa [k3] using this
 have h3 : DataW.trod enc Tryd.prog W 0 (fun _ => true) true m 23 [c3] = some y3 := by have := hall 3 _ rfl; simpa [k4] using this
 simp only [DataW.weights, Tryd.underlying25, DataW.weightsEach, List.map_cons, List.map_nil, List.mem_append, List.mem_cons, List.not_mem_nil, or_false] at hw
 obtain ⟨i, e0, x0, _⟩ := DataW.trod_int Tryd.underlying3 h0
 obtain ⟨s, e1, w1, b1⟩ := open_str_up h1 (fun k hk => hw k (.inr (.inl hk)))
 obtain ⟨A2, l2, q2, e2, g2, C2, S2, L2, b2⟩ := open_strs_up h2 (fun k hk => hw k (.inr (.inr (.inl hk))))
 obtain ⟨A3, l3, q3, e3, g3, C3, S3, L3, b3⟩ := open_row_up (ι := Nat) (H := H) (enc := enc) k25 Tryd.underlying23 (by kernel_rfl) (fun v => Bd lim limL v) (fun r y => wtJ r y + 1) (fun n' cs x hn' hx hk => ih n' (by omega) cs x hx hk) h3 (fun k hk => hw k (.inr (.inr (.inr hk))))
 rw [show Tryd.prog.bytesOf 25 = 72 by kernel_rfl] at L3
 simp only [List.cons.injEq, and_true] at e0 e1
 subst e0 e1 e2 e3
 refine ⟨rfl, ⟨i, s, l2, l3⟩, k25_mk W ⟨i, s, l2, l3⟩ g2 C2 g3 C3, .mk i s l2 l3 w1 S2 L2 (by have h4' : l3.length * 72 ≤ 140737488351232 := L3; show l3.length ≤ 281474976710656; omega) S3, fun r => ?_⟩
 simp only [Rows.uptoBulk, List.map_cons, List.map_nil, Rows.uptoBulkAll]
 cases r with
 | zero =>
  have : wtJ 0 ⟨i, s, l2, l3⟩ = 12 * s.size + 16 := rfl
  have h3 : (l3.map (fun y => wtJ 0 y + 1)).sum + 17 ≤ 17 * Rows.uptoBulk y3.1 := b3 0
  omega
 | succ r =>
  have : wtJ (r + 1) ⟨i, s, l2, l3⟩ = 12 * s.size + 16 + (l2.map (fun s => 12 * s.size + 16)).sum + (l3.map (fun y => wtJ r y + 1)).sum := rfl
  have h3 : (l3.map (fun y => wtJ r y + 1)).sum + 17 ≤ 17 * Rows.uptoBulk y3.1 := b3 r
  omega
set_option maxRecDepth 100000 in
theorem open_json_up {W : World} {r : Reach} {b0 : Nat} {v : Value} {d : DataW H} {p : List MemPlace} (hv : Value.okWide Tryd.prog W r b0 25 v) (h : DataW.Trod enc Tryd.prog W 0 (fun _ => true) true 25 v d p)
  (hw : ∀ k ∈ d.weights Tryd.prog 25, k ≤ lim) :
  ∃ (j : J) (A2 A3 : Option Addr) (c2 c3 : Nat), v = .agg #[.int .i64 j.f0, .string j.f1, .slice A2 j.f2.length c2, .slice A3 j.f3.length c3] ∧ j.f2.length ≤ c2 ∧ Kd.C Kd.string W A2 j.f2.length j.f2 ∧ j.f3.length ≤ c3 ∧ Kd.C k25 W A3 j.f3.length j.f3 ∧ Bd lim limL j ∧ wtJ 32 j + 1 ≤ 17 * Rows.uptoBulk d := by
 obtain ⟨cs, rfl, hsz⟩ := okWide_struct Tryd.underlying25 hv
 obtain ⟨fuel, hf⟩ := h
 obtain ⟨hcl, j, hK, hB, hu⟩ := open_cells_up fuel _ _ hf hw
 obtain ⟨A2, c2, A3, c3, e, l2, g2, l3, g3⟩ := k25_open hK
 obtain rfl : cs = #[.int .i64 j.f0, .string j.f1, .slice A2 j.f2.length c2, .slice A3 j.f3.length c3] := Array.ext' e
 exact ⟨j, A2, A3, c2, c3, rfl, l2, g2, l3, g3, hB, hu 32⟩
end Go.Proofs.YtaalajhmfdcalaaDoor.X
namespace Go.Proofs.YtaalajhmfdcalaaDoor.X
open Go.RowKit Go.Lib Go.Proofs.YtaalajhmfdcalaaDoorW.PrintWords Go.Proofs.YtaalajhmfdcalaaDoorW.PrintLast Go.Proofs.YtaalajhmfdcalaaDoorW.PrintMore
set_option maxRecDepth 1000000 in
set_option maxHeartbeats 4000000 in
theorem sames_big1 (a b : J) (A2 A3 B2 B3 : Option Addr) (c2 c3 d2 d3 : Nat) (W : World) (hla : LgC W (jVal a.f0 a.f1 A2 A3 a.f2.length c2 a.f3.length c3) true) :
  Calls Tryd.prog 7 #[jVal a.f0 a.f1 A2 A3 a.f2.length c2 a.f3.length c3, jVal b.f0 b.f1 B2 B3 b.f2.length d2 b.f3.length d3] W fun e w' => e = .returned (.bool true) ∧ Below W.heap.size W w' := by
 obtain ⟨F0, F1, F2⟩ := says_boxes W (.cells #[.int .i64 a.f0, .string a.f1, .slice A2 a.f2.length c2, .slice A3 a.f3.length c3] 25) (.cells #[.int .i64 b.f0, .string b.f1, .slice B2 b.f2.length d2, .slice B3 b.f3.length d3] 25)
 have HS := Aside0.mk (show R3 W (.cells #[.int .i64 a.f0, .string a.f1, .slice A2 a.f2.length c2, .slice A3 a.f3.length c3] 25 (0, 0)) (.cells #[.int .i64 b.f0, .string b.f1, .slice B2 b.f2.length d2, .slice B3 b.f3.length d3] 25 (0, 0)) a b none none none none _ from ⟨F1, F2, F0, fun _ e => (by cases e), fun _ e => (by cases e), fun _ _ e => (by cases e), Got3.nil, Got3.nil⟩)
 have HLA := Aside0.mk hla
 clear hla F0 F1 F2
 go_enter Tryd.func7, Tryd.ntmps7
 go_wp2_with (first | (go_at_call 16; (with_reducible refine (HLA.out _ HS.out.bel).mono ?_); rintro e w1 ⟨rfl, hb⟩; have HS1 := Aside0.mk (HS.out.below hb); clear hb; have q0 := (blk_cell HS1.out.hb 0).trans rfl; have q1 := (blk_cell HS1.out.hb 1).trans rfl; have q2 := (blk_cell HS1.out.hb 2).trans rfl; have q3 := (blk_cell HS1.out.hb 3).trans rfl))
 go_ret
 exact ⟨rfl, by repeat (first | exact HS1.out.bel | apply pw_below_drewN | apply below_drew1)⟩
set_option maxRecDepth 1000000 in
set_option maxHeartbeats 4000000 in
theorem sames_big2 (a b : J) (A2 A3 B2 B3 : Option Addr) (c2 c3 d2 d3 : Nat) (W : World) (hla : LgC W (jVal a.f0 a.f1 A2 A3 a.f2.length c2 a.f3.length c3) false) (hlb : LgC W (jVal b.f0 b.f1 B2 B3 b.f2.length d2 b.f3.length d3) true) :
  Calls Tryd.prog 7 #[jVal a.f0 a.f1 A2 A3 a.f2.length c2 a.f3.length c3, jVal b.f0 b.f1 B2 B3 b.f2.length d2 b.f3.length d3] W fun e w' => e = .returned (.bool true) ∧ Below W.heap.size W w' := by
 obtain ⟨F0, F1, F2⟩ := says_boxes W (.cells #[.int .i64 a.f0, .string a.f1, .slice A2 a.f2.length c2, .slice A3 a.f3.length c3] 25) (.cells #[.int .i64 b.f0, .string b.f1, .slice B2 b.f2.length d2, .slice B3 b.f3.length d3] 25)
 have HS := Aside0.mk (show R3 W (.cells #[.int .i64 a.f0, .string a.f1, .slice A2 a.f2.length c2, .slice A3 a.f3.length c3] 25 (0, 0)) (.cells #[.int .i64 b.f0, .string b.f1, .slice B2 b.f2.length d2, .slice B3 b.f3.length d3] 25 (0, 0)) a b none none none none _ from ⟨F1, F2, F0, fun _ e => (by cases e), fun _ e => (by cases e), fun _ _ e => (by cases e), Got3.nil, Got3.nil⟩)
 have HLA := Aside0.mk hla
 have HLB := Aside0.mk hlb
 clear hla hlb F0 F1 F2
 go_enter Tryd.func7, Tryd.ntmps7
 go_wp2_with (first | (go_at_call 16; (with_reducible refine (HLA.out _ HS.out.bel).mono ?_); rintro e w1 ⟨rfl, hb⟩; have HS1 := Aside0.mk (HS.out.below hb); clear hb; have q0 := (blk_cell HS1.out.hb 0).trans rfl; have q1 := (blk_cell HS1.out.hb 1).trans rfl; have q2 := (blk_cell HS1.out.hb 2).trans rfl; have q3 := (blk_cell HS1.out.hb 3).trans rfl) | (go_at_call 16; (with_reducible refine (HLB.out _ HS1.out.bel).mono ?_); rintro e w2 ⟨rfl, hb⟩; have HS2 := Aside0.mk (HS1.out.below hb); clear hb q0 q1 q2 q3))
 go_ret
 exact ⟨rfl, by repeat (first | exact HS2.out.bel | apply pw_below_drewN | apply below_drew1)⟩
theorem eqc_of {B L : Nat} (hL : L ≤ 4611686018427387904) {W : World} {x : J} (h : Bd B L x) {A2 A3 : Option Addr} {c2 c3 : Nat} (h2 : Kd.C Kd.string W A2 x.f2.length x.f2) (h3 : Kd.C k25 W A3 x.f3.length x.f3) : EqC W (jVal x.f0 x.f1 A2 A3 x.f2.length c2 x.f3.length c3) x := by
 intro X2 X3 k2 k3 w hw g2 g3
 refine (requal_ok B L hL h x X2 X3 A2 A3 k2 k3 c2 c3 w g2 g3 (Kd.C_below h2 hw) (Kd.C_below h3 hw)).mono ?_
 rintro e w' ⟨t, rfl, ht, hb⟩
 rw [ht.2 rfl]
 exact ⟨rfl, hb⟩
theorem twc_of {B L : Nat} (hL : L ≤ 1000000000) {W : World} {x : J} (h : Bd B L x) {A2 A3 : Option Addr} {c2 c3 : Nat} (h2 : Kd.C Kd.string W A2 x.f2.length x.f2) (l2 : x.f2.length ≤ c2) (h3 : Kd.C k25 W A3 x.f3.length x.f3) (l3 : x.f3.length ≤ c3) : TwC W (jVal x.f0 x.f1 A2 A3 x.f2.length c2 x.f3.length c3) x := by
 obtain ⟨K, hK⟩ := twin_self hL h
 intro w hw
 exact wicketref04_Twin.calls K x.f0 x.f1 A2 c2 x.f2 A3 c3 x.f3 x.f0 x.f1 x.f2 x.f3 w (Kd.C_below h2 hw) l2 (Kd.C_below h3 hw) l3 (hK K (Nat.le_refl _))
theorem smc_of {B : Nat} (hB : B ≤ 288230376151711743) {W : World} (hG : GL W) {x y : J} (h : Bd B 10000 x) (g : Bd B 10000 y) (wx : wtJ 32 x ≤ 140737488355328) (wy : wtJ 32 y ≤ 140737488355328) {t : Bool} (ht : saysB x y = t) : SmC W x y t := by
 intro X2 X3 Y2 Y3 k2 k3 l2 l3 w hw a1 a2 a3 a4 b1 b2 b3 b4
 exact jtext_Same.calls x.f0 x.f1 X2 k2 x.f2 X3 k3 x.f3 y.f0 y.f1 Y2 l2 y.f2 Y3 l3 y.f3 t w a1 a2 a3 a4 b1 b2 b3 b4 (GL_below hG hw) (by rw [same_f_ok hB h g wx wy, ht])
theorem sames_walk2 (j i : J) (A2 A3 B2 B3 : Option Addr) (c2 c3 k2 k3 : Nat) (W : World) (h2 : Kd.C Kd.string W A2 j.f2.length j.f2) (hc2 : j.f2.length ≤ c2) (h3 : Kd.C k25 W A3 j.f3.length j.f3) (hc3 : j.f3.length ≤ c3) (g2 : Kd.C Kd.string W B2 i.f2.length i.f2) (hk2 : i.f2.length ≤ k2) (g3 : Kd.C k25 W B3 i.f3.length i.f3) (hk3 : i.f3.length ≤ k3) (hG : GL W) (hB : Bd lim limL j) (hB' : Bd lim limL i) (wa : wtJ 32 j ≤ 140737488355328) (wb : wtJ 32 i ≤ 140737488355328) :
  Calls Tryd.prog 7 #[.agg #[.int .i64 j.f0, .string j.f1, .slice A2 j.f2.length c2, .slice A3 j.f3.length c3], .agg #[.int .i64 i.f0, .string i.f1, .slice B2 i.f2.length k2, .slice B3 i.f3.length k3]] W fun e w' => e = .returned (.bool true) ∧ Below W.heap.size W w' := by
 obtain ⟨K, hK⟩ := large_of (by decide) hB
 obtain ⟨K', hK'⟩ := large_of (by decide) hB'
 have la : ∀ {t : Bool}, wicketlaw04_large.f K j.f0 j.f1 j.f2 j.f3 = some t → LgC W (jVal j.f0 j.f1 A2 A3 j.f2.length c2 j.f3.length c3) t := fun h w hw => wicketlaw04_large.calls K j.f0 j.f1 A2 c2 j.f2 A3 c3 j.f3 _ w (Kd.C_below h2 hw) hc2 (Kd.C_below h3 hw) hc3 h
 have lb : ∀ {t : Bool}, wicketlaw04_large.f K' i.f0 i.f1 i.f2 i.f3 = some t → LgC W (jVal i.f0 i.f1 B2 B3 i.f2.length k2 i.f3.length k3) t := fun h w hw => wicketlaw04_large.calls K' i.f0 i.f1 B2 k2 i.f2 B3 k3 i.f3 _ w (Kd.C_below g2 hw) hk2 (Kd.C_below g3 hw) hk3 h
 rcases hK with hK | ⟨hK, hJ⟩
 ·exact sames_big1 j i A2 A3 B2 B3 c2 c3 k2 k3 W (la (hK K (Nat.le_refl _)))
 rcases hK' with hK' | ⟨hK', hI⟩
 ·exact sames_big2 j i A2 A3 B2 B3 c2 c3 k2 k3 W (la (hK K (Nat.le_refl _))) (lb (hK' K' (Nat.le_refl _)))
 have hlim : lim ≤ 288230376151711743 := by decide
 refine sames_small j i A2 A3 B2 B3 c2 c3 k2 k3 W (la (hK K (Nat.le_refl _))) (lb (hK' K' (Nat.le_refl _))) (twc_of (by decide) hJ h2 hc2 h3 hc3) (twc_of (by decide) hI g2 hk2 g3 hk3) (saysB j i) (okB 32 j)
  (smc_of hlim hG hJ hI wa wb rfl) (smc_of hlim hG hI hJ wb wa (says_comm i j)) (smc_of hlim hG hJ hJ wa wa (says_self j)) ?_ ?_ ?_ (eqc_of (by decide) hJ h2 h3) (eqc_of (by decide) hI g2 g3)
 ·intro w hw
  exact wicketref04_Same.calls j.f0 j.f1 A2 c2 j.f2 A3 c3 j.f3 i.f0 i.f1 B2 k2 i.f2 B3 k3 i.f3 _ w (Kd.C_below h2 hw) hc2 (Kd.C_below h3 hw) hc3 (Kd.C_below g2 hw) hk2 (Kd.C_below g3 hw) hk3 (GL_below hG hw) (rsame_f_ok hlim hJ hI)
 ·intro w hw
  exact wicketref04_Valid.calls j.f0 j.f1 A2 c2 j.f2 A3 c3 j.f3 0 _ w (Kd.C_below h2 hw) hc2 (Kd.C_below h3 hw) hc3 (GL_below hG hw) (rvalid_f_ok hlim hJ)
 ·intro w hw
  exact wicketlaw04_live.calls true w (GL_below hG hw) live_true
end Go.Proofs.YtaalajhmfdcalaaDoor.X
namespace Go.Proofs.YtaalajhmfdcalaaDoor.X
open Go.RowKit Go.Lib
set_option maxRecDepth 100000 in
theorem first_eq : Rows.laid_unicode_utf8_first = firstData := by kernel_rfl
set_option maxRecDepth 100000 in
theorem accept_eq : (Rows.laid_unicode_utf8_acceptRanges : DataW Unit) = acceptData := by kernel_rfl
theorem words_of {W : World} (h : VarReads Tryd.prog W "wicket/jtext.words" Rows.laid_wicket_jtext_words) : GLw W := by
 obtain ⟨g, t, cs, fuel, p, hg, hty, hvar, hd⟩ := h
 obtain rfl : 0 = g := Option.some.inj ((show Tryd.prog.globalNamed "wicket/jtext.words" = some 0 by kernel_rfl).symm.trans hg)
 obtain rfl : 104 = t := Option.some.inj ((show (Tryd.prog.globals[0]?).map (·.type) = some 104 by kernel_rfl).symm.trans hty)
 have key : ∀ (i : Nat), i < 3 → ∀ l : List UInt8, (([.lit (.string [110, 117, 108, 108]), .lit (.string [102, 97, 108, 115, 101]), .lit (.string [116, 114, 117, 101])] : List (DataW Unit))[i]? = some (.lit (.string l))) → W.cell? ⟨0, i, none⟩ = some (.string ⟨l.toArray⟩) := by
  intro i hi l hl
  obtain ⟨fuel', d, q, hdi, he⟩ := array_elem Tryd.underlying104 hd i hi
  rw [hl] at hdi
  injection hdi with hdi
  subst hdi
  rw [show Tryd.prog.cellsOf 9 = 1 by kernel_rfl] at he
  obtain ⟨s, hcs, hs, _⟩ := DataW.trod_string Tryd.underlying9 he
  injection hs with hs _
  injection hs with hs
  injection hs with hs
  have e0 := congrArg (·[0]?) hcs
  simp only [List.getElem?_take, List.getElem?_drop] at e0
  rw [World.var?_cell hg hvar i, ← Array.getElem?_toList]
  have e1 : s = ⟨l.toArray⟩ := by
   apply ByteArray.ext
   apply Array.ext'
   rw [hs]
  rw [← e1]
  simpa using e0
 exact ⟨key 0 (by omega) _ rfl, key 1 (by omega) _ rfl, key 2 (by omega) _ rfl⟩
theorem GL_of {W : World} (hL : laidMetH Tryd.prog Rows.jtextFirstRow.laid W) : GL W := by
 rw [MakeChecks.laidMetH_plain _ _ _ (by kernel_rfl)] at hL
 have h1 := laidMet.reads hL (n := "unicode/utf8.acceptRanges") (d := Rows.laid_unicode_utf8_acceptRanges) (.head _)
 have h2 := laidMet.reads hL (n := "wicket/jtext.words") (d := Rows.laid_wicket_jtext_words) (.tail _ (.head _))
 have h3 := laidMet.reads hL (n := "unicode/utf8.first") (d := Rows.laid_unicode_utf8_first) (.tail _ (.tail _ (.head _)))
 rw [first_eq] at h3
 rw [accept_eq] at h1
 exact ⟨words_of h2, utf8Tabs_of_readsT (U8Types.of196 Tryd.lays196) ⟨by kernel_rfl, by kernel_rfl, by kernel_rfl, by kernel_rfl, by kernel_rfl, by kernel_rfl, by kernel_rfl⟩ h3 h1⟩
end Go.Proofs.YtaalajhmfdcalaaDoor.X
namespace Go.Proofs.YtaalajhmfdcalaaDoor.jtextSames
open Go.ChangeShapes Go.WideShapes Go.ChangeAt Go.RowKit
open Go.ChangeMaps (open_string shut_string)
theorem own : ownKnob Tryd.prog.godebug = none := by kernel_rfl
theorem laidOut : laidOutB Tryd.prog = true := by kernel_rfl
set_option maxRecDepth 100000 in
theorem contract (H : Type) (enc : TypeId × Value → H) (W : World) (base : Nat) (args : Array Value) (ds gs : List (DataW H)) (before : List MemPlace)
  (hval0 : ∀ (j : Nat) t v, Tryd.f7.params[j]? = some t → args[j]? = some v → Value.okWide Tryd.prog W .any base t v)
  (hW : DataW.Whole enc Tryd.prog Tryd.f7.params.toList Rows.jtextSamesSpec.vars false W args.toList ds gs before)
  (hsz0 : (DataW.weightsEach Tryd.prog (Tryd.f7.params.toList ++ Rows.jtextSamesSpec.plain.varTypes Tryd.prog) (ds ++ gs)).all (· ≤ reachBytes) = true) (hup : Rows.uptoSmall H (ds ++ gs) = true) (hG : X.GL W) :
  Calls Tryd.prog 7 args W fun e W' => ∃ v, e = .returned v ∧ Rows.jtextSamesSpec.post enc Tryd.prog Tryd.f7 false true false false W args v W' := by
 have hval := hval0
 have hsz := hsz0
 have hW' := hW
 obtain ⟨p, q, hA0, hV, rfl, hfz, hnd⟩ := hW
 have hA : DataW.TrodAll enc Tryd.prog W 0 (fun _ => true) true Tryd.f7.params.toList args.toList ds p := hA0
 rw [Tryd.params7] at hA hval hsz
 obtain ⟨v0, vs0, d0, ds0, p0, q0, hargs, rfl, rfl, h0, r0⟩ := trodAll_cons hA
 obtain ⟨v1, vs1, d1, ds1, p1, q1, rfl, rfl, rfl, h1, r1⟩ := trodAll_cons r0
 obtain ⟨rfl, rfl, rfl⟩ := trodAll_nil r1
 obtain rfl : args = #[v0, v1] := by cases args; simp_all
 obtain ⟨rfl, rfl⟩ := trodVars_none hV
 have hU := of_decide_eq_true hup
 simp only [List.cons_append, List.nil_append, List.append_nil, Rows.uptoBulkAll, Rows.uptoBulk, Array.length_toList] at hU
 have k0 := h0
 have lt0 : ∀ x ∈ p0, x.block < W.heap.size := by obtain ⟨m, hm⟩ := k0; exact DataW.trod_lt m _ _ _ hm
 have sz0 : ∀ k ∈ d0.weights Tryd.prog 25, k ≤ X.lim := fun k hk => of_decide_eq_true (List.all_eq_true.1 hsz k (DataW.weights_mem_each (j := 0) (t := 25) rfl rfl k hk))
 obtain ⟨j0, A2_0, A3_0, c2_0, c3_0, rfl, hc2_0, hk2_0, hc3_0, hk3_0, hB0, hw0⟩ := X.open_json_up (hval 0 25 v0 rfl rfl) h0 sz0
 have k1 := h1
 have lt1 : ∀ x ∈ p1, x.block < W.heap.size := by obtain ⟨m, hm⟩ := k1; exact DataW.trod_lt m _ _ _ hm
 have sz1 : ∀ k ∈ d1.weights Tryd.prog 25, k ≤ X.lim := fun k hk => of_decide_eq_true (List.all_eq_true.1 hsz k (DataW.weights_mem_each (j := 1) (t := 25) rfl rfl k hk))
 obtain ⟨j1, A2_1, A3_1, c2_1, c3_1, rfl, hc2_1, hk2_1, hc3_1, hk3_1, hB1, hw1⟩ := X.open_json_up (hval 1 25 v1 rfl rfl) h1 sz1
 clear hA0 hval0 hsz0 hsz
 refine (X.sames_walk2 j0 j1 A2_0 A3_0 A2_1 A3_1 c2_0 c3_0 c2_1 c3_1 W hk2_0 hc2_0 hk3_0 hc3_0 hk2_1 hc2_1 hk3_1 hc3_1 hG hB0 hB1 (by omega) (by omega)).mono fun e W' ⟨he, bel⟩ => ?_
 subst he
 exact ⟨_, rfl, _, _, _, [], _, [], hW', trodAll_mk1 (shut_bool Tryd.underlying4 _), (trodAll_cons_mk (Below.trod laidOut (by kernel_rfl) (of_decide_eq_true (by kernel_rfl)) k0 bel lt0) (trodAll_cons_mk (Below.trod laidOut (by kernel_rfl) (of_decide_eq_true (by kernel_rfl)) k1 bel lt1) trodAll_mk0)), rfl, bel.frame _, fun h => by cases h⟩
theorem lay_met (os : Os) : laidMetH Tryd.prog Rows.jtextSamesUptoRow.laid ((World.laidAll Tryd.prog os Rows.jtextSamesUptoRow.laid).forCall (fun _ _ => 0) ⟨#[], #[.agg #[.int .i64 0, .string ⟨#[]⟩, .slice none 0 0, .slice none 0 0], .agg #[.int .i64 0, .string ⟨#[]⟩, .slice none 0 0, .slice none 0 0]], []⟩).memory := by
 rw [MakeChecks.laidMetH_plain _ _ _ (by kernel_rfl)]
 exact laidMet_laidAll _ (by kernel_rfl) (by kernel_rfl)
theorem reads (os : Os) {H : Type} (enc : TypeId × Value → H) : ∃ places, DataW.whole enc Tryd.prog ((World.laidAll Tryd.prog os Rows.jtextSamesUptoRow.laid).forCall (fun _ _ => 0) ⟨#[], #[.agg #[.int .i64 0, .string ⟨#[]⟩, .slice none 0 0, .slice none 0 0], .agg #[.int .i64 0, .string ⟨#[]⟩, .slice none 0 0, .slice none 0 0]], []⟩).memory Tryd.f7.params.toList Rows.jtextSamesSpec.vars false (#[.agg #[.int .i64 0, .string ⟨#[]⟩, .slice none 0 0, .slice none 0 0], .agg #[.int .i64 0, .string ⟨#[]⟩, .slice none 0 0, .slice none 0 0]] : Array Value).toList 8 = some ([.agg [.lit (.int .i64 0), .lit (.string []), .nil, .nil], .agg [.lit (.int .i64 0), .lit (.string []), .nil, .nil]], [], places) := ⟨[], by kernel_rfl⟩
set_option maxRecDepth 100000 in
theorem lifted (os : Os) (started : os.Started) (H : Type) (enc : TypeId × Value → H) (F : Stop.Interp) :
  ReturnsInHanded {} Tryd.checked os 7 .any ((Rows.OpenSpec.upto Rows.jtextSamesSpec).preRow enc Tryd.prog Tryd.f7 Rows.jtextSamesUptoRow.domain false Rows.jtextSamesUptoRow.laid) (((Rows.OpenSpec.upto Rows.jtextSamesSpec).at F).post enc Tryd.prog Tryd.f7 false true false false) := by
 obtain ⟨places, hx⟩ := reads os enc
 refine returnsInHanded_of_row (C := Tryd.checked) (s := Rows.OpenSpec.upto Rows.jtextSamesSpec) own started (by kernel_rfl) Tryd.func7
  (witness_row_atRef (enc := enc) (C := Tryd.checked) false (World.laidAll Tryd.prog os Rows.jtextSamesUptoRow.laid) #[.agg #[.int .i64 0, .string ⟨#[]⟩, .slice none 0 0, .slice none 0 0], .agg #[.int .i64 0, .string ⟨#[]⟩, .slice none 0 0, .slice none 0 0]] (World.laidAll_os _ _ _) (by kernel_rfl) (by kernel_rfl) (by kernel_rfl)
   (OpenSpec.preRow_of_cond 8 hx (by kernel_rfl) (fun k hk => by cases hk; kernel_rfl) (by kernel_rfl) (lay_met os))) ?_
 intro W base args ds gs before hval hW _ hcond hsz hL hS _
 exact contract H enc W base args ds gs before hval hW hsz (hcond _ rfl) (X.GL_of hL)
theorem said : Rows.JtextSamesUptoSaid :=
 OpenClaim.holds_of_cond 7 Tryd.f7 rfl rfl rfl rfl rfl rfl rfl ⟨rfl, rfl, rfl, rfl, rfl⟩ rfl rfl rfl rfl rfl (by kernel_rfl) Tryd.func7 (by kernel_rfl)
  (of_decide_eq_true (by kernel_rfl)) (by unfold Func.isWrapper; first | (rw [if_pos (by decide +kernel)]; kernel_rfl) | (rw [if_neg (by decide +kernel)]; exact ⟨rfl, rfl⟩))
  (fun os started H enc _ F => by rw [OpenClaim.pre_eq_preRow]; exact lifted os started H enc F)
theorem plain (f : FuncId) (fn : Func) (hf : Tryd.pinned.checked.prog.funcNamed "wicket/wicketlaw04.JtextSames" = some f) (hfn : Tryd.pinned.checked.prog.funcs[f]? = some fn) :
  true = Tryd.pinned.checked.prog.looks [] ∧ ∀ (j : Nat) t, fn.params[j]? = some t → Tryd.pinned.checked.prog.wantsStandIn t = false := by
 obtain rfl : f = 7 := Option.some.inj ((show Tryd.prog.funcNamed "wicket/wicketlaw04.JtextSames" = some 7 by kernel_rfl).symm.trans hf) |>.symm
 obtain rfl : fn = Tryd.f7 := (Option.some.inj (Tryd.func7.symm.trans hfn)).symm
 refine ⟨by kernel_rfl, fun j t ht => ?_⟩
 rw [Tryd.params7] at ht
 have hm := Array.mem_of_getElem? ht
 simp only [List.mem_toArray, List.mem_cons, List.not_mem_nil, or_false] at hm
 rcases hm with rfl | rfl
 ·exact (show Tryd.prog.wantsStandIn 25 = false by kernel_rfl)
 ·exact (show Tryd.prog.wantsStandIn 25 = false by kernel_rfl)
theorem card : Rows.JtextSamesUptoCardSaid :=
 Claim7.holds_tied_plain_at .later [] _ _ _ _ said (fun _ h => by cases h) (by kernel_rfl) (fun _ h => by cases h) jtextSamesUpto_row_tie rfl ⟨rfl, rfl⟩ (by kernel_rfl) rfl plain (by kernel_rfl)
#print axioms card
end Go.Proofs.YtaalajhmfdcalaaDoor.jtextSames
