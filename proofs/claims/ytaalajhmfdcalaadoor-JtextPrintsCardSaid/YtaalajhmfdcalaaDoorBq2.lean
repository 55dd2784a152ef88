/- The texts of this work, put together: K21, K22, So, XT, K60, N71, K86. -/
import Derived.Test.YtaalajhmfdcalaaDoorBq1
import Derived.Recover
import Derived.Shelf.GgSortFunc.Whole
import Derived.Shelf.GgSortFunc.Tiny
import Derived.Test.YtaalajhmfdcalaaDoorProg
import Derived.Test.YtaalajhmfdcalaaDoorBq0
set_option linter.unusedVariables false
set_option linter.unusedSimpArgs false
namespace Go.Proofs.YtaalajhmfdcalaaDoor.X
open Go.RowKit Go.Lib Go.Proofs.YtaalajhmfdcalaaDoorW.PrintWords Go.Proofs.YtaalajhmfdcalaaDoorW.PrintLast Go.Proofs.YtaalajhmfdcalaaDoorW.PrintMore
theorem fault_assert (e a : Int) (w : World) : (Instr.typeAssert (flt e a) 20 45 true).run Tryd.prog w = .ok (.tuple #[.agg #[.int .i64 e, .int .i64 a], .bool true]) w := by
 first
  | exact run_typeAssert_sameB _ _ _
  | (unfold Instr.typeAssert; simp [go_sem, Tryd.underlying45])
set_option maxRecDepth 1000000 in
set_option maxHeartbeats 2000000 in
theorem catch_fault (B : Nat) (e a : Int) (z0 z1 z2 z3 : Value) (x y : Int) (w : World) (h0 : w.heap[B]? = some (.cells #[z0, z1, z2, z3] 25 (0, 0))) (h1 : w.heap[B + 1]? = some (.cells #[.int .i64 x] 26 (0, 0))) (h2 : w.heap[B + 2]? = some (.cells #[.int .i64 y] 3 (0, 0))) :
  CallsD Tryd.prog 26 #[.pointer (some ⟨B, 0, none⟩), .pointer (some ⟨B + 1, 0, none⟩), .pointer (some ⟨B + 2, 0, none⟩)] (.panicking [{ v := flt e a, recovered := false }]) w fun en u' w' =>
   en = .returned (.tuple #[]) ∧ u' = .panicking [{ v := flt e a, recovered := true }] ∧ Below B w w' ∧
    w'.heap[B]? = some (.cells #[.int .i64 0, .string ⟨#[]⟩, .slice none 0 0, .slice none 0 0] 25 (0, 0)) ∧ w'.heap[B + 1]? = some (.cells #[.int .i64 e] 26 (0, 0)) ∧ w'.heap[B + 2]? = some (.cells #[.int .i64 a] 3 (0, 0)) := by
 have hlt := lt_of_block h2
 have H0 := am h0
 have H1 := am h1
 have H2 := am h2
 clear h0 h1 h2
 refine callsD_of_wpS Tryd.func26 rfl fun c₀ cs hu => ?_
 simp only [Tryd.ntmps26, List.size_toArray, List.length_cons, List.length_nil, Nat.reduceAdd, Nat.reduceSub, Array.replicate_succ, Array.replicate_zero, List.push_toArray, List.append_toArray, List.nil_append, List.cons_append]
 apply wpS_seq
 apply wpS_region
 simp [wpOpsS, go_sem, recoverD, hu, Exit.thenS]
 apply wpS_seq
 apply wpS_region
 simp [wpOpsS, go_sem, Exit.thenS]
 refine wpS_cond (t := true) rfl ?_
 rw [if_pos rfl]
 refine wpS_of_wp ?_
 have hta := fault_assert e a
 have HF := am (heap_alloc_new w (Obj.cells #[.int .i64 e, .int .i64 a] 45))
 have HB := am (below_alloc (Below.refl w.heap.size w) (Obj.cells #[.int .i64 e, .int .i64 a] 45))
 go_wp2
 generalize hw1 : w.alloc (Obj.cells #[.int .i64 e, .int .i64 a] 45) = w1 at *
 have HC0 := am ((HB.out.block B (by omega)).trans H0.out)
 have HC1 := am ((HB.out.block (B + 1) (by omega)).trans H1.out)
 have HC2 := am ((HB.out.block (B + 2) (by omega)).trans H2.out)
 clear hw1
 refine start_ (n := 8) (S := fun w' => w'.cell? ⟨w.heap.size, 0, none⟩ = some (.int .i64 e) ∧ w'.cell? ⟨w.heap.size, 1, none⟩ = some (.int .i64 a)) (ds := []) #[false, false, false, false, false, false, false, false] (by kernel_rfl) rfl rfl ⟨(blk_cell HF.out 0).trans rfl, (blk_cell HF.out 1).trans rfl⟩ (fun hHeld => ?_)
 have HF2 := am (show w1.drew.heap[w.heap.size]? = _ from HF.out)
 have HB2 := am (below_drew1 HB.out)
 have HD0 := am (show w1.drew.heap[B]? = _ from HC0.out)
 have HD1 := am (show w1.drew.heap[B + 1]? = _ from HC1.out)
 have HD2 := am (show w1.drew.heap[B + 2]? = _ from HC2.out)
 generalize w1.drew = w2 at *
 refine pure_ (i := 0) (N := some 17) (v := ?_) (a' := ?_) #[true, false, false, false, false, false, false, false] rfl rfl (by kernel_rfl) (fun _ _ _ h => h) (Or.inl ⟨by rfl, ?_⟩) ?_ ?_
 rotate_left
 ·intro w'
  go_simp
  with_reducible rfl
 rotate_left
 ·simp only [Act.put, sAx, sZx, sSx, i64_w, i32_w]
  rfl
 refine pure_ (i := 1) (N := some 18) (v := ?_) (a' := ?_) #[true, true, false, false, false, false, false, false] rfl rfl (by kernel_rfl) (fun _ _ _ h => h) (Or.inl ⟨by rfl, ?_⟩) ?_ ?_
 rotate_left
 ·intro w'
  go_simp
  with_reducible rfl
 rotate_left
 ·simp only [Act.put, sAx, sZx, sSx, i64_w, i32_w]
  rfl
 refine pure_ (i := 3) (N := some 20) (v := ?_) (a' := ?_) #[true, true, false, true, false, false, false, false] rfl rfl (by kernel_rfl) (fun _ _ _ h => h) (Or.inl ⟨by rfl, ?_⟩) ?_ ?_
 rotate_left
 ·intro w'
  go_simp
  with_reducible rfl
 rotate_left
 ·simp only [Act.put, sAx, sZx, sSx, i64_w, i32_w]
  rfl
 refine take_ (i := 2) (N := some 19) (v := ?_) (a' := ?_) #[true, true, true, true, false, false, false, false] rfl rfl (by kernel_rfl) (fun _ _ _ h => h) (Or.inl ⟨by rfl, ?_⟩) hHeld ?_ ?_
 rotate_left
 ·rintro w' ⟨s0, s1⟩
  go_simp
  with_reducible rfl
 rotate_left
 ·simp only [Act.put, sAx, sZx, sSx, i64_w, i32_w]
  rfl
 refine take_ (i := 4) (N := some 21) (v := ?_) (a' := ?_) #[true, true, true, true, true, false, false, false] rfl rfl (by kernel_rfl) (fun _ _ _ h => h) (Or.inl ⟨by rfl, ?_⟩) hHeld ?_ ?_
 rotate_left
 ·rintro w' ⟨s0, s1⟩
  go_simp
  with_reducible rfl
 rotate_left
 ·simp only [Act.put, sAx, sZx, sSx, i64_w, i32_w]
  rfl
 have nb0 : B ≠ w.heap.size := by omega
 have nb1 : w.heap.size ≠ B := by omega
 have nb2 : B + 1 ≠ w.heap.size := by omega
 have nb3 : w.heap.size ≠ B + 1 := by omega
 have nb4 : B + 2 ≠ w.heap.size := by omega
 have nb5 : w.heap.size ≠ B + 2 := by omega
 have q0 := blk_cell HD0.out 0
 have q1 := blk_cell HD0.out 1
 have q2 := blk_cell HD0.out 2
 have q3 := blk_cell HD0.out 3
 have p0 := blk_free HD0.out 0
 have p1 := blk_free HD0.out 1
 have p2 := blk_free HD0.out 2
 have p3 := blk_free HD0.out 3
 have q4 := blk_cell HD1.out 0
 have p4 := blk_free HD1.out 0
 have q5 := blk_cell HD2.out 0
 have p5 := blk_free HD2.out 0
 have s0 := hHeld.1
 have s1 := hHeld.2
 dsimp at q0 q1 q2 q3 q4 q5
 refine one_ (i := 5) (N := none) #[true, true, true, true, true, true, false, false] rfl rfl (by kernel_rfl) (by decide) (fun K hK => ?_)
 refine skip_ (w1 := ?_) (by rfl) rfl ?_ ?_
 rotate_left
 ·go_simp
  rfl
 refine hK.out _ _ ⟨by go_simp, by go_simp⟩ (fun hHeld => ?_)
 clear hK K
 refine one_ (i := 6) (N := none) #[true, true, true, true, true, true, true, false] rfl rfl (by kernel_rfl) (by decide) (fun K hK => ?_)
 refine skip_ (w1 := ?_) (by rfl) rfl ?_ ?_
 rotate_left
 ·go_simp
  rfl
 refine hK.out _ _ ⟨by go_simp, by go_simp⟩ (fun hHeld => ?_)
 clear hK K
 refine one_ (i := 7) (N := none) #[true, true, true, true, true, true, true, true] rfl rfl (by kernel_rfl) (by decide) (fun K hK => ?_)
 refine skip_ (w1 := ?_) (by rfl) rfl ?_ ?_
 rotate_left
 ·go_simp
  rfl
 refine hK.out _ _ ⟨by go_simp, by go_simp⟩ (fun hHeld => ?_)
 clear hK K
 refine done_ (by kernel_rfl) ?_
 have hb4 := blk4 HD0.out (.int .i64 0) (.string ⟨#[]⟩) (.slice none 0 0) (.slice none 0 0)
 refine ⟨rfl, _, rfl, _, results_none rfl _ _ _, rfl, rfl, ?_, ?_, ?_, ?_⟩
 ·have m0 : Below B w w2 := HB2.out.mono (by omega)
  refine Below.setCell ?_ (show B ≤ B + 2 by omega) _
  refine Below.setCell ?_ (show B ≤ B + 1 by omega) _
  refine Below.setCell ?_ (Nat.le_refl B) _
  refine Below.setCell ?_ (Nat.le_refl B) _
  refine Below.setCell ?_ (Nat.le_refl B) _
  refine Below.setCell ?_ (Nat.le_refl B) _
  exact m0
 ·exact (Below.heap_setCell _ _ _ _ (by show B ≠ B + 2; omega)).trans ((Below.heap_setCell _ _ _ _ (by show B ≠ B + 1; omega)).trans hb4)
 ·refine (Below.heap_setCell _ _ _ _ (by show B + 1 ≠ B + 2; omega)).trans (blk_put (cs := #[.int .i64 x]) ?_ 0 _ rfl)
  exact (Below.heap_setCell _ _ _ _ (by show B + 1 ≠ B; omega)).trans ((Below.heap_setCell _ _ _ _ (by show B + 1 ≠ B; omega)).trans ((Below.heap_setCell _ _ _ _ (by show B + 1 ≠ B; omega)).trans ((Below.heap_setCell _ _ _ _ (by show B + 1 ≠ B; omega)).trans HD1.out)))
 ·refine blk_put (cs := #[.int .i64 y]) ?_ 0 _ rfl
  exact (Below.heap_setCell _ _ _ _ (by show B + 2 ≠ B + 1; omega)).trans ((Below.heap_setCell _ _ _ _ (by show B + 2 ≠ B; omega)).trans ((Below.heap_setCell _ _ _ _ (by show B + 2 ≠ B; omega)).trans ((Below.heap_setCell _ _ _ _ (by show B + 2 ≠ B; omega)).trans ((Below.heap_setCell _ _ _ _ (by show B + 2 ≠ B; omega)).trans HD2.out))))
theorem catch_idle (B : Nat) (w : World) :
  CallsD Tryd.prog 26 #[.pointer (some ⟨B, 0, none⟩), .pointer (some ⟨B + 1, 0, none⟩), .pointer (some ⟨B + 2, 0, none⟩)] .returning w fun en u' w' => en = .returned (.tuple #[]) ∧ u' = .returning ∧ w' = w := by
 refine callsD_of_wpS Tryd.func26 rfl fun c₀ cs hu => ?_
 simp only [Tryd.ntmps26, List.size_toArray, List.length_cons, List.length_nil, Nat.reduceAdd, Nat.reduceSub, Array.replicate_succ, Array.replicate_zero, List.push_toArray, List.append_toArray, List.nil_append, List.cons_append]
 apply wpS_seq
 apply wpS_region
 simp [wpOpsS, go_sem, recoverD, hu, Exit.thenS]
 apply wpS_seq
 apply wpS_region
 simp [wpOpsS, go_sem, Exit.thenS]
 refine wpS_cond (t := false) rfl ?_
 rw [if_neg (by decide)]
 refine wpS_of_wp (wp_skip ?_)
 cases c₀
 simp_all [bodyPostS, results, Tryd.results26]
theorem Tabs.below {W W' : World} (hT : Tabs W) (hb : Below W.heap.size W W') : Tabs W' := by
 have key : ∀ (a : Addr) (v : Value), W.cell? a = some v → W'.cell? a = some v := fun a v h => (hb.cell (World.block_lt_of_cell? W _ h)).trans h
 exact ⟨fun c hc => key _ _ (hT.1 c hc), fun i hi => ⟨key _ _ (hT.2 i hi).1, key _ _ (hT.2 i hi).2⟩⟩
theorem parse_results (B : Nat) (tmps : Array Value) (w : World) (z0 z1 z2 z3 : Value) (e a : Int) (t2 : tmps.getD 2 undef = .pointer (some ⟨B, 0, none⟩)) (t3 : tmps.getD 3 undef = .pointer (some ⟨B + 1, 0, none⟩)) (t4 : tmps.getD 4 undef = .pointer (some ⟨B + 2, 0, none⟩))
  (h0 : w.heap[B]? = some (.cells #[z0, z1, z2, z3] 25 (0, 0))) (h1 : w.heap[B + 1]? = some (.cells #[.int .i64 e] 26 (0, 0))) (h2 : w.heap[B + 2]? = some (.cells #[.int .i64 a] 3 (0, 0))) :
  (results Tryd.f11 tmps).run Tryd.prog w = .ok (.tuple #[.agg #[z0, z1, z2, z3], .int .i64 e, .int .i64 a]) w := by
 have c1 := (blk_cell h1 0).trans rfl
 have c2 := (blk_cell h2 0).trans rfl
 have d0 : w.cell? ⟨B, 0, none⟩ = some z0 := (blk_cell h0 0).trans rfl
 have d1 : w.cell? ⟨B, 1, none⟩ = some z1 := (blk_cell h0 1).trans rfl
 have d2 : w.cell? ⟨B, 2, none⟩ = some z2 := (blk_cell h0 2).trans rfl
 have d3 : w.cell? ⟨B, 3, none⟩ = some z3 := (blk_cell h0 3).trans rfl
 have t2' : tmps[2]?.getD undef = .pointer (some ⟨B, 0, none⟩) := by simpa using t2
 have t3' : tmps[3]?.getD undef = .pointer (some ⟨B + 1, 0, none⟩) := by simpa using t3
 have t4' : tmps[4]?.getD undef = .pointer (some ⟨B + 2, 0, none⟩) := by simpa using t4
 unfold results
 rw [Tryd.results11]
 simp [t2', t3', t4', asAddr, go_sem, c1, c2, d0, d1, d2, d3]
def parseV (B : Nat) (j : J) (e a : Int) (x : Ending) (W : World) : Prop := ∃ v2 v3, x = .returned (.tuple #[.agg #[.int .i64 j.f0, .string j.f1, v2, v3], .int .i64 e, .int .i64 a]) ∧ Kd.string.R 9 W B (fun _ => True) v2 j.f2 ∧ k25.R 25 W B (fun k => some k ≠ v2.ownBlock) v3 j.f3
def zV : J := ⟨0, bsJ [], [], []⟩
def parseEnd (B : Nat) (o : Out J) (x : Ending) (W : World) : Prop :=
 match o with
 | .val j _ => parseV B j 0 0 x W
 | .err e q => parseV B zV e q x W
abbrev pW (s : ByteArray) (W : World) : World := (((W.alloc zJ).alloc (Obj.cells #[.int .i64 0] 26)).alloc (Obj.cells #[.int .i64 0] 3)).alloc (Obj.cells #[.string s, .int .i64 0] 49)
theorem pW_facts (s : ByteArray) (W : World) : RdB (W.heap.size + 1 + 1 + 1) s (0 : Nat) (pW s W) ∧ Below W.heap.size W (pW s W) ∧ (pW s W).heap[W.heap.size]? = some (.cells #[.int .i64 0, .string ⟨#[]⟩, .slice none 0 0, .slice none 0 0] 25 (0, 0)) ∧ (pW s W).heap[W.heap.size + 1]? = some (.cells #[.int .i64 0] 26 (0, 0)) ∧ (pW s W).heap[W.heap.size + 2]? = some (.cells #[.int .i64 0] 3 (0, 0)) := by
 have h1 := heap_alloc_new W zJ
 have h2 := heap_alloc_new (W.alloc zJ) (Obj.cells #[.int .i64 0] 26)
 have h3 := heap_alloc_new ((W.alloc zJ).alloc (Obj.cells #[.int .i64 0] 26)) (Obj.cells #[.int .i64 0] 3)
 have h4 := heap_alloc_new (((W.alloc zJ).alloc (Obj.cells #[.int .i64 0] 26)).alloc (Obj.cells #[.int .i64 0] 3)) (Obj.cells #[.string s, .int .i64 0] 49)
 have e2 : (W.alloc zJ).heap.size = W.heap.size + 1 := by simp
 have e3 : ((W.alloc zJ).alloc (Obj.cells #[.int .i64 0] 26)).heap.size = W.heap.size + 1 + 1 := by simp
 have e4 : (((W.alloc zJ).alloc (Obj.cells #[.int .i64 0] 26)).alloc (Obj.cells #[.int .i64 0] 3)).heap.size = W.heap.size + 1 + 1 + 1 := by simp
 rw [e2] at h2
 rw [e3] at h3
 rw [e4] at h4
 exact ⟨h4, below_alloc (below_alloc (below_alloc (below_alloc (Below.refl _ _) _) _) _) _, Below.alloc_at (Below.alloc_at (Below.alloc_at h1)), Below.alloc_at (Below.alloc_at h2), Below.alloc_at h3⟩
theorem R_at_base {α : Type} {dd : Kd α} {e base B : Nat} {w : World} {ok : Nat → Prop} {v : Value} {l : List α} (h : dd.R e w base ok v l) (hb : B + 4 ≤ base) : dd.R e w B (fun k => ok k ∧ B + 4 ≤ k) v l :=
 Kd.R_lower (Kd.R_mono (Kd.R_bound h) (fun k hk => ⟨hk.1, by have := hk.2.1; omega⟩)) (by omega)
theorem On.low {R : Nat} {W W' : World} (h : On (R + 1 + 1 + 1) W W') : Below R W W' := h.below.mono (by omega)
theorem pset {B : Nat} {s : ByteArray} {q : Int} {W w : World} (hR : RdB (B + 1 + 1 + 1) s q w) (hO : On (B + 1 + 1 + 1) W w) (c0 c1 c2 c3 : Value) :
  RdB (B + 1 + 1 + 1) s q ((((w.setCell ⟨B, 0, none⟩ c0).setCell ⟨B, 1, none⟩ c1).setCell ⟨B, 2, none⟩ c2).setCell ⟨B, 3, none⟩ c3) ∧
  ∀ (b : Nat) (o : Obj), b ≠ B → w.heap[b]? = some o → ((((w.setCell ⟨B, 0, none⟩ c0).setCell ⟨B, 1, none⟩ c1).setCell ⟨B, 2, none⟩ c2).setCell ⟨B, 3, none⟩ c3).heap[b]? = some o := by
 have key : ∀ (b : Nat) (o : Obj), b ≠ B → w.heap[b]? = some o → ((((w.setCell ⟨B, 0, none⟩ c0).setCell ⟨B, 1, none⟩ c1).setCell ⟨B, 2, none⟩ c2).setCell ⟨B, 3, none⟩ c3).heap[b]? = some o := fun b o hne h =>
  (Below.heap_setCell _ _ _ _ hne).trans ((Below.heap_setCell _ _ _ _ hne).trans ((Below.heap_setCell _ _ _ _ hne).trans ((Below.heap_setCell _ _ _ _ hne).trans h)))
 exact ⟨key _ _ (by omega) hR, key⟩
abbrev setB (w : World) (B : Nat) (c0 c1 c2 c3 : Value) : World := (((w.setCell ⟨B, 0, none⟩ c0).setCell ⟨B, 1, none⟩ c1).setCell ⟨B, 2, none⟩ c2).setCell ⟨B, 3, none⟩ c3
theorem setB_heap (w : World) (B b : Nat) (c0 c1 c2 c3 : Value) (h : b ≠ B) : (setB w B c0 c1 c2 c3).heap[b]? = w.heap[b]? := by
 unfold setB
 rw [Below.heap_setCell _ _ _ _ h, Below.heap_setCell _ _ _ _ h, Below.heap_setCell _ _ _ _ h, Below.heap_setCell _ _ _ _ h]
theorem setB_size (w : World) (B : Nat) (c0 c1 c2 c3 : Value) : (setB w B c0 c1 c2 c3).heap.size = w.heap.size := by
 unfold setB
 rw [World.size_setCell, World.size_setCell, World.size_setCell, World.size_setCell]
theorem setB_below {W w : World} {B : Nat} (h : Below B W w) (c0 c1 c2 c3 : Value) : Below B W (setB w B c0 c1 c2 c3) :=
 Below.setCell (Below.setCell (Below.setCell (Below.setCell h (Nat.le_refl B) _) (Nat.le_refl B) _) (Nat.le_refl B) _) (Nat.le_refl B) _
theorem R_fin {α : Type} {dd : Kd α} {e B : Nat} {w w' : World} {ok : Nat → Prop} {v : Value} {l : List α} (h : dd.R e w B (fun k => ok k ∧ B + 4 ≤ k) v l) (hk : ∀ k, B + 4 ≤ k → k < w.heap.size → w'.heap[k]? = w.heap[k]?) : dd.R e w' B ok v l :=
 Kd.R_mono (Kd.R_move (Kd.R_bound h) (fun k hh => hk k hh.1.2 hh.2.2.1)) (fun _ hh => hh.1.1)
set_option maxRecDepth 1000000 in
set_option maxHeartbeats 4000000 in
theorem parse_calls (s : ByteArray) (k : Nat) (o : Out J) (W : World) (hT : Tabs W) (hF : parseJ s.data.toList k = some o) : Calls Tryd.prog 11 #[.string s] W fun x W' => parseEnd W.heap.size o x W' ∧ Below W.heap.size W W' := by
 have hmf : ∀ (fn : Fn) (first cap : Array Value) (w : World), (Instr.makeFunc fn first cap).run Tryd.prog w = .ok (.func fn first cap) w := fun _ _ _ _ => rfl
 unfold parseJ at hF
 by_cases hlong : 16384 < s.data.toList.length
 ·rw [if_pos hlong] at hF
  have HX := am (show o = .err 1 0 by injection hF with hF; exact hF.symm)
  rw [size_data] at hlong
  have a1 : (16384 : Int) < (s.size : Int) := by omega
  clear hF hlong hT
  go_enter_defers Tryd.func11, Tryd.ntmps11
  go_wp2
  have f1 := heap_alloc_new W zJ
  have f2 := heap_alloc_new (W.alloc zJ) (Obj.cells #[.int .i64 1] 26)
  have f3 := heap_alloc_new ((W.alloc zJ).alloc (Obj.cells #[.int .i64 1] 26)) (Obj.cells #[.int .i64 0] 3)
  have e2 : (W.alloc zJ).heap.size = W.heap.size + 1 := by simp
  have e3 : ((W.alloc zJ).alloc (Obj.cells #[.int .i64 1] 26)).heap.size = W.heap.size + 1 + 1 := by simp
  rw [e2] at f2
  rw [e3] at f3
  refine ⟨_, parse_results W.heap.size _ _ _ _ _ _ 1 0 rfl rfl rfl (Below.alloc_at (Below.alloc_at f1)) (Below.alloc_at f2) f3, ?_, below_alloc (below_alloc (below_alloc (Below.refl _ _) _) _) _⟩
  rw [HX.out]
  exact ⟨_, _, rfl, Kd.R_nil _ _ _ _ _, Kd.R_nil _ _ _ _ _⟩
 ·rw [if_neg hlong] at hF
  rw [size_data] at hlong
  have a1 : ¬ (16384 : Int) < (s.size : Int) := by omega
  obtain ⟨hR0, hB0, hK0, hK1, hK2⟩ := pW_facts s W
  have HR0 := am hR0
  have HB0 := am hB0
  have HK0 := am hK0
  have HK1 := am hK1
  have HK2 := am hK2
  have HT := am (fun (w : World) (ho : On (W.heap.size + 1 + 1 + 1) (pW s W) w) => (hT.below hB0).on hR0 ho)
  have HVal := am (fun (q : Nat) (o : Out J) (w : World) (h1 : q ≤ s.size) (h2 : valueF s.data.toList k 32 q = some o) (h3 : RdB (W.heap.size + 1 + 1 + 1) s q w) (h4 : Tabs w) => (show Calls Tryd.prog 28 #[ptr (W.heap.size + 1 + 1 + 1), .int .i64 0] w (Ends (W.heap.size + 1 + 1 + 1) s w o (jV w.heap.size)) from value_ok s k (by omega) (W.heap.size + 1 + 1 + 1) 32 (Nat.le_refl _) q o w h1 h2 h3 h4))
  have hp0 := blanks_le s.data.toList 0 (Nat.zero_le _)
  rw [size_data] at hp0
  have esz : (pW s W).heap.size = W.heap.size + 4 := by simp [pW]
  have HSB : ∀ {w : World}, On (W.heap.size + 1 + 1 + 1) (pW s W) w → W.heap.size + 4 ≤ w.heap.size := fun ho => by have := ho.size; omega
  clear hR0 hB0 hK0 hK1 hK2 hT
  generalize hg0 : blanksF s.data.toList 0 = p0 at *
  have HG0 := am hg0
  clear hg0
  cases hv : valueF s.data.toList k 32 p0 with
  | none => rw [hv] at hF; cases hF
  | some o1 =>
   rw [hv] at hF
   have HE := am hv
   cases o1 with
   | err e q =>
    have HX := am (show o = .err e q by injection hF with hF; exact hF.symm)
    clear hv hF
    go_enter_defers Tryd.func11, Tryd.ntmps11
    go_wp2_with (first | (go_at_call 27; (with_reducible refine (blanks_calls (W.heap.size + 1 + 1 + 1) s 0 (by omega) (by omega) _ ?rd1a).mono ?_); (case rd1a => exact HR0.out); rintro e w1 ⟨rfl, hr, ho⟩; rw [HG0.out] at hr; have HR1 := am hr; have HO1 := am ho; clear hr ho) | (go_at_call 28; (with_reducible refine (Calls.err_of (HVal.out p0 _ _ hp0 HE.out HR1.out (HT.out _ HO1.out)) rfl).mono ?_); rintro e w2 ⟨rfl, ho⟩; have HO2 := am (HO1.out.trans ho); clear ho))
    have hk0 := blk_on HK0.out (by omega) HO2.out
    have hk1 := blk_on HK1.out (by omega) HO2.out
    have hk2 := blk_on HK2.out (by omega) HO2.out
    refine leaves_cons (f := 26) (args := #[.pointer (some ⟨W.heap.size, 0, none⟩), .pointer (some ⟨W.heap.size + 1, 0, none⟩), .pointer (some ⟨W.heap.size + 2, 0, none⟩)]) (by simp) (by simp [go_sem]) ?_
    refine (catch_fault W.heap.size e q _ _ _ _ 0 0 _ hk0 hk1 hk2).mono ?_
    rintro en u' w3 ⟨rfl, rfl, hb, h0, h1, h2⟩
    refine ⟨_, parse_results W.heap.size _ _ _ _ _ _ e q rfl rfl rfl h0 h1 h2, ?_, (HB0.out.trans (On.low HO2.out)).trans hb⟩
    rw [HX.out]
    exact ⟨_, _, rfl, Kd.R_nil _ _ _ _ _, Kd.R_nil _ _ _ _ _⟩
   | val j q1 =>
    obtain ⟨hq0, hq1⟩ := valueF_val _ _ _ _ _ _ (by rw [size_data]; exact hp0) hv
    rw [size_data] at hq1
    simp only at hF
    generalize hg1 : blanksF s.data.toList q1 = q2 at *
    have HG1 := am hg1
    clear hv hg1
    have hq20 : (0 : Int) ≤ (q2 : Int) := by omega
    by_cases hlt : q2 < s.data.toList.length
    ·rw [if_pos hlt] at hF
     rw [size_data] at hlt
     have HX := am (show o = .err 4 q2 by injection hF with hF; exact hF.symm)
     have a2 : (q2 : Int) < (s.size : Int) := by omega
     clear hF hlt
     go_enter_defers Tryd.func11, Tryd.ntmps11
     go_wp2_with (first | (go_at_call 27; (with_reducible refine (blanks_calls (W.heap.size + 1 + 1 + 1) s 0 (by omega) (by omega) _ ?rd1b).mono ?_); (case rd1b => exact HR0.out); rintro e w1 ⟨rfl, hr, ho⟩; rw [HG0.out] at hr; have HR1 := am hr; have HO1 := am ho; clear hr ho) | (go_at_call 28; (with_reducible refine (Calls.val_of (HVal.out p0 _ _ hp0 HE.out HR1.out (HT.out _ HO1.out)) rfl).mono ?_); rintro e w2 ⟨v, rfl, ⟨v2, v3, rfl, j2, j3⟩, hr, ho⟩; have HR2 := am hr; have HO2 := am (HO1.out.trans ho); have j2 := R_at_base j2 (HSB HO1.out); have j3 := R_at_base j3 (HSB HO1.out); have HJ2 := am j2; have HJ3 := am j3; have HW1 := am HO1.out.size; obtain ⟨A2, c2, e2⟩ := Kd.R_slice j2; obtain ⟨A3, c3, e3⟩ := Kd.R_slice j3; subst e2 e3; have hk2 := blk_on HK0.out (by omega) HO2.out; have b0 : w2.cell? ⟨W.heap.size, 0, none⟩ = some (.int .i64 0) := (blk_cell hk2 0).trans rfl; have b1 : w2.cell? ⟨W.heap.size, 1, none⟩ = some (.string ⟨#[]⟩) := (blk_cell hk2 1).trans rfl; have b2 : w2.cell? ⟨W.heap.size, 2, none⟩ = some (.slice none 0 0) := (blk_cell hk2 2).trans rfl; have b3 : w2.cell? ⟨W.heap.size, 3, none⟩ = some (.slice none 0 0) := (blk_cell hk2 3).trans rfl; have g0 := blk_free hk2 0; have g1 := blk_free hk2 1; have g2 := blk_free hk2 2; have g3 := blk_free hk2 3; have HB4 := am (blk4 hk2 (.int .i64 j.f0) (.string j.f1) (.slice A2 j.f2.length c2) (.slice A3 j.f3.length c3)); have HS3 := am (pset HR2.out HO2.out (.int .i64 j.f0) (.string j.f1) (.slice A2 j.f2.length c2) (.slice A3 j.f3.length c3)); clear hr ho j2 j3 hk2) | (go_at_call 27; (with_reducible refine (blanks_calls (W.heap.size + 1 + 1 + 1) s q1 (by omega) hq1 _ ?rd3b).mono ?_); (case rd3b => exact HS3.out.1); rintro e w3 ⟨rfl, hr, ho⟩; rw [HG1.out] at hr; have HR3 := am hr; have HO3 := am ho; have d0 := hr.c0; have d1 := hr.c1; clear hr ho))
     go_quiet (fail)
     go_wp2_with (go_at_call 29; (with_reducible refine (fail_calls _ _ _ _).mono ?_); rintro e w9 ⟨rfl, hb⟩; have HB9 := am hb; clear hb)
     have HO9 := am (show On (W.heap.size + 1 + 1 + 1) _ w9 from (HO3.out.drewN _).drawn HB9.out)
     have hk0 := blk_on HB4.out (by omega) HO9.out
     have hk1 := blk_on (HS3.out.2 _ _ (by omega) (blk_on HK1.out (by omega) HO2.out)) (by omega) HO9.out
     have hk2 := blk_on (HS3.out.2 _ _ (by omega) (blk_on HK2.out (by omega) HO2.out)) (by omega) HO9.out
     refine leaves_cons (f := 26) (args := #[.pointer (some ⟨W.heap.size, 0, none⟩), .pointer (some ⟨W.heap.size + 1, 0, none⟩), .pointer (some ⟨W.heap.size + 2, 0, none⟩)]) (by simp) (by simp [go_sem]) ?_
     refine (catch_fault W.heap.size 4 q2 _ _ _ _ 0 0 _ hk0 hk1 hk2).mono ?_
     rintro en u' w10 ⟨rfl, rfl, hb, h0, h1, h2⟩
     refine ⟨_, parse_results W.heap.size _ _ _ _ _ _ 4 q2 rfl rfl rfl h0 h1 h2, ?_, ?_⟩
     ·rw [HX.out]
      exact ⟨_, _, rfl, Kd.R_nil _ _ _ _ _, Kd.R_nil _ _ _ _ _⟩
     ·exact ((HB0.out.trans (On.low HO2.out)).trans ((setB_below (Below.refl _ _) _ _ _ _).trans (On.low HO9.out))).trans hb
    ·rw [if_neg hlt] at hF
     rw [size_data] at hlt
     have HX := am (show o = .val j 0 by injection hF with hF; exact hF.symm)
     have a2 : ¬ (q2 : Int) < (s.size : Int) := by omega
     clear hF hlt
     go_enter_defers Tryd.func11, Tryd.ntmps11
     go_wp2_with (first | (go_at_call 27; (with_reducible refine (blanks_calls (W.heap.size + 1 + 1 + 1) s 0 (by omega) (by omega) _ ?rd1c).mono ?_); (case rd1c => exact HR0.out); rintro e w1 ⟨rfl, hr, ho⟩; rw [HG0.out] at hr; have HR1 := am hr; have HO1 := am ho; clear hr ho) | (go_at_call 28; (with_reducible refine (Calls.val_of (HVal.out p0 _ _ hp0 HE.out HR1.out (HT.out _ HO1.out)) rfl).mono ?_); rintro e w2 ⟨v, rfl, ⟨v2, v3, rfl, j2, j3⟩, hr, ho⟩; have HR2 := am hr; have HO2 := am (HO1.out.trans ho); have j2 := R_at_base j2 (HSB HO1.out); have j3 := R_at_base j3 (HSB HO1.out); have HJ2 := am j2; have HJ3 := am j3; have HW1 := am HO1.out.size; obtain ⟨A2, c2, e2⟩ := Kd.R_slice j2; obtain ⟨A3, c3, e3⟩ := Kd.R_slice j3; subst e2 e3; have hk2 := blk_on HK0.out (by omega) HO2.out; have b0 : w2.cell? ⟨W.heap.size, 0, none⟩ = some (.int .i64 0) := (blk_cell hk2 0).trans rfl; have b1 : w2.cell? ⟨W.heap.size, 1, none⟩ = some (.string ⟨#[]⟩) := (blk_cell hk2 1).trans rfl; have b2 : w2.cell? ⟨W.heap.size, 2, none⟩ = some (.slice none 0 0) := (blk_cell hk2 2).trans rfl; have b3 : w2.cell? ⟨W.heap.size, 3, none⟩ = some (.slice none 0 0) := (blk_cell hk2 3).trans rfl; have g0 := blk_free hk2 0; have g1 := blk_free hk2 1; have g2 := blk_free hk2 2; have g3 := blk_free hk2 3; have HB4 := am (blk4 hk2 (.int .i64 j.f0) (.string j.f1) (.slice A2 j.f2.length c2) (.slice A3 j.f3.length c3)); have HS3 := am (pset HR2.out HO2.out (.int .i64 j.f0) (.string j.f1) (.slice A2 j.f2.length c2) (.slice A3 j.f3.length c3)); clear hr ho j2 j3 hk2) | (go_at_call 27; (with_reducible refine (blanks_calls (W.heap.size + 1 + 1 + 1) s q1 (by omega) hq1 _ ?rd3c).mono ?_); (case rd3c => exact HS3.out.1); rintro e w3 ⟨rfl, hr, ho⟩; rw [HG1.out] at hr; have HR3 := am hr; have HO3 := am ho; have d0 := hr.c0; have d1 := hr.c1; clear hr ho))
     have hk0 := blk_on HB4.out (by omega) HO3.out
     have hk1 := blk_on (HS3.out.2 _ _ (by omega) (blk_on HK1.out (by omega) HO2.out)) (by omega) HO3.out
     have hk2 := blk_on (HS3.out.2 _ _ (by omega) (blk_on HK2.out (by omega) HO2.out)) (by omega) HO3.out
     have k00 : w3.cell? ⟨W.heap.size, 0, none⟩ = some (.int .i64 j.f0) := (blk_cell hk0 0).trans rfl
     have k01 : w3.cell? ⟨W.heap.size, 1, none⟩ = some (.string j.f1) := (blk_cell hk0 1).trans rfl
     have k02 : w3.cell? ⟨W.heap.size, 2, none⟩ = some (.slice A2 j.f2.length c2) := (blk_cell hk0 2).trans rfl
     have k03 : w3.cell? ⟨W.heap.size, 3, none⟩ = some (.slice A3 j.f3.length c3) := (blk_cell hk0 3).trans rfl
     have k10 : w3.cell? ⟨W.heap.size + 1, 0, none⟩ = some (.int .i64 0) := (blk_cell hk1 0).trans rfl
     have k20 : w3.cell? ⟨W.heap.size + 1 + 1, 0, none⟩ = some (.int .i64 0) := (blk_cell hk2 0).trans rfl
     have x00 := blk_free hk0 0
     have x01 := blk_free hk0 1
     have x02 := blk_free hk0 2
     have x03 := blk_free hk0 3
     have x10 := blk_free hk1 0
     have x20 : w3.frozen? ⟨W.heap.size + 1 + 1, 0, none⟩ = false := blk_free hk2 0
     have HH0 := am hk0
     have HH1 := am hk1
     have HH2 := am hk2
     clear hk0 hk1 hk2 b0 b1 b2 b3 g0 g1 g2 g3
     go_quiet (fail)
     go_wp2
     refine leaves_cons (f := 26) (args := #[.pointer (some ⟨W.heap.size, 0, none⟩), .pointer (some ⟨W.heap.size + 1, 0, none⟩), .pointer (some ⟨W.heap.size + 2, 0, none⟩)]) (by simp) (by simp [go_sem]) ?_
     refine (catch_idle W.heap.size _).mono ?_
     rintro en u' w10 ⟨rfl, rfl, rfl⟩
     have q0 := blk4 (show (w3.drewN nq).heap[W.heap.size]? = _ from HH0.out) (.int .i64 j.f0) (.string j.f1) (.slice A2 j.f2.length c2) (.slice A3 j.f3.length c3)
     have q1 := blk_put (cs := #[.int .i64 0]) ((setB_heap (w3.drewN nq) W.heap.size (W.heap.size + 1) (.int .i64 j.f0) (.string j.f1) (.slice A2 j.f2.length c2) (.slice A3 j.f3.length c3) (by omega)).trans HH1.out) 0 (.int .i64 0) rfl
     have q2' := blk_put (cs := #[.int .i64 0]) ((Below.heap_setCell (setB (w3.drewN nq) W.heap.size (.int .i64 j.f0) (.string j.f1) (.slice A2 j.f2.length c2) (.slice A3 j.f3.length c3)) ⟨W.heap.size + 1, 0, none⟩ (.int .i64 0) (W.heap.size + 2) (by show W.heap.size + 2 ≠ W.heap.size + 1; omega)).trans ((setB_heap (w3.drewN nq) W.heap.size (W.heap.size + 2) (.int .i64 j.f0) (.string j.f1) (.slice A2 j.f2.length c2) (.slice A3 j.f3.length c3) (by omega)).trans HH2.out)) 0 (.int .i64 0) rfl
     refine ⟨_, parse_results W.heap.size _ _ _ _ _ _ 0 0 rfl rfl rfl ((Below.heap_setCell _ _ _ _ (by show W.heap.size ≠ W.heap.size + 2; omega)).trans ((Below.heap_setCell _ _ _ _ (by show W.heap.size ≠ W.heap.size + 1; omega)).trans q0)) ((Below.heap_setCell _ _ _ _ (by show W.heap.size + 1 ≠ W.heap.size + 2; omega)).trans q1) q2', ?_, ?_⟩
     ·rw [HX.out]
      have hkeep : ∀ k, W.heap.size + 4 ≤ k → k < w2.heap.size → (((setB (w3.drewN nq) W.heap.size (.int .i64 j.f0) (.string j.f1) (.slice A2 j.f2.length c2) (.slice A3 j.f3.length c3)).setCell ⟨W.heap.size + 1, 0, none⟩ (.int .i64 0)).setCell ⟨W.heap.size + 1 + 1, 0, none⟩ (.int .i64 0)).heap[k]? = w2.heap[k]? := fun k h1 h2 =>
       (Below.heap_setCell _ _ _ _ (by show k ≠ W.heap.size + 1 + 1; omega)).trans ((Below.heap_setCell _ _ _ _ (by show k ≠ W.heap.size + 1; omega)).trans ((setB_heap _ _ k _ _ _ _ (by omega)).trans ((HO3.out.kept k (by omega) (by rw [setB_size]; exact h2)).trans (setB_heap _ _ k _ _ _ _ (by omega)))))
      exact ⟨_, _, rfl, R_fin HJ2.out hkeep, R_fin HJ3.out hkeep⟩
     ·have m1 := (HB0.out.trans (On.low HO2.out)).trans ((setB_below (Below.refl _ _) (.int .i64 j.f0) (.string j.f1) (.slice A2 j.f2.length c2) (.slice A3 j.f3.length c3)).trans (On.low (HO3.out.drewN nq)))
      exact Below.setCell (Below.setCell (setB_below m1 _ _ _ _) (show W.heap.size ≤ W.heap.size + 1 by omega) _) (show W.heap.size ≤ W.heap.size + 1 + 1 by omega) _
end Go.Proofs.YtaalajhmfdcalaaDoor.X
namespace Go.Proofs
open Go.Shelf Go.RowKit
def Tryd.sl6_ren : Go.Shelf.Ren := ⟨fun | 6 => 77 | 10 => 90 | 11 => 91 | 12 => 92 | 13 => 93 | 14 => 94 | 24 => 106 | 25 => 107 | 26 => 108 | 27 => 109 | 28 => 110 | 29 => 111 | 30 => 112 | 31 => 113 | 32 => 114 | 33 => 115 | 34 => 116 | 35 => 117 | 36 => 118 | 37 => 119 | 38 => 120 | 39 => 121 | n => n, fun | 0 => 0 | 3 => 3 | 4 => 4 | 5 => 5 | 9 => 9 | 12 => 12 | 17 => 17 | 20 => 20 | 26 => 109 | 32 => 125 | 33 => 126 | 35 => 128 | 37 => 130 | 41 => 106 | 44 => 135 | 49 => 114 | 51 => 137 | 53 => 144 | 54 => 145 | 58 => 90 | 60 => 150 | 64 => 154 | 66 => 156 | 67 => 157 | 75 => 164 | 76 => 165 | 77 => 166 | 78 => 167 | 79 => 168 | 80 => 169 | 82 => 171 | n => n, fun n => n⟩
set_option maxRecDepth 100000 in
theorem Tryd.sl6 : LaysGg.n6 Tryd.prog Tryd.sl6_ren := {
 mixed := by kernel_rfl
 f6 := Tryd.func77.trans (congrArg some (by kernel_rfl))
 f10 := Tryd.func90.trans (congrArg some (by kernel_rfl))
 f11 := Tryd.func91.trans (congrArg some (by kernel_rfl))
 f12 := Tryd.func92.trans (congrArg some (by kernel_rfl))
 f13 := Tryd.func93.trans (congrArg some (by kernel_rfl))
 f14 := Tryd.func94.trans (congrArg some (by kernel_rfl))
 f24 := Tryd.func106.trans (congrArg some (by kernel_rfl))
 f25 := Tryd.func107.trans (congrArg some (by kernel_rfl))
 f26 := Tryd.func108.trans (congrArg some (by kernel_rfl))
 f27 := Tryd.func109.trans (congrArg some (by kernel_rfl))
 f28 := Tryd.func110.trans (congrArg some (by kernel_rfl))
 f29 := Tryd.func111.trans (congrArg some (by kernel_rfl))
 f30 := Tryd.func112.trans (congrArg some (by kernel_rfl))
 f31 := Tryd.func113.trans (congrArg some (by kernel_rfl))
 f32 := Tryd.func114.trans (congrArg some (by kernel_rfl))
 f33 := Tryd.func115.trans (congrArg some (by kernel_rfl))
 f34 := Tryd.func116.trans (congrArg some (by kernel_rfl))
 f35 := Tryd.func117.trans (congrArg some (by kernel_rfl))
 f36 := Tryd.func118.trans (congrArg some (by kernel_rfl))
 f37 := Tryd.func119.trans (congrArg some (by kernel_rfl))
 f38 := Tryd.func120.trans (congrArg some (by kernel_rfl))
 f39 := Tryd.func121.trans (congrArg some (by kernel_rfl))
 t0 := Tryd.underlying0
 a0 := fun _ => by kernel_rfl
 z0 := fun _ => by kernel_rfl
 v0 := fun _ => by kernel_rfl
 i0 := by kernel_rfl
 t3 := Tryd.underlying3
 a3 := fun _ => by kernel_rfl
 z3 := fun _ => by kernel_rfl
 v3 := fun _ => by kernel_rfl
 i3 := by kernel_rfl
 t4 := Tryd.underlying4
 a4 := fun _ => by kernel_rfl
 z4 := fun _ => by kernel_rfl
 v4 := fun _ => by kernel_rfl
 i4 := by kernel_rfl
 t5 := Tryd.underlying5
 a5 := fun _ => by kernel_rfl
 z5 := fun _ => by kernel_rfl
 v5 := fun _ => by kernel_rfl
 i5 := by kernel_rfl
 t9 := Tryd.underlying9
 a9 := fun _ => by kernel_rfl
 z9 := fun _ => by kernel_rfl
 v9 := fun _ => by kernel_rfl
 i9 := by kernel_rfl
 t12 := Tryd.underlying12
 a12 := fun _ => by kernel_rfl
 z12 := fun _ => by kernel_rfl
 v12 := fun _ => by kernel_rfl
 i12 := by kernel_rfl
 t17 := Tryd.underlying17
 a17 := fun _ => by kernel_rfl
 z17 := fun _ => by kernel_rfl
 v17 := fun _ => by kernel_rfl
 i17 := by kernel_rfl
 t20 := Tryd.underlying20
 a20 := fun _ => by kernel_rfl
 z20 := fun _ => by kernel_rfl
 v20 := fun _ => by kernel_rfl
 i20 := by kernel_rfl
 t26 := Tryd.underlying109
 a26 := fun _ => by kernel_rfl
 z26 := fun _ => by kernel_rfl
 v26 := fun _ => by kernel_rfl
 i26 := by kernel_rfl
 t32 := Tryd.underlying125
 a32 := fun _ => by kernel_rfl
 z32 := fun _ => by kernel_rfl
 v32 := fun _ => by kernel_rfl
 i32 := by kernel_rfl
 t33 := Tryd.underlying126
 a33 := fun _ => by kernel_rfl
 z33 := fun _ => by kernel_rfl
 v33 := fun _ => by kernel_rfl
 i33 := by kernel_rfl
 t35 := Tryd.underlying128
 a35 := fun _ => by kernel_rfl
 z35 := fun _ => by kernel_rfl
 v35 := fun _ => by kernel_rfl
 i35 := by kernel_rfl
 t37 := Tryd.underlying130
 a37 := fun _ => by kernel_rfl
 z37 := fun _ => by kernel_rfl
 v37 := fun _ => by kernel_rfl
 i37 := by kernel_rfl
 t41 := Tryd.underlying106
 a41 := fun _ => by kernel_rfl
 z41 := fun _ => by kernel_rfl
 v41 := fun _ => by kernel_rfl
 i41 := by kernel_rfl
 t44 := Tryd.underlying135
 a44 := fun _ => by kernel_rfl
 z44 := fun _ => by kernel_rfl
 v44 := fun _ => by kernel_rfl
 i44 := by kernel_rfl
 t49 := Tryd.underlying114
 a49 := fun _ => by kernel_rfl
 z49 := fun _ => by kernel_rfl
 v49 := fun _ => by kernel_rfl
 i49 := by kernel_rfl
 t51 := Tryd.underlying137
 a51 := fun _ => by kernel_rfl
 z51 := fun _ => by kernel_rfl
 v51 := fun _ => by kernel_rfl
 i51 := by kernel_rfl
 t53 := Tryd.underlying144
 a53 := fun _ => by kernel_rfl
 z53 := fun _ => by kernel_rfl
 v53 := fun _ => by kernel_rfl
 i53 := by kernel_rfl
 t54 := Tryd.underlying145
 a54 := fun _ => by kernel_rfl
 z54 := fun _ => by kernel_rfl
 v54 := fun _ => by kernel_rfl
 i54 := by kernel_rfl
 t58 := Tryd.underlying90
 a58 := fun _ => by kernel_rfl
 z58 := fun _ => by kernel_rfl
 v58 := fun _ => by kernel_rfl
 i58 := by kernel_rfl
 t60 := Tryd.underlying150
 a60 := fun _ => by kernel_rfl
 z60 := fun _ => by kernel_rfl
 v60 := fun _ => by kernel_rfl
 i60 := by kernel_rfl
 t64 := Tryd.underlying154
 a64 := fun _ => by kernel_rfl
 z64 := fun _ => by kernel_rfl
 v64 := fun _ => by kernel_rfl
 i64 := by kernel_rfl
 t66 := Tryd.underlying156
 a66 := fun _ => by kernel_rfl
 z66 := fun _ => by kernel_rfl
 v66 := fun _ => by kernel_rfl
 i66 := by kernel_rfl
 t67 := Tryd.underlying157
 a67 := fun _ => by kernel_rfl
 z67 := fun _ => by kernel_rfl
 v67 := fun _ => by kernel_rfl
 i67 := by kernel_rfl
 t75 := Tryd.underlying164
 a75 := fun _ => by kernel_rfl
 z75 := fun _ => by kernel_rfl
 v75 := fun _ => by kernel_rfl
 i75 := by kernel_rfl
 t76 := Tryd.underlying165
 a76 := fun _ => by kernel_rfl
 z76 := fun _ => by kernel_rfl
 v76 := fun _ => by kernel_rfl
 i76 := by kernel_rfl
 t77 := Tryd.underlying166
 a77 := fun _ => by kernel_rfl
 z77 := fun _ => by kernel_rfl
 v77 := fun _ => by kernel_rfl
 i77 := by kernel_rfl
 t78 := Tryd.underlying167
 a78 := fun _ => by kernel_rfl
 z78 := fun _ => by kernel_rfl
 v78 := fun _ => by kernel_rfl
 i78 := by kernel_rfl
 t79 := Tryd.underlying168
 a79 := fun _ => by kernel_rfl
 z79 := fun _ => by kernel_rfl
 v79 := fun _ => by kernel_rfl
 i79 := by kernel_rfl
 t80 := Tryd.underlying169
 a80 := fun _ => by kernel_rfl
 z80 := fun _ => by kernel_rfl
 v80 := fun _ => by kernel_rfl
 i80 := by kernel_rfl
 t82 := Tryd.underlying171
 a82 := fun _ => by kernel_rfl
 z82 := fun _ => by kernel_rfl
 v82 := fun _ => by kernel_rfl
 i82 := by kernel_rfl }
end Go.Proofs
namespace Go.Proofs.YtaalajhmfdcalaaDoor.X
open Go.RowKit Go.Proofs.YtaalajhmfdcalaaDoorW.PrintWords Go.Proofs.YtaalajhmfdcalaaDoorW.PrintLast Go.Proofs.YtaalajhmfdcalaaDoorW.PrintMore
attribute [local go_sem] max2_int min2_int max_two min_two max_three min_three max_four min_four   -- for this text's walks alone
set_option linter.unusedVariables false
set_option linter.unusedSimpArgs false
mutual
def wicketref04_Twin.l0 : Nat → Int → Int → ByteArray → List ByteArray → List (S25) → Int → ByteArray → List ByteArray → List (S25) → Option (Int × ByteArray × List ByteArray × (List (S25)))
 | 0, _, _, _, _, _, _, _, _, _ => none
 | k + 1, x4, x504000, x504001, x504002, x504003, x512000, x512001, x512002, x512003 => if x4 < (x504003.length : Int) then (if 0 ≤ x4 then ((wicketref04_Twin.f k ((rd_T25 x504003 x4).f0) ((rd_T25 x504003 x4).f1) ((rd_T25 x504003 x4).f2) ((rd_T25 x504003 x4).f3)).bind fun bt513 => (if x512003.length < 1954687338268 then (wicketref04_Twin.l0 k (wrap64 (x4 + 1)) x504000 x504001 x504002 x504003 x512000 x512001 x512002 (x512003 ++ [(⟨bt513.1, bt513.2.1, bt513.2.2.1, bt513.2.2.2⟩ : S25)])) else (none))) else (none)) else (some (x512000, x512001, x512002, x512003))
def wicketref04_Twin.f : Nat → Int → ByteArray → List ByteArray → List (S25) → Option (Int × ByteArray × List ByteArray × (List (S25)))
 | 0, _, _, _, _ => none
 | k + 1, a0_0, a0_1, l0_2, l0_3 => (some (([] : List ByteArray) : List ByteArray)).bind fun y505 => (if y505.length + l0_2.length < 8796093022208 then (wicketref04_Twin.l0 k 0 a0_0 a0_1 l0_2 l0_3 a0_0 a0_1 (y505 ++ l0_2) ([] : List (S25))) else (none))
end
theorem wicketref04_Twin.mono_l : ∀ k, (∀ y0 y1 y2 y3, LeO (wicketref04_Twin.f k y0 y1 y2 y3) (wicketref04_Twin.f (k + 1) y0 y1 y2 y3)) ∧ (∀ y0 y1 y2 y3 y4 y5 y6 y7 y8, LeO (wicketref04_Twin.l0 k y0 y1 y2 y3 y4 y5 y6 y7 y8) (wicketref04_Twin.l0 (k + 1) y0 y1 y2 y3 y4 y5 y6 y7 y8))
 | 0 => ⟨fun _ _ _ _ r h => by simp [wicketref04_Twin.f] at h, fun _ _ _ _ _ _ _ _ _ r h => by simp [wicketref04_Twin.l0] at h⟩
 | k + 1 => by
  obtain ⟨ih0, ih1⟩ := wicketref04_Twin.mono_l k
  refine ⟨?_, ?_⟩
  ·intro y0 y1 y2 y3
   unfold wicketref04_Twin.f
   repeat' first
   | (with_reducible exact ih0 _ _ _ _)
   | (with_reducible exact ih1 _ _ _ _ _ _ _ _ _)
   | (with_reducible exact LeO.refl _)
   | (with_reducible exact LeO.none _)
   | (with_reducible refine LeO.ite ?_ ?_)
   | (with_reducible refine LeO.bind ?_ (fun _ => ?_))
   | exact ih0 _ _ _ _
   | exact ih1 _ _ _ _ _ _ _ _ _
   | exact LeO.none _
   | refine LeO.ite ?_ ?_
   | refine LeO.bind ?_ (fun _ => ?_)
  ·intro y0 y1 y2 y3 y4 y5 y6 y7 y8
   unfold wicketref04_Twin.l0
   repeat' first
   | (with_reducible exact ih0 _ _ _ _)
   | (with_reducible exact ih1 _ _ _ _ _ _ _ _ _)
   | (with_reducible exact LeO.refl _)
   | (with_reducible exact LeO.none _)
   | (with_reducible refine LeO.ite ?_ ?_)
   | (with_reducible refine LeO.bind ?_ (fun _ => ?_))
   | exact ih0 _ _ _ _
   | exact ih1 _ _ _ _ _ _ _ _ _
   | exact LeO.none _
   | refine LeO.ite ?_ ?_
   | refine LeO.bind ?_ (fun _ => ?_)
theorem wicketref04_Twin.mono : ∀ a0 a1 a2 a3 k, LeO (wicketref04_Twin.f k a0 a1 a2 a3) (wicketref04_Twin.f (k + 1) a0 a1 a2 a3) := by
 intro a0 a1 a2 a3 k
 obtain ⟨ih0, ih1⟩ := wicketref04_Twin.mono_l k
 exact ih0 a0 a1 a2 a3
def wicketref04_Twin.T1 : Bool × List (List Nat × List Nat) := (true, [([], []), ([0], [0]), ([], []), ([2], [2]), ([], []), ([], []), ([5], [5]), ([4, 6], [4, 6]), ([1, 3, 7], [1, 3, 7]), ([], []), ([9, 8, 7, 0, 1, 2, 3, 4, 5, 6, 7, 8, 9], [8, 9])])
def wicketref04_Twin.B1 : List Nat := [0, 1, 0, 4, 0, 0, 32, 112, 255, 0, 1023]
theorem wicketref04_Twin.tab1 : rtab .any (opsOf Tryd.f18 1) = wicketref04_Twin.T1 := by kernel_rfl
theorem wicketref04_Twin.bits1 : waitsOk wicketref04_Twin.T1.2 wicketref04_Twin.B1 = true := by kernel_rfl
def wicketref04_Twin.T5 : Bool × List (List Nat × List Nat) := (true, [([], []), ([0], [0]), ([], []), ([2], [2]), ([], []), ([3, 4], [3, 4]), ([5], [5]), ([6], [6]), ([7], [7]), ([1, 8, 7], [1, 8]), ([0, 1, 2, 3, 4, 5, 6, 7, 8, 9], []), ([10, 9, 9, 0, 1, 2, 3, 4, 5, 6, 7, 8, 9], [9, 10])])
def wicketref04_Twin.B5 : List Nat := [0, 1, 0, 4, 0, 28, 60, 124, 252, 511, 1023, 2047]
theorem wicketref04_Twin.tab5 : rtab .any (opsOf Tryd.f18 5) = wicketref04_Twin.T5 := by kernel_rfl
theorem wicketref04_Twin.bits5 : waitsOk wicketref04_Twin.T5.2 wicketref04_Twin.B5 = true := by kernel_rfl
set_option maxHeartbeats 8000000 in
set_option maxRecDepth 100000 in
theorem wicketref04_Twin.calls (k : Nat) : ∀ (a0_0 : Int) (a0_1 : ByteArray) (A0_2 : Option Addr) (c0_2 : Nat) (l0_2 : List ByteArray) (A0_3 : Option Addr) (c0_3 : Nat) (l0_3 : List (S25)) (r1 : Int) (r2 : ByteArray) (r3 : List ByteArray) (r4 : List (S25)) (w : World) (hr0_2 : Kd.C Kd.string w A0_2 l0_2.length l0_2) (hc0_2 : l0_2.length ≤ c0_2) (hr0_3 : Kd.C k25 w A0_3 l0_3.length l0_3) (hc0_3 : l0_3.length ≤ c0_3) (h : wicketref04_Twin.f k a0_0 a0_1 l0_2 l0_3 = some (r1, r2, r3, r4)),
  Calls Tryd.prog 18 #[.agg #[.int .i64 a0_0, .string a0_1, .slice A0_2 l0_2.length c0_2, .slice A0_3 l0_3.length c0_3]] w fun e w' => ∃ v2_ v3_ : Value, e = .returned (.agg #[.int .i64 r1, .string r2, v2_, v3_]) ∧ Kd.R Kd.string 9 w' w.heap.size (fun _ => True) v2_ r3 ∧ Kd.R k25 25 w' w.heap.size (fun k_ => some k_ ≠ (v2_ : Value).ownBlock) v3_ r4 ∧ Below w.heap.size w w' := by
 induction k using Nat.strongRecOn with
 | _ k ih =>
 intro a0_0 a0_1 A0_2 c0_2 l0_2 A0_3 c0_3 l0_3 r1 r2 r3 r4 w hr0_2 hc0_2 hr0_3 hc0_3 h
 cases k with
 | zero => exact absurd h (by simp [wicketref04_Twin.f])
 | succ k =>
 simp only [wicketref04_Twin.f] at h
 have hu25 := Tryd.underlying25
 have HR0_2 := am hr0_2
 have HC0_2 := am hc0_2
 clear hr0_2 hc0_2
 have HR0_3 := am hr0_3
 have HC0_3 := am hc0_3
 clear hr0_3 hc0_3
 have HB := am (Below.refl w.heap.size w)
 have H : ((some (([] : List ByteArray) : List ByteArray)).bind fun y505 => (if y505.length + l0_2.length < 8796093022208 then (wicketref04_Twin.l0 k 0 a0_0 a0_1 l0_2 l0_3 a0_0 a0_1 (y505 ++ l0_2) ([] : List (S25))) else (none))) = some (r1, r2, r3, r4) := h
 clear h
 obtain ⟨y505, hy505⟩ : ∃ y_ : List ByteArray, y_ = (([] : List ByteArray)) := ⟨_, rfl⟩
 replace H : (if y505.length + l0_2.length < 8796093022208 then (wicketref04_Twin.l0 k 0 a0_0 a0_1 l0_2 l0_3 a0_0 a0_1 (y505 ++ l0_2) ([] : List (S25))) else (none)) = some (r1, r2, r3, r4) := by first | (rw [hy505]; with_reducible exact H) | (have H2_ := (Option.bind_some _ _).symm.trans H; rw [hy505]; with_reducible exact H2_) | (have H2_ := (Option.bind_some _ _).symm.trans H; with_reducible exact H2_) | with_reducible exact H | (rw [hy505]; exact H) | exact H
 have Ny505 := am hy505
 clear hy505
 by_cases c2 : y505.length + l0_2.length < 8796093022208
 ·rw [if_pos c2] at H
  have LMc2 := am c2
  clear c2
  obtain ⟨y508, hy508⟩ : ∃ y_ : List ByteArray, y_ = (y505 ++ l0_2) := ⟨_, rfl⟩
  replace H : (wicketref04_Twin.l0 k 0 a0_0 a0_1 l0_2 l0_3 a0_0 a0_1 y508 ([] : List (S25))) = some (r1, r2, r3, r4) := by first | (rw [hy508]; with_reducible exact H) | (have H2_ := (Option.bind_some _ _).symm.trans H; rw [hy508]; with_reducible exact H2_) | (have H2_ := (Option.bind_some _ _).symm.trans H; with_reducible exact H2_) | with_reducible exact H | (rw [hy508]; exact H) | exact H
  have Ny508 := am hy508
  clear hy508
  have H' := am H
  clear H
  go_enter Tryd.func18, Tryd.ntmps18
  try go_wp2_with (first | ((with_reducible refine gate_dst (N := 1) rfl ?_); refine box_event ?hg (N := 1) ?hd (cs := #[.int .i64 a0_0, .string a0_1, .slice A0_2 l0_2.length c0_2, .slice A0_3 l0_3.length c0_3]) (t := 25) ?hr ?_; (case hd => rfl); (case hg => rfl); (case hr => first | (go_simp; done) | (go_simp; rfl)); intro gb503 hg w3 hbox hb; have n0_ := am (below_step (by repeat (first | (with_reducible first | exact HB.out | apply below_alloc | apply pw_below_drewN | apply below_drew1) | exact HB.out)) hb); have n1_ := am (hbox); have n2_ := am ((by rw [hg]; exact (below_size (by repeat (first | (with_reducible first | exact HB.out | apply below_alloc | apply pw_below_drewN | apply below_drew1) | exact HB.out))) : w.heap.size ≤ gb503)); have n3_ := am ((by rw [hg]; exact (below_size (by repeat (first | (with_reducible first | exact HB.out | apply below_alloc | apply pw_below_drewN | apply below_drew1) | exact HB.out))) : w.heap.size ≤ gb503)); clear HB; have HB := n0_; have BK503 := n1_; have GW503 := n2_; have GE503 := n3_; clear n0_ n1_ n2_ n3_; clear hb hbox hg) | ((with_reducible refine gate_dst (N := 2) rfl ?_); refine box_event ?hg (N := 2) ?hd (cs := #[.int .i64 0, .string (⟨#[]⟩ : ByteArray), .slice none 0 0, .slice none 0 0]) (t := 25) ?hr ?_; (case hd => rfl); (case hg => rfl); (case hr => first | (go_simp; done) | (go_simp; rfl)); intro gb504 hg w4 hbox hb; have n0_ := am (blk_below (g := gb503) (o := .cells #[.int .i64 a0_0, .string a0_1, .slice A0_2 l0_2.length c0_2, .slice A0_3 l0_3.length c0_3] 25 (0, 0)) (by (with_reducible repeat (first | refine blk_drewN ?_ _ | refine blk_drew ?_ | refine blk_alloc ?_ _)); exact BK503.out) hb); have n1_ := am (below_step (by repeat (first | (with_reducible first | exact HB.out | apply below_alloc | apply pw_below_drewN | apply below_drew1 | refine below_set ?_ GE503.out) | exact HB.out)) hb); have n2_ := am (hbox); have n3_ := am ((by rw [hg]; exact (below_size (by repeat (first | (with_reducible first | exact HB.out | apply below_alloc | apply pw_below_drewN | apply below_drew1 | refine below_set ?_ GE503.out) | exact HB.out))) : w.heap.size ≤ gb504)); have n4_ := am ((by rw [hg]; exact (below_size (by repeat (first | (with_reducible first | exact HB.out | apply below_alloc | apply pw_below_drewN | apply below_drew1 | refine below_set ?_ GE503.out) | exact HB.out))) : w.heap.size ≤ gb504)); have n5_ := am ((by rw [hg]; exact Nat.ne_of_lt (blk_lt (g := gb503) (o := .cells #[.int .i64 a0_0, .string a0_1, .slice A0_2 l0_2.length c0_2, .slice A0_3 l0_3.length c0_3] 25 (0, 0)) (by (with_reducible repeat (first | refine blk_drewN ?_ _ | refine blk_drew ?_ | refine blk_alloc ?_ _)); exact BK503.out)) : gb503 ≠ gb504)); have n6_ := am ((by rw [hg]; exact Nat.ne_of_gt (blk_lt (g := gb503) (o := .cells #[.int .i64 a0_0, .string a0_1, .slice A0_2 l0_2.length c0_2, .slice A0_3 l0_3.length c0_3] 25 (0, 0)) (by (with_reducible repeat (first | refine blk_drewN ?_ _ | refine blk_drew ?_ | refine blk_alloc ?_ _)); exact BK503.out)) : gb504 ≠ gb503)); clear BK503; clear HB; have BK503 := n0_; have HB := n1_; have BK504 := n2_; have GW504 := n3_; have GE504 := n4_; have NB503_504 := n5_; have NB504_503 := n6_; clear n0_ n1_ n2_ n3_ n4_ n5_ n6_; clear hb hbox hg))
  have n0_ := am (blk_drew BK503.out)
  have n1_ := am (blk_drew BK504.out)
  have n2_ := am (below_drew1 HB.out)
  clear BK503
  clear BK504
  clear HB
  have BK503 := n0_
  have BK504 := n1_
  have HB := n2_
  clear n0_ n1_ n2_
  refine start_ (n := 11) (S := fun w' => w'.cell? ⟨gb503, 0, none⟩ = some (.int .i64 a0_0) ∧ w'.cell? ⟨gb503, 1, none⟩ = some (.string a0_1) ∧ w'.cell? ⟨gb503, 2, none⟩ = some (.slice A0_2 l0_2.length c0_2) ∧ w'.cell? ⟨gb503, 3, none⟩ = some (.slice A0_3 l0_3.length c0_3)) (ds := []) #[false, false, false, false, false, false, false, false, false, false, false] (by kernel_rfl) rfl rfl ⟨(blk_cell BK503.out 0).trans rfl, (blk_cell BK503.out 1).trans rfl, (blk_cell BK503.out 2).trans rfl, (blk_cell BK503.out 3).trans rfl⟩ (fun hHeld => ?_); refine with_tabW wicketref04_Twin.tab1 wicketref04_Twin.bits1 (fun HT_ HW_ => ?_)
  generalize w4.drew = w5 at BK503 BK504 HB hHeld ⊢
  refine pure_ (i := 0) (N := some 5) (v := ?_) (a' := ?_) #[true, false, false, false, false, false, false, false, false, false, false] rfl rfl (any_of HT_.out (by kernel_rfl)) (fun _ _ _ h => h) (Or.inl ⟨by rfl, ?_⟩) ?_ ?_
  rotate_left
  ·intro w'
   go_simp
   with_reducible rfl
  rotate_left
  ·simp only [Act.put, sAx, sZx, sSx, i64_w, i32_w]
   rfl
  refine pure_ (i := 2) (N := some 7) (v := ?_) (a' := ?_) #[true, false, true, false, false, false, false, false, false, false, false] rfl rfl (any_of HT_.out (by kernel_rfl)) (fun _ _ _ h => h) (Or.inl ⟨by rfl, ?_⟩) ?_ ?_
  rotate_left
  ·intro w'
   go_simp
   with_reducible rfl
  rotate_left
  ·simp only [Act.put, sAx, sZx, sSx, i64_w, i32_w]
   rfl
  refine pure_ (i := 5) (N := some 10) (v := ?_) (a' := ?_) #[true, false, true, false, false, true, false, false, false, false, false] rfl rfl (any_of HT_.out (by kernel_rfl)) (fun _ _ _ h => h) (Or.inl ⟨by rfl, ?_⟩) ?_ ?_
  rotate_left
  ·intro w'
   go_simp
   with_reducible rfl
  rotate_left
  ·simp only [Act.put, sAx, sZx, sSx, i64_w, i32_w]
   rfl
  refine take_ (i := 1) (N := some 6) (v := ?_) (a' := ?_) #[true, true, true, false, false, true, false, false, false, false, false] rfl rfl (take_ofW HT_.out HW_.out (by kernel_rfl)) (fun _ _ _ h => h) (Or.inl ⟨by rfl, ?_⟩) hHeld ?_ ?_
  rotate_left
  ·rintro w' ⟨s0, s1, s2, s3⟩
   go_simp
   with_reducible rfl
  rotate_left
  ·simp only [Act.put, sAx, sZx, sSx, i64_w, i32_w]
   rfl
  refine take_ (i := 3) (N := some 8) (v := ?_) (a' := ?_) #[true, true, true, true, false, true, false, false, false, false, false] rfl rfl (take_ofW HT_.out HW_.out (by kernel_rfl)) (fun _ _ _ h => h) (Or.inl ⟨by rfl, ?_⟩) hHeld ?_ ?_
  rotate_left
  ·rintro w' ⟨s0, s1, s2, s3⟩
   go_simp
   with_reducible rfl
  rotate_left
  ·simp only [Act.put, sAx, sZx, sSx, i64_w, i32_w]
   rfl
  refine take_ (i := 6) (N := some 11) (v := ?_) (a' := ?_) #[true, true, true, true, false, true, true, false, false, false, false] rfl rfl (take_ofW HT_.out HW_.out (by kernel_rfl)) (fun _ _ _ h => h) (Or.inl ⟨by rfl, ?_⟩) hHeld ?_ ?_
  rotate_left
  ·rintro w' ⟨s0, s1, s2, s3⟩
   go_simp
   with_reducible rfl
  rotate_left
  ·simp only [Act.put, sAx, sZx, sSx, i64_w, i32_w]
   rfl
  refine join_ (σ := Value × Value × Nat) 1 #[true, true, true, true, true, true, true, true, true, true, false] (fun s_ => [(9, s_.1), (12, s_.2.1), (3, .pointer (some ⟨s_.2.2, 0, none⟩)), (13, .agg #[.int .i64 a0_0, .string a0_1, s_.2.1, .slice none 0 0])]) (fun s_ w' => (w'.cell? ⟨gb503, 0, none⟩ = some (.int .i64 a0_0) ∧ w'.cell? ⟨gb503, 1, none⟩ = some (.string a0_1) ∧ w'.cell? ⟨gb503, 2, none⟩ = some (.slice A0_2 l0_2.length c0_2) ∧ w'.cell? ⟨gb503, 3, none⟩ = some (.slice A0_3 l0_3.length c0_3)) ∧ (Kd.R Kd.string 9 w' w.heap.size (fun _ => True) s_.2.1 y508) ∧ (w'.heap[gb503]? = some (.cells #[.int .i64 a0_0, .string a0_1, .slice A0_2 l0_2.length c0_2, .slice A0_3 l0_3.length c0_3] 25 (0, 0))) ∧ (w'.heap[gb504]? = some (.cells #[.int .i64 0, .string (⟨#[]⟩ : ByteArray), .slice none 0 0, .slice none 0 0] 25 (0, 0))) ∧ (w'.heap[s_.2.2]? = some (.cells #[.int .i64 0, .string (⟨#[]⟩ : ByteArray), .slice none 0 0, .slice none 0 0] 25 (0, 0))) ∧ (w.heap.size ≤ s_.2.2) ∧ (w.heap.size ≤ s_.2.2) ∧ (gb503 ≠ s_.2.2) ∧ (s_.2.2 ≠ gb503) ∧ (gb504 ≠ s_.2.2) ∧ (s_.2.2 ≠ gb504) ∧ (Below w.heap.size w w')) ?_ ?_
  rotate_left
  ·intro hCont
   refine two_ (i := 4) (j := 9) (Ni := some 9) (Nj := some 3) #[true, true, true, true, true, true, true, false, false, false, false] #[true, true, true, true, false, true, true, false, false, true, false] rfl rfl rfl rfl (two_of HT_.out (by kernel_rfl)) (by decide) (by decide) (fun K hK => ?_) (fun K hK => ?_)
   ·skip
    refine Kd.R_lit_step Kd.string _ 9 ?hg (N := 9) ?hd (xs := ([] : List ByteArray)) (inner := []) (ok := fun _ => True) (okp := fun _ => True) ?hr ?hp (fun _ hk => hk) trivial (Below.refl _ _) (Nat.le_refl _) (by simp) ?_; (case hd => rfl); (case hg => rfl); (case hr => first | (go_simp; done) | (go_simp; rfl)); (case hp => exact (Reps.none _ _))
    intro v506 w6 ho7 hb hg_ hnew_
    clear hg_ hnew_
    (first | rw [← Ny505.out] at ho7 | (simp only [Int.reduceToNat] at ho7; rw [← Ny505.out] at ho7))
    have n0_ := am (Kd.R_lower ho7 (below_size (by repeat (first | (with_reducible first | exact HB.out | apply below_alloc | apply pw_below_drewN | apply below_drew1 | refine below_set ?_ GE503.out | refine below_set ?_ GE504.out) | exact HB.out))))
    have n1_ := am (blk_below (g := gb503) (o := .cells #[.int .i64 a0_0, .string a0_1, .slice A0_2 l0_2.length c0_2, .slice A0_3 l0_3.length c0_3] 25 (0, 0)) (by (with_reducible repeat (first | refine blk_drewN ?_ _ | refine blk_drew ?_ | refine blk_alloc ?_ _)); exact BK503.out) hb)
    have n2_ := am (blk_below (g := gb504) (o := .cells #[.int .i64 0, .string (⟨#[]⟩ : ByteArray), .slice none 0 0, .slice none 0 0] 25 (0, 0)) (by (with_reducible repeat (first | refine blk_drewN ?_ _ | refine blk_drew ?_ | refine blk_alloc ?_ _)); exact BK504.out) hb)
    have n3_ := am (below_step (by repeat (first | (with_reducible first | exact HB.out | apply below_alloc | apply pw_below_drewN | apply below_drew1 | refine below_set ?_ GE503.out | refine below_set ?_ GE504.out) | exact HB.out)) hb)
    clear BK503
    clear BK504
    clear HB
    have HO507 := n0_
    have BK503 := n1_
    have BK504 := n2_
    have HB := n3_
    clear n0_ n1_ n2_ n3_
    clear hb ho7
    refine hK.out _ _ ⟨(blk_cell BK503.out 0).trans rfl, (blk_cell BK503.out 1).trans rfl, (blk_cell BK503.out 2).trans rfl, (blk_cell BK503.out 3).trans rfl⟩ (fun hHeld => ?_)
    clear hK K
    refine norm_ (a' := ?_) ?_ ?_
    rotate_left
    ·show Act.put _ (some 9) _ = _
     simp only [Act.put, sAx, sZx, sSx, i64_w, i32_w]
     rfl
    refine two_ (i := 7) (j := 9) (Ni := some 12) (Nj := some 3) #[true, true, true, true, true, true, true, true, false, false, false] #[true, true, true, true, true, true, true, false, false, true, false] rfl rfl rfl rfl (two_of HT_.out (by kernel_rfl)) (by decide) (by decide) (fun K hK => ?_) (fun K hK => ?_)
    ·skip
     refine Kd.R_append_rows_step Kd.string (w0 := w) w.heap.size (by rfl) (.tmp 9) (.tmp 11) 22 9 (.string ⟨#[]⟩) 16 rfl Tryd.underlying22 info9 rfl (by decide) (by omega) v506 y505 l0_2 _ _ _ (fun _ => True) (fun _ => False) rfl rfl ?aO ?aR (fun _ _ h => h) (fun _ h => h.elim) ?aF ?aB ?aS ?aL ?_
     (case aR => repeat (first | exact (Kd.C_below HR0_2.out HB.out) | (with_reducible refine Kd.C_alloc ?_ _) | (with_reducible refine Kd.C_drewN ?_ _) | (with_reducible refine Kd.C_drew ?_)))
     (case aB => exact (by repeat (first | (with_reducible first | exact HB.out | apply below_alloc | apply pw_below_drewN | apply below_drew1 | refine below_set ?_ GE503.out | refine below_set ?_ GE504.out) | exact HB.out)))
     (case aF => exact (fun _ _ => trivial))
     (case aO => exact (by (with_reducible repeat (first | apply Kd.R_alloc | apply Kd.R_drewN | apply Kd.R_drew)); exact HO507.out))
     (case aS => exact (below_size (by repeat (first | (with_reducible first | exact HB.out | apply below_alloc | apply pw_below_drewN | apply below_drew1 | refine below_set ?_ GE503.out | refine below_set ?_ GE504.out) | exact HB.out))))
     (case aL => have := LMc2.out; omega)
     intro v509 w8 ho hb hg hat
     rw [← Ny508.out] at ho
     have n0_ := am (blk_grown (g := gb503) (o := .cells #[.int .i64 a0_0, .string a0_1, .slice A0_2 l0_2.length c0_2, .slice A0_3 l0_3.length c0_3] 25 (0, 0)) (by (with_reducible repeat (first | refine blk_drewN ?_ _ | refine blk_drew ?_ | refine blk_alloc ?_ _)); exact BK503.out) hg (Kd.R_ne HO507.out BK503.out (by decide)))
     have n1_ := am (blk_grown (g := gb504) (o := .cells #[.int .i64 0, .string (⟨#[]⟩ : ByteArray), .slice none 0 0, .slice none 0 0] 25 (0, 0)) (by (with_reducible repeat (first | refine blk_drewN ?_ _ | refine blk_drew ?_ | refine blk_alloc ?_ _)); exact BK504.out) hg (Kd.R_ne HO507.out BK504.out (by decide)))
     have n2_ := am (hb)
     have n3_ := am (ho)
     clear BK503
     clear BK504
     clear HB
     clear HO507
     have BK503 := n0_
     have BK504 := n1_
     have HB := n2_
     have HO510 := n3_
     clear n0_ n1_ n2_ n3_
     clear ho hb hg hat
     obtain ⟨Ao9, co9, eo9⟩ := Kd.R_slice HO510.out
     (first | subst eo9 | (injection eo9 with f1_ f2_ f3_; have f4_ := f1_.symm; have f5_ := f3_.symm; clear f1_ f2_ f3_; subst f4_; subst f5_))
     refine hK.out _ _ ⟨(blk_cell BK503.out 0).trans rfl, (blk_cell BK503.out 1).trans rfl, (blk_cell BK503.out 2).trans rfl, (blk_cell BK503.out 3).trans rfl⟩ (fun hHeld => ?_)
     clear hK K
     refine norm_ (a' := ?_) ?_ ?_
     rotate_left
     ·show Act.put _ (some 12) _ = _
      simp only [Act.put, sAx, sZx, sSx, i64_w, i32_w]
      rfl
     refine pure_ (i := 8) (N := some 13) (v := ?_) (a' := ?_) #[true, true, true, true, true, true, true, true, true, false, false] rfl rfl (any_of HT_.out (by kernel_rfl)) (fun _ _ _ h => h) (Or.inl ⟨by rfl, ?_⟩) ?_ ?_
     rotate_left
     ·intro w'
      go_simp
      with_reducible rfl
     rotate_left
     ·simp only [Act.put, sAx, sZx, sSx, i64_w, i32_w]
      rfl
     refine one_ (i := 9) (N := some 3) #[true, true, true, true, true, true, true, true, true, true, false] rfl rfl (one_of HT_.out (by kernel_rfl)) (by decide) (fun K hK => ?_)
     refine box_step ?hg (N := 3) ?hd (cs := #[.int .i64 0, .string (⟨#[]⟩ : ByteArray), .slice none 0 0, .slice none 0 0]) (t := 25) ?hr ?_; (case hd => rfl); (case hg => rfl); (case hr => first | (go_simp; done) | (go_simp; rfl))
     intro gb511 hg w10 hbox hb
     have n0_ := am (Kd.R_below (by (with_reducible repeat (first | apply Kd.R_alloc | apply Kd.R_drewN | apply Kd.R_drew)); exact HO510.out) hb)
     have n1_ := am (blk_below (g := gb503) (o := .cells #[.int .i64 a0_0, .string a0_1, .slice A0_2 l0_2.length c0_2, .slice A0_3 l0_3.length c0_3] 25 (0, 0)) (by (with_reducible repeat (first | refine blk_drewN ?_ _ | refine blk_drew ?_ | refine blk_alloc ?_ _)); exact BK503.out) hb)
     have n2_ := am (blk_below (g := gb504) (o := .cells #[.int .i64 0, .string (⟨#[]⟩ : ByteArray), .slice none 0 0, .slice none 0 0] 25 (0, 0)) (by (with_reducible repeat (first | refine blk_drewN ?_ _ | refine blk_drew ?_ | refine blk_alloc ?_ _)); exact BK504.out) hb)
     have n3_ := am (below_step (by repeat (first | (with_reducible first | exact HB.out | apply below_alloc | apply pw_below_drewN | apply below_drew1 | refine below_set ?_ GE503.out | refine below_set ?_ GE504.out) | exact HB.out)) hb)
     have n4_ := am (hbox)
     have n5_ := am ((by rw [hg]; exact (below_size (by repeat (first | (with_reducible first | exact HB.out | apply below_alloc | apply pw_below_drewN | apply below_drew1 | refine below_set ?_ GE503.out | refine below_set ?_ GE504.out) | exact HB.out))) : w.heap.size ≤ gb511))
     have n6_ := am ((by rw [hg]; exact (below_size (by repeat (first | (with_reducible first | exact HB.out | apply below_alloc | apply pw_below_drewN | apply below_drew1 | refine below_set ?_ GE503.out | refine below_set ?_ GE504.out) | exact HB.out))) : w.heap.size ≤ gb511))
     have n7_ := am ((by rw [hg]; exact Nat.ne_of_lt (blk_lt (g := gb503) (o := .cells #[.int .i64 a0_0, .string a0_1, .slice A0_2 l0_2.length c0_2, .slice A0_3 l0_3.length c0_3] 25 (0, 0)) (by (with_reducible repeat (first | refine blk_drewN ?_ _ | refine blk_drew ?_ | refine blk_alloc ?_ _)); exact BK503.out)) : gb503 ≠ gb511))
     have n8_ := am ((by rw [hg]; exact Nat.ne_of_gt (blk_lt (g := gb503) (o := .cells #[.int .i64 a0_0, .string a0_1, .slice A0_2 l0_2.length c0_2, .slice A0_3 l0_3.length c0_3] 25 (0, 0)) (by (with_reducible repeat (first | refine blk_drewN ?_ _ | refine blk_drew ?_ | refine blk_alloc ?_ _)); exact BK503.out)) : gb511 ≠ gb503))
     have n9_ := am ((by rw [hg]; exact Nat.ne_of_lt (blk_lt (g := gb504) (o := .cells #[.int .i64 0, .string (⟨#[]⟩ : ByteArray), .slice none 0 0, .slice none 0 0] 25 (0, 0)) (by (with_reducible repeat (first | refine blk_drewN ?_ _ | refine blk_drew ?_ | refine blk_alloc ?_ _)); exact BK504.out)) : gb504 ≠ gb511))
     have n10_ := am ((by rw [hg]; exact Nat.ne_of_gt (blk_lt (g := gb504) (o := .cells #[.int .i64 0, .string (⟨#[]⟩ : ByteArray), .slice none 0 0, .slice none 0 0] 25 (0, 0)) (by (with_reducible repeat (first | refine blk_drewN ?_ _ | refine blk_drew ?_ | refine blk_alloc ?_ _)); exact BK504.out)) : gb511 ≠ gb504))
     clear HO510
     clear BK503
     clear BK504
     clear HB
     have HO510 := n0_
     have BK503 := n1_
     have BK504 := n2_
     have HB := n3_
     have BK511 := n4_
     have GW511 := n5_
     have GE511 := n6_
     have NB503_511 := n7_
     have NB511_503 := n8_
     have NB504_511 := n9_
     have NB511_504 := n10_
     clear n0_ n1_ n2_ n3_ n4_ n5_ n6_ n7_ n8_ n9_ n10_
     clear hb hbox hg
     refine hK.out _ _ ⟨(blk_cell BK503.out 0).trans rfl, (blk_cell BK503.out 1).trans rfl, (blk_cell BK503.out 2).trans rfl, (blk_cell BK503.out 3).trans rfl⟩ (fun hHeld => ?_)
     clear hK K
     refine norm_ (a' := ?_) ?_ ?_
     rotate_left
     ·show Act.put _ (some 3) _ = _
      simp only [Act.put, sAx, sZx, sSx, i64_w, i32_w]
      rfl
     exact norm_ (by simp only [putAll, Act.put, sAx, sZx, sSx]) (hCont (v506, .slice Ao9 y508.length co9, gb511) _ ⟨hHeld, (by (with_reducible repeat (first | apply Kd.R_alloc | apply Kd.R_drewN | apply Kd.R_drew)); exact HO510.out), (by (with_reducible repeat (first | refine blk_drewN ?_ _ | refine blk_drew ?_ | refine blk_alloc ?_ _)); exact BK503.out), (by (with_reducible repeat (first | refine blk_drewN ?_ _ | refine blk_drew ?_ | refine blk_alloc ?_ _)); exact BK504.out), (by (with_reducible repeat (first | refine blk_drewN ?_ _ | refine blk_drew ?_ | refine blk_alloc ?_ _)); exact BK511.out), GW511.out, GE511.out, NB503_511.out, NB511_503.out, NB504_511.out, NB511_504.out, (by repeat (first | (with_reducible first | exact HB.out | apply below_alloc | apply pw_below_drewN | apply below_drew1 | refine below_set ?_ GE503.out | refine below_set ?_ GE504.out | refine below_set ?_ GE511.out) | exact HB.out))⟩)
    ·skip
     refine box_step ?hg (N := 3) ?hd (cs := #[.int .i64 0, .string (⟨#[]⟩ : ByteArray), .slice none 0 0, .slice none 0 0]) (t := 25) ?hr ?_; (case hd => rfl); (case hg => rfl); (case hr => first | (go_simp; done) | (go_simp; rfl))
     intro gb511 hg w8 hbox hb
     have n0_ := am (Kd.R_below (by (with_reducible repeat (first | apply Kd.R_alloc | apply Kd.R_drewN | apply Kd.R_drew)); exact HO507.out) hb)
     have n1_ := am (blk_below (g := gb503) (o := .cells #[.int .i64 a0_0, .string a0_1, .slice A0_2 l0_2.length c0_2, .slice A0_3 l0_3.length c0_3] 25 (0, 0)) (by (with_reducible repeat (first | refine blk_drewN ?_ _ | refine blk_drew ?_ | refine blk_alloc ?_ _)); exact BK503.out) hb)
     have n2_ := am (blk_below (g := gb504) (o := .cells #[.int .i64 0, .string (⟨#[]⟩ : ByteArray), .slice none 0 0, .slice none 0 0] 25 (0, 0)) (by (with_reducible repeat (first | refine blk_drewN ?_ _ | refine blk_drew ?_ | refine blk_alloc ?_ _)); exact BK504.out) hb)
     have n3_ := am (below_step (by repeat (first | (with_reducible first | exact HB.out | apply below_alloc | apply pw_below_drewN | apply below_drew1 | refine below_set ?_ GE503.out | refine below_set ?_ GE504.out) | exact HB.out)) hb)
     have n4_ := am (hbox)
     have n5_ := am ((by rw [hg]; exact (below_size (by repeat (first | (with_reducible first | exact HB.out | apply below_alloc | apply pw_below_drewN | apply below_drew1 | refine below_set ?_ GE503.out | refine below_set ?_ GE504.out) | exact HB.out))) : w.heap.size ≤ gb511))
     have n6_ := am ((by rw [hg]; exact (below_size (by repeat (first | (with_reducible first | exact HB.out | apply below_alloc | apply pw_below_drewN | apply below_drew1 | refine below_set ?_ GE503.out | refine below_set ?_ GE504.out) | exact HB.out))) : w.heap.size ≤ gb511))
     have n7_ := am ((by rw [hg]; exact Nat.ne_of_lt (blk_lt (g := gb503) (o := .cells #[.int .i64 a0_0, .string a0_1, .slice A0_2 l0_2.length c0_2, .slice A0_3 l0_3.length c0_3] 25 (0, 0)) (by (with_reducible repeat (first | refine blk_drewN ?_ _ | refine blk_drew ?_ | refine blk_alloc ?_ _)); exact BK503.out)) : gb503 ≠ gb511))
     have n8_ := am ((by rw [hg]; exact Nat.ne_of_gt (blk_lt (g := gb503) (o := .cells #[.int .i64 a0_0, .string a0_1, .slice A0_2 l0_2.length c0_2, .slice A0_3 l0_3.length c0_3] 25 (0, 0)) (by (with_reducible repeat (first | refine blk_drewN ?_ _ | refine blk_drew ?_ | refine blk_alloc ?_ _)); exact BK503.out)) : gb511 ≠ gb503))
     have n9_ := am ((by rw [hg]; exact Nat.ne_of_lt (blk_lt (g := gb504) (o := .cells #[.int .i64 0, .string (⟨#[]⟩ : ByteArray), .slice none 0 0, .slice none 0 0] 25 (0, 0)) (by (with_reducible repeat (first | refine blk_drewN ?_ _ | refine blk_drew ?_ | refine blk_alloc ?_ _)); exact BK504.out)) : gb504 ≠ gb511))
     have n10_ := am ((by rw [hg]; exact Nat.ne_of_gt (blk_lt (g := gb504) (o := .cells #[.int .i64 0, .string (⟨#[]⟩ : ByteArray), .slice none 0 0, .slice none 0 0] 25 (0, 0)) (by (with_reducible repeat (first | refine blk_drewN ?_ _ | refine blk_drew ?_ | refine blk_alloc ?_ _)); exact BK504.out)) : gb511 ≠ gb504))
     clear HO507
     clear BK503
     clear BK504
     clear HB
     have HO507 := n0_
     have BK503 := n1_
     have BK504 := n2_
     have HB := n3_
     have BK511 := n4_
     have GW511 := n5_
     have GE511 := n6_
     have NB503_511 := n7_
     have NB511_503 := n8_
     have NB504_511 := n9_
     have NB511_504 := n10_
     clear n0_ n1_ n2_ n3_ n4_ n5_ n6_ n7_ n8_ n9_ n10_
     clear hb hbox hg
     refine hK.out _ _ ⟨(blk_cell BK503.out 0).trans rfl, (blk_cell BK503.out 1).trans rfl, (blk_cell BK503.out 2).trans rfl, (blk_cell BK503.out 3).trans rfl⟩ (fun hHeld => ?_)
     clear hK K
     refine norm_ (a' := ?_) ?_ ?_
     rotate_left
     ·show Act.put _ (some 3) _ = _
      simp only [Act.put, sAx, sZx, sSx, i64_w, i32_w]
      rfl
     refine one_ (i := 7) (N := some 12) #[true, true, true, true, true, true, true, true, false, true, false] rfl rfl (one_of HT_.out (by kernel_rfl)) (by decide) (fun K hK => ?_)
     refine Kd.R_append_rows_step Kd.string (w0 := w) w.heap.size (by rfl) (.tmp 9) (.tmp 11) 22 9 (.string ⟨#[]⟩) 16 rfl Tryd.underlying22 info9 rfl (by decide) (by omega) v506 y505 l0_2 _ _ _ (fun _ => True) (fun _ => False) rfl rfl ?aO ?aR (fun _ _ h => h) (fun _ h => h.elim) ?aF ?aB ?aS ?aL ?_
     (case aR => repeat (first | exact (Kd.C_below HR0_2.out HB.out) | (with_reducible refine Kd.C_alloc ?_ _) | (with_reducible refine Kd.C_drewN ?_ _) | (with_reducible refine Kd.C_drew ?_)))
     (case aB => exact (by repeat (first | (with_reducible first | exact HB.out | apply below_alloc | apply pw_below_drewN | apply below_drew1 | refine below_set ?_ GE503.out | refine below_set ?_ GE504.out | refine below_set ?_ GE511.out) | exact HB.out)))
     (case aF => exact (fun _ _ => trivial))
     (case aO => exact (by (with_reducible repeat (first | apply Kd.R_alloc | apply Kd.R_drewN | apply Kd.R_drew)); exact HO507.out))
     (case aS => exact (below_size (by repeat (first | (with_reducible first | exact HB.out | apply below_alloc | apply pw_below_drewN | apply below_drew1 | refine below_set ?_ GE503.out | refine below_set ?_ GE504.out | refine below_set ?_ GE511.out) | exact HB.out))))
     (case aL => have := LMc2.out; omega)
     intro v509 w9 ho hb hg hat
     rw [← Ny508.out] at ho
     have n0_ := am (blk_grown (g := gb503) (o := .cells #[.int .i64 a0_0, .string a0_1, .slice A0_2 l0_2.length c0_2, .slice A0_3 l0_3.length c0_3] 25 (0, 0)) (by (with_reducible repeat (first | refine blk_drewN ?_ _ | refine blk_drew ?_ | refine blk_alloc ?_ _)); exact BK503.out) hg (Kd.R_ne HO507.out BK503.out (by decide)))
     have n1_ := am (blk_grown (g := gb504) (o := .cells #[.int .i64 0, .string (⟨#[]⟩ : ByteArray), .slice none 0 0, .slice none 0 0] 25 (0, 0)) (by (with_reducible repeat (first | refine blk_drewN ?_ _ | refine blk_drew ?_ | refine blk_alloc ?_ _)); exact BK504.out) hg (Kd.R_ne HO507.out BK504.out (by decide)))
     have n2_ := am (blk_grown (g := gb511) (o := .cells #[.int .i64 0, .string (⟨#[]⟩ : ByteArray), .slice none 0 0, .slice none 0 0] 25 (0, 0)) (by (with_reducible repeat (first | refine blk_drewN ?_ _ | refine blk_drew ?_ | refine blk_alloc ?_ _)); exact BK511.out) hg (Kd.R_ne HO507.out BK511.out (by decide)))
     have n3_ := am (hb)
     have n4_ := am (ho)
     clear BK503
     clear BK504
     clear BK511
     clear HB
     clear HO507
     have BK503 := n0_
     have BK504 := n1_
     have BK511 := n2_
     have HB := n3_
     have HO510 := n4_
     clear n0_ n1_ n2_ n3_ n4_
     clear ho hb hg hat
     obtain ⟨Ao10, co10, eo10⟩ := Kd.R_slice HO510.out
     (first | subst eo10 | (injection eo10 with f1_ f2_ f3_; have f4_ := f1_.symm; have f5_ := f3_.symm; clear f1_ f2_ f3_; subst f4_; subst f5_))
     refine hK.out _ _ ⟨(blk_cell BK503.out 0).trans rfl, (blk_cell BK503.out 1).trans rfl, (blk_cell BK503.out 2).trans rfl, (blk_cell BK503.out 3).trans rfl⟩ (fun hHeld => ?_)
     clear hK K
     refine norm_ (a' := ?_) ?_ ?_
     rotate_left
     ·show Act.put _ (some 12) _ = _
      simp only [Act.put, sAx, sZx, sSx, i64_w, i32_w]
      rfl
     refine pure_ (i := 8) (N := some 13) (v := ?_) (a' := ?_) #[true, true, true, true, true, true, true, true, true, true, false] rfl rfl (any_of HT_.out (by kernel_rfl)) (fun _ _ _ h => h) (Or.inl ⟨by rfl, ?_⟩) ?_ ?_
     rotate_left
     ·intro w'
      go_simp
      with_reducible rfl
     rotate_left
     ·simp only [Act.put, sAx, sZx, sSx, i64_w, i32_w]
      rfl
     exact norm_ (by simp only [putAll, Act.put, sAx, sZx, sSx]) (hCont (v506, .slice Ao10 y508.length co10, gb511) _ ⟨hHeld, (by (with_reducible repeat (first | apply Kd.R_alloc | apply Kd.R_drewN | apply Kd.R_drew)); exact HO510.out), (by (with_reducible repeat (first | refine blk_drewN ?_ _ | refine blk_drew ?_ | refine blk_alloc ?_ _)); exact BK503.out), (by (with_reducible repeat (first | refine blk_drewN ?_ _ | refine blk_drew ?_ | refine blk_alloc ?_ _)); exact BK504.out), (by (with_reducible repeat (first | refine blk_drewN ?_ _ | refine blk_drew ?_ | refine blk_alloc ?_ _)); exact BK511.out), GW511.out, GE511.out, NB503_511.out, NB511_503.out, NB504_511.out, NB511_504.out, (by repeat (first | (with_reducible first | exact HB.out | apply below_alloc | apply pw_below_drewN | apply below_drew1 | refine below_set ?_ GE503.out | refine below_set ?_ GE504.out | refine below_set ?_ GE511.out) | exact HB.out))⟩)
   ·skip
    refine box_step ?hg (N := 3) ?hd (cs := #[.int .i64 0, .string (⟨#[]⟩ : ByteArray), .slice none 0 0, .slice none 0 0]) (t := 25) ?hr ?_; (case hd => rfl); (case hg => rfl); (case hr => first | (go_simp; done) | (go_simp; rfl))
    intro gb511 hg w6 hbox hb
    have n0_ := am (blk_below (g := gb503) (o := .cells #[.int .i64 a0_0, .string a0_1, .slice A0_2 l0_2.length c0_2, .slice A0_3 l0_3.length c0_3] 25 (0, 0)) (by (with_reducible repeat (first | refine blk_drewN ?_ _ | refine blk_drew ?_ | refine blk_alloc ?_ _)); exact BK503.out) hb)
    have n1_ := am (blk_below (g := gb504) (o := .cells #[.int .i64 0, .string (⟨#[]⟩ : ByteArray), .slice none 0 0, .slice none 0 0] 25 (0, 0)) (by (with_reducible repeat (first | refine blk_drewN ?_ _ | refine blk_drew ?_ | refine blk_alloc ?_ _)); exact BK504.out) hb)
    have n2_ := am (below_step (by repeat (first | (with_reducible first | exact HB.out | apply below_alloc | apply pw_below_drewN | apply below_drew1 | refine below_set ?_ GE503.out | refine below_set ?_ GE504.out) | exact HB.out)) hb)
    have n3_ := am (hbox)
    have n4_ := am ((by rw [hg]; exact (below_size (by repeat (first | (with_reducible first | exact HB.out | apply below_alloc | apply pw_below_drewN | apply below_drew1 | refine below_set ?_ GE503.out | refine below_set ?_ GE504.out) | exact HB.out))) : w.heap.size ≤ gb511))
    have n5_ := am ((by rw [hg]; exact (below_size (by repeat (first | (with_reducible first | exact HB.out | apply below_alloc | apply pw_below_drewN | apply below_drew1 | refine below_set ?_ GE503.out | refine below_set ?_ GE504.out) | exact HB.out))) : w.heap.size ≤ gb511))
    have n6_ := am ((by rw [hg]; exact Nat.ne_of_lt (blk_lt (g := gb503) (o := .cells #[.int .i64 a0_0, .string a0_1, .slice A0_2 l0_2.length c0_2, .slice A0_3 l0_3.length c0_3] 25 (0, 0)) (by (with_reducible repeat (first | refine blk_drewN ?_ _ | refine blk_drew ?_ | refine blk_alloc ?_ _)); exact BK503.out)) : gb503 ≠ gb511))
    have n7_ := am ((by rw [hg]; exact Nat.ne_of_gt (blk_lt (g := gb503) (o := .cells #[.int .i64 a0_0, .string a0_1, .slice A0_2 l0_2.length c0_2, .slice A0_3 l0_3.length c0_3] 25 (0, 0)) (by (with_reducible repeat (first | refine blk_drewN ?_ _ | refine blk_drew ?_ | refine blk_alloc ?_ _)); exact BK503.out)) : gb511 ≠ gb503))
    have n8_ := am ((by rw [hg]; exact Nat.ne_of_lt (blk_lt (g := gb504) (o := .cells #[.int .i64 0, .string (⟨#[]⟩ : ByteArray), .slice none 0 0, .slice none 0 0] 25 (0, 0)) (by (with_reducible repeat (first | refine blk_drewN ?_ _ | refine blk_drew ?_ | refine blk_alloc ?_ _)); exact BK504.out)) : gb504 ≠ gb511))
    have n9_ := am ((by rw [hg]; exact Nat.ne_of_gt (blk_lt (g := gb504) (o := .cells #[.int .i64 0, .string (⟨#[]⟩ : ByteArray), .slice none 0 0, .slice none 0 0] 25 (0, 0)) (by (with_reducible repeat (first | refine blk_drewN ?_ _ | refine blk_drew ?_ | refine blk_alloc ?_ _)); exact BK504.out)) : gb511 ≠ gb504))
    clear BK503
    clear BK504
    clear HB
    have BK503 := n0_
    have BK504 := n1_
    have HB := n2_
    have BK511 := n3_
    have GW511 := n4_
    have GE511 := n5_
    have NB503_511 := n6_
    have NB511_503 := n7_
    have NB504_511 := n8_
    have NB511_504 := n9_
    clear n0_ n1_ n2_ n3_ n4_ n5_ n6_ n7_ n8_ n9_
    clear hb hbox hg
    refine hK.out _ _ ⟨(blk_cell BK503.out 0).trans rfl, (blk_cell BK503.out 1).trans rfl, (blk_cell BK503.out 2).trans rfl, (blk_cell BK503.out 3).trans rfl⟩ (fun hHeld => ?_)
    clear hK K
    refine norm_ (a' := ?_) ?_ ?_
    rotate_left
    ·show Act.put _ (some 3) _ = _
     simp only [Act.put, sAx, sZx, sSx, i64_w, i32_w]
     rfl
    refine one_ (i := 4) (N := some 9) #[true, true, true, true, true, true, true, false, false, true, false] rfl rfl (one_of HT_.out (by kernel_rfl)) (by decide) (fun K hK => ?_)
    refine Kd.R_lit_step Kd.string _ 9 ?hg (N := 9) ?hd (xs := ([] : List ByteArray)) (inner := []) (ok := fun _ => True) (okp := fun _ => True) ?hr ?hp (fun _ hk => hk) trivial (Below.refl _ _) (Nat.le_refl _) (by simp) ?_; (case hd => rfl); (case hg => rfl); (case hr => first | (go_simp; done) | (go_simp; rfl)); (case hp => exact (Reps.none _ _))
    intro v506 w7 ho8 hb hg_ hnew_
    clear hg_ hnew_
    (first | rw [← Ny505.out] at ho8 | (simp only [Int.reduceToNat] at ho8; rw [← Ny505.out] at ho8))
    have n0_ := am (Kd.R_lower ho8 (below_size (by repeat (first | (with_reducible first | exact HB.out | apply below_alloc | apply pw_below_drewN | apply below_drew1 | refine below_set ?_ GE503.out | refine below_set ?_ GE504.out | refine below_set ?_ GE511.out) | exact HB.out))))
    have n1_ := am (blk_below (g := gb503) (o := .cells #[.int .i64 a0_0, .string a0_1, .slice A0_2 l0_2.length c0_2, .slice A0_3 l0_3.length c0_3] 25 (0, 0)) (by (with_reducible repeat (first | refine blk_drewN ?_ _ | refine blk_drew ?_ | refine blk_alloc ?_ _)); exact BK503.out) hb)
    have n2_ := am (blk_below (g := gb504) (o := .cells #[.int .i64 0, .string (⟨#[]⟩ : ByteArray), .slice none 0 0, .slice none 0 0] 25 (0, 0)) (by (with_reducible repeat (first | refine blk_drewN ?_ _ | refine blk_drew ?_ | refine blk_alloc ?_ _)); exact BK504.out) hb)
    have n3_ := am (blk_below (g := gb511) (o := .cells #[.int .i64 0, .string (⟨#[]⟩ : ByteArray), .slice none 0 0, .slice none 0 0] 25 (0, 0)) (by (with_reducible repeat (first | refine blk_drewN ?_ _ | refine blk_drew ?_ | refine blk_alloc ?_ _)); exact BK511.out) hb)
    have n4_ := am (below_step (by repeat (first | (with_reducible first | exact HB.out | apply below_alloc | apply pw_below_drewN | apply below_drew1 | refine below_set ?_ GE503.out | refine below_set ?_ GE504.out | refine below_set ?_ GE511.out) | exact HB.out)) hb)
    clear BK503
    clear BK504
    clear BK511
    clear HB
    have HO507 := n0_
    have BK503 := n1_
    have BK504 := n2_
    have BK511 := n3_
    have HB := n4_
    clear n0_ n1_ n2_ n3_ n4_
    clear hb ho8
    refine hK.out _ _ ⟨(blk_cell BK503.out 0).trans rfl, (blk_cell BK503.out 1).trans rfl, (blk_cell BK503.out 2).trans rfl, (blk_cell BK503.out 3).trans rfl⟩ (fun hHeld => ?_)
    clear hK K
    refine norm_ (a' := ?_) ?_ ?_
    rotate_left
    ·show Act.put _ (some 9) _ = _
     simp only [Act.put, sAx, sZx, sSx, i64_w, i32_w]
     rfl
    refine one_ (i := 7) (N := some 12) #[true, true, true, true, true, true, true, true, false, true, false] rfl rfl (one_of HT_.out (by kernel_rfl)) (by decide) (fun K hK => ?_)
    refine Kd.R_append_rows_step Kd.string (w0 := w) w.heap.size (by rfl) (.tmp 9) (.tmp 11) 22 9 (.string ⟨#[]⟩) 16 rfl Tryd.underlying22 info9 rfl (by decide) (by omega) v506 y505 l0_2 _ _ _ (fun _ => True) (fun _ => False) rfl rfl ?aO ?aR (fun _ _ h => h) (fun _ h => h.elim) ?aF ?aB ?aS ?aL ?_
    (case aR => repeat (first | exact (Kd.C_below HR0_2.out HB.out) | (with_reducible refine Kd.C_alloc ?_ _) | (with_reducible refine Kd.C_drewN ?_ _) | (with_reducible refine Kd.C_drew ?_)))
    (case aB => exact (by repeat (first | (with_reducible first | exact HB.out | apply below_alloc | apply pw_below_drewN | apply below_drew1 | refine below_set ?_ GE503.out | refine below_set ?_ GE504.out | refine below_set ?_ GE511.out) | exact HB.out)))
    (case aF => exact (fun _ _ => trivial))
    (case aO => exact (by (with_reducible repeat (first | apply Kd.R_alloc | apply Kd.R_drewN | apply Kd.R_drew)); exact HO507.out))
    (case aS => exact (below_size (by repeat (first | (with_reducible first | exact HB.out | apply below_alloc | apply pw_below_drewN | apply below_drew1 | refine below_set ?_ GE503.out | refine below_set ?_ GE504.out | refine below_set ?_ GE511.out) | exact HB.out))))
    (case aL => have := LMc2.out; omega)
    intro v509 w9 ho hb hg hat
    rw [← Ny508.out] at ho
    have n0_ := am (blk_grown (g := gb503) (o := .cells #[.int .i64 a0_0, .string a0_1, .slice A0_2 l0_2.length c0_2, .slice A0_3 l0_3.length c0_3] 25 (0, 0)) (by (with_reducible repeat (first | refine blk_drewN ?_ _ | refine blk_drew ?_ | refine blk_alloc ?_ _)); exact BK503.out) hg (Kd.R_ne HO507.out BK503.out (by decide)))
    have n1_ := am (blk_grown (g := gb504) (o := .cells #[.int .i64 0, .string (⟨#[]⟩ : ByteArray), .slice none 0 0, .slice none 0 0] 25 (0, 0)) (by (with_reducible repeat (first | refine blk_drewN ?_ _ | refine blk_drew ?_ | refine blk_alloc ?_ _)); exact BK504.out) hg (Kd.R_ne HO507.out BK504.out (by decide)))
    have n2_ := am (blk_grown (g := gb511) (o := .cells #[.int .i64 0, .string (⟨#[]⟩ : ByteArray), .slice none 0 0, .slice none 0 0] 25 (0, 0)) (by (with_reducible repeat (first | refine blk_drewN ?_ _ | refine blk_drew ?_ | refine blk_alloc ?_ _)); exact BK511.out) hg (Kd.R_ne HO507.out BK511.out (by decide)))
    have n3_ := am (hb)
    have n4_ := am (ho)
    clear BK503
    clear BK504
    clear BK511
    clear HB
    clear HO507
    have BK503 := n0_
    have BK504 := n1_
    have BK511 := n2_
    have HB := n3_
    have HO510 := n4_
    clear n0_ n1_ n2_ n3_ n4_
    clear ho hb hg hat
    obtain ⟨Ao10, co10, eo10⟩ := Kd.R_slice HO510.out
    (first | subst eo10 | (injection eo10 with f1_ f2_ f3_; have f4_ := f1_.symm; have f5_ := f3_.symm; clear f1_ f2_ f3_; subst f4_; subst f5_))
    refine hK.out _ _ ⟨(blk_cell BK503.out 0).trans rfl, (blk_cell BK503.out 1).trans rfl, (blk_cell BK503.out 2).trans rfl, (blk_cell BK503.out 3).trans rfl⟩ (fun hHeld => ?_)
    clear hK K
    refine norm_ (a' := ?_) ?_ ?_
    rotate_left
    ·show Act.put _ (some 12) _ = _
     simp only [Act.put, sAx, sZx, sSx, i64_w, i32_w]
     rfl
    refine pure_ (i := 8) (N := some 13) (v := ?_) (a' := ?_) #[true, true, true, true, true, true, true, true, true, true, false] rfl rfl (any_of HT_.out (by kernel_rfl)) (fun _ _ _ h => h) (Or.inl ⟨by rfl, ?_⟩) ?_ ?_
    rotate_left
    ·intro w'
     go_simp
     with_reducible rfl
    rotate_left
    ·simp only [Act.put, sAx, sZx, sSx, i64_w, i32_w]
     rfl
    exact norm_ (by simp only [putAll, Act.put, sAx, sZx, sSx]) (hCont (v506, .slice Ao10 y508.length co10, gb511) _ ⟨hHeld, (by (with_reducible repeat (first | apply Kd.R_alloc | apply Kd.R_drewN | apply Kd.R_drew)); exact HO510.out), (by (with_reducible repeat (first | refine blk_drewN ?_ _ | refine blk_drew ?_ | refine blk_alloc ?_ _)); exact BK503.out), (by (with_reducible repeat (first | refine blk_drewN ?_ _ | refine blk_drew ?_ | refine blk_alloc ?_ _)); exact BK504.out), (by (with_reducible repeat (first | refine blk_drewN ?_ _ | refine blk_drew ?_ | refine blk_alloc ?_ _)); exact BK511.out), GW511.out, GE511.out, NB503_511.out, NB511_503.out, NB504_511.out, NB511_504.out, (by repeat (first | (with_reducible first | exact HB.out | apply below_alloc | apply pw_below_drewN | apply below_drew1 | refine below_set ?_ GE503.out | refine below_set ?_ GE504.out | refine below_set ?_ GE511.out) | exact HB.out))⟩)
  rintro ⟨v506, v509, gb511⟩ w11 ⟨hS_, h0_, h1_, h2_, h3_, h4_, h5_, h6_, h7_, h8_, h9_, h10_⟩
  have n0_ : Aside0 (Kd.R Kd.string 9 w11 w.heap.size (fun _ => True) v509 y508) := ⟨h0_⟩
  have n1_ : Aside0 (w11.heap[gb503]? = some (.cells #[.int .i64 a0_0, .string a0_1, .slice A0_2 l0_2.length c0_2, .slice A0_3 l0_3.length c0_3] 25 (0, 0))) := ⟨h1_⟩
  have n2_ : Aside0 (w11.heap[gb504]? = some (.cells #[.int .i64 0, .string (⟨#[]⟩ : ByteArray), .slice none 0 0, .slice none 0 0] 25 (0, 0))) := ⟨h2_⟩
  have n3_ : Aside0 (w11.heap[gb511]? = some (.cells #[.int .i64 0, .string (⟨#[]⟩ : ByteArray), .slice none 0 0, .slice none 0 0] 25 (0, 0))) := ⟨h3_⟩
  have n4_ : Aside0 (w.heap.size ≤ gb511) := ⟨h4_⟩
  have n5_ : Aside0 (w.heap.size ≤ gb511) := ⟨h5_⟩
  have n6_ : Aside0 (gb503 ≠ gb511) := ⟨h6_⟩
  have n7_ : Aside0 (gb511 ≠ gb503) := ⟨h7_⟩
  have n8_ : Aside0 (gb504 ≠ gb511) := ⟨h8_⟩
  have n9_ : Aside0 (gb511 ≠ gb504) := ⟨h9_⟩
  have n10_ : Aside0 (Below w.heap.size w w11) := ⟨h10_⟩
  clear BK503
  clear BK504
  clear HB
  clear h0_ h1_ h2_ h3_ h4_ h5_ h6_ h7_ h8_ h9_ h10_
  have HO510 := n0_
  have BK503 := n1_
  have BK504 := n2_
  have BK511 := n3_
  have GW511 := n4_
  have GE511 := n5_
  have NB503_511 := n6_
  have NB511_503 := n7_
  have NB504_511 := n8_
  have NB511_504 := n9_
  have HB := n10_
  clear n0_ n1_ n2_ n3_ n4_ n5_ n6_ n7_ n8_ n9_ n10_
  have hHeld : w11.cell? ⟨gb503, 0, none⟩ = some (.int .i64 a0_0) ∧ w11.cell? ⟨gb503, 1, none⟩ = some (.string a0_1) ∧ w11.cell? ⟨gb503, 2, none⟩ = some (.slice A0_2 l0_2.length c0_2) ∧ w11.cell? ⟨gb503, 3, none⟩ = some (.slice A0_3 l0_3.length c0_3) := hS_
  obtain ⟨Ao12, co12, eo12⟩ := Kd.R_slice HO510.out
  (first | subst eo12 | (injection eo12 with f1_ f2_ f3_; have f4_ := f1_.symm; have f5_ := f3_.symm; clear f1_ f2_ f3_; subst f4_; subst f5_))
  refine norm_ (a' := ?_) ?_ ?_
  rotate_left
  ·simp only [putAll, Act.put, sAx, sZx, sSx]
   rfl
  refine one_ (i := 10) (N := none) #[true, true, true, true, true, true, true, true, true, true, true] rfl rfl (one_of HT_.out (by kernel_rfl)) (by decide) (fun K hK => ?_)
  have hs13 : w11.cell? ⟨gb511, 0, none⟩ = some (.int .i64 0) := (blk_cell BK511.out 0).trans rfl
  have hfs13 := blk_frozen BK511.out 0
  have hns13_0 := NB503_511.out
  have hns13_1 := NB504_511.out
  have hms13_0 := NB511_503.out
  have hms13_1 := NB511_504.out
  have hs14 : w11.cell? ⟨gb511, 1, none⟩ = some (.string (⟨#[]⟩ : ByteArray)) := (blk_cell BK511.out 1).trans rfl
  have hfs14 := blk_frozen BK511.out 1
  have hns14_0 := NB503_511.out
  have hns14_1 := NB504_511.out
  have hms14_0 := NB511_503.out
  have hms14_1 := NB511_504.out
  have hs15 : w11.cell? ⟨gb511, 2, none⟩ = some (.slice none 0 0) := (blk_cell BK511.out 2).trans rfl
  have hfs15 := blk_frozen BK511.out 2
  have hns15_0 := NB503_511.out
  have hns15_1 := NB504_511.out
  have hms15_0 := NB511_503.out
  have hms15_1 := NB511_504.out
  have hs16 : w11.cell? ⟨gb511, 3, none⟩ = some (.slice none 0 0) := (blk_cell BK511.out 3).trans rfl
  have hfs16 := blk_frozen BK511.out 3
  have hns16_0 := NB503_511.out
  have hns16_1 := NB504_511.out
  have hms16_0 := NB511_503.out
  have hms16_1 := NB511_504.out
  refine skip_ (w1 := ?_) (by rfl) rfl ?_ ?_
  rotate_left
  ·go_simp
   rfl
  refine hK.out _ _ ⟨((cell_far (p := ⟨gb511, _, none⟩) NB503_511.out _).trans (((cell_far (p := ⟨gb511, _, none⟩) NB503_511.out _).trans (((cell_far (p := ⟨gb511, _, none⟩) NB503_511.out _).trans (((cell_far (p := ⟨gb511, _, none⟩) NB503_511.out _).trans (hHeld.1)))))))), ((cell_far (p := ⟨gb511, _, none⟩) NB503_511.out _).trans (((cell_far (p := ⟨gb511, _, none⟩) NB503_511.out _).trans (((cell_far (p := ⟨gb511, _, none⟩) NB503_511.out _).trans (((cell_far (p := ⟨gb511, _, none⟩) NB503_511.out _).trans (hHeld.2.1)))))))), ((cell_far (p := ⟨gb511, _, none⟩) NB503_511.out _).trans (((cell_far (p := ⟨gb511, _, none⟩) NB503_511.out _).trans (((cell_far (p := ⟨gb511, _, none⟩) NB503_511.out _).trans (((cell_far (p := ⟨gb511, _, none⟩) NB503_511.out _).trans (hHeld.2.2.1)))))))), ((cell_far (p := ⟨gb511, _, none⟩) NB503_511.out _).trans (((cell_far (p := ⟨gb511, _, none⟩) NB503_511.out _).trans (((cell_far (p := ⟨gb511, _, none⟩) NB503_511.out _).trans (((cell_far (p := ⟨gb511, _, none⟩) NB503_511.out _).trans (hHeld.2.2.2))))))))⟩ (fun hHeld => ?_)
  clear hK K
  refine done_ (done_of HT_.out (by kernel_rfl)) ?_
  try go_wp2
  go_loopg [4] k (fun kq v4 w' => ∃ (x4_1 : Int) (x512003_1 : List (S25)) (u512003 : Value), v4 = .int .i64 x4_1 ∧ Aside0 (wicketref04_Twin.l0 kq x4_1 a0_0 a0_1 l0_2 l0_3 a0_0 a0_1 y508 x512003_1 = some (r1, r2, r3, r4)) ∧ Aside0 (kq ≤ k) ∧ Aside0 (Kd.R Kd.string 9 w' w.heap.size (fun _ => True) (.slice Ao12 y508.length co12) y508) ∧ Aside0 (Kd.R k25 25 w' w.heap.size (fun k_ => some k_ ≠ ((.slice Ao12 y508.length co12) : Value).ownBlock ∧ k_ ≠ gb503 ∧ k_ ≠ gb504 ∧ k_ ≠ gb511) u512003 x512003_1) ∧ Aside0 (w'.heap[gb503]? = some (.cells #[.int .i64 a0_0, .string a0_1, (.slice A0_2 l0_2.length c0_2), (.slice A0_3 l0_3.length c0_3)] 25 (0, 0))) ∧ Aside0 (w'.heap[gb504]? = some (.cells #[.int .i64 0, .string (⟨#[]⟩ : ByteArray), (.slice none 0 0), (.slice none 0 0)] 25 (0, 0))) ∧ Aside0 (w'.heap[gb511]? = some (.cells #[.int .i64 a0_0, .string a0_1, (.slice Ao12 y508.length co12), u512003] 25 (0, 0))) ∧ Aside0 (Below w.heap.size w w'))
  case atStart => exact ⟨(0), (([] : List (S25))), (.slice none 0 0), (by first | rfl | (simp; done) | (simp [*]; done)), H', ⟨Nat.le_refl _⟩, ⟨by (with_reducible repeat (first | apply Kd.R_alloc | apply Kd.R_drewN | apply Kd.R_drew)); exact Kd.R_mono (Kd.R_far (p := ⟨gb511, 3, none⟩) (Kd.R_far (p := ⟨gb511, 2, none⟩) (Kd.R_far (p := ⟨gb511, 1, none⟩) (Kd.R_far (p := ⟨gb511, 0, none⟩) (Kd.R_types HO510.out BK511.out (by decide)) (fun _ hk => hk.2) (.int .i64 a0_0)) (fun _ hk => hk.2) (.string a0_1)) (fun _ hk => hk.2) (.slice Ao12 y508.length co12)) (fun _ hk => hk.2) (.slice none 0 0)) (fun _ hk => trivial)⟩, ⟨by first | exact Kd.R_nil _ _ _ _ _ | exact Kd.N_nil _ _ _ _ _ | exact Kd.V_nil _ _ _ _ _ | exact Kd.Q_nil _ _ _ _ _ | exact Kd.S_nil _ _ _ _ _⟩, ⟨by (with_reducible repeat (first | refine blk_drewN ?_ _ | refine blk_drew ?_ | refine blk_alloc ?_ _)); refine blk_far ?_ NB503_511.out _; (with_reducible repeat (first | refine blk_drewN ?_ _ | refine blk_drew ?_ | refine blk_alloc ?_ _)); refine blk_far ?_ NB503_511.out _; (with_reducible repeat (first | refine blk_drewN ?_ _ | refine blk_drew ?_ | refine blk_alloc ?_ _)); refine blk_far ?_ NB503_511.out _; (with_reducible repeat (first | refine blk_drewN ?_ _ | refine blk_drew ?_ | refine blk_alloc ?_ _)); refine blk_far ?_ NB503_511.out _; (with_reducible repeat (first | refine blk_drewN ?_ _ | refine blk_drew ?_ | refine blk_alloc ?_ _)); exact BK503.out⟩, ⟨by (with_reducible repeat (first | refine blk_drewN ?_ _ | refine blk_drew ?_ | refine blk_alloc ?_ _)); refine blk_far ?_ NB504_511.out _; (with_reducible repeat (first | refine blk_drewN ?_ _ | refine blk_drew ?_ | refine blk_alloc ?_ _)); refine blk_far ?_ NB504_511.out _; (with_reducible repeat (first | refine blk_drewN ?_ _ | refine blk_drew ?_ | refine blk_alloc ?_ _)); refine blk_far ?_ NB504_511.out _; (with_reducible repeat (first | refine blk_drewN ?_ _ | refine blk_drew ?_ | refine blk_alloc ?_ _)); refine blk_far ?_ NB504_511.out _; (with_reducible repeat (first | refine blk_drewN ?_ _ | refine blk_drew ?_ | refine blk_alloc ?_ _)); exact BK504.out⟩, ⟨by (with_reducible repeat (first | refine blk_drewN ?_ _ | refine blk_drew ?_ | refine blk_alloc ?_ _)); refine blk_put (cs := #[.int .i64 a0_0, .string a0_1, .slice Ao12 y508.length co12, .slice none 0 0]) ?_ 3 _ rfl; (with_reducible repeat (first | refine blk_drewN ?_ _ | refine blk_drew ?_ | refine blk_alloc ?_ _)); refine blk_put (cs := #[.int .i64 a0_0, .string a0_1, .slice none 0 0, .slice none 0 0]) ?_ 2 _ rfl; (with_reducible repeat (first | refine blk_drewN ?_ _ | refine blk_drew ?_ | refine blk_alloc ?_ _)); refine blk_put (cs := #[.int .i64 a0_0, .string (⟨#[]⟩ : ByteArray), .slice none 0 0, .slice none 0 0]) ?_ 1 _ rfl; (with_reducible repeat (first | refine blk_drewN ?_ _ | refine blk_drew ?_ | refine blk_alloc ?_ _)); refine blk_put (cs := #[.int .i64 0, .string (⟨#[]⟩ : ByteArray), .slice none 0 0, .slice none 0 0]) ?_ 0 _ rfl; (with_reducible repeat (first | refine blk_drewN ?_ _ | refine blk_drew ?_ | refine blk_alloc ?_ _)); exact BK511.out⟩, ⟨by repeat (first | (with_reducible first | exact HB.out | apply below_alloc | apply pw_below_drewN | apply below_drew1 | refine below_set ?_ GE503.out | refine below_set ?_ GE504.out | refine below_set ?_ GE511.out) | exact HB.out)⟩⟩
  case round =>
   clear H'
   try clear c1
   try clear c2
   try clear p2
   obtain ⟨x4_1, x512003_1, u512003, rfl, HA, HK1, HO_512002, HO_512003, BK503, BK504, BK511, HB⟩ := hrel
   cases gk with
   | zero => exact absurd HA.out (by simp [wicketref04_Twin.l0])
   | succ k1 =>
    have H := HA.out
    clear HA
    simp only [wicketref04_Twin.l0] at H
    by_cases c17 : x4_1 < (l0_3.length : Int)
    ·rw [if_pos c17] at H
     have c17b0 : decide (x4_1 < (l0_3.length : Int)) = true := decide_eq_true c17
     clear c17
     by_cases c18 : 0 ≤ x4_1
     ·rw [if_pos c18] at H
      have c18b0 : decide (0 ≤ x4_1) = true := decide_eq_true c18
      clear c18
      replace H := Option.bind_eq_some_iff.mp H
      obtain ⟨⟨t513, t514, t515, t518⟩, A190, H⟩ := H
      replace H : (if x512003_1.length < 1954687338268 then (wicketref04_Twin.l0 k1 (wrap64 (x4_1 + 1)) a0_0 a0_1 l0_2 l0_3 a0_0 a0_1 y508 (x512003_1 ++ [(⟨t513, t514, t515, t518⟩ : S25)])) else (none)) = some (r1, r2, r3, r4) := H
      have A19 := am A190
      clear A190
      by_cases c20 : x512003_1.length < 1954687338268
      ·rw [if_pos c20] at H
       have LMc20 := am c20
       clear c20
       obtain ⟨y521, hy521⟩ : ∃ y_ : List (S25), y_ = (x512003_1 ++ [(⟨t513, t514, t515, t518⟩ : S25)]) := ⟨_, rfl⟩
       replace H : (wicketref04_Twin.l0 k1 (wrap64 (x4_1 + 1)) a0_0 a0_1 l0_2 l0_3 a0_0 a0_1 y508 y521) = some (r1, r2, r3, r4) := by first | (rw [hy521]; with_reducible exact H) | (have H2_ := (Option.bind_some _ _).symm.trans H; rw [hy521]; with_reducible exact H2_) | (have H2_ := (Option.bind_some _ _).symm.trans H; with_reducible exact H2_) | with_reducible exact H | (rw [hy521]; exact H) | exact H
       have Ny521 := am hy521
       clear hy521
       have H' := am H
       clear H
       have hnb21 := NB503_504.out
       have hnc21 := NB504_503.out
       have hnb22 := NB503_511.out
       have hnc22 := NB511_503.out
       have hcz23_0 : wr.cell? ⟨gb503, 0, none⟩ = some (.int .i64 a0_0) := (blk_cell BK503.out 0).trans rfl
       have hcz23_1 : wr.cell? ⟨gb503, 1, none⟩ = some (.string a0_1) := (blk_cell BK503.out 1).trans rfl
       have hcz23_2 : wr.cell? ⟨gb503, 2, none⟩ = some (.slice A0_2 l0_2.length c0_2) := (blk_cell BK503.out 2).trans rfl
       have hcz23_3 : wr.cell? ⟨gb503, 3, none⟩ = some (.slice A0_3 l0_3.length c0_3) := (blk_cell BK503.out 3).trans rfl
       have hfz23_0 := blk_frozen BK503.out 0
       have hfz23_1 := blk_frozen BK503.out 1
       have hfz23_2 := blk_frozen BK503.out 2
       have hfz23_3 := blk_frozen BK503.out 3
       try go_wp2
       have n0_ := am (Kd.R_drew HO_512002.out)
       have n1_ := am (Kd.R_drew HO_512003.out)
       have n2_ := am (blk_drew BK503.out)
       have n3_ := am (blk_drew BK504.out)
       have n4_ := am (blk_drew BK511.out)
       have n5_ := am (below_drew1 HB.out)
       clear HO_512002
       clear HO_512003
       clear BK503
       clear BK504
       clear BK511
       clear HB
       have HO_512002 := n0_
       have HO_512003 := n1_
       have BK503 := n2_
       have BK504 := n3_
       have BK511 := n4_
       have HB := n5_
       clear n0_ n1_ n2_ n3_ n4_ n5_
       have p512 : 0 ≤ (x4_1 : Int) := of_decide_eq_true (by first | (with_reducible assumption) | assumption)
       have q512 : x4_1 < (l0_3.length : Int) := of_decide_eq_true (by first | (with_reducible assumption) | assumption)
       obtain ⟨ad512, A512_2, c512_2, A512_3, c512_3, e512, hx512_0, hx512_1, hx512_2, hx512_3, hl512_2, hi512_2, hl512_3, hi512_3⟩ := at_T25 HR0_3.out x4_1 p512 q512
       have hw512_3 := hx512_3
       have hw512_2 := hx512_2
       have hw512_1 := hx512_1
       have hw512_0 := hx512_0
       cases e512
       replace hx512_0 := (HB.out.cell (World.block_lt_of_cell? w _ hx512_0)).trans hx512_0
       replace hx512_1 := (HB.out.cell (World.block_lt_of_cell? w _ hx512_1)).trans hx512_1
       replace hx512_2 := (HB.out.cell (World.block_lt_of_cell? w _ hx512_2)).trans hx512_2
       replace hx512_3 := (HB.out.cell (World.block_lt_of_cell? w _ hx512_3)).trans hx512_3
       have HR512_2 := am hi512_2
       have HC512_2 := am hl512_2
       clear hi512_2 hl512_2
       have HR512_3 := am hi512_3
       have HC512_3 := am hl512_3
       clear hi512_3 hl512_3
       replace p512 := eq_true p512
       replace q512 := eq_true q512
       refine start_ (n := 12) (S := fun w' => w'.cell? ⟨gb511, 0, none⟩ = some (.int .i64 a0_0) ∧ w'.cell? ⟨gb511, 1, none⟩ = some (.string a0_1) ∧ w'.cell? ⟨gb511, 2, none⟩ = some (.slice Ao12 y508.length co12) ∧ w'.cell? ⟨gb511, 3, none⟩ = some (u512003) ∧ w'.cell? ⟨gb503, 0, none⟩ = some (.int .i64 a0_0) ∧ w'.cell? ⟨gb503, 1, none⟩ = some (.string a0_1) ∧ w'.cell? ⟨gb503, 2, none⟩ = some (.slice A0_2 l0_2.length c0_2) ∧ w'.cell? ⟨gb503, 3, none⟩ = some (.slice (some ad512) l0_3.length c0_3) ∧ w'.cell? (ad512.add ((x4_1).toNat * 4)) = some (.int .i64 ((rd_T25 l0_3 x4_1).f0)) ∧ w'.cell? ⟨(ad512.add ((x4_1).toNat * 4)).block, (ad512.add ((x4_1).toNat * 4)).off + 1, none⟩ = some (.string ((rd_T25 l0_3 x4_1).f1)) ∧ w'.cell? ⟨(ad512.add ((x4_1).toNat * 4)).block, (ad512.add ((x4_1).toNat * 4)).off + 2, none⟩ = some (.slice A512_2 ((rd_T25 l0_3 x4_1).f2).length c512_2) ∧ w'.cell? ⟨(ad512.add ((x4_1).toNat * 4)).block, (ad512.add ((x4_1).toNat * 4)).off + 3, none⟩ = some (.slice A512_3 ((rd_T25 l0_3 x4_1).f3).length c512_3)) (ds := [11]) #[false, false, false, false, false, false, false, false, false, false, false, false] (by kernel_rfl) rfl rfl ⟨(blk_cell BK511.out 0).trans rfl, (blk_cell BK511.out 1).trans rfl, (blk_cell BK511.out 2).trans rfl, (blk_cell BK511.out 3).trans rfl, (blk_cell BK503.out 0).trans rfl, (blk_cell BK503.out 1).trans rfl, (blk_cell BK503.out 2).trans rfl, (blk_cell BK503.out 3).trans rfl, ((HB.out.cell (World.block_lt_of_cell? w _ hw512_0)).trans hw512_0), ((HB.out.cell (World.block_lt_of_cell? w _ hw512_1)).trans hw512_1), ((HB.out.cell (World.block_lt_of_cell? w _ hw512_2)).trans hw512_2), ((HB.out.cell (World.block_lt_of_cell? w _ hw512_3)).trans hw512_3)⟩ (fun hHeld => ?_); refine with_tabW wicketref04_Twin.tab5 wicketref04_Twin.bits5 (fun HT_ HW_ => ?_)
       generalize wr.drew = w24 at HO_512002 HO_512003 BK503 BK504 BK511 HB HR512_2 HR512_3 hx512_0 hx512_1 hx512_2 hx512_3 hHeld ⊢
       refine pure_ (i := 0) (N := some 21) (v := ?_) (a' := ?_) #[true, false, false, false, false, false, false, false, false, false, false, false] rfl rfl (any_of HT_.out (by kernel_rfl)) (fun _ _ _ h => h) (Or.inl ⟨by rfl, ?_⟩) ?_ ?_
       rotate_left
       ·intro w'
        go_simp
        with_reducible rfl
       rotate_left
       ·simp only [Act.put, sAx, sZx, sSx, i64_w, i32_w]
        rfl
       refine pure_ (i := 2) (N := some 23) (v := ?_) (a' := ?_) #[true, false, true, false, false, false, false, false, false, false, false, false] rfl rfl (any_of HT_.out (by kernel_rfl)) (fun _ _ _ h => h) (Or.inl ⟨by rfl, ?_⟩) ?_ ?_
       rotate_left
       ·intro w'
        go_simp
        with_reducible rfl
       rotate_left
       ·simp only [Act.put, sAx, sZx, sSx, i64_w, i32_w]
        rfl
       refine pure_ (i := 4) (N := some 25) (v := ?_) (a' := ?_) #[true, false, true, false, true, false, false, false, false, false, false, false] rfl rfl (any_of HT_.out (by kernel_rfl)) (fun _ _ _ h => h) (Or.inl ⟨by rfl, ?_⟩) ?_ ?_
       rotate_left
       ·intro w'
        go_simp
        with_reducible rfl
       rotate_left
       ·simp only [Act.put, sAx, sZx, sSx, i64_w, i32_w]
        rfl
       refine take_ (i := 1) (N := some 22) (v := ?_) (a' := ?_) #[true, true, true, false, true, false, false, false, false, false, false, false] rfl rfl (take_ofW HT_.out HW_.out (by kernel_rfl)) (fun _ _ _ h => h) (Or.inl ⟨by rfl, ?_⟩) hHeld ?_ ?_
       rotate_left
       ·rintro w' ⟨s0, s1, s2, s3, s4, s5, s6, s7, s8, s9, s10, s11⟩
        go_simp
        with_reducible rfl
       rotate_left
       ·simp only [Act.put, sAx, sZx, sSx, i64_w, i32_w]
        rfl
       refine take_ (i := 3) (N := some 24) (v := ?_) (a' := ?_) #[true, true, true, true, true, false, false, false, false, false, false, false] rfl rfl (take_ofW HT_.out HW_.out (by kernel_rfl)) (fun _ _ _ h => h) (Or.inl ⟨by rfl, ?_⟩) hHeld ?_ ?_
       rotate_left
       ·rintro w' ⟨s0, s1, s2, s3, s4, s5, s6, s7, s8, s9, s10, s11⟩
        go_simp
        with_reducible rfl
       rotate_left
       ·simp only [Act.put, sAx, sZx, sSx, i64_w, i32_w]
        rfl
       refine pure_ (i := 5) (N := some 26) (v := ?_) (a' := ?_) #[true, true, true, true, true, true, false, false, false, false, false, false] rfl rfl (any_of HT_.out (by kernel_rfl)) (fun _ _ _ h => h) (Or.inl ⟨by rfl, ?_⟩) ?_ ?_
       rotate_left
       ·intro w'
        go_simp
        with_reducible rfl
       rotate_left
       ·simp only [Act.put, sAx, sZx, sSx, i64_w, i32_w]
        rfl
       refine take_ (i := 6) (N := some 27) (v := ?_) (a' := ?_) #[true, true, true, true, true, true, true, false, false, false, false, false] rfl rfl (take_ofW HT_.out HW_.out (by kernel_rfl)) (fun _ _ _ h => h) (Or.inl ⟨by rfl, ?_⟩) hHeld ?_ ?_
       rotate_left
       ·rintro w' ⟨s0, s1, s2, s3, s4, s5, s6, s7, s8, s9, s10, s11⟩
        go_simp
        with_reducible rfl
       rotate_left
       ·simp only [Act.put, sAx, sZx, sSx, i64_w, i32_w]
        rfl
       refine one_ (i := 7) (N := some 28) #[true, true, true, true, true, true, true, true, false, false, false, false] rfl rfl (one_of HT_.out (by kernel_rfl)) (by decide) (fun K hK => ?_)
       refine goes_ Tryd.func18 (by kernel_rfl) rfl #[.agg #[.int .i64 ((rd_T25 l0_3 x4_1).f0), .string ((rd_T25 l0_3 x4_1).f1), .slice A512_2 ((rd_T25 l0_3 x4_1).f2).length c512_2, .slice A512_3 ((rd_T25 l0_3 x4_1).f3).length c512_3]] (by rfl) rfl rfl (by (try simp only [List.map_toArray, List.map_cons, List.map_nil]); first | done | rfl | (simp only [List.length_drop, List.length_take]; rfl)) ?_
       with_reducible refine (ih k1 (by have := HK1.out; omega) ((rd_T25 l0_3 x4_1).f0) ((rd_T25 l0_3 x4_1).f1) _ _ ((rd_T25 l0_3 x4_1).f2) _ _ ((rd_T25 l0_3 x4_1).f3) t513 t514 t515 t518 _ ?side1 ?side2 ?side3 ?side4 A19.out).mono ?_
       (case side1 => repeat (first | exact (Kd.C_below HR512_2.out HB.out) | (with_reducible refine Kd.C_alloc ?_ _) | (with_reducible refine Kd.C_drewN ?_ _) | (with_reducible refine Kd.C_drew ?_)))
       (case side2 => exact HC512_2.out)
       (case side3 => repeat (first | exact (Kd.C_below HR512_3.out HB.out) | (with_reducible refine Kd.C_alloc ?_ _) | (with_reducible refine Kd.C_drewN ?_ _) | (with_reducible refine Kd.C_drew ?_)))
       (case side4 => exact HC512_3.out)
       rintro e w25 ⟨v516, v519, rfl, ho0, ho1, hb⟩
       refine ⟨_, rfl, ?_⟩
       have n0_ := am (Kd.R_elder' (by (with_reducible repeat (first | apply Kd.R_alloc | apply Kd.R_drewN | apply Kd.R_drew)); exact HO_512002.out) (Kd.R_base ho0) hb)
       have n1_ := am (Kd.R_mono (Kd.R_told (Kd.R_told (Kd.R_old (by (with_reducible repeat (first | apply Kd.R_alloc | apply Kd.R_drewN | apply Kd.R_drew)); exact HO_512003.out) hb) (Kd.R_base ho0)) (Kd.R_base ho1)) (fun _ h_ => h_.1))
       have n2_ := am (Kd.R_lower (Kd.R_new' ho0 (Kd.R_lt (by (with_reducible repeat (first | apply Kd.R_alloc | apply Kd.R_drewN | apply Kd.R_drew)); exact HO_512002.out))) (below_size (by repeat (first | (with_reducible first | exact HB.out | apply below_alloc | apply pw_below_drewN | apply below_drew1 | refine below_set ?_ GE503.out | refine below_set ?_ GE504.out | refine below_set ?_ GE511.out) | exact HB.out))))
       have n3_ := am (Kd.R_lower (Kd.R_newB (Kd.R_newB (Kd.R_newB (Kd.R_new' (Kd.R_new' ho1 (Kd.R_lt (by (with_reducible repeat (first | apply Kd.R_alloc | apply Kd.R_drewN | apply Kd.R_drew)); exact HO_512002.out))) (Kd.R_lt (by (with_reducible repeat (first | apply Kd.R_alloc | apply Kd.R_drewN | apply Kd.R_drew)); exact HO_512003.out))) (g := gb503) (o := .cells #[.int .i64 a0_0, .string a0_1, .slice A0_2 l0_2.length c0_2, .slice (some ad512) l0_3.length c0_3] 25 (0, 0)) (by (with_reducible repeat (first | refine blk_drewN ?_ _ | refine blk_drew ?_ | refine blk_alloc ?_ _)); exact BK503.out)) (g := gb504) (o := .cells #[.int .i64 0, .string (⟨#[]⟩ : ByteArray), .slice none 0 0, .slice none 0 0] 25 (0, 0)) (by (with_reducible repeat (first | refine blk_drewN ?_ _ | refine blk_drew ?_ | refine blk_alloc ?_ _)); exact BK504.out)) (g := gb511) (o := .cells #[.int .i64 a0_0, .string a0_1, .slice Ao12 y508.length co12, u512003] 25 (0, 0)) (by (with_reducible repeat (first | refine blk_drewN ?_ _ | refine blk_drew ?_ | refine blk_alloc ?_ _)); exact BK511.out)) (below_size (by repeat (first | (with_reducible first | exact HB.out | apply below_alloc | apply pw_below_drewN | apply below_drew1 | refine below_set ?_ GE503.out | refine below_set ?_ GE504.out | refine below_set ?_ GE511.out) | exact HB.out))))
       have n4_ := am (blk_below (g := gb503) (o := .cells #[.int .i64 a0_0, .string a0_1, .slice A0_2 l0_2.length c0_2, .slice (some ad512) l0_3.length c0_3] 25 (0, 0)) (by (with_reducible repeat (first | refine blk_drewN ?_ _ | refine blk_drew ?_ | refine blk_alloc ?_ _)); exact BK503.out) hb)
       have n5_ := am (blk_below (g := gb504) (o := .cells #[.int .i64 0, .string (⟨#[]⟩ : ByteArray), .slice none 0 0, .slice none 0 0] 25 (0, 0)) (by (with_reducible repeat (first | refine blk_drewN ?_ _ | refine blk_drew ?_ | refine blk_alloc ?_ _)); exact BK504.out) hb)
       have n6_ := am (blk_below (g := gb511) (o := .cells #[.int .i64 a0_0, .string a0_1, .slice Ao12 y508.length co12, u512003] 25 (0, 0)) (by (with_reducible repeat (first | refine blk_drewN ?_ _ | refine blk_drew ?_ | refine blk_alloc ?_ _)); exact BK511.out) hb)
       have n7_ := am (below_step (by repeat (first | (with_reducible first | exact HB.out | apply below_alloc | apply pw_below_drewN | apply below_drew1 | refine below_set ?_ GE503.out | refine below_set ?_ GE504.out | refine below_set ?_ GE511.out) | exact HB.out)) hb)
       clear HO_512002
       clear HO_512003
       clear BK503
       clear BK504
       clear BK511
       clear HB
       have HO_512002 := n0_
       have HO_512003 := n1_
       have HO517 := n2_
       have HO520 := n3_
       have BK503 := n4_
       have BK504 := n5_
       have BK511 := n6_
       have HB := n7_
       clear n0_ n1_ n2_ n3_ n4_ n5_ n6_ n7_
       (try clear hb)
       (try clear hb2)
       (try clear hk)
       (try clear hi)
       (try clear ho0)
       (try clear ho1)
       obtain ⟨Ao27, co27, eo27⟩ := Kd.R_slice HO517.out
       (first | subst eo27 | (injection eo27 with f1_ f2_ f3_; have f4_ := f1_.symm; have f5_ := f3_.symm; clear f1_ f2_ f3_; subst f4_; subst f5_))
       obtain ⟨Ao28, co28, eo28⟩ := Kd.R_slice HO520.out
       (first | subst eo28 | (injection eo28 with f1_ f2_ f3_; have f4_ := f1_.symm; have f5_ := f3_.symm; clear f1_ f2_ f3_; subst f4_; subst f5_))
       refine hK.out _ _ ⟨(blk_cell BK511.out 0).trans rfl, (blk_cell BK511.out 1).trans rfl, (blk_cell BK511.out 2).trans rfl, (blk_cell BK511.out 3).trans rfl, (blk_cell BK503.out 0).trans rfl, (blk_cell BK503.out 1).trans rfl, (blk_cell BK503.out 2).trans rfl, (blk_cell BK503.out 3).trans rfl, ((HB.out.cell (World.block_lt_of_cell? w _ hw512_0)).trans hw512_0), ((HB.out.cell (World.block_lt_of_cell? w _ hw512_1)).trans hw512_1), ((HB.out.cell (World.block_lt_of_cell? w _ hw512_2)).trans hw512_2), ((HB.out.cell (World.block_lt_of_cell? w _ hw512_3)).trans hw512_3)⟩ (fun hHeld => ?_)
       clear hK K
       refine norm_ (a' := ?_) ?_ ?_
       rotate_left
       ·show Act.put _ (some 28) _ = _
        simp only [Act.put, sAx, sZx, sSx, i64_w, i32_w]
        rfl
       refine one_ (i := 8) (N := some 29) #[true, true, true, true, true, true, true, true, true, false, false, false] rfl rfl (one_of HT_.out (by kernel_rfl)) (by decide) (fun K hK => ?_)
       refine value_ (w1 := ?_) (v := ?_) (by rfl) rfl ?_ ?_
       rotate_left 2
       ·go_simp
        constructor
        ·rfl
        ·rfl
       refine hK.out _ _ ⟨(blk_cell (blk_alloc BK511.out _) 0).trans rfl, (blk_cell (blk_alloc BK511.out _) 1).trans rfl, (blk_cell (blk_alloc BK511.out _) 2).trans rfl, (blk_cell (blk_alloc BK511.out _) 3).trans rfl, (blk_cell (blk_alloc BK503.out _) 0).trans rfl, (blk_cell (blk_alloc BK503.out _) 1).trans rfl, (blk_cell (blk_alloc BK503.out _) 2).trans rfl, (blk_cell (blk_alloc BK503.out _) 3).trans rfl, (World.cell?_alloc_lt _ _ _ (World.block_lt_of_cell? _ _ (((HB.out.cell (World.block_lt_of_cell? w _ hw512_0)).trans hw512_0)))).trans (((HB.out.cell (World.block_lt_of_cell? w _ hw512_0)).trans hw512_0)), (World.cell?_alloc_lt _ _ _ (World.block_lt_of_cell? _ _ (((HB.out.cell (World.block_lt_of_cell? w _ hw512_1)).trans hw512_1)))).trans (((HB.out.cell (World.block_lt_of_cell? w _ hw512_1)).trans hw512_1)), (World.cell?_alloc_lt _ _ _ (World.block_lt_of_cell? _ _ (((HB.out.cell (World.block_lt_of_cell? w _ hw512_2)).trans hw512_2)))).trans (((HB.out.cell (World.block_lt_of_cell? w _ hw512_2)).trans hw512_2)), (World.cell?_alloc_lt _ _ _ (World.block_lt_of_cell? _ _ (((HB.out.cell (World.block_lt_of_cell? w _ hw512_3)).trans hw512_3)))).trans (((HB.out.cell (World.block_lt_of_cell? w _ hw512_3)).trans hw512_3))⟩ (fun hHeld => ?_)
       clear hK K
       refine norm_ (a' := ?_) ?_ ?_
       rotate_left
       ·show Act.put _ (some 29) _ = _
        simp only [Act.put, sAx, sZx, sSx, i64_w, i32_w]
        rfl
       refine one_ (i := 9) (N := some 30) #[true, true, true, true, true, true, true, true, true, true, false, false] rfl rfl (one_of HT_.out (by kernel_rfl)) (by decide) (fun K hK => ?_)
       refine Kd.R_append_step k25 (w0 := w) w.heap.size (by rfl) (.tmp 22) (.tmp 29) 23 25 (.agg #[(.int .i64 0), (.string ⟨#[]⟩), (.slice none 0 0), (.slice none 0 0)]) 72 rfl Tryd.underlying23 info25 rfl (by decide) (by omega) u512003 x512003_1 (⟨t513, t514, t515, t518⟩ : S25) [.int .i64 t513, .string t514, .slice Ao27 t515.length co27, .slice Ao28 t518.length co28] (fun k_ => some k_ ≠ (.slice Ao12 y508.length co12 : Value).ownBlock ∧ k_ ≠ gb503 ∧ k_ ≠ gb504 ∧ k_ ≠ gb511) (fun k_ => ((fun k_ => some k_ ≠ (.slice Ao12 y508.length co12 : Value).ownBlock ∧ k_ ≠ gb503 ∧ k_ ≠ gb504 ∧ k_ ≠ gb511)) k_ ∧ some k_ ≠ (u512003 : Value).ownBlock) rfl rfl ?aP (fun _ hk => hk) ?aF ?aO ?aB ?aS ?aL ?_
       (case aP => exact k25_mkM _ _ _ (⟨t513, t514, t515, t518⟩ : S25) (Kd.R_mono (Kd.R_types (Kd.R_types (Kd.R_types (Kd.R_apart' (HO517.out) (Kd.R_typed HO_512003.out) (by decide)) BK503.out (by decide)) BK504.out (by decide)) BK511.out (by decide)) (fun k_ hk => ⟨⟨hk.1.1.1.1.2, ⟨hk.1.1.2, ⟨hk.1.2, hk.2⟩⟩⟩, hk.1.1.1.2⟩)) (Kd.R_mono (HO520.out) (fun k_ hk => ⟨⟨hk.1.1.1.1.2, ⟨hk.1.1.2, ⟨hk.1.2, hk.2⟩⟩⟩, hk.1.1.1.2⟩)))
       (case aB => exact (by repeat (first | (with_reducible first | exact HB.out | apply below_alloc | apply pw_below_drewN | apply below_drew1 | refine below_set ?_ GE503.out | refine below_set ?_ GE504.out | refine below_set ?_ GE511.out) | exact HB.out)))
       (case aF => exact (fun k_ hk => ⟨Kd.fresh' (Kd.R_lt (by (with_reducible repeat (first | apply Kd.R_alloc | apply Kd.R_drewN | apply Kd.R_drew)); exact HO_512002.out)) k_ hk, Kd.freshB (g := gb503) (o := .cells #[.int .i64 a0_0, .string a0_1, .slice A0_2 l0_2.length c0_2, .slice (some ad512) l0_3.length c0_3] 25 (0, 0)) (by (with_reducible repeat (first | refine blk_drewN ?_ _ | refine blk_drew ?_ | refine blk_alloc ?_ _)); exact BK503.out) k_ hk, Kd.freshB (g := gb504) (o := .cells #[.int .i64 0, .string (⟨#[]⟩ : ByteArray), .slice none 0 0, .slice none 0 0] 25 (0, 0)) (by (with_reducible repeat (first | refine blk_drewN ?_ _ | refine blk_drew ?_ | refine blk_alloc ?_ _)); exact BK504.out) k_ hk, Kd.freshB (g := gb511) (o := .cells #[.int .i64 a0_0, .string a0_1, .slice Ao12 y508.length co12, u512003] 25 (0, 0)) (by (with_reducible repeat (first | refine blk_drewN ?_ _ | refine blk_drew ?_ | refine blk_alloc ?_ _)); exact BK511.out) k_ hk⟩))
       (case aO => exact (by (with_reducible repeat (first | apply Kd.R_alloc | apply Kd.R_drewN | apply Kd.R_drew)); exact Kd.R_mono HO_512003.out (fun _ hk => ⟨hk.1.1.1, ⟨hk.1.1.2.1, ⟨hk.1.1.2.2.1, hk.1.1.2.2.2⟩⟩⟩)))
       (case aS => exact (below_size (by repeat (first | (with_reducible first | exact HB.out | apply below_alloc | apply pw_below_drewN | apply below_drew1 | refine below_set ?_ GE503.out | refine below_set ?_ GE504.out | refine below_set ?_ GE511.out) | exact HB.out))))
       (case aL => have := LMc20.out; omega)
       intro v522 w26 ho hb hg hat
       rw [← Ny521.out] at ho
       have n0_ := am (Kd.R_over' (by (with_reducible repeat (first | apply Kd.R_alloc | apply Kd.R_drewN | apply Kd.R_drew)); exact HO_512002.out) (Kd.R_typed (by (with_reducible repeat (first | apply Kd.R_alloc | apply Kd.R_drewN | apply Kd.R_drew)); exact HO_512003.out)) (by decide) hg)
       have n1_ := am (blk_grown (g := gb503) (o := .cells #[.int .i64 a0_0, .string a0_1, .slice A0_2 l0_2.length c0_2, .slice (some ad512) l0_3.length c0_3] 25 (0, 0)) (by (with_reducible repeat (first | refine blk_drewN ?_ _ | refine blk_drew ?_ | refine blk_alloc ?_ _)); exact BK503.out) hg (Kd.R_away HO_512003.out (fun _ hk => hk.1.1.2.1)))
       have n2_ := am (blk_grown (g := gb504) (o := .cells #[.int .i64 0, .string (⟨#[]⟩ : ByteArray), .slice none 0 0, .slice none 0 0] 25 (0, 0)) (by (with_reducible repeat (first | refine blk_drewN ?_ _ | refine blk_drew ?_ | refine blk_alloc ?_ _)); exact BK504.out) hg (Kd.R_away HO_512003.out (fun _ hk => hk.1.1.2.2.1)))
       have n3_ := am (blk_grown (g := gb511) (o := .cells #[.int .i64 a0_0, .string a0_1, .slice Ao12 y508.length co12, u512003] 25 (0, 0)) (by (with_reducible repeat (first | refine blk_drewN ?_ _ | refine blk_drew ?_ | refine blk_alloc ?_ _)); exact BK511.out) hg (Kd.R_away HO_512003.out (fun _ hk => hk.1.1.2.2.2)))
       have n4_ := am (hb)
       have n5_ := am (ho)
       clear HO_512002
       clear BK503
       clear BK504
       clear BK511
       clear HB
       clear HO_512003
       clear HO517
       clear HO520
       have HO_512002 := n0_
       have BK503 := n1_
       have BK504 := n2_
       have BK511 := n3_
       have HB := n4_
       have HO523 := n5_
       clear n0_ n1_ n2_ n3_ n4_ n5_
       clear ho hb hg hat
       obtain ⟨Ao29, co29, eo29⟩ := Kd.R_slice HO523.out
       (first | subst eo29 | (injection eo29 with f1_ f2_ f3_; have f4_ := f1_.symm; have f5_ := f3_.symm; clear f1_ f2_ f3_; subst f4_; subst f5_))
       refine hK.out _ _ ⟨(blk_cell BK511.out 0).trans rfl, (blk_cell BK511.out 1).trans rfl, (blk_cell BK511.out 2).trans rfl, (blk_cell BK511.out 3).trans rfl, (blk_cell BK503.out 0).trans rfl, (blk_cell BK503.out 1).trans rfl, (blk_cell BK503.out 2).trans rfl, (blk_cell BK503.out 3).trans rfl, ((HB.out.cell (World.block_lt_of_cell? w _ hw512_0)).trans hw512_0), ((HB.out.cell (World.block_lt_of_cell? w _ hw512_1)).trans hw512_1), ((HB.out.cell (World.block_lt_of_cell? w _ hw512_2)).trans hw512_2), ((HB.out.cell (World.block_lt_of_cell? w _ hw512_3)).trans hw512_3)⟩ (fun hHeld => ?_)
       clear hK K
       refine norm_ (a' := ?_) ?_ ?_
       rotate_left
       ·show Act.put _ (some 30) _ = _
        simp only [Act.put, sAx, sZx, sSx, i64_w, i32_w]
        rfl
       refine pure_ (i := 10) (N := some 31) (v := ?_) (a' := ?_) #[true, true, true, true, true, true, true, true, true, true, true, false] rfl rfl (any_of HT_.out (by kernel_rfl)) (fun _ _ _ h => h) (Or.inl ⟨by rfl, ?_⟩) ?_ ?_
       rotate_left
       ·intro w'
        go_simp
        with_reducible rfl
       rotate_left
       ·simp only [Act.put, sAx, sZx, sSx, i64_w, i32_w]
        rfl
       refine last_ (i := 11) (N := none) #[true, true, true, true, true, true, true, true, true, true, true, true] rfl rfl (one_of HT_.out (by kernel_rfl)) (by decide) (fun K hK => ?_)
       have hs30 : w26.cell? ⟨gb511, 3, none⟩ = some (u512003) := (blk_cell BK511.out 3).trans rfl
       have hfs30 := blk_frozen BK511.out 3
       have hns30_0 := NB503_511.out
       have hns30_1 := NB504_511.out
       have hms30_0 := NB511_503.out
       have hms30_1 := NB511_504.out
       refine skip_ (w1 := ?_) (by rfl) rfl ?_ ?_
       rotate_left
       ·go_simp
        rfl
       refine hK.out _ _ ?_
       clear hK K
       refine done_ (done_of HT_.out (by kernel_rfl)) ?_
       try go_wp2
       go_roundg k1
       case measure => have := HK1.out; omega
       case rel => exact ⟨(wrap64 (x4_1 + 1)), (y521), (.slice Ao29 y521.length co29), (by first | rfl | (simp; done) | (simp [*]; done)), H', ⟨by have := HK1.out; omega⟩, ⟨by (with_reducible repeat (first | apply Kd.R_alloc | apply Kd.R_drewN | apply Kd.R_drew)); exact Kd.R_mono (Kd.R_far (p := ⟨gb511, 3, none⟩) (Kd.R_types HO_512002.out BK511.out (by decide)) (fun _ hk => hk.2) (.slice Ao29 y521.length co29)) (fun _ hk => trivial)⟩, ⟨by (with_reducible repeat (first | apply Kd.R_alloc | apply Kd.R_drewN | apply Kd.R_drew)); exact Kd.R_mono (Kd.R_far (p := ⟨gb511, 3, none⟩) (Kd.R_mono HO523.out (fun k_ hk => (⟨hk, hk.2.2.2⟩ : _ ∧ k_ ≠ gb511))) (fun _ hk => hk.2) (.slice Ao29 y521.length co29)) (fun _ hk => ⟨hk.1.1, ⟨hk.1.2.1, ⟨hk.1.2.2.1, hk.1.2.2.2⟩⟩⟩)⟩, ⟨by (with_reducible repeat (first | refine blk_drewN ?_ _ | refine blk_drew ?_ | refine blk_alloc ?_ _)); refine blk_far ?_ NB503_511.out _; (with_reducible repeat (first | refine blk_drewN ?_ _ | refine blk_drew ?_ | refine blk_alloc ?_ _)); exact BK503.out⟩, ⟨by (with_reducible repeat (first | refine blk_drewN ?_ _ | refine blk_drew ?_ | refine blk_alloc ?_ _)); refine blk_far ?_ NB504_511.out _; (with_reducible repeat (first | refine blk_drewN ?_ _ | refine blk_drew ?_ | refine blk_alloc ?_ _)); exact BK504.out⟩, ⟨by (with_reducible repeat (first | refine blk_drewN ?_ _ | refine blk_drew ?_ | refine blk_alloc ?_ _)); refine blk_put (cs := #[.int .i64 a0_0, .string a0_1, .slice Ao12 y508.length co12, u512003]) ?_ 3 _ rfl; (with_reducible repeat (first | refine blk_drewN ?_ _ | refine blk_drew ?_ | refine blk_alloc ?_ _)); exact BK511.out⟩, ⟨by repeat (first | (with_reducible first | exact HB.out | apply below_alloc | apply pw_below_drewN | apply below_drew1 | refine below_set ?_ GE503.out | refine below_set ?_ GE504.out | refine below_set ?_ GE511.out) | exact HB.out)⟩⟩
      ·rw [if_neg c20] at H
       exact absurd H (by simp)
     ·rw [if_neg c18] at H
      exact absurd H (by simp)
    ·rw [if_neg c17] at H
     have c17b0 : decide (x4_1 < (l0_3.length : Int)) = false := decide_eq_false c17
     clear c17
     simp only [Option.some.injEq, Prod.mk.injEq] at H
     obtain ⟨rfl, rfl, rfl, rfl⟩ := H
     have hnb31 := NB503_504.out
     have hnc31 := NB504_503.out
     have hnb32 := NB503_511.out
     have hnc32 := NB511_503.out
     have hcz33_0 : wr.cell? ⟨gb503, 0, none⟩ = some (.int .i64 a0_0) := (blk_cell BK503.out 0).trans rfl
     have hcz33_1 : wr.cell? ⟨gb503, 1, none⟩ = some (.string a0_1) := (blk_cell BK503.out 1).trans rfl
     have hcz33_2 : wr.cell? ⟨gb503, 2, none⟩ = some (.slice A0_2 l0_2.length c0_2) := (blk_cell BK503.out 2).trans rfl
     have hcz33_3 : wr.cell? ⟨gb503, 3, none⟩ = some (.slice A0_3 l0_3.length c0_3) := (blk_cell BK503.out 3).trans rfl
     have hfz33_0 := blk_frozen BK503.out 0
     have hfz33_1 := blk_frozen BK503.out 1
     have hfz33_2 := blk_frozen BK503.out 2
     have hfz33_3 := blk_frozen BK503.out 3
     have hnb34 := NB511_504.out
     have hnc34 := NB504_511.out
     have hcz35_0 : wr.cell? ⟨gb511, 0, none⟩ = some (.int .i64 a0_0) := (blk_cell BK511.out 0).trans rfl
     have hcz35_1 : wr.cell? ⟨gb511, 1, none⟩ = some (.string a0_1) := (blk_cell BK511.out 1).trans rfl
     have hcz35_2 : wr.cell? ⟨gb511, 2, none⟩ = some (.slice Ao12 y508.length co12) := (blk_cell BK511.out 2).trans rfl
     have hcz35_3 : wr.cell? ⟨gb511, 3, none⟩ = some (u512003) := (blk_cell BK511.out 3).trans rfl
     have hfz35_0 := blk_frozen BK511.out 0
     have hfz35_1 := blk_frozen BK511.out 1
     have hfz35_2 := blk_frozen BK511.out 2
     have hfz35_3 := blk_frozen BK511.out 3
     have hcz36_0 : wr.cell? ⟨gb504, 0, none⟩ = some (.int .i64 0) := (blk_cell BK504.out 0).trans rfl
     have hcz36_1 : wr.cell? ⟨gb504, 1, none⟩ = some (.string (⟨#[]⟩ : ByteArray)) := (blk_cell BK504.out 1).trans rfl
     have hcz36_2 : wr.cell? ⟨gb504, 2, none⟩ = some (.slice none 0 0) := (blk_cell BK504.out 2).trans rfl
     have hcz36_3 : wr.cell? ⟨gb504, 3, none⟩ = some (.slice none 0 0) := (blk_cell BK504.out 3).trans rfl
     have hfz36_0 := blk_frozen BK504.out 0
     have hfz36_1 := blk_frozen BK504.out 1
     have hfz36_2 := blk_frozen BK504.out 2
     have hfz36_3 := blk_frozen BK504.out 3
     obtain ⟨Ao37, co37, eo37⟩ := Kd.R_slice HO_512003.out
     subst eo37
     go_wp2
     refine bodyPost_ret (results_cell_row rfl _ _ gb504 25 #[.int .i64 a0_0, .string a0_1, .slice Ao12 y508.length co12, .slice Ao37 x512003_1.length co37] (0, 0) _ rfl (by (with_reducible repeat (first | refine blk_drewN ?_ _ | refine blk_drew ?_ | refine blk_alloc ?_ _)); refine blk_put (cs := #[.int .i64 a0_0, .string a0_1, .slice Ao12 y508.length co12, .slice none 0 0]) ?_ 3 _ rfl; (with_reducible repeat (first | refine blk_drewN ?_ _ | refine blk_drew ?_ | refine blk_alloc ?_ _)); refine blk_put (cs := #[.int .i64 a0_0, .string a0_1, .slice none 0 0, .slice none 0 0]) ?_ 2 _ rfl; (with_reducible repeat (first | refine blk_drewN ?_ _ | refine blk_drew ?_ | refine blk_alloc ?_ _)); refine blk_put (cs := #[.int .i64 a0_0, .string (⟨#[]⟩ : ByteArray), .slice none 0 0, .slice none 0 0]) ?_ 1 _ rfl; (with_reducible repeat (first | refine blk_drewN ?_ _ | refine blk_drew ?_ | refine blk_alloc ?_ _)); refine blk_put (cs := #[.int .i64 0, .string (⟨#[]⟩ : ByteArray), .slice none 0 0, .slice none 0 0]) ?_ 0 _ rfl; (with_reducible repeat (first | refine blk_drewN ?_ _ | refine blk_drew ?_ | refine blk_alloc ?_ _)); exact BK504.out) Tryd.underlying25 rfl (by kernel_rfl)) rfl ?_
     exact ⟨_, _, by first | rfl | (simp [errW_none, errW_some] <;> rfl) | (simp [*, errW_none, errW_some] <;> rfl), by (with_reducible repeat (first | apply Kd.R_alloc | apply Kd.R_drewN | apply Kd.R_drew)); exact Kd.R_mono (Kd.R_far (p := ⟨gb504, 3, none⟩) (Kd.R_far (p := ⟨gb504, 2, none⟩) (Kd.R_far (p := ⟨gb504, 1, none⟩) (Kd.R_far (p := ⟨gb504, 0, none⟩) (Kd.R_types HO_512002.out BK504.out (by decide)) (fun _ hk => hk.2) (.int .i64 a0_0)) (fun _ hk => hk.2) (.string a0_1)) (fun _ hk => hk.2) (.slice Ao12 y508.length co12)) (fun _ hk => hk.2) (.slice Ao37 x512003_1.length co37)) (fun _ hk => trivial), by (with_reducible repeat (first | apply Kd.R_alloc | apply Kd.R_drewN | apply Kd.R_drew)); exact Kd.R_mono (Kd.R_far (p := ⟨gb504, 3, none⟩) (Kd.R_far (p := ⟨gb504, 2, none⟩) (Kd.R_far (p := ⟨gb504, 1, none⟩) (Kd.R_far (p := ⟨gb504, 0, none⟩) (Kd.R_mono HO_512003.out (fun k_ hk => (⟨hk, hk.2.2.1⟩ : _ ∧ k_ ≠ gb504))) (fun _ hk => hk.2) (.int .i64 a0_0)) (fun _ hk => hk.2) (.string a0_1)) (fun _ hk => hk.2) (.slice Ao12 y508.length co12)) (fun _ hk => hk.2) (.slice Ao37 x512003_1.length co37)) (fun _ hk => hk.1.1), by repeat (first | (with_reducible first | exact HB.out | apply below_alloc | apply pw_below_drewN | apply below_drew1 | refine below_set ?_ GE503.out | refine below_set ?_ GE504.out | refine below_set ?_ GE511.out) | exact HB.out)⟩
 ·rw [if_neg c2] at H
  exact absurd H (by simp)
mutual
def wicketref04_Parts.l0 : Nat → Int → Int → Int → Int → ByteArray → List ByteArray → List (S25) → Option (Int)
 | 0, _, _, _, _, _, _, _ => none
 | k + 1, x1, x5, x6, x499000, x499001, x499002, x499003 => if x6 < (x499003.length : Int) then (if x5 ≤ x1 then (if 0 ≤ x6 then ((wicketref04_Parts.f k ((rd_T25 x499003 x6).f0) ((rd_T25 x499003 x6).f1) ((rd_T25 x499003 x6).f2) ((rd_T25 x499003 x6).f3) (wrap64 (x1 - x5))).bind fun t500 => (wicketref04_Parts.l0 k x1 (wrap64 (x5 + t500)) (wrap64 (x6 + 1)) x499000 x499001 x499002 x499003)) else (none)) else (some x5)) else (some x5)
def wicketref04_Parts.f : Nat → Int → ByteArray → List ByteArray → List (S25) → Int → Option (Int)
 | 0, _, _, _, _, _ => none
 | k + 1, a0_0, a0_1, l0_2, l0_3, a1 => wicketref04_Parts.l0 k a1 (wrap64 (1 + (l0_2.length : Int))) 0 a0_0 a0_1 l0_2 l0_3
end
theorem wicketref04_Parts.mono_l : ∀ k, (∀ y0 y1 y2 y3 y4, LeO (wicketref04_Parts.f k y0 y1 y2 y3 y4) (wicketref04_Parts.f (k + 1) y0 y1 y2 y3 y4)) ∧ (∀ y0 y1 y2 y3 y4 y5 y6, LeO (wicketref04_Parts.l0 k y0 y1 y2 y3 y4 y5 y6) (wicketref04_Parts.l0 (k + 1) y0 y1 y2 y3 y4 y5 y6))
 | 0 => ⟨fun _ _ _ _ _ r h => by simp [wicketref04_Parts.f] at h, fun _ _ _ _ _ _ _ r h => by simp [wicketref04_Parts.l0] at h⟩
 | k + 1 => by
  obtain ⟨ih0, ih1⟩ := wicketref04_Parts.mono_l k
  refine ⟨?_, ?_⟩
  ·intro y0 y1 y2 y3 y4
   unfold wicketref04_Parts.f
   repeat' first
   | (with_reducible exact ih0 _ _ _ _ _)
   | (with_reducible exact ih1 _ _ _ _ _ _ _)
   | (with_reducible exact LeO.refl _)
   | (with_reducible exact LeO.none _)
   | (with_reducible refine LeO.ite ?_ ?_)
   | (with_reducible refine LeO.bind ?_ (fun _ => ?_))
   | exact ih0 _ _ _ _ _
   | exact ih1 _ _ _ _ _ _ _
   | exact LeO.none _
   | refine LeO.ite ?_ ?_
   | refine LeO.bind ?_ (fun _ => ?_)
  ·intro y0 y1 y2 y3 y4 y5 y6
   unfold wicketref04_Parts.l0
   repeat' first
   | (with_reducible exact ih0 _ _ _ _ _)
   | (with_reducible exact ih1 _ _ _ _ _ _ _)
   | (with_reducible exact LeO.refl _)
   | (with_reducible exact LeO.none _)
   | (with_reducible refine LeO.ite ?_ ?_)
   | (with_reducible refine LeO.bind ?_ (fun _ => ?_))
   | exact ih0 _ _ _ _ _
   | exact ih1 _ _ _ _ _ _ _
   | exact LeO.none _
   | refine LeO.ite ?_ ?_
   | refine LeO.bind ?_ (fun _ => ?_)
theorem wicketref04_Parts.mono : ∀ a0 a1 a2 a3 a4 k, LeO (wicketref04_Parts.f k a0 a1 a2 a3 a4) (wicketref04_Parts.f (k + 1) a0 a1 a2 a3 a4) := by
 intro a0 a1 a2 a3 a4 k
 obtain ⟨ih0, ih1⟩ := wicketref04_Parts.mono_l k
 exact ih0 a0 a1 a2 a3 a4
set_option maxHeartbeats 8000000 in
set_option maxRecDepth 100000 in
theorem wicketref04_Parts.calls (k : Nat) : ∀ (a0_0 : Int) (a0_1 : ByteArray) (A0_2 : Option Addr) (c0_2 : Nat) (l0_2 : List ByteArray) (A0_3 : Option Addr) (c0_3 : Nat) (l0_3 : List (S25)) (a1 : Int) (r : Int) (w : World) (hr0_2 : Kd.C Kd.string w A0_2 l0_2.length l0_2) (hc0_2 : l0_2.length ≤ c0_2) (hr0_3 : Kd.C k25 w A0_3 l0_3.length l0_3) (hc0_3 : l0_3.length ≤ c0_3) (h : wicketref04_Parts.f k a0_0 a0_1 l0_2 l0_3 a1 = some r),
  Calls Tryd.prog 32 #[.agg #[.int .i64 a0_0, .string a0_1, .slice A0_2 l0_2.length c0_2, .slice A0_3 l0_3.length c0_3], .int .i64 a1] w fun e w' => e = .returned (.int .i64 r) ∧ Below w.heap.size w w' := by
 induction k using Nat.strongRecOn with
 | _ k ih =>
 intro a0_0 a0_1 A0_2 c0_2 l0_2 A0_3 c0_3 l0_3 a1 r w hr0_2 hc0_2 hr0_3 hc0_3 h
 cases k with
 | zero => exact absurd h (by simp [wicketref04_Parts.f])
 | succ k =>
 simp only [wicketref04_Parts.f] at h
 have hu25 := Tryd.underlying25
 have HR0_2 := am hr0_2
 have HC0_2 := am hc0_2
 clear hr0_2 hc0_2
 have HR0_3 := am hr0_3
 have HC0_3 := am hc0_3
 clear hr0_3 hc0_3
 have HB := am (Below.refl w.heap.size w)
 have H : (wicketref04_Parts.l0 k a1 (wrap64 (1 + (l0_2.length : Int))) 0 a0_0 a0_1 l0_2 l0_3) = some r := h
 clear h
 have H' := am H
 clear H
 go_enter Tryd.func32, Tryd.ntmps32
 go_wp2_with (first | ((with_reducible refine gate_dst (N := 2) rfl ?_); refine box_event ?hg (N := 2) ?hd (cs := #[.int .i64 a0_0, .string a0_1, .slice A0_2 l0_2.length c0_2, .slice A0_3 l0_3.length c0_3]) (t := 25) ?hr ?_; (case hd => rfl); (case hg => rfl); (case hr => first | (go_simp; done) | (go_simp; rfl)); intro gb498 hg w3 hbox hb; have n0_ := am (below_step (by repeat (first | (with_reducible first | exact HB.out | apply below_alloc | apply pw_below_drewN | apply below_drew1) | exact HB.out)) hb); have n1_ := am (hbox); have n2_ := am ((by rw [hg]; exact (below_size (by repeat (first | (with_reducible first | exact HB.out | apply below_alloc | apply pw_below_drewN | apply below_drew1) | exact HB.out))) : w.heap.size ≤ gb498)); have n3_ := am ((by rw [hg]; exact (below_size (by repeat (first | (with_reducible first | exact HB.out | apply below_alloc | apply pw_below_drewN | apply below_drew1) | exact HB.out))) : w.heap.size ≤ gb498)); clear HB; have HB := n0_; have BK498 := n1_; have GW498 := n2_; have GE498 := n3_; clear n0_ n1_ n2_ n3_; clear hb hbox hg; have hcz4_0 : w3.cell? ⟨gb498, 0, none⟩ = some (.int .i64 a0_0) := (blk_cell BK498.out 0).trans rfl; have hcz4_1 : w3.cell? ⟨gb498, 1, none⟩ = some (.string a0_1) := (blk_cell BK498.out 1).trans rfl; have hcz4_2 : w3.cell? ⟨gb498, 2, none⟩ = some (.slice A0_2 l0_2.length c0_2) := (blk_cell BK498.out 2).trans rfl; have hcz4_3 : w3.cell? ⟨gb498, 3, none⟩ = some (.slice A0_3 l0_3.length c0_3) := (blk_cell BK498.out 3).trans rfl; have hfz4_0 := blk_frozen BK498.out 0; have hfz4_1 := blk_frozen BK498.out 1; have hfz4_2 := blk_frozen BK498.out 2; have hfz4_3 := blk_frozen BK498.out 3))
 go_loopg [5, 6] k (fun kq v5 v6 w' => ∃ (x5_1 : Int) (x6_1 : Int), v5 = .int .i64 x5_1 ∧ v6 = .int .i64 x6_1 ∧ Aside0 (wicketref04_Parts.l0 kq a1 x5_1 x6_1 a0_0 a0_1 l0_2 l0_3 = some r) ∧ Aside0 (kq ≤ k) ∧ Aside0 (w'.heap[gb498]? = some (.cells #[.int .i64 a0_0, .string a0_1, (.slice A0_2 l0_2.length c0_2), (.slice A0_3 l0_3.length c0_3)] 25 (0, 0))) ∧ Aside0 (Below w.heap.size w w'))
 case atStart => exact ⟨(wrap64 (1 + (l0_2.length : Int))), (0), (by first | rfl | (simp; done) | (simp [*]; done)), (by first | rfl | (simp; done) | (simp [*]; done)), H', ⟨Nat.le_refl _⟩, ⟨by (with_reducible repeat (first | refine blk_drewN ?_ _ | refine blk_drew ?_ | refine blk_alloc ?_ _)); exact BK498.out⟩, ⟨by repeat (first | (with_reducible first | exact HB.out | apply below_alloc | apply pw_below_drewN | apply below_drew1 | refine below_set ?_ GE498.out) | exact HB.out)⟩⟩
 case round =>
  clear H'
  try clear p2
  try clear c3
  try clear hcz4_0
  try clear hcz4_1
  try clear hcz4_2
  try clear hcz4_3
  try clear hfz4_0
  try clear hfz4_1
  try clear hfz4_2
  try clear hfz4_3
  obtain ⟨x5_1, x6_1, rfl, rfl, HA, HK1, BK498, HB⟩ := hrel
  cases gk with
  | zero => exact absurd HA.out (by simp [wicketref04_Parts.l0])
  | succ k1 =>
   have H := HA.out
   clear HA
   simp only [wicketref04_Parts.l0] at H
   by_cases c5 : x6_1 < (l0_3.length : Int)
   ·rw [if_pos c5] at H
    have c5b0 : decide (x6_1 < (l0_3.length : Int)) = true := decide_eq_true c5
    clear c5
    by_cases c6 : x5_1 ≤ a1
    ·rw [if_pos c6] at H
     have c6b0 : decide (x5_1 ≤ a1) = true := decide_eq_true c6
     clear c6
     by_cases c7 : 0 ≤ x6_1
     ·rw [if_pos c7] at H
      have c7b0 : decide (0 ≤ x6_1) = true := decide_eq_true c7
      clear c7
      replace H := Option.bind_eq_some_iff.mp H
      obtain ⟨t500, A80, H⟩ := H
      replace H : (wicketref04_Parts.l0 k1 a1 (wrap64 (x5_1 + t500)) (wrap64 (x6_1 + 1)) a0_0 a0_1 l0_2 l0_3) = some r := H
      have A8 := am A80
      clear A80
      have H' := am H
      clear H
      have hcz9_0 : wr.cell? ⟨gb498, 0, none⟩ = some (.int .i64 a0_0) := (blk_cell BK498.out 0).trans rfl
      have hcz9_1 : wr.cell? ⟨gb498, 1, none⟩ = some (.string a0_1) := (blk_cell BK498.out 1).trans rfl
      have hcz9_2 : wr.cell? ⟨gb498, 2, none⟩ = some (.slice A0_2 l0_2.length c0_2) := (blk_cell BK498.out 2).trans rfl
      have hcz9_3 : wr.cell? ⟨gb498, 3, none⟩ = some (.slice A0_3 l0_3.length c0_3) := (blk_cell BK498.out 3).trans rfl
      have hfz9_0 := blk_frozen BK498.out 0
      have hfz9_1 := blk_frozen BK498.out 1
      have hfz9_2 := blk_frozen BK498.out 2
      have hfz9_3 := blk_frozen BK498.out 3
      have p499 : 0 ≤ (x6_1 : Int) := of_decide_eq_true (by first | (with_reducible assumption) | assumption)
      have q499 : x6_1 < (l0_3.length : Int) := of_decide_eq_true (by first | (with_reducible assumption) | assumption)
      obtain ⟨ad499, A499_2, c499_2, A499_3, c499_3, e499, hx499_0, hx499_1, hx499_2, hx499_3, hl499_2, hi499_2, hl499_3, hi499_3⟩ := at_T25 HR0_3.out x6_1 p499 q499
      cases e499
      replace hx499_0 := (HB.out.cell (World.block_lt_of_cell? w _ hx499_0)).trans hx499_0
      replace hx499_1 := (HB.out.cell (World.block_lt_of_cell? w _ hx499_1)).trans hx499_1
      replace hx499_2 := (HB.out.cell (World.block_lt_of_cell? w _ hx499_2)).trans hx499_2
      replace hx499_3 := (HB.out.cell (World.block_lt_of_cell? w _ hx499_3)).trans hx499_3
      have HR499_2 := am hi499_2
      have HC499_2 := am hl499_2
      clear hi499_2 hl499_2
      have HR499_3 := am hi499_3
      have HC499_3 := am hl499_3
      clear hi499_3 hl499_3
      replace p499 := eq_true p499
      replace q499 := eq_true q499
      go_wp2_with (first | ((with_reducible refine gate_callee (f := 32) rfl ?_); refine goesL_ (some 32) rfl rfl Tryd.func32 (by kernel_rfl) rfl #[.agg #[.int .i64 ((rd_T25 l0_3 x6_1).f0), .string ((rd_T25 l0_3 x6_1).f1), .slice A499_2 ((rd_T25 l0_3 x6_1).f2).length c499_2, .slice A499_3 ((rd_T25 l0_3 x6_1).f3).length c499_3], .int .i64 (wrap64 (a1 - x5_1))] rfl (by (try simp only [List.map_toArray, List.map_cons, List.map_nil]); first | done | rfl | (simp only [List.length_drop, List.length_take]; rfl)) ?_; (with_reducible refine (ih k1 (by have := HK1.out; omega) ((rd_T25 l0_3 x6_1).f0) ((rd_T25 l0_3 x6_1).f1) _ _ ((rd_T25 l0_3 x6_1).f2) _ _ ((rd_T25 l0_3 x6_1).f3) (wrap64 (a1 - x5_1)) t500 _ ?side1 ?side2 ?side3 ?side4 A8.out).mono ?_); (case side1 => repeat (first | exact (Kd.C_below HR499_2.out HB.out) | (with_reducible refine Kd.C_alloc ?_ _) | (with_reducible refine Kd.C_drewN ?_ _) | (with_reducible refine Kd.C_drew ?_))); (case side2 => exact HC499_2.out); (case side3 => repeat (first | exact (Kd.C_below HR499_3.out HB.out) | (with_reducible refine Kd.C_alloc ?_ _) | (with_reducible refine Kd.C_drewN ?_ _) | (with_reducible refine Kd.C_drew ?_))); (case side4 => exact HC499_3.out); rintro e w10 ⟨rfl, hb⟩; refine ⟨_, rfl, ?_⟩; have n0_ := am (blk_below (g := gb498) (o := .cells #[.int .i64 a0_0, .string a0_1, .slice A0_2 l0_2.length c0_2, .slice (some ad499) l0_3.length c0_3] 25 (0, 0)) (by (with_reducible repeat (first | refine blk_drewN ?_ _ | refine blk_drew ?_ | refine blk_alloc ?_ _)); exact BK498.out) hb); have n1_ := am (below_step (by repeat (first | (with_reducible first | exact HB.out | apply below_alloc | apply pw_below_drewN | apply below_drew1 | refine below_set ?_ GE498.out) | exact HB.out)) hb); clear BK498; clear HB; have BK498 := n0_; have HB := n1_; clear n0_ n1_; (try clear hb); (try clear hb2); (try clear hk); (try clear hi)))
      go_roundg k1
      case measure => have := HK1.out; omega
      case rel => exact ⟨(wrap64 (x5_1 + t500)), (wrap64 (x6_1 + 1)), (by first | rfl | (simp; done) | (simp [*]; done)), (by first | rfl | (simp; done) | (simp [*]; done)), H', ⟨by have := HK1.out; omega⟩, ⟨by (with_reducible repeat (first | refine blk_drewN ?_ _ | refine blk_drew ?_ | refine blk_alloc ?_ _)); exact BK498.out⟩, ⟨by repeat (first | (with_reducible first | exact HB.out | apply below_alloc | apply pw_below_drewN | apply below_drew1 | refine below_set ?_ GE498.out) | exact HB.out)⟩⟩
     ·rw [if_neg c7] at H
      exact absurd H (by simp)
    ·rw [if_neg c6] at H
     have c6b0 : decide (x5_1 ≤ a1) = false := decide_eq_false c6
     clear c6
     obtain rfl := Option.some.inj H
     have hcz11_0 : wr.cell? ⟨gb498, 0, none⟩ = some (.int .i64 a0_0) := (blk_cell BK498.out 0).trans rfl
     have hcz11_1 : wr.cell? ⟨gb498, 1, none⟩ = some (.string a0_1) := (blk_cell BK498.out 1).trans rfl
     have hcz11_2 : wr.cell? ⟨gb498, 2, none⟩ = some (.slice A0_2 l0_2.length c0_2) := (blk_cell BK498.out 2).trans rfl
     have hcz11_3 : wr.cell? ⟨gb498, 3, none⟩ = some (.slice A0_3 l0_3.length c0_3) := (blk_cell BK498.out 3).trans rfl
     have hfz11_0 := blk_frozen BK498.out 0
     have hfz11_1 := blk_frozen BK498.out 1
     have hfz11_2 := blk_frozen BK498.out 2
     have hfz11_3 := blk_frozen BK498.out 3
     go_wp2
     go_ret
     exact ⟨by first | rfl | (simp [errW_none, errW_some] <;> rfl) | (simp [*, errW_none, errW_some] <;> rfl), by repeat (first | (with_reducible first | exact HB.out | apply below_alloc | apply pw_below_drewN | apply below_drew1 | refine below_set ?_ GE498.out) | exact HB.out)⟩
   ·rw [if_neg c5] at H
    have c5b0 : decide (x6_1 < (l0_3.length : Int)) = false := decide_eq_false c5
    clear c5
    obtain rfl := Option.some.inj H
    have hcz12_0 : wr.cell? ⟨gb498, 0, none⟩ = some (.int .i64 a0_0) := (blk_cell BK498.out 0).trans rfl
    have hcz12_1 : wr.cell? ⟨gb498, 1, none⟩ = some (.string a0_1) := (blk_cell BK498.out 1).trans rfl
    have hcz12_2 : wr.cell? ⟨gb498, 2, none⟩ = some (.slice A0_2 l0_2.length c0_2) := (blk_cell BK498.out 2).trans rfl
    have hcz12_3 : wr.cell? ⟨gb498, 3, none⟩ = some (.slice A0_3 l0_3.length c0_3) := (blk_cell BK498.out 3).trans rfl
    have hfz12_0 := blk_frozen BK498.out 0
    have hfz12_1 := blk_frozen BK498.out 1
    have hfz12_2 := blk_frozen BK498.out 2
    have hfz12_3 := blk_frozen BK498.out 3
    go_wp2
    go_ret
    exact ⟨by first | rfl | (simp [errW_none, errW_some] <;> rfl) | (simp [*, errW_none, errW_some] <;> rfl), by repeat (first | (with_reducible first | exact HB.out | apply below_alloc | apply pw_below_drewN | apply below_drew1 | refine below_set ?_ GE498.out) | exact HB.out)⟩
end Go.Proofs.YtaalajhmfdcalaaDoor.X
namespace Go.Proofs.YtaalajhmfdcalaaDoor.X
open Go.RowKit Go.Lib Go.Proofs.YtaalajhmfdcalaaDoorW.PrintWords Go.Proofs.YtaalajhmfdcalaaDoorW.PrintLast Go.Proofs.YtaalajhmfdcalaaDoorW.PrintMore
def stepZ (s c : Int) : Int :=
 if s = 0 ∧ c = 45 then 1 else if s ≤ 1 ∧ c = 48 then 2 else if (s ≤ 1 ∧ 48 ≤ c ∧ c ≤ 57) ∨ (s = 3 ∧ 48 ≤ c ∧ c ≤ 57) then 3
 else if (s = 2 ∨ s = 3) ∧ c = 46 then 4 else if (s = 4 ∨ s = 5) ∧ 48 ≤ c ∧ c ≤ 57 then 5 else if (s = 2 ∨ s = 3 ∨ s = 5) ∧ (c = 101 ∨ c = 69) then 6
 else if s = 6 ∧ (c = 43 ∨ c = 45) then 7 else if 6 ≤ s ∧ 48 ≤ c ∧ c ≤ 57 then 8 else -1
set_option maxRecDepth 1000000 in
set_option maxHeartbeats 4000000 in
theorem step_calls (s c : Int) (w : World) (hs : s = 0 ∨ s = 1 ∨ s = 2 ∨ s = 3 ∨ s = 4 ∨ s = 5 ∨ s = 6 ∨ s = 7 ∨ s = 8)
  (hc : c = 43 ∨ c = 45 ∨ c = 46 ∨ c = 48 ∨ c = 69 ∨ c = 101 ∨ (48 < c ∧ c ≤ 57) ∨ (c < 48 ∧ c ≠ 43 ∧ c ≠ 45 ∧ c ≠ 46) ∨ (57 < c ∧ c ≠ 69 ∧ c ≠ 101)) :
  Calls Tryd.prog 71 #[.int .i64 s, .int .u8 c] w fun e w' => e = .returned (.int .i64 (stepZ s c)) ∧ w' = w := by
 rcases hs with rfl | rfl | rfl | rfl | rfl | rfl | rfl | rfl | rfl <;>
 (rcases hc with rfl | rfl | rfl | rfl | rfl | rfl | ⟨h1, h2⟩ | ⟨h1, h2, h3, h4⟩ | ⟨h1, h2, h3⟩)
 all_goals (
  try have b43 : (c == 43) = false := beq_eq_false_iff_ne.mpr (by omega)
  try have b45 : (c == 45) = false := beq_eq_false_iff_ne.mpr (by omega)
  try have b46 : (c == 46) = false := beq_eq_false_iff_ne.mpr (by omega)
  try have b48 : (c == 48) = false := beq_eq_false_iff_ne.mpr (by omega)
  try have b69 : (c == 69) = false := beq_eq_false_iff_ne.mpr (by omega)
  try have b101 : (c == 101) = false := beq_eq_false_iff_ne.mpr (by omega)
  try have d1 : decide (48 ≤ c) = true := decide_eq_true (by omega)
  try have d2 : decide (48 ≤ c) = false := decide_eq_false (by omega)
  try have d3 : decide (c ≤ 57) = true := decide_eq_true (by omega)
  try have d4 : decide (c ≤ 57) = false := decide_eq_false (by omega)
  go_enter Tryd.func71, Tryd.ntmps71
  go_wp2
  go_ret
  first
  | exact ⟨rfl, rfl⟩
  | (refine ⟨?_, rfl⟩; unfold stepZ; (repeat' split) <;> first | rfl | (exfalso; omega)))
end Go.Proofs.YtaalajhmfdcalaaDoor.X
namespace Go.Proofs.YtaalajhmfdcalaaDoor.X
open Go.RowKit Go.Lib Go.Proofs.YtaalajhmfdcalaaDoorW.PrintWords
def SmE (a b : St) : Prop := a = b ∨ (a.e = b.e ∧ a.e ≠ 0)
theorem SmE.refl (a : St) : SmE a a := .inl rfl
theorem SmE.e {a b : St} (h : SmE a b) : a.e = b.e := by
 rcases h with rfl | h
 ·rfl
 ·exact h.1
theorem SmE.trans {a b c : St} (h : SmE a b) (h' : SmE b c) : SmE a c := by
 rcases h with rfl | ⟨h1, h2⟩
 ·exact h'
 ·exact .inr ⟨h1.trans h'.e, h2⟩
theorem SmE.symm {a b : St} (h : SmE a b) : SmE b a := by
 rcases h with rfl | ⟨h1, h2⟩
 ·exact .inl rfl
 ·exact .inr ⟨h1.symm, h1 ▸ h2⟩
theorem SmE.put {a b : St} (s : List UInt8) (h : SmE a b) : SmE (putF false a s) (putF false b s) := by
 rcases h with rfl | ⟨h1, h2⟩
 ·exact .inl rfl
 ·rw [putF_bad _ _ _ h2, putF_bad _ _ _ (h1 ▸ h2)]; exact .inr ⟨h1, h2⟩
theorem SmE.fun {a b : St} {f : St → St} (hf : ∀ st, st.e ≠ 0 → f st = st) (h : SmE a b) : SmE (f a) (f b) := by
 rcases h with rfl | ⟨h1, h2⟩
 ·exact .inl rfl
 ·rw [hf _ h2, hf _ (h1 ▸ h2)]; exact .inr ⟨h1, h2⟩
theorem puts_once : ∀ (l : List (List UInt8)) (st : St), st.out.length ≤ 16384 → SmE (putsF false st l) (putF false st l.flatten)
 | [], st, h => by
  unfold putF putsF
  by_cases he : st.e ≠ 0
  ·rw [if_pos he]; exact .inl rfl
  ·rw [if_neg he, if_neg (by rintro ⟨_, hh⟩; simp at hh; omega)]
   have : st.e = 0 := by omega
   exact .inl (by cases st; simp_all)
 | a :: l, st, h => by
  rw [putsF_cons]
  by_cases he : st.e ≠ 0
  ·rw [putF_bad _ _ _ he, putF_bad _ _ _ he, putsF_bad _ _ he]; exact .inl rfl
  ·by_cases hl : 16384 < st.out.length + a.length
   ·have e1 : putF false st a = ⟨st.out, 1⟩ := by unfold putF; rw [if_neg he, if_pos ⟨rfl, hl⟩]
    have e2 : putF false st (a :: l).flatten = ⟨st.out, 1⟩ := by
     unfold putF
     rw [if_neg he, if_pos ⟨rfl, by rw [List.flatten_cons, List.length_append]; omega⟩]
    rw [e1, e2, putsF_bad _ _ (by simp)]
    exact .inl rfl
   ·have e1 : putF false st a = ⟨st.out ++ a, 0⟩ := by unfold putF; rw [if_neg he, if_neg (fun hh => hl hh.2)]
    rw [e1]
    refine (puts_once l _ (by show (st.out ++ a).length ≤ _; rw [List.length_append]; omega)).trans ?_
    have hq : (st.out ++ a).length + l.flatten.length = st.out.length + (a :: l).flatten.length := by
     rw [List.flatten_cons, List.length_append, List.length_append]; omega
    unfold putF
    simp only [hq, if_neg he, ne_eq, not_true_eq_false, if_false, true_and]
    split
    ·exact .inr ⟨rfl, by simp⟩
    ·exact .inl (by rw [List.flatten_cons, List.append_assoc])
end Go.Proofs.YtaalajhmfdcalaaDoor.X
namespace Go.Proofs.YtaalajhmfdcalaaDoor.X
open Go.RowKit Go.Lib Go.Proofs.YtaalajhmfdcalaaDoorW.PrintWords Go.Proofs.YtaalajhmfdcalaaDoorW.PrintLast Go.Proofs.YtaalajhmfdcalaaDoorW.PrintMore
theorem Own.oneStep {P : Program} {ops : Array Oper} {o : Oper} {a : Act} {K : Act → World → Prop} {Q : Exit → Act → World → Prop} {B : Nat} {W : World} (hw : Region.wanted o (yielded ops a.tmps) = true) (s x : Operand) (t : TypeId)
  (ho : o.op = .call { callee := .builtin .append, args := #[s, x], argTypes := #[t, t] }) (ht : P.underlying t = some (.slice 5)) (hinfo : (P.info? 5).map (fun i => (i.zero, i.size, i.bytes)) = some (some (.int .u8 0), 1, 1))
  (v : Value) (l : List UInt8) (c : UInt8) (hs : a.eval s = v) (hx : a.eval x = .slice (some ⟨W.heap.size, 0, none⟩) 1 1) (HO : Own B W v l) (hl : l.length ≤ 100000000000)
  (h : ∀ v1 w1, Own B w1 v1 (l ++ [c]) → W.grownBy w1 v.ownBlock → (v1.ownBlock = v.ownBlock ∨ ∃ b, v1.ownBlock = some b ∧ W.heap.size ≤ b) → K (a.put o.dst v1) w1) {N : Option Tmp} :
  if Region.wanted o (yielded ops a.tmps) = true then Oper.wp P o a (W.alloc (.cells #[.int .u8 c.toNat] 5)) K Q else K (a.put N undef) (W.alloc (.cells #[.int .u8 c.toNat] 5)) := by
 obtain ⟨i0, hi, hzz⟩ := Option.map_eq_some_iff.1 hinfo
 simp only [Prod.mk.injEq] at hzz
 obtain ⟨hz0, hz1, hz2⟩ := hzz
 rw [if_pos hw]
 obtain ⟨v1, w1, hr, hown, hg, _, hat⟩ := run_append_own_at (P := P) (w := W.alloc (.cells #[.int .u8 c.toNat] 5)) B t o.type 5 i0 (.int .u8 0) 1 1 ht hi hz0 hz1 hz2 rfl (by decide) v l.length (cellsOf l) (HO.1.alloc _) ⟨W.heap.size, 0, none⟩ 1 1 [.int .u8 c.toNat] rfl
  (World.news_of_block (cs := #[.int .u8 c.toNat]) (t := 5) (fr := (0, 0)) (heap_alloc_new W _)) (by simp [Value.oneCell']) (by simp only [maxLen]; omega) (by omega) (by rw [World.size_alloc]; exact Nat.le_succ_of_le HO.2)
 unfold Oper.wp execOp
 simp only [ho, resolve, invoke, builtin, Sem.run_bind, Sem.run_pure, Result.andThen_ok, List.map_toArray, List.map_cons, List.map_nil, hs, hx, hr]
 have hg' := World.grownBy.trans (World.grownBy_alloc W _ _) hg
 refine h v1 w1 ⟨?_, Nat.le_trans HO.2 hg'.size⟩ hg' ?_
 ·have e : cellsOf l ++ [Value.int .u8 c.toNat] = cellsOf (l ++ [c]) := by rw [cellsOf_append]; rfl
  rw [e] at hown
  simpa using hown
 ·rcases hat with hat | hat
  ·exact .inl hat
  ·exact .inr ⟨_, hat, by rw [World.size_alloc]; exact Nat.le_succ _⟩
structure PgOn (B : Nat) (sl sl' : Value) (W W' : World) : Prop where
 low : Below B W W'
 kept : ∀ b, b < W.heap.size → some b ≠ sl.ownBlock → W'.heap[b]? = W.heap[b]?
 at_ : sl'.ownBlock = sl.ownBlock ∨ ∃ b, sl'.ownBlock = some b ∧ W.heap.size ≤ b
theorem PgOn.size {B : Nat} {sl sl' : Value} {W W' : World} (h : PgOn B sl sl' W W') : W.heap.size ≤ W'.heap.size := h.low.size
theorem PgOn.refl (B : Nat) (sl : Value) (W : World) : PgOn B sl sl W W := ⟨Below.refl _ _, fun _ _ _ => rfl, .inl rfl⟩
theorem PgOn.ne {B : Nat} {sl sl' : Value} {W W' : World} (h : PgOn B sl sl' W W') {b : Nat} (hb : b < W.heap.size) (hne : some b ≠ sl.ownBlock) : some b ≠ sl'.ownBlock := by
 rcases h.at_ with h1 | ⟨c, h1, h2⟩
 ·rw [h1]; exact hne
 ·rw [h1]
  intro hh
  injection hh with hh
  omega
theorem PgOn.trans {B : Nat} {sl sl1 sl2 : Value} {W W1 W2 : World} (h : PgOn B sl sl1 W W1) (h' : PgOn B sl1 sl2 W1 W2) : PgOn B sl sl2 W W2 := by
 refine ⟨h.low.trans h'.low, fun b hb hs => (h'.kept b (Nat.lt_of_lt_of_le hb h.size) (h.ne hb hs)).trans (h.kept b hb hs), ?_⟩
 rcases h'.at_ with h1 | ⟨c, h1, h2⟩
 ·rcases h.at_ with h3 | ⟨d, h3, h4⟩
  ·exact .inl (h1.trans h3)
  ·exact .inr ⟨d, h1.trans h3, h4⟩
 ·exact .inr ⟨c, h1, Nat.le_trans h.size h2⟩
theorem PgOn.of_below {B : Nat} {sl : Value} {W W' : World} (hW : B ≤ W.heap.size) (h : Below W.heap.size W W') : PgOn B sl sl W W' :=
 ⟨h.mono hW, fun b hb _ => h.block b hb, .inl rfl⟩
def PEnds (B : Nat) (sl : Value) (W : World) (tg : St) (x : Ending) (W' : World) : Prop :=
 ∃ (st' : St) (sl' : Value), x = .returned (.agg #[sl', .int .i64 st'.e]) ∧ SmE st' tg ∧ Own B W' sl' st'.out ∧ st'.out.length ≤ 16384 ∧ PgOn B sl sl' W W'
structure PgB (B R : Nat) (o : Option Obj) (W wr : World) (sl0 sl : Value) (l : List UInt8) (e : Nat) : Prop where
 box : wr.heap[W.heap.size]? = some (.cells #[sl, .int .i64 e] 63 (0, 0))
 res : wr.heap[R]? = some (.cells #[.slice none 0 0, .int .i64 0] 63 (0, 0))
 mid : ∀ b, W.heap.size < b → b < R → wr.heap[b]? = o
 own : Own B wr sl l
 ne : ∀ g, sl.ownBlock = some g → g < W.heap.size ∨ R < g
 on : PgOn B sl0 sl W wr
 low : B ≤ W.heap.size
 hR : W.heap.size < R
variable {B R : Nat} {o : Option Obj} {W wr w1 w5 : World} {sl0 sl sl' v1 : Value} {l l' : List UInt8} {e : Nat}
theorem PgB.begin (h : Own B W sl l) (hb : Below W.heap.size W wr) (hbox : wr.heap[W.heap.size]? = some (.cells #[sl, .int .i64 e] 63 (0, 0))) (hres : wr.heap[R]? = some (.cells #[.slice none 0 0, .int .i64 0] 63 (0, 0))) (hmid : ∀ b, W.heap.size < b → b < R → wr.heap[b]? = o) (hR : W.heap.size < R) : PgB B R o W wr sl sl l e :=
 ⟨hbox, hres, hmid, h.heap hb.size fun g hg => hb.block g (h.lt g hg).2, fun g hg => .inl (h.lt g hg).2, PgOn.of_below h.2 hb, h.2, hR⟩
theorem PgB.start (e : Nat) (h : Own B W sl l) : PgB B (W.heap.size + 1) none W ((W.alloc (.cells #[sl, .int .i64 e] 63)).alloc (.cells #[.slice none 0 0, .int .i64 0] 63)) sl sl l e := by
 refine PgB.begin h (below_alloc (below_alloc (Below.refl _ _) _) _) (blk_alloc (heap_alloc_new W _) _) ?_ (fun b h1 h2 => by omega) (Nat.lt_succ_self _)
 have := heap_alloc_new (W.alloc (.cells #[sl, .int .i64 e] 63)) (.cells #[.slice none 0 0, .int .i64 0] 63 (0, 0))
 rwa [World.size_alloc] at this
theorem pg_cells {w : World} {g : Nat} {d0 d1 : Value} (h : w.heap[g]? = some (.cells #[d0, d1] 63 (0, 0))) :
  w.cell? ⟨g, 0, none⟩ = some d0 ∧ w.cell? ⟨g, 1, none⟩ = some d1 ∧ w.frozen? ⟨g, 0, none⟩ = false ∧ w.frozen? ⟨g, 1, none⟩ = false :=
 ⟨(blk_cell h 0).trans rfl, (blk_cell h 1).trans rfl, blk_frozen h 0, blk_frozen h 1⟩
theorem PgB.big (h : PgB B R o W wr sl0 sl l e) : R < wr.heap.size := lt_of_block h.res
theorem PgB.out (h : PgB B R o W wr sl0 sl l e) {b : Nat} (h1 : W.heap.size ≤ b) (h2 : b ≤ R) : some b ≠ sl.ownBlock := fun hh => by have := h.ne b hh.symm; omega
theorem PgOn.set (h : PgOn B sl sl' W w1) {g : Nat} (hB : B ≤ g) (hW : W.heap.size ≤ g) (k : Nat) (v : Value) : PgOn B sl sl' W (w1.setCell ⟨g, k, none⟩ v) :=
 ⟨Below.setCell h.low hB _, fun b hb hs => (Below.heap_setCell _ _ _ _ (by show b ≠ g; omega)).trans (h.kept b hb hs), h.at_⟩
theorem Own.far (h : Own B w1 sl l) {g : Nat} (hg : sl.ownBlock ≠ some g) (k : Nat) (v : Value) : Own B (w1.setCell ⟨g, k, none⟩ v) sl l :=
 h.heap (by rw [World.size_setCell]; exact Nat.le_refl _) fun b hb => Below.heap_setCell _ _ _ _ (by rintro rfl; exact hg hb)
theorem PgB.kept (h : PgB B R o W wr sl0 sl l e) (hon : PgOn B sl sl' wr w5) {b : Nat} {ob : Option Obj} (h1 : W.heap.size ≤ b) (h2 : b ≤ R) (hk : wr.heap[b]? = ob) : w5.heap[b]? = ob :=
 (hon.kept b (by have := h.big; omega) (h.out h1 h2)).trans hk
theorem PgB.ne' (h : PgB B R o W wr sl0 sl l e) (hat : sl'.ownBlock = sl.ownBlock ∨ ∃ b, sl'.ownBlock = some b ∧ wr.heap.size ≤ b) : ∀ g, sl'.ownBlock = some g → g < W.heap.size ∨ R < g := by
 intro g hh
 rcases hat with h1 | ⟨b, h1, h2⟩
 ·exact h.ne g (h1 ▸ hh)
 ·rw [h1] at hh
  injection hh with hh
  have := h.big
  omega
theorem PgB.below (h : PgB B R o W wr sl0 sl l e) (hb : Below wr.heap.size wr w1) : PgB B R o W w1 sl0 sl l e :=
 ⟨(hb.block _ (lt_of_block h.box)).trans h.box, (hb.block _ (lt_of_block h.res)).trans h.res, fun b h1 h2 => (hb.block _ (by have := h.big; omega)).trans (h.mid b h1 h2), h.own.heap hb.size fun g hg => hb.block g (h.own.lt g hg).2, h.ne, h.on.trans (PgOn.of_below (Nat.le_trans h.low (by have := h.big; have := h.hR; omega)) hb), h.low, h.hR⟩
theorem PgB.setE (h : PgB B R o W wr sl0 sl l e) (e' : Nat) (x : Int) (hx : x = (e' : Int)) : PgB B R o W (wr.setCell ⟨W.heap.size, 1, none⟩ (.int .i64 x)) sl0 sl l e' := by
 subst hx
 have hR := h.hR
 refine ⟨blk_put h.box 1 _ rfl, ?_, fun b h1 h2 => (Below.heap_setCell _ _ _ _ (by show b ≠ W.heap.size; omega)).trans (h.mid b h1 h2), h.own.far (fun hh => h.out (Nat.le_refl _) (Nat.le_of_lt hR) hh.symm) _ _, h.ne, h.on.set h.low (Nat.le_refl _) _ _, h.low, hR⟩
 exact (Below.heap_setCell _ _ _ _ (by show R ≠ W.heap.size; omega)).trans h.res
theorem pgOn_grown (h : PgB B R o W wr sl0 sl l e) (hg : wr.grownBy w5 sl.ownBlock) (hat : v1.ownBlock = sl.ownBlock ∨ ∃ b, v1.ownBlock = some b ∧ wr.heap.size ≤ b) : PgOn B sl v1 wr w5 :=
 ⟨⟨hg.os, hg.tape, hg.output, hg.size, fun k hk => hg.block k (Nat.lt_of_lt_of_le hk (by have := h.low; have := h.big; have := h.hR; omega)) (fun hh => by have := (h.own.lt k hh.symm).1; omega)⟩, fun b h1 h2 => hg.block b h1 h2, hat⟩
theorem PgB.app (h : PgB B R o W wr sl0 sl l e) (ho : Own B w5 v1 l') (hg : wr.grownBy w5 sl.ownBlock) (hat : v1.ownBlock = sl.ownBlock ∨ ∃ b, v1.ownBlock = some b ∧ wr.heap.size ≤ b) : PgB B R o W (w5.setCell ⟨W.heap.size, 0, none⟩ v1) sl0 v1 l' e := by
 have hon := pgOn_grown h hg hat
 have hR := h.hR
 have hne := h.ne' hat
 refine ⟨blk_put (h.kept hon (Nat.le_refl _) (Nat.le_of_lt hR) h.box) 0 _ rfl, (Below.heap_setCell _ _ _ _ (by show R ≠ W.heap.size; omega)).trans (h.kept hon (Nat.le_of_lt hR) (Nat.le_refl _) h.res), fun b h1 h2 => (Below.heap_setCell _ _ _ _ (by show b ≠ W.heap.size; omega)).trans (h.kept hon (Nat.le_of_lt h1) (Nat.le_of_lt h2) (h.mid b h1 h2)), ho.far (fun hh => by have := hne _ hh; omega) _ _, hne, (h.on.trans hon).set h.low (Nat.le_refl _) _ _, h.low, hR⟩
theorem PgB.setP (h : PgB B R o W wr sl0 sl l e) (ho : Own B w5 v1 l') (hon : PgOn B sl v1 wr w5) (e' : Nat) : PgB B R o W ((w5.setCell ⟨W.heap.size, 0, none⟩ v1).setCell ⟨W.heap.size, 1, none⟩ (.int .i64 e')) sl0 v1 l' e' := by
 have hR := h.hR
 have hne := h.ne' hon.at_
 refine ⟨blk_put (blk_put (h.kept hon (Nat.le_refl _) (Nat.le_of_lt hR) h.box) 0 _ rfl) 1 _ rfl, ?_, fun b h1 h2 => ?_, (ho.far (fun hh => by have := hne _ hh; omega) _ _).far (fun hh => by have := hne _ hh; omega) _ _, hne, ((h.on.trans hon).set h.low (Nat.le_refl _) _ _).set h.low (Nat.le_refl _) _ _, h.low, hR⟩
 ·exact (Below.heap_setCell _ _ _ _ (by show R ≠ W.heap.size; omega)).trans ((Below.heap_setCell _ _ _ _ (by show R ≠ W.heap.size; omega)).trans (h.kept hon (Nat.le_of_lt hR) (Nat.le_refl _) h.res))
 ·exact (Below.heap_setCell _ _ _ _ (by show b ≠ W.heap.size; omega)).trans ((Below.heap_setCell _ _ _ _ (by show b ≠ W.heap.size; omega)).trans (h.kept hon (Nat.le_of_lt h1) (Nat.le_of_lt h2) (h.mid b h1 h2)))
theorem PgB.retP {tg : St} {st' : St} (h : PgB B R o W wr sl0 sl l e) (ho : Own B w5 v1 st'.out) (hon : PgOn B sl v1 wr w5) (hl : st'.out.length ≤ 16384) (hs : SmE st' tg) :
  ((w5.setCell ⟨R, 0, none⟩ v1).setCell ⟨R, 1, none⟩ (.int .i64 st'.e)).heap[R]? = some (.cells #[v1, .int .i64 st'.e] 63 (0, 0)) ∧
   PEnds B sl0 W tg (.returned (.agg #[v1, .int .i64 st'.e])) ((w5.setCell ⟨R, 0, none⟩ v1).setCell ⟨R, 1, none⟩ (.int .i64 st'.e)) := by
 have hR := h.hR
 have hne := h.ne' hon.at_
 have hl0 := h.low
 refine ⟨blk_put (blk_put (h.kept hon (Nat.le_of_lt hR) (Nat.le_refl _) h.res) 0 v1 rfl) 1 _ rfl, st', v1, rfl, hs, (ho.far (fun hh => by have := hne _ hh; omega) _ _).far (fun hh => by have := hne _ hh; omega) _ _, hl, ((h.on.trans hon).set (by omega) (Nat.le_of_lt hR) _ _).set (by omega) (Nat.le_of_lt hR) _ _⟩
theorem PgB.ret {st st' : St} (h : PgB B R o W wr sl0 sl st.out st.e) (hl : st.out.length ≤ 16384) (hs : SmE st st') :
  ((wr.setCell ⟨R, 0, none⟩ sl).setCell ⟨R, 1, none⟩ (.int .i64 st.e)).heap[R]? = some (.cells #[sl, .int .i64 st.e] 63 (0, 0)) ∧
   PEnds B sl0 W st' (.returned (.agg #[sl, .int .i64 st.e])) ((wr.setCell ⟨R, 0, none⟩ sl).setCell ⟨R, 1, none⟩ (.int .i64 st.e)) :=
 h.retP h.own (PgOn.refl _ _ _) hl hs
theorem PgB.boxg (h : PgB B R o W wr sl0 sl l e) (hg : wr.grownBy w5 sl.ownBlock) : w5.heap[W.heap.size]? = some (.cells #[sl, .int .i64 e] 63 (0, 0)) :=
 (hg.block _ (lt_of_block h.box) (h.out (Nat.le_refl _) (Nat.le_of_lt h.hR))).trans h.box
theorem Own.len {A : Option Addr} {n c : Nat} (h : Own B W (.slice A n c) l) : n = l.length := by
 obtain ⟨A', c', e⟩ := h.slice
 injection e
theorem wrap_next' (i n : Nat) (hi : i < n) (hn : n ≤ 9223372036854775807) : wrap64 ((i : Int) + 1) = ((i + 1 : Nat) : Int) := by unfold wrap64; omega
theorem putF_step {l : List UInt8} {u : UInt8} {r : List UInt8} (h : ¬ 16384 ≤ l.length) : SmE (putF false ⟨l, 0⟩ (u :: r)) (putF false ⟨l ++ [u], 0⟩ r) := by
 have e : putF false ⟨l, 0⟩ [u] = ⟨l ++ [u], 0⟩ := by
  unfold putF
  rw [if_neg (by simp), if_neg (by simp; omega)]
 have h1 := puts_once [[u], r] ⟨l, 0⟩ (by show l.length ≤ _; omega)
 rw [putsF_cons, e] at h1
 have h2 : putsF false ⟨l ++ [u], 0⟩ [r] = putF false ⟨l ++ [u], 0⟩ r := rfl
 rw [h2] at h1
 simpa using h1.symm
theorem putF_full {l : List UInt8} {u : UInt8} {r : List UInt8} (h : 16384 ≤ l.length) : putF false ⟨l, 0⟩ (u :: r) = ⟨l, 1⟩ := by
 unfold putF
 rw [if_neg (by simp), if_pos ⟨rfl, by simp; omega⟩]
theorem putF_none {l : List UInt8} {e : Nat} (h : l.length ≤ 16384) : putF false ⟨l, e⟩ [] = ⟨l, e⟩ := by
 unfold putF
 by_cases he : e = 0
 ·subst he
  rw [if_neg (by simp), if_neg (by simp; omega)]
  simp
 ·rw [if_pos he]
theorem drop_atP (s : ByteArray) (i : Nat) (h : i < s.size) : ∃ u : UInt8, s.data.toList.drop i = u :: s.data.toList.drop (i + 1) ∧ ∀ h : i < s.size, s[i]'h = u := by
 have hl : i < s.data.toList.length := by rw [size_data]; exact h
 exact ⟨s.data.toList[i], List.drop_eq_getElem_cons hl, fun _ => rfl⟩
set_option maxRecDepth 1000000 in
set_option maxHeartbeats 4000000 in
theorem rput_calls (B : Nat) (st : St) (sl : Value) (s : ByteArray) (W : World) (hs : s.size ≤ 4611686018427387904) (ho : Own B W sl st.out) (hl : st.out.length ≤ 16384) :
  Calls Tryd.prog 56 #[.agg #[sl, .int .i64 st.e], .string s] W (PEnds B sl W (putF false st s.data.toList)) := by
 have HP0 := am (PgB.start st.e ho)
 obtain ⟨A0, c0, e0⟩ := ho.slice
 have HL0 := am hl
 have HE0 := am (SmE.refl (putF false ⟨st.out, st.e⟩ (s.data.toList.drop 0)))
 have HST : (⟨st.out, st.e⟩ : St) = st := by cases st; rfl
 rw [List.drop_zero, HST] at HE0
 subst e0
 clear ho hl HST
 generalize htg : putF false st s.data.toList = tg at *
 have HTG := am htg
 clear htg
 go_enter Tryd.func56, Tryd.ntmps56
 go_wp2
 go_loopg [5] (s.size + 1) (fun g v5 wr => ∃ (i e : Nat) (l : List UInt8) (A : Option Addr) (n c : Nat), v5 = .int .i64 (i : Int) ∧ i ≤ s.size ∧ s.size + 1 ≤ i + g ∧ n = l.length ∧ n ≤ 16384 ∧ Aside0 (PgB B (W.heap.size + 1) none W wr (.slice A0 st.out.length c0) (.slice A n c) l e) ∧ Aside0 (SmE (putF false ⟨l, e⟩ (s.data.toList.drop i)) tg))
 case atStart =>
  exact ⟨0, st.e, st.out, A0, _, c0, rfl, Nat.zero_le _, by omega, rfl, HL0.out, HP0, ⟨.inl HTG.out⟩⟩
 case round =>
  obtain ⟨i, e, l, A, n, c, rfl, hi, hg, rfl, hn, HP, HE⟩ := hrel
  clear HP0 HE0 HL0
  obtain ⟨z0, z1, z2, z3⟩ := pg_cells HP.out.box
  obtain ⟨y0, y1, y2, y3⟩ := pg_cells HP.out.res
  by_cases hlt : i < s.size
  ·obtain ⟨u, hu, hx⟩ := drop_atP s i hlt
   have p1 : (0 ≤ (i : Int)) = True := eq_true (by omega)
   have p2 : ((i : Int) < (s.size : Int)) = True := eq_true (by omega)
   by_cases he : e = 0
   ·subst he
    by_cases hf : 16384 ≤ l.length
    ·have HO := am (show SmE ⟨l, 1⟩ tg from by have := HE.out; rw [hu, putF_full hf] at this; exact this)
     have d1 : decide ((16384 : Int) ≤ (l.length : Int)) = true := decide_eq_true (by omega)
     have d2 : decide (16384 ≤ l.length) = true := decide_eq_true hf
     have HP1 := am (HP.out.setE 1 1 rfl)
     have HR := am (PgB.ret (st := ⟨l, 1⟩) HP1.out hn HO.out)
     clear hf hu
     go_wp2
     refine bodyPost_ret (results_cell_row rfl _ _ (W.heap.size + 1) 63 _ (0, 0) _ rfl HR.out.1 Tryd.underlying63 rfl (by kernel_rfl)) rfl ?_
     exact HR.out.2
    ·have HO := am (show SmE (putF false ⟨l ++ [u], 0⟩ (s.data.toList.drop (i + 1))) tg from by have := HE.out; rw [hu] at this; exact (putF_step hf).symm.trans this)
     have d1 : decide ((16384 : Int) ≤ (l.length : Int)) = false := decide_eq_false (by omega)
     have d2 : decide (16384 ≤ l.length) = false := decide_eq_false hf
     have HLT := am (show l.length + 1 ≤ 16384 by omega)
     have HWN := am (wrap_next' i s.size hlt (by omega))
     cases gk with
     | zero => omega
     | succ g =>
      clear hf hu
      --XK86REGION
      go_wp2
      refine start_ (n := 9) (S := fun w' => w'.cell? ⟨W.heap.size, 0, none⟩ = some (.slice A l.length c)) (ds := [8]) #[false, false, false, false, false, false, false, false, false] (by kernel_rfl) rfl rfl ((blk_cell HP.out.box 0).trans rfl) (fun hHeld => ?_)
      have HP2 := am (HP.out.below (show Below wr.heap.size wr wr.drew from pw_below_drewN (Below.refl _ _) 1))
      clear z0 z1 z2 z3 y0 y1 y2 y3 HP
      generalize wr.drew = w2 at HP2 hHeld ⊢
      refine pure_ (i := 0) (N := some 23) (v := ?_) (a' := ?_) #[true, false, false, false, false, false, false, false, false] rfl rfl (by kernel_rfl) (fun _ _ _ h => h) (Or.inl ⟨by rfl, ?_⟩) ?_ ?_
      rotate_left
      ·intro w'
       go_simp
       with_reducible rfl
      rotate_left
      ·simp only [Act.put, sAx, sZx, sSx, i64_w, i32_w]
       rfl
      refine pure_ (i := 2) (N := some 25) (v := ?_) (a' := ?_) #[true, false, true, false, false, false, false, false, false] rfl rfl (by kernel_rfl) (fun _ _ _ h => h) (Or.inl ⟨by rfl, ?_⟩) ?_ ?_
      rotate_left
      ·intro w'
       go_simp
       with_reducible rfl
      rotate_left
      ·simp only [Act.put, sAx, sZx, sSx, i64_w, i32_w]
       rfl
      refine pure_ (i := 3) (N := some 26) (v := ?_) (a' := ?_) #[true, false, true, true, false, false, false, false, false] rfl rfl (by kernel_rfl) (fun _ _ _ h => h) (Or.inl ⟨by rfl, ?_⟩) ?_ ?_
      rotate_left
      ·intro w'
       go_simp
       with_reducible rfl
      rotate_left
      ·simp only [Act.put, sAx, sZx, sSx, i64_w, i32_w]
       rfl
      refine take_ (i := 1) (N := some 24) (v := ?_) (a' := ?_) #[true, true, true, true, false, false, false, false, false] rfl rfl (by kernel_rfl) (fun _ _ _ h => h) (Or.inl ⟨by rfl, ?_⟩) hHeld ?_ ?_
      rotate_left
      ·rintro w' s0
       go_simp
       with_reducible rfl
      rotate_left
      ·simp only [Act.put, sAx, sZx, sSx, i64_w, i32_w]
       rfl
      refine take_ (i := 4) (N := some 27) (v := ?_) (a' := ?_) #[true, true, true, true, true, false, false, false, false] rfl rfl (by kernel_rfl) (fun _ _ _ h => h) (Or.inl ⟨by rfl, ?_⟩) hHeld ?_ ?_
      rotate_left
      ·rintro w' s0
       go_simp
       with_reducible rfl
      rotate_left
      ·simp only [Act.put, sAx, sZx, sSx, i64_w, i32_w]
       rfl
      refine one_ (i := 5) (N := some 28) #[true, true, true, true, true, true, false, false, false] rfl rfl (by kernel_rfl) (by decide) (fun K hK => ?_)
      refine value_ (w1 := ?_) (v := ?_) (by rfl) rfl ?_ ?_
      rotate_left 2
      ·go_simp
       constructor
       ·rfl
       ·rfl
      refine hK.out _ _ ((blk_cell (blk_alloc HP2.out.box _) 0).trans rfl) (fun hHeld => ?_)
      clear hK K
      refine norm_ (a' := ?_) ?_ ?_
      rotate_left
      ·show Act.put _ (some 28) _ = _
       simp only [Act.put, sAx, sZx, sSx, i64_w, i32_w]
       rfl
      refine one_ (i := 6) (N := some 29) #[true, true, true, true, true, true, true, false, false] rfl rfl (by kernel_rfl) (by decide) (fun K hK => ?_)
      refine Own.oneStep (B := B) (W := w2) (by rfl) (.tmp 24) (.tmp 28) 58 rfl Tryd.underlying58 info5 (.slice A l.length c) l u rfl rfl HP2.out.own (by omega) ?_
      intro v1 w5 ho hgr hat
      obtain ⟨A', n', c', rfl⟩ : ∃ A n c, v1 = Value.slice A n c := by obtain ⟨A, c, h⟩ := ho.slice; exact ⟨_, _, _, h⟩
      have HN5 := am (Own.len ho)
      have HP5 := am (HP2.out.app ho hgr hat)
      obtain ⟨x0, x1, x2, x3⟩ := pg_cells (HP2.out.boxg hgr)
      clear ho hgr hat
      refine hK.out _ _ x0 (fun hHeld => ?_)
      clear hK K
      refine norm_ (a' := ?_) ?_ ?_
      rotate_left
      ·show Act.put _ (some 29) _ = _
       simp only [Act.put, sAx, sZx, sSx, i64_w, i32_w]
       rfl
      refine pure_ (i := 7) (N := some 30) (v := ?_) (a' := ?_) #[true, true, true, true, true, true, true, true, false] rfl rfl (by kernel_rfl) (fun _ _ _ h => h) (Or.inl ⟨by rfl, ?_⟩) ?_ ?_
      rotate_left
      ·intro w'
       go_simp
       with_reducible rfl
      rotate_left
      ·simp only [Act.put, sAx, sZx, sSx, i64_w, i32_w]
       rfl
      refine last_ (i := 8) (N := none) #[true, true, true, true, true, true, true, true, true] rfl rfl (by kernel_rfl) (by decide) (fun K hK => ?_)
      refine skip_ (w1 := ?_) (by rfl) rfl ?_ ?_
      rotate_left
      ·go_simp
       rfl
      refine hK.out _ _ ?_
      clear hK K
      refine done_ (by kernel_rfl) ?_
      clear hHeld x0 x1 x2 x3 HP2
      generalize w5.setCell _ _ = w7 at HP5 ⊢
      go_wp2
      go_roundg g
      case measure => omega
      case rel => exact ⟨i + 1, 0, l ++ [u], A', n', c', (by first | exact congrArg (Value.int .i64) HWN.out | exact congrArg (Value.int .i64) (show (i : Int) + 1 = ((i + 1 : Nat) : Int) by omega)), by omega, by omega, HN5.out, by rw [HN5.out, List.length_append, List.length_singleton]; exact HLT.out, HP5, HO⟩
   ·have HO := am (show SmE ⟨l, e⟩ tg from by have := HE.out; rwa [putF_bad _ _ _ he] at this)
    have e0 : ((e : Int) == 0) = false := beq_eq_false_iff_ne.mpr (by omega)
    have e1 : (e == 0) = false := beq_eq_false_iff_ne.mpr he
    have HR := am (PgB.ret (st := ⟨l, e⟩) HP.out hn HO.out)
    clear he hu
    go_wp2
    refine bodyPost_ret (results_cell_row rfl _ _ (W.heap.size + 1) 63 _ (0, 0) _ rfl HR.out.1 Tryd.underlying63 rfl (by kernel_rfl)) rfl ?_
    exact HR.out.2
  ·have p2 : ((i : Int) < (s.size : Int)) = False := eq_false (by omega)
   have HO := am (show SmE ⟨l, e⟩ tg from by have := HE.out; rwa [List.drop_eq_nil_of_le (by rw [size_data]; omega), putF_none hn] at this)
   have HR := am (PgB.ret (st := ⟨l, e⟩) HP.out hn HO.out)
   go_wp2
   refine bodyPost_ret (results_cell_row rfl _ _ (W.heap.size + 1) 63 _ (0, 0) _ rfl HR.out.1 Tryd.underlying63 rfl (by kernel_rfl)) rfl ?_
   exact HR.out.2
end Go.Proofs.YtaalajhmfdcalaaDoor.X
