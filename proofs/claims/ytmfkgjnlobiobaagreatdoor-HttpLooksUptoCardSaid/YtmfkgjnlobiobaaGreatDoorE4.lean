/- 'parseHead(raw, from)' of package http. -/
import Derived.Test.YtmfkgjnlobiobaaGreatDoorE4b
import Derived.OwnWalkIn
namespace Go.Proofs.YtmfkgjnlobiobaaGreatDoor.X
open Go.RowKit Go.Shelf Go.Proofs.YtmfkgjnlobiobaaGreatDoorW.PrintWords
attribute [local go_sem] Oper.semAt_some
/-! ### the worlds -/
def cellsP (l : List (List UInt8 × List UInt8)) : List Value := l.flatMap fun f => [.string (bs f.1), .string (bs f.2)]
structure HSok (raw : ByteArray) (s : HS) : Prop where
  many : s.fields.length ≤ 64
  len : s.length < 1000000000
  beh : s.behind ≤ raw.size + 2
structure HW (w : World) (raw : ByteArray) (s : HS) (W : World) : Prop where
  below : Below w.heap.size w W
  ok : HSok raw s
  b0 : W.heap[w.heap.size]? = some (.cells #[.slice none 0 0, .int .i64 0, .int .i64 0] 73 (0, 0))
  b1 : W.heap[w.heap.size + 1]? = some (.cells #[.int .i64 0] 25 (0, 0))
  b2 : W.heap[w.heap.size + 2]? = some (.cells #[.int .i64 0] 3 (0, 0))
  b3 : ∃ v, W.heap[w.heap.size + 3]? = some (.cells #[v, .int .i64 s.length, .int .i64 s.behind] 73 (0, 0)) ∧ W.ownsRow w.heap.size 80 2 v s.fields.length (cellsP s.fields)
  b4 : W.heap[w.heap.size + 4]? = some (.cells #[.bool s.sized] 4 (0, 0))
  b5 : W.heap[w.heap.size + 5]? = some (.cells #[.string raw] 9 (0, 0))
  b6 : ∃ x, W.heap[w.heap.size + 6]? = some (.cells #[x] 3 (0, 0))
structure RW (w : World) (e at_ : Nat) (W : World) : Prop where
  below : Below w.heap.size w W
  b0 : W.heap[w.heap.size]? = some (.cells #[.slice none 0 0, .int .i64 0, .int .i64 0] 73 (0, 0))
  b1 : W.heap[w.heap.size + 1]? = some (.cells #[.int .i64 e] 25 (0, 0))
  b2 : W.heap[w.heap.size + 2]? = some (.cells #[.int .i64 at_] 3 (0, 0))
structure Rnd (B : Nat) (W W' : World) : Prop where
  ko : KeepsOthers W W'
  k1 : W'.heap[B + 5]? = W.heap[B + 5]?
  k2 : W'.heap[B + 6]? = W.heap[B + 6]?
  be : Below B W W'
theorem own_cells {w w1 : World} {base : Nat} {e : TypeId} {size n : Nat} {v : Value} {xs : List Value} (h : w.ownsRow base e size v n xs) (hm : ∀ (k : Nat) (c : Array Value) (t : TypeId) (f : Nat × Nat), w.heap[k]? = some (Obj.cells c t f) → w1.heap[k]? = some (Obj.cells c t f)) : w1.ownsRow base e size v n xs := by
  obtain ⟨h1, h2⟩ := h
  refine ⟨h1, ?_⟩
  rcases h2 with h2 | ⟨g, cap, cur, rfl, hg, hh, r⟩
  · exact .inl h2
  · exact .inr ⟨g, cap, cur, rfl, hg, hm _ _ _ _ hh, r⟩
theorem HW.step {w W W' : World} {raw : ByteArray} {s : HS} (h : HW w raw s W) (hb : Below w.heap.size w W') (hm : ∀ (k : Nat) (c : Array Value) (t : TypeId) (f : Nat × Nat), W.heap[k]? = some (Obj.cells c t f) → W'.heap[k]? = some (Obj.cells c t f)) : HW w raw s W' := by
  obtain ⟨v, h3, ho⟩ := h.b3
  obtain ⟨x, h6⟩ := h.b6
  exact ⟨hb, h.ok, hm _ _ _ _ h.b0, hm _ _ _ _ h.b1, hm _ _ _ _ h.b2, ⟨v, hm _ _ _ _ h3, own_cells ho hm⟩, hm _ _ _ _ h.b4, hm _ _ _ _ h.b5, ⟨x, hm _ _ _ _ h6⟩⟩
theorem RW.step {w W W' : World} {e a : Nat} (h : RW w e a W) (hb : Below w.heap.size w W') (hm : ∀ (k : Nat) (c : Array Value) (t : TypeId) (f : Nat × Nat), W.heap[k]? = some (Obj.cells c t f) → W'.heap[k]? = some (Obj.cells c t f)) : RW w e a W' :=
  ⟨hb, hm _ _ _ _ h.b0, hm _ _ _ _ h.b1, hm _ _ _ _ h.b2⟩
theorem cells_grown {W W' : World} {row : Option Nat} (hg : W.grownBy W' row) (hrow : ∀ r, row = some r → ∃ o : Obj, W.heap[r]? = some o ∧ o.isCells = false) (k : Nat) (c : Array Value) (t : TypeId) (f : Nat × Nat) (h : W.heap[k]? = some (Obj.cells c t f)) : W'.heap[k]? = some (Obj.cells c t f) :=
  (grownBy_keeps_cells hg hrow h rfl).trans h
theorem cells_below {W W' : World} (hb : Below W.heap.size W W') (k : Nat) (c : Array Value) (t : TypeId) (f : Nat × Nat) (h : W.heap[k]? = some (Obj.cells c t f)) : W'.heap[k]? = some (Obj.cells c t f) :=
  (hb.block k (lt_of_block h)).trans h
theorem blk_free {w : World} {b : Nat} {c : Array Value} {t : TypeId} (h : w.heap[b]? = some (.cells c t (0, 0))) (k : Nat) : w.frozen? ⟨b, k, none⟩ = false := by simp [World.frozen?, h]
theorem blk_set {w : World} {b : Nat} {c : Array Value} {t : TypeId} {f : Nat × Nat} (k : Nat) (v : Value) (h : w.heap[b]? = some (.cells c t f)) : (w.setCell ⟨b, k, none⟩ v).heap[b]? = some (.cells (c.setIfInBounds k v) t f) := by
  obtain ⟨hlt, he⟩ := Array.getElem?_eq_some_iff.1 h
  show (w.heap.modify b _)[b]? = _
  rw [Array.getElem?_eq_getElem (by rw [Array.size_modify]; exact hlt), Array.getElem_modify_self, he]
  rfl
theorem own_set {W : World} {base : Nat} {e : TypeId} {size n : Nat} {v : Value} {xs : List Value} (h : W.ownsRow base e size v n xs) {b : Nat} {c : Array Value} {t : TypeId} {f : Nat × Nat} (hb : W.heap[b]? = some (.cells c t f)) (ht : t ≠ e) (k : Nat) (u : Value) : (W.setCell ⟨b, k, none⟩ u).ownsRow base e size v n xs :=
  own_move h fun g hg => Below.heap_setCell _ _ _ _ (by
    obtain ⟨cells, hc⟩ := own_typed h g hg
    rintro rfl
    rw [hb] at hc
    injection hc with hc
    injection hc with _ hc
    exact ht hc)
theorem Rnd.refl (B : Nat) (W : World) : Rnd B W W := ⟨KeepsOthers.refl W, rfl, rfl, Below.refl _ _⟩
theorem Rnd.of_below {B : Nat} {W W1 W' : World} (h : Rnd B W W1) (hb : Below W1.heap.size W1 W') (hB : B + 7 ≤ W.heap.size) : Rnd B W W' := by
  have hs := h.be.size
  refine ⟨h.ko.trans ⟨hb.size, fun k o hk _ => (hb.block k (lt_of_block hk)).trans hk⟩, ?_, ?_, h.be.trans (hb.mono (by omega))⟩
  · exact (hb.block _ (by omega)).trans h.k1
  · exact (hb.block _ (by omega)).trans h.k2
theorem Rnd.set {B : Nat} {W W1 : World} (h : Rnd B W W1) (a : Addr) (v : Value) (h1 : B ≤ a.block) (h2 : a.block < B + 5) : Rnd B W (W1.setCell a v) :=
  ⟨h.ko.trans (KeepsOthers.setCell _ _ _), (Below.heap_setCell _ _ _ _ (by omega)).trans h.k1, (Below.heap_setCell _ _ _ _ (by omega)).trans h.k2, h.be.setCell h1 _⟩
/-! ### the law of the loop, the assignment given by its places -/
def putsT (a : Act) (qs : List (Nat × Nat)) (x : Array Value) : Act := { tmps := qs.foldl (fun t p => t.setIfInBounds p.1 (x.getD p.2 undef)) a.tmps, defers := [] }
/-! ### 'lines(raw, from)' -/
theorem lines_mk (raw : ByteArray) (f : Int) (w : World) : Calls Tryz.prog 60 #[.string raw, .int .i64 f] w fun e w' =>
    e = .returned (.func (.func 83) #[] #[.pointer (some ⟨w.heap.size, 0, none⟩), .pointer (some ⟨w.heap.size + 1, 0, none⟩)]) ∧ w' = (w.alloc (.cells #[.string raw] 9)).alloc (.cells #[.int .i64 f] 3) := by
  go_enter Tryz.func60, Tryz.ntmps60
  go_wp2
  go_ret
  exact ⟨rfl, rfl⟩
theorem HW.start (raw : ByteArray) (f : Int) (w w1 : World) (h : w1 = (((((((w.alloc (.cells #[.slice none 0 0, .int .i64 0, .int .i64 0] 73)).alloc (.cells #[.int .i64 0] 25)).alloc (.cells #[.int .i64 0] 3)).alloc
    (.cells #[.slice none 0 0, .int .i64 0, .int .i64 0] 73)).alloc (.cells #[.bool false] 4)).alloc (.cells #[.string raw] 9)).alloc (.cells #[.int .i64 f] 3))) :
    HW w raw .start w1 ∧ w1.heap[w.heap.size + 5]? = some (.cells #[.string raw] 9 (0, 0)) ∧ w1.heap[w.heap.size + 6]? = some (.cells #[.int .i64 f] 3 (0, 0)) ∧ w1.heap.size = w.heap.size + 7 := by
  have hs : w1.heap.size = w.heap.size + 7 := by rw [h]; simp
  have g : ∀ k, k < 7 → w1.heap[w.heap.size + k]? = [Obj.cells #[.slice none 0 0, .int .i64 0, .int .i64 0] 73 (0, 0), .cells #[.int .i64 0] 25 (0, 0), .cells #[.int .i64 0] 3 (0, 0), .cells #[.slice none 0 0, .int .i64 0, .int .i64 0] 73 (0, 0), .cells #[.bool false] 4 (0, 0), .cells #[.string raw] 9 (0, 0), .cells #[.int .i64 f] 3 (0, 0)][k]? := by
    intro k hk
    rw [h]
    simp only [World.alloc, Array.getElem?_push, Array.size_push]
    match k, hk with
    | 0, _ => simp; repeat rw [if_neg (by omega)]
    | 1, _ => simp; repeat rw [if_neg (by omega)]
    | 2, _ => simp; repeat rw [if_neg (by omega)]
    | 3, _ => simp; repeat rw [if_neg (by omega)]
    | 4, _ => simp; repeat rw [if_neg (by omega)]
    | 5, _ => simp; repeat rw [if_neg (by omega)]
    | 6, _ => simp
  refine ⟨⟨?_, ⟨by simp [HS.start], by simp [HS.start], by simp [HS.start]⟩, g 0 (by omega), g 1 (by omega), g 2 (by omega), ⟨_, g 3 (by omega), ⟨rfl, .inl ⟨rfl, rfl⟩⟩⟩, g 4 (by omega), g 5 (by omega), ⟨_, g 6 (by omega)⟩⟩, g 5 (by omega), g 6 (by omega), hs⟩
  rw [h]
  repeat (refine Below.alloc ?_ (by first | exact Nat.le_refl _ | (simp only [World.size_alloc]; omega)) _)
  exact Below.refl _ _
def IH (w : World) (raw : ByteArray) (ls : List (Nat × List UInt8)) (i : Nat) (W : World) : Prop := ∃ s, HW w raw s W ∧ runH .start ls = runH s (ls.drop i)
def IxH (w : World) (raw : ByteArray) (ls : List (Nat × List UInt8)) (c : Code) (_ : Nat) (W : World) : Prop :=
  (c = .ret ∧ ∃ e a, RW w e a W ∧ runH .start ls = .bad e a) ∨ (c = .exit 0 ∧ ∃ s, HW w raw s W ∧ runH .start ls = .stop s)
theorem own_below {w W W' : World} {row : Option Nat} {B : Nat} (h : Below w.heap.size w W) (hB : w.heap.size ≤ B) (hg : W.grownBy W' row) (hrow : ∀ r, row = some r → B ≤ r ∧ ∃ o : Obj, W.heap[r]? = some o ∧ o.isCells = false) : Below w.heap.size w W' :=
  h.grown hg h.size (fun k hk => Nat.le_trans hB (hrow k hk).1)
theorem IH_own (w : World) (raw : ByteArray) (ls : List (Nat × List UInt8)) (B : Nat) (hB : w.heap.size ≤ B) : OwnFrom B (IH w raw ls) := by
  rintro i W W' row ⟨s, h, hr⟩ hg hrow
  exact ⟨s, h.step (own_below h.below hB hg hrow) (cells_grown hg fun r hr => (hrow r hr).2), hr⟩
theorem IxH_own (w : World) (raw : ByteArray) (ls : List (Nat × List UInt8)) (c : Code) (B : Nat) (hB : w.heap.size ≤ B) : OwnFrom B (IxH w raw ls c) := by
  rintro i W W' row h hg hrow
  rcases h with ⟨hc, e, a, h, hr⟩ | ⟨hc, s, h, hr⟩
  · exact .inl ⟨hc, e, a, h.step (own_below h.below hB hg hrow) (cells_grown hg fun r hr => (hrow r hr).2), hr⟩
  · exact .inr ⟨hc, s, h.step (own_below h.below hB hg hrow) (cells_grown hg fun r hr => (hrow r hr).2), hr⟩
theorem HW.drewN {w W : World} {raw : ByteArray} {s : HS} (h : HW w raw s W) (n : Nat) : HW w raw s (W.drewN n) :=
  h.step (below_drewN h.below n) (fun k c t f hk => by rw [heap_drewN]; exact hk)
theorem RW.drewN {w W : World} {e a : Nat} (h : RW w e a W) (n : Nat) : RW w e a (W.drewN n) :=
  h.step (below_drewN h.below n) (fun k c t f hk => by rw [heap_drewN]; exact hk)
theorem HW.set6 {w : World} {raw : ByteArray} {s : HS} {W : World} (h : HW w raw s W) (u : Value) : HW w raw s (W.setCell ⟨w.heap.size + 6, 0, none⟩ u) := by
  obtain ⟨v, h3, hv⟩ := h.b3
  obtain ⟨x, h6⟩ := h.b6
  refine ⟨h.below.setCell (by show w.heap.size ≤ w.heap.size + 6; omega) _, h.ok, ?_, ?_, ?_, ⟨v, ?_, own_set hv h6 (by decide) _ _⟩, ?_, ?_, ⟨u, blk_set _ _ h6⟩⟩
  · rw [Below.heap_setCell _ _ _ _ (by show w.heap.size ≠ w.heap.size + 6; omega)]; exact h.b0
  · rw [Below.heap_setCell _ _ _ _ (by show w.heap.size + 1 ≠ w.heap.size + 6; omega)]; exact h.b1
  · rw [Below.heap_setCell _ _ _ _ (by show w.heap.size + 2 ≠ w.heap.size + 6; omega)]; exact h.b2
  · rw [Below.heap_setCell _ _ _ _ (by show w.heap.size + 3 ≠ w.heap.size + 6; omega)]; exact h3
  · rw [Below.heap_setCell _ _ _ _ (by show w.heap.size + 4 ≠ w.heap.size + 6; omega)]; exact h.b4
  · rw [Below.heap_setCell _ _ _ _ (by show w.heap.size + 5 ≠ w.heap.size + 6; omega)]; exact h.b5
theorem RW.set6 {w : World} {e a : Nat} {W : World} (h : RW w e a W) (u : Value) : RW w e a (W.setCell ⟨w.heap.size + 6, 0, none⟩ u) := by
  refine ⟨h.below.setCell (by show w.heap.size ≤ w.heap.size + 6; omega) _, ?_, ?_, ?_⟩
  · rw [Below.heap_setCell _ _ _ _ (by show w.heap.size ≠ w.heap.size + 6; omega)]; exact h.b0
  · rw [Below.heap_setCell _ _ _ _ (by show w.heap.size + 1 ≠ w.heap.size + 6; omega)]; exact h.b1
  · rw [Below.heap_setCell _ _ _ _ (by show w.heap.size + 2 ≠ w.heap.size + 6; omega)]; exact h.b2
theorem IH_stable (w : World) (raw : ByteArray) (ls : List (Nat × List UInt8)) : Stable (w.heap.size + 6) (IH w raw ls) :=
  ⟨fun _ _ n ⟨s, h, hr⟩ => ⟨s, h.drewN n, hr⟩, fun _ _ v ⟨s, h, hr⟩ => ⟨s, h.set6 v, hr⟩⟩
theorem IxH_stable (w : World) (raw : ByteArray) (ls : List (Nat × List UInt8)) (c : Code) : Stable (w.heap.size + 6) (IxH w raw ls c) := by
  refine ⟨fun _ _ n h => ?_, fun _ _ v h => ?_⟩
  · rcases h with ⟨hc, e, a, h, hr⟩ | ⟨hc, s, h, hr⟩
    · exact .inl ⟨hc, e, a, h.drewN n, hr⟩
    · exact .inr ⟨hc, s, h.drewN n, hr⟩
  · rcases h with ⟨hc, e, a, h, hr⟩ | ⟨hc, s, h, hr⟩
    · exact .inl ⟨hc, e, a, h.set6 v, hr⟩
    · exact .inr ⟨hc, s, h.set6 v, hr⟩
theorem runH_bad {s : HS} {x : Nat × List UInt8} {e a : Nat} (r : List (Nat × List UInt8)) (h : stepH s x = .bad e a) : runH s (x :: r) = .bad e a := by simp [runH, h]
theorem runH_go {s s' : HS} {x : Nat × List UInt8} (r : List (Nat × List UInt8)) (h : stepH s x = .go s') : runH s (x :: r) = runH s' r := by simp [runH, h]
theorem runH_stop {s s' : HS} {x : Nat × List UInt8} (r : List (Nat × List UInt8)) (h : stepH s x = .stop s') : runH s (x :: r) = .stop s' := by simp [runH, h]
theorem linesL_in : ∀ (k : Nat) (l : List UInt8) (pos : Nat) (x : Nat × List UInt8), x ∈ linesL k l pos → x.2.length ≤ l.length + 1 ∧ x.1 ≤ pos + l.length
  | 0, _, _, _, h => by simp [linesL] at h
  | k + 1, l, pos, x, h => by
    rw [linesL] at h
    split at h
    · simp only [List.mem_singleton] at h
      subst h
      exact ⟨by simp, by simp⟩
    · rcases List.mem_cons.1 h with rfl | h
      · exact ⟨by simp only [List.length_take]; omega, by simp⟩
      · have hr := Lib.index_room l crlf
        have hc2 : crlf.length = 2 := rfl
        rw [hc2] at hr
        have := linesL_in k _ _ x h
        rw [List.length_drop] at this
        omega
def R5 (W : World) (N : Nat) (e a : Nat) : World :=
  ((((W.setCell ⟨N, 0, none⟩ (.slice none 0 0)).setCell ⟨N, 1, none⟩ (.int .i64 0)).setCell ⟨N, 2, none⟩ (.int .i64 0)).setCell ⟨N + 1, 0, none⟩ (.int .i64 e)).setCell ⟨N + 2, 0, none⟩ (.int .i64 a)
theorem far_set (W : World) (b j : Nat) (v : Value) (k : Nat) (h : k ≠ b) : (W.setCell ⟨b, j, none⟩ v).heap[k]? = W.heap[k]? := Below.heap_setCell W ⟨b, j, none⟩ v k h
theorem RW.make {w : World} {raw : ByteArray} {s : HS} {W : World} (h : HW w raw s W) (e a : Nat) : RW w e a (R5 W w.heap.size e a) := by
  obtain ⟨N, hN⟩ : ∃ N, N = w.heap.size := ⟨_, rfl⟩
  have g0 := h.b0
  have g1 := h.b1
  have g2 := h.b2
  have gb := h.below
  rw [← hN] at g0 g1 g2 gb
  have k0 := blk_set 2 (.int .i64 0) (blk_set 1 (.int .i64 0) (blk_set 0 (.slice none 0 0) g0))
  have k1 := blk_set 0 (.int .i64 e) ((far_set _ N 2 (.int .i64 0) (N + 1) (by omega)).trans ((far_set _ N 1 (.int .i64 0) (N + 1) (by omega)).trans ((far_set W N 0 (.slice none 0 0) (N + 1) (by omega)).trans g1)))
  have k2 := blk_set 0 (.int .i64 a) ((far_set _ (N + 1) 0 (.int .i64 e) (N + 2) (by omega)).trans ((far_set _ N 2 (.int .i64 0) (N + 2) (by omega)).trans ((far_set _ N 1 (.int .i64 0) (N + 2) (by omega)).trans ((far_set W N 0 (.slice none 0 0) (N + 2) (by omega)).trans g2))))
  have kb := ((((gb.setCell (p := ⟨N, 0, none⟩) (Nat.le_refl _) (.slice none 0 0)).setCell (p := ⟨N, 1, none⟩) (Nat.le_refl _) (.int .i64 0)).setCell (p := ⟨N, 2, none⟩) (Nat.le_refl _) (.int .i64 0)).setCell (p := ⟨N + 1, 0, none⟩) (Nat.le_add_right _ _) (.int .i64 e)).setCell (p := ⟨N + 2, 0, none⟩) (Nat.le_add_right _ _) (.int .i64 a)
  unfold R5
  rw [← hN]
  refine ⟨by rw [← hN]; exact kb, ?_, ?_, ?_⟩
  · rw [← hN]
    exact (far_set _ (N + 2) 0 (.int .i64 a) N (by omega)).trans ((far_set _ (N + 1) 0 (.int .i64 e) N (by omega)).trans k0)
  · rw [← hN]
    exact (far_set _ (N + 2) 0 (.int .i64 a) (N + 1) (by omega)).trans k1
  · rw [← hN]
    exact k2
theorem HW.set3 {w : World} {raw : ByteArray} {s s' : HS} {W : World} (h : HW w raw s W) (k : Nat) (u : Value) (hf : s'.fields = s.fields) (hz : s'.sized = s.sized) (ho : HSok raw s')
    (hc : ∀ v, (#[v, .int .i64 s.length, .int .i64 s.behind] : Array Value).setIfInBounds k u = #[v, .int .i64 s'.length, .int .i64 s'.behind]) : HW w raw s' (W.setCell ⟨w.heap.size + 3, k, none⟩ u) := by
  obtain ⟨v, h3, hv⟩ := h.b3
  refine ⟨h.below.setCell (by show w.heap.size ≤ w.heap.size + 3; omega) _, ho, ?_, ?_, ?_, ⟨v, ?_, ?_⟩, ?_, ?_, ?_⟩
  · rw [Below.heap_setCell _ _ _ _ (by show w.heap.size ≠ w.heap.size + 3; omega)]; exact h.b0
  · rw [Below.heap_setCell _ _ _ _ (by show w.heap.size + 1 ≠ w.heap.size + 3; omega)]; exact h.b1
  · rw [Below.heap_setCell _ _ _ _ (by show w.heap.size + 2 ≠ w.heap.size + 3; omega)]; exact h.b2
  · rw [blk_set _ _ h3, hc]
  · rw [hf]; exact own_set hv h3 (by decide) _ _
  · rw [Below.heap_setCell _ _ _ _ (by show w.heap.size + 4 ≠ w.heap.size + 3; omega), hz]; exact h.b4
  · rw [Below.heap_setCell _ _ _ _ (by show w.heap.size + 5 ≠ w.heap.size + 3; omega)]; exact h.b5
  · rw [Below.heap_setCell _ _ _ _ (by show w.heap.size + 6 ≠ w.heap.size + 3; omega)]; exact h.b6
theorem HW.set4 {w : World} {raw : ByteArray} {s : HS} {W : World} (h : HW w raw s W) (b : Bool) : HW w raw { s with sized := b } (W.setCell ⟨w.heap.size + 4, 0, none⟩ (.bool b)) := by
  obtain ⟨v, h3, hv⟩ := h.b3
  refine ⟨h.below.setCell (by show w.heap.size ≤ w.heap.size + 4; omega) _, ⟨h.ok.many, h.ok.len, h.ok.beh⟩, ?_, ?_, ?_, ⟨v, ?_, own_set hv h.b4 (by decide) _ _⟩, ?_, ?_, ?_⟩
  · rw [Below.heap_setCell _ _ _ _ (by show w.heap.size ≠ w.heap.size + 4; omega)]; exact h.b0
  · rw [Below.heap_setCell _ _ _ _ (by show w.heap.size + 1 ≠ w.heap.size + 4; omega)]; exact h.b1
  · rw [Below.heap_setCell _ _ _ _ (by show w.heap.size + 2 ≠ w.heap.size + 4; omega)]; exact h.b2
  · rw [Below.heap_setCell _ _ _ _ (by show w.heap.size + 3 ≠ w.heap.size + 4; omega)]; exact h3
  · exact blk_set _ _ h.b4
  · rw [Below.heap_setCell _ _ _ _ (by show w.heap.size + 5 ≠ w.heap.size + 4; omega)]; exact h.b5
  · rw [Below.heap_setCell _ _ _ _ (by show w.heap.size + 6 ≠ w.heap.size + 4; omega)]; exact h.b6
theorem HW.app {w : World} {raw : ByteArray} {s : HS} {W W2 : World} (h : HW w raw s W) {v v' : Value} (h3 : W.heap[w.heap.size + 3]? = some (.cells #[v, .int .i64 s.length, .int .i64 s.behind] 73 (0, 0)))
    (hv : W.ownsRow w.heap.size 80 2 v s.fields.length (cellsP s.fields)) (nm vl : List UInt8) (hv' : W2.ownsRow w.heap.size 80 2 v' (s.fields.length + 1) (cellsP s.fields ++ [.string (bs nm), .string (bs vl)]))
    (hg : W.grownBy W2 v.ownBlock) (hl : s.fields.length < 64) : HW w raw { s with fields := s.fields ++ [(nm, vl)] } (W2.setCell ⟨w.heap.size + 3, 0, none⟩ v') ∧ KeepsOthers W W2 ∧ W2.heap[w.heap.size + 5]? = W.heap[w.heap.size + 5]? ∧ W2.heap[w.heap.size + 6]? = W.heap[w.heap.size + 6]? ∧ Below w.heap.size W W2 := by
  have far : ∀ (k : Nat) (c : Array Value) (t : TypeId), W.heap[k]? = some (.cells c t (0, 0)) → t ≠ 80 → W2.heap[k]? = W.heap[k]? := by
    intro k c t hk ht
    refine hg.block k (lt_of_block hk) ?_
    intro e
    obtain ⟨cells, hc⟩ := own_typed hv k e.symm
    rw [hk] at hc
    injection hc with hc
    injection hc with _ hc
    exact ht hc
  obtain ⟨x, h6⟩ := h.b6
  have g3 := (far _ _ _ h3 (by decide)).trans h3
  refine ⟨⟨?_, ⟨by simp; omega, h.ok.len, h.ok.beh⟩, ?_, ?_, ?_, ⟨v', ?_, ?_⟩, ?_, ?_, ?_⟩, ?_, far _ _ _ h.b5 (by decide), far _ _ _ h6 (by decide), ?_⟩
  · exact (h.below.grown hg h.below.size (own_base hv)).setCell (by show w.heap.size ≤ w.heap.size + 3; omega) _
  · rw [Below.heap_setCell _ _ _ _ (by show w.heap.size ≠ w.heap.size + 3; omega)]; exact (far _ _ _ h.b0 (by decide)).trans h.b0
  · rw [Below.heap_setCell _ _ _ _ (by show w.heap.size + 1 ≠ w.heap.size + 3; omega)]; exact (far _ _ _ h.b1 (by decide)).trans h.b1
  · rw [Below.heap_setCell _ _ _ _ (by show w.heap.size + 2 ≠ w.heap.size + 3; omega)]; exact (far _ _ _ h.b2 (by decide)).trans h.b2
  · rw [blk_set _ _ g3]; rfl
  · have := own_set hv' g3 (by decide) 0 v'
    simpa [cellsP] using this
  · rw [Below.heap_setCell _ _ _ _ (by show w.heap.size + 4 ≠ w.heap.size + 3; omega)]; exact (far _ _ _ h.b4 (by decide)).trans h.b4
  · rw [Below.heap_setCell _ _ _ _ (by show w.heap.size + 5 ≠ w.heap.size + 3; omega)]; exact (far _ _ _ h.b5 (by decide)).trans h.b5
  · exact ⟨x, by rw [Below.heap_setCell _ _ _ _ (by show w.heap.size + 6 ≠ w.heap.size + 3; omega)]; exact (far _ _ _ h6 (by decide)).trans h6⟩
  · refine KeepsOthers.of_grownBy hg fun j o hj ho => ?_
    obtain ⟨cells, hc⟩ := own_typed hv j hj
    rw [hc] at ho
    cases ho
    rfl
  · exact (Below.refl _ _).grown hg h.below.size (own_base hv)
theorem HW.below_step {w W W' : World} {raw : ByteArray} {s : HS} (h : HW w raw s W) (hb : Below W.heap.size W W') : HW w raw s W' :=
  h.step (h.below.trans (hb.mono h.below.size)) (cells_below hb)
section
variable {w : World} {raw : ByteArray} {s : HS} {W W1 : World} {ls : List (Nat × List UInt8)} {i B : Nat} {x : Nat × List UInt8}
theorem post_ret (h1 : HW w raw s W1) (hr : Rnd w.heap.size W W1) (hrun : runH .start ls = runH s (x :: ls.drop (i + 1))) {e a : Nat} (hs : stepH s x = .bad e a) (act : Act) :
    postL B (KpL w.heap.size (w.heap.size + 5) (w.heap.size + 6)) (IH w raw ls) (IxH w raw ls) i W .ret act (R5 W1 w.heap.size e a) := by
  have h5 := (((((hr.set ⟨w.heap.size, 0, none⟩ (.slice none 0 0) (Nat.le_refl _) (by show w.heap.size < _; omega)).set ⟨w.heap.size, 1, none⟩ (.int .i64 0) (Nat.le_refl _) (by show w.heap.size < _; omega)).set ⟨w.heap.size, 2, none⟩ (.int .i64 0) (Nat.le_refl _) (by show w.heap.size < _; omega)).set
    ⟨w.heap.size + 1, 0, none⟩ (.int .i64 e) (by show _ ≤ w.heap.size + 1; omega) (by show w.heap.size + 1 < _; omega)).set ⟨w.heap.size + 2, 0, none⟩ (.int .i64 a) (by show _ ≤ w.heap.size + 2; omega) (by show w.heap.size + 2 < _; omega))
  exact ⟨h5.ko.from _, .inl ⟨rfl, e, a, RW.make h1 e a, hrun.trans (runH_bad _ hs)⟩⟩
theorem post_exit (h1 : HW w raw s W1) (hr : Rnd w.heap.size W W1) {s0 : HS} (hrun : runH .start ls = runH s0 (x :: ls.drop (i + 1))) (hs : stepH s0 x = .stop s) (act : Act) :
    postL B (KpL w.heap.size (w.heap.size + 5) (w.heap.size + 6)) (IH w raw ls) (IxH w raw ls) i W (.exit 0) act W1 :=
  ⟨hr.ko.from _, .inr ⟨rfl, s, h1, hrun.trans (runH_stop _ hs)⟩⟩
theorem post_go (h1 : HW w raw s W1) (hr : Rnd w.heap.size W W1) {s0 : HS} (hrun : runH .start ls = runH s0 (x :: ls.drop (i + 1))) (hs : stepH s0 x = .go s) (act : Act) :
    postL B (KpL w.heap.size (w.heap.size + 5) (w.heap.size + 6)) (IH w raw ls) (IxH w raw ls) i W .normal act W1 :=
  ⟨hr.ko.from _, ⟨hr.k1, hr.k2, hr.be⟩, s, h1, hrun.trans (runH_go _ hs)⟩
end
theorem own_slice {w : World} {base : Nat} {e : TypeId} {size n : Nat} {v : Value} {xs : List Value} (h : w.ownsRow base e size v n xs) : ∃ A c, v = .slice A n c := by
  rcases h.2 with ⟨rfl, rfl⟩ | ⟨g, cap, cur, rfl, _⟩
  · exact ⟨_, _, rfl⟩
  · exact ⟨_, _, rfl⟩
theorem two_cells (W : World) (a b : Value) (t : TypeId) (j : Nat) (u : Value) (h : ([a, b] : List Value)[j]? = some u) : (W.alloc (.cells #[a, b] t)).cell? ((⟨W.heap.size, 0, none⟩ : Addr).add j) = some u := by
  have hb : (W.alloc (.cells #[a, b] t)).heap[W.heap.size]? = some (.cells #[a, b] t (0, 0)) := World.alloc_heap_new W _
  match j, h with
  | 0, h => exact (blk_cell hb 0).trans h
  | 1, h => exact (blk_cell hb 1).trans h
  | j + 2, h => simp at h
theorem app_far {w W W2 : World} {v : Value} {n : Nat} {xs : List Value} (hv : W.ownsRow w.heap.size 80 2 v n xs) (hg : W.grownBy W2 v.ownBlock) {k : Nat} {c : Array Value} {t : TypeId} (hk : W.heap[k]? = some (.cells c t (0, 0))) (ht : t ≠ 80) : W2.heap[k]? = some (.cells c t (0, 0)) := by
  refine (hg.block k (lt_of_block hk) ?_).trans hk
  intro e
  obtain ⟨cells, hc⟩ := own_typed hv k e.symm
  rw [hk] at hc
  injection hc with hc
  injection hc with _ hc
  exact ht hc
theorem info_pair : ∃ i0, Tryz.prog.info? 80 = some i0 ∧ i0.zero = some (.agg #[.string ⟨#[]⟩, .string ⟨#[]⟩]) ∧ i0.size = 2 ∧ i0.bytes = 32 := by
  have h : (Tryz.prog.info? 80).map (fun i => (i.zero, i.size, i.bytes)) = some (some (.agg #[(.string ⟨#[]⟩), (.string ⟨#[]⟩)]), 2, 32) := by kernel_rfl
  obtain ⟨i, hi, he⟩ := Option.map_eq_some_iff.1 h
  simp only [Prod.mk.injEq] at he
  exact ⟨i, hi, he.1, he.2.1, he.2.2⟩
theorem results_head (tmps : Array Value) (W : World) (N : Nat) (h4 : tmps[4]? = some (.pointer (some ⟨N, 0, none⟩))) (h5 : tmps[5]? = some (.pointer (some ⟨N + 1, 0, none⟩))) (h6 : tmps[6]? = some (.pointer (some ⟨N + 2, 0, none⟩)))
    (v a b c d : Value) (c0 : W.cell? ⟨N, 0, none⟩ = some v) (c1 : W.cell? ⟨N, 1, none⟩ = some a) (c2 : W.cell? ⟨N, 2, none⟩ = some b) (c3 : W.cell? ⟨N + 1, 0, none⟩ = some c) (c4 : W.cell? ⟨N + 2, 0, none⟩ = some d) :
    (results Tryz.f39 tmps).run Tryz.prog W = .ok (.tuple #[.agg #[v, a, b], c, d]) W := by
  have hr : Tryz.f39.results = #[.cell 4 73, .cell 5 25, .cell 6 3] := rfl
  unfold results
  rw [hr]
  simp [h4, h5, h6, go_sem, c0, c1, c2, c3, c4]
def headPost (raw : ByteArray) (from_ : Nat) (w : World) (e : Ending) (w' : World) : Prop :=
  ∃ v0, e = .returned (.tuple #[.agg #[v0, .int .i64 (parseHeadF raw.data.toList from_).2.1, .int .i64 (parseHeadF raw.data.toList from_).2.2.1], .int .i64 (parseHeadF raw.data.toList from_).2.2.2.1, .int .i64 (parseHeadF raw.data.toList from_).2.2.2.2]) ∧
    w'.ownsRow w.heap.size 80 2 v0 (parseHeadF raw.data.toList from_).1.length (cellsP (parseHeadF raw.data.toList from_).1) ∧ Below w.heap.size w w'
def RG (W : World) (N : Nat) (v : Value) (a b e f : Int) : World :=
  ((((W.setCell ⟨N, 0, none⟩ v).setCell ⟨N, 1, none⟩ (.int .i64 a)).setCell ⟨N, 2, none⟩ (.int .i64 b)).setCell ⟨N + 1, 0, none⟩ (.int .i64 e)).setCell ⟨N + 2, 0, none⟩ (.int .i64 f)
theorem finish {raw : ByteArray} {from_ : Nat} {w : World} (W : World) (D : Nat) (s : HS) (h : HW w raw s W) (hD : W.heap[D]? = some (.deferred (some []))) (hlt : w.heap.size ≤ D) (v : Value) (l : List (List UInt8 × List UInt8)) (a b e f : Nat)
    (ho : W.ownsRow w.heap.size 80 2 v l.length (cellsP l)) (hF : parseHeadF raw.data.toList from_ = (l, a, b, e, f)) (x : Act) (hx : x.defers = [{ target := .collected D, args := #[] }])
    (h4 : x.tmps[4]? = some (.pointer (some ⟨w.heap.size, 0, none⟩))) (h5 : x.tmps[5]? = some (.pointer (some ⟨w.heap.size + 1, 0, none⟩))) (h6 : x.tmps[6]? = some (.pointer (some ⟨w.heap.size + 2, 0, none⟩))) :
    bodyPostM Fence.wide 8 Tryz.prog Tryz.f39 (headPost raw from_ w) .ret x (RG W w.heap.size v a b e f) := by
  obtain ⟨N, hN⟩ : ∃ N, N = w.heap.size := ⟨_, rfl⟩
  have g0 := h.b0
  have g1 := h.b1
  have g2 := h.b2
  have gb := h.below
  rw [← hN] at g0 g1 g2 gb ho hlt h4 h5 h6
  have k0 := blk_set 2 (.int .i64 b) (blk_set 1 (.int .i64 a) (blk_set 0 v g0))
  have k1 := blk_set 0 (.int .i64 e) ((far_set _ N 2 (.int .i64 b) (N + 1) (by omega)).trans ((far_set _ N 1 (.int .i64 a) (N + 1) (by omega)).trans ((far_set W N 0 v (N + 1) (by omega)).trans g1)))
  have k1' := (far_set _ N 2 (.int .i64 b) (N + 1) (by omega)).trans ((far_set _ N 1 (.int .i64 a) (N + 1) (by omega)).trans ((far_set W N 0 v (N + 1) (by omega)).trans g1))
  have k2' := (far_set _ (N + 1) 0 (.int .i64 e) (N + 2) (by omega)).trans ((far_set _ N 2 (.int .i64 b) (N + 2) (by omega)).trans ((far_set _ N 1 (.int .i64 a) (N + 2) (by omega)).trans ((far_set W N 0 v (N + 2) (by omega)).trans g2)))
  have k2 := blk_set 0 (.int .i64 f) k2'
  have kb := ((((gb.setCell (p := ⟨N, 0, none⟩) (Nat.le_refl _) v).setCell (p := ⟨N, 1, none⟩) (Nat.le_refl _) (.int .i64 a)).setCell (p := ⟨N, 2, none⟩) (Nat.le_refl _) (.int .i64 b)).setCell (p := ⟨N + 1, 0, none⟩) (Nat.le_add_right _ _) (.int .i64 e)).setCell (p := ⟨N + 2, 0, none⟩) (Nat.le_add_right _ _) (.int .i64 f)
  have ko := own_set (own_set (own_set (own_set (own_set ho g0 (by decide) 0 v) (blk_set 0 v g0) (by decide) 1 (.int .i64 a)) (blk_set 1 (.int .i64 a) (blk_set 0 v g0)) (by decide) 2 (.int .i64 b)) k1' (by decide) 0 (.int .i64 e)) k2' (by decide) 0 (.int .i64 f)
  have j0 := (far_set _ (N + 2) 0 (.int .i64 f) N (by omega)).trans ((far_set _ (N + 1) 0 (.int .i64 e) N (by omega)).trans k0)
  have j1 := (far_set _ (N + 2) 0 (.int .i64 f) (N + 1) (by omega)).trans k1
  have hDW : (RG W N v a b e f).heap[D]? = some (.deferred (some [])) := by
    have hd : ∀ k, k < N + 3 → N ≤ k → D ≠ k := by
      rintro k h1 h2 rfl
      rcases (show D = N ∨ D = N + 1 ∨ D = N + 2 by omega) with rfl | rfl | rfl
      · rw [g0] at hD; cases hD
      · rw [g1] at hD; cases hD
      · rw [g2] at hD; cases hD
    unfold RG
    rw [far_set _ _ _ _ _ (hd _ (by omega) (by omega)), far_set _ _ _ _ _ (hd _ (by omega) (by omega)), far_set _ _ _ _ _ (hd _ (by omega) (by omega)), far_set _ _ _ _ _ (hd _ (by omega) (by omega)), far_set _ _ _ _ _ (hd _ (by omega) (by omega))]
    exact hD
  rw [← hN]
  show LeavesInM _ _ _ _ _ _ x.defers _ _
  rw [hx]
  refine ⟨by simp, .inl ⟨_, _, rfl, run_takeDeferred hDW, ?_⟩⟩
  have hm : ∀ (k : Nat) (c : Array Value) (t : TypeId) (g : Nat × Nat), (RG W N v a b e f).heap[k]? = some (Obj.cells c t g) → ((RG W N v a b e f).putObj D (.deferred none)).heap[k]? = some (Obj.cells c t g) := fun k c t g hk =>
    (World.putObj_heap_other (by rintro rfl; rw [hDW] at hk; cases hk)).trans hk
  have m0 := hm _ _ _ _ j0
  have m1 := hm _ _ _ _ j1
  have m2 := hm _ _ _ _ k2
  refine ⟨_, results_head _ _ N h4 h5 h6 _ _ _ _ _ (blk_cell m0 0) (blk_cell m0 1) (blk_cell m0 2) (blk_cell m1 0) (blk_cell m2 0), v, ?_, ?_, ?_⟩
  · rw [hF]; rfl
  · rw [hF, ← hN]
    exact own_cells ko hm
  · rw [← hN]
    have hs : N ≤ (RG W N v a b e f).heap.size := by rw [hN]; exact (hN ▸ kb).size
    exact (show Below N w (RG W N v a b e f) from kb).grown (grownBy_putObj' _ D _) hs (fun k hk => by cases hk; omega)
set_option maxHeartbeats 4000000 in
set_option maxRecDepth 100000 in
theorem parseHead_calls (raw : ByteArray) (hraw : raw.size ≤ 32768) (from_ : Nat) (hf : from_ ≤ raw.size) (w : World) (hG : GL w) :
    Calls Tryz.prog 39 #[.string raw, .int .i64 from_] w (headPost raw from_ w) := by
  refine (callsIn_wide (n := 8)).1 ?_
  refine callsIn_of_wp_marks Tryz.func39 rfl trivial ?_ rfl
  simp only [Tryz.ntmps39, List.size_toArray, List.length_cons, List.length_nil, Nat.reduceAdd, Nat.reduceSub, Array.replicate_succ, Array.replicate_zero, List.push_toArray, List.append_toArray, List.nil_append, List.cons_append]
  gi_wp2_with (first | (refine ⟨trivial, ?_⟩; gi_at_call 60; refine (callsIn_wide.2 (lines_mk _ _ _)).mono ?_; rintro e w1 ⟨rfl, hw1⟩; have HW1 := Aside0.mk hw1; clear hw1) | (gi_at_call 60; refine (callsIn_wide.2 (lines_mk _ _ _)).mono ?_; rintro e w1 ⟨rfl, hw1⟩; have HW1 := Aside0.mk hw1; clear hw1))
  obtain ⟨H0, h5, h6, hsz⟩ := HW.start raw from_ w w1 HW1.out
  clear HW1
  simp only [Nat.add_assoc, Nat.reduceAdd]
  have H0 := Aside0.mk H0
  obtain ⟨ls, hls⟩ : ∃ ls, ls = linesL (raw.size + 1) (raw.data.toList.drop from_) from_ := ⟨_, rfl⟩
  have HSq := lines_seq 7 (by omega) raw (by omega) (w.heap.size + 5) (w.heap.size + 6) from_ hf (by omega) w w1 (by omega) (by omega) (by omega) hG H0.out.below h5 h6
  rw [← hls] at HSq
  have HLS := Aside0.mk hls
  refine wpIn_rangeFunc_list rfl (by omega) (gf := 83) rfl trivial (enters_of Tryz.func83 (by kernel_rfl) rfl) HSq
    (fun h k => ⟨k.1.trans h.1, k.2.1.trans h.2.1, h.2.2.trans k.2.2⟩)
    (fun W l o o' hl ho hc _ => ?kb) (Below.refl _ _) (by omega) ?ps (IH w raw ls) (IxH w raw ls) (IH_own w raw ls _ (by omega)) (fun c => IxH_own w raw ls c _ (by omega)) (IH_stable w raw ls) (IxH_stable w raw ls) ⟨_, H0.out, by rw [List.drop_zero]⟩ (fun a => putsT a [(18, 0), (19, 1), (9, 0), (10, 1)])
    ?assign ?body ?done ?stop
  case kb =>
    exact ⟨World.putObj_heap_other (by omega), World.putObj_heap_other (by omega), (Below.refl _ _).grown (grownBy_putObj' W l o') (by have := lt_of_block ho; omega) (fun k hk => by cases hk; omega)⟩
  case ps =>
    intro x hx
    obtain ⟨y, _, rfl⟩ := List.mem_map.1 hx
    rfl
  case assign =>
    intro l x W K hx hK
    obtain ⟨y, _, rfl⟩ := List.mem_map.1 hx
    dsimp only [encL]
    gi_wp2
    exact hK
  case done =>
    intro D W hD hI hK
    obtain ⟨s, hW, hrun⟩ := hI
    replace hrun : runH .start ls = .go s := by rw [hrun, List.length_map, List.drop_length]; rfl
    have HW := Aside0.mk hW
    have HD := Aside0.mk hK
    have HF := Aside0.mk (show parseHeadF raw.data.toList from_ = endH raw.data.toList s by unfold parseHeadF; rw [size_data, ← HLS.out, hrun])
    have hbe := HW.out.ok.beh
    have hle := HW.out.ok.len
    obtain ⟨v, c3, ho⟩ := HW.out.b3
    obtain ⟨A, cap, rfl⟩ := own_slice ho
    have HO := Aside0.mk ho
    have d30 := blk_cell c3 0
    have d31 := blk_cell c3 1
    have d32 := blk_cell c3 2
    have d00 := blk_cell HW.out.b0 0
    have d01 := blk_cell HW.out.b0 1
    have d02 := blk_cell HW.out.b0 2
    have d1 := blk_cell HW.out.b1 0
    have d2 := blk_cell HW.out.b2 0
    have f30 := blk_free c3 0
    have f31 := blk_free c3 1
    have f32 := blk_free c3 2
    have f00 := blk_free HW.out.b0 0
    have f01 := blk_free HW.out.b0 1
    have f02 := blk_free HW.out.b0 2
    have f1 := blk_free HW.out.b1 0
    have f2 := blk_free HW.out.b2 0
    dsimp at d30 d31 d32 d00 d01 d02 d1 d2
    clear hW hrun hK H0 h5 h6 HSq c3 ho
    by_cases hn : (raw.size : Int) - s.behind = s.length
    · have hn1 : ((raw.size : Int) - s.behind == (s.length : Int)) = true := by rw [hn]; exact beq_self_eq_true _
      gi_wp2_with (fail)
      have hE : endH raw.data.toList s = (s.fields, s.length, s.behind, 0, 0) := by unfold endH; rw [if_neg (by rw [size_data]; exact fun h => h hn)]
      exact finish W D s HW.out HD.out (by omega) (.slice A s.fields.length cap) s.fields s.length s.behind 0 0 HO.out (HF.out.trans hE) _ rfl rfl rfl rfl
    · have hn1 : ((raw.size : Int) - s.behind == (s.length : Int)) = false := beq_eq_false_iff_ne.2 hn
      gi_wp2_with (fail)
      gi_region
      gi_wp2_with (fail)
      have hE : endH raw.data.toList s = ([], 0, 0, 155, s.behind) := by unfold endH; rw [if_pos (by rw [size_data]; exact hn)]
      exact finish (W.drewN 1) D s (HW.out.drewN 1) (by rw [heap_drewN]; exact HD.out) (by omega) (.slice none 0 0) [] 0 0 155 s.behind ⟨rfl, .inl ⟨rfl, rfl⟩⟩ (HF.out.trans hE) _ rfl rfl rfl rfl
  case stop =>
    intro D c i W hD hI hK
    rcases hI with ⟨rfl, e, a, hW, hrun⟩ | ⟨rfl, s, hW, hrun⟩
    · have HR := Aside0.mk hrun
      have HW := Aside0.mk hW
      have HD := Aside0.mk hK
      clear hrun hW hK H0 h5 h6 HSq
      gi_wp2_with (fail)
      refine ⟨by simp, .inl ⟨_, _, rfl, run_takeDeferred HD.out, ?_⟩⟩
      have hs := HW.out.below.size
      have HW2 : RW w e a (W.putObj D (.deferred none)) := HW.out.step (HW.out.below.grown (grownBy_putObj' W D _) hs (fun k hk => by cases hk; omega)) (fun k c t f hk => (World.putObj_heap_other (by rintro rfl; rw [HD.out] at hk; cases hk)).trans hk)
      refine ⟨_, results_head _ _ w.heap.size rfl rfl rfl _ _ _ _ _ (blk_cell HW2.b0 0) (blk_cell HW2.b0 1) (blk_cell HW2.b0 2) (blk_cell HW2.b1 0) (blk_cell HW2.b2 0), ?_⟩
      have hF : parseHeadF raw.data.toList from_ = ([], 0, 0, e, a) := by unfold parseHeadF; rw [size_data, ← HLS.out, HR.out]
      refine ⟨.slice none 0 0, ?_, ?_, HW2.below⟩
      · rw [hF]; rfl
      · rw [hF]; exact ⟨rfl, .inl ⟨rfl, rfl⟩⟩
    · have HW := Aside0.mk hW
      have HD := Aside0.mk hK
      have HF := Aside0.mk (show parseHeadF raw.data.toList from_ = endH raw.data.toList s by unfold parseHeadF; rw [size_data, ← HLS.out, hrun])
      have hbe := HW.out.ok.beh
      have hle := HW.out.ok.len
      obtain ⟨v, c3, ho⟩ := HW.out.b3
      obtain ⟨A, cap, rfl⟩ := own_slice ho
      have HO := Aside0.mk ho
      have d30 := blk_cell c3 0
      have d31 := blk_cell c3 1
      have d32 := blk_cell c3 2
      have d00 := blk_cell HW.out.b0 0
      have d01 := blk_cell HW.out.b0 1
      have d02 := blk_cell HW.out.b0 2
      have d1 := blk_cell HW.out.b1 0
      have d2 := blk_cell HW.out.b2 0
      have f30 := blk_free c3 0
      have f31 := blk_free c3 1
      have f32 := blk_free c3 2
      have f00 := blk_free HW.out.b0 0
      have f01 := blk_free HW.out.b0 1
      have f02 := blk_free HW.out.b0 2
      have f1 := blk_free HW.out.b1 0
      have f2 := blk_free HW.out.b2 0
      dsimp at d30 d31 d32 d00 d01 d02 d1 d2
      clear hW hrun hK H0 h5 h6 HSq c3 ho
      by_cases hn : (raw.size : Int) - s.behind = s.length
      · have hn1 : ((raw.size : Int) - s.behind == (s.length : Int)) = true := by rw [hn]; exact beq_self_eq_true _
        gi_wp2_with (fail)
        have hE : endH raw.data.toList s = (s.fields, s.length, s.behind, 0, 0) := by unfold endH; rw [if_neg (by rw [size_data]; exact fun h => h hn)]
        exact finish W D s HW.out HD.out (by omega) (.slice A s.fields.length cap) s.fields s.length s.behind 0 0 HO.out (HF.out.trans hE) _ rfl rfl rfl rfl
      · have hn1 : ((raw.size : Int) - s.behind == (s.length : Int)) = false := beq_eq_false_iff_ne.2 hn
        gi_wp2_with (fail)
        gi_region
        gi_wp2_with (fail)
        have hE : endH raw.data.toList s = ([], 0, 0, 155, s.behind) := by unfold endH; rw [if_pos (by rw [size_data]; exact hn)]
        exact finish (W.drewN 1) D s (HW.out.drewN 1) (by rw [heap_drewN]; exact HD.out) (by omega) (.slice none 0 0) [] 0 0 155 s.behind ⟨rfl, .inl ⟨rfl, rfl⟩⟩ (HF.out.trans hE) _ rfl rfl rfl rfl
  case body =>
    intro l i x W hx hI
    obtain ⟨s, hW, hrun⟩ := hI
    rw [List.getElem?_map] at hx
    obtain ⟨y, hy, rfl⟩ := Option.map_eq_some_iff.1 hx
    obtain ⟨at_, line⟩ := y
    rw [show ls.drop i = (at_, line) :: ls.drop (i + 1) from (List.drop_eq_getElem_cons (List.getElem?_eq_some_iff.1 hy).1).trans (by rw [(List.getElem?_eq_some_iff.1 hy).2])] at hrun
    simp only [encL, putsT, List.foldl_cons, List.foldl_nil]
    have HW := Aside0.mk hW
    have HRun := Aside0.mk hrun
    have HSz := Aside0.mk hsz
    have HY := Aside0.mk hy
    clear hW hrun hx hy hsz h5 h6 H0 HSq
    have hmem := linesL_in _ _ _ (at_, line) (by rw [← hls]; exact List.mem_of_getElem? HY.out)
    rw [List.length_drop, size_data] at hmem
    dsimp only at hmem
    have c0 := HW.out.b0
    have c1 := HW.out.b1
    have c2 := HW.out.b2
    obtain ⟨v, c3, ho⟩ := HW.out.b3
    have c4 := HW.out.b4
    have hWs := lt_of_block HW.out.b6.choose_spec
    have HO := Aside0.mk ho
    have C0 := Aside0.mk c0
    have C1 := Aside0.mk c1
    have C2 := Aside0.mk c2
    have C3 := Aside0.mk c3
    have C4 := Aside0.mk c4
    clear ho c0 c1 c2 c3 c4 H0 hls
    cases he : (bs line).toList.isEmpty with
    | true =>
      have HS := Aside0.mk (show stepH s (at_, line) = .stop { s with behind := at_ + 2 } by unfold stepH; rw [if_pos (by rw [toList_bs] at he; exact List.isEmpty_iff.1 he)])
      have d0 := blk_cell C3.out 2
      have f0 := blk_free C3.out 2
      dsimp at d0
      gi_wp2_with (fail)
      exact post_exit (HW.out.set3 (s' := { s with behind := at_ + 2 }) 2 _ rfl rfl ⟨HW.out.ok.many, HW.out.ok.len, by show at_ + 2 ≤ _; omega⟩ (fun v => by simp)) ((Rnd.refl _ _).set _ _ (by show _ ≤ w.heap.size + 3; omega) (by show w.heap.size + 3 < _; omega)) HRun.out HS.out _
    | false =>
      have hl0 : ¬ line = [] := by rw [toList_bs] at he; exact fun h => by simp [h] at he
      obtain ⟨p, hp⟩ : ∃ p, p = pfF line := ⟨_, rfl⟩
      have HP := Aside0.mk (show Y.http_parseField.f 1 (bs line) = some (bs p.1, bs p.2.1, p.2.2) by rw [parseField_f (bs line) (by rw [bs_size]; omega), data_bs, hp])
      obtain ⟨nm, vl, ok⟩ := p
      dsimp only at HP
      have HPf := Aside0.mk hp
      clear hp
      have HGW := Aside0.mk (GL_below hG HW.out.below)
      have hN7 : w.heap.size + 7 ≤ W.heap.size := by omega
      have HL := Aside0.mk hl0
      clear hl0
      obtain ⟨nb, hnb⟩ : ∃ nb, nb = bs nm := ⟨_, rfl⟩
      obtain ⟨vb, hvb⟩ : ∃ vb, vb = bs vl := ⟨_, rfl⟩
      rw [← hnb, ← hvb] at HP
      have HN := Aside0.mk hnb
      have HV := Aside0.mk hvb
      clear hnb hvb
      cases ok with
      | false =>
        have HS := Aside0.mk (show stepH s (at_, line) = .bad 153 at_ by unfold stepH; rw [if_neg HL.out, if_pos (by rw [← HPf.out])])
        gi_wp2_with (refine ⟨trivial, ?_⟩; gi_at_call 61; refine (CallsIn.inRound l (callsIn_wide.2 (Y.http_parseField.calls 1 _ _ _ _ _ HGW.out HP.out))).mono ?_; rintro e W1 ⟨rfl, hb1⟩; have HB1 := Aside0.mk hb1; clear hb1; have c0 := cells_below HB1.out _ _ _ _ C0.out; have c1 := cells_below HB1.out _ _ _ _ C1.out; have c2 := cells_below HB1.out _ _ _ _ C2.out; have c3 := cells_below HB1.out _ _ _ _ C3.out; have c4 := cells_below HB1.out _ _ _ _ C4.out; have d00 := blk_cell c0 0; have d01 := blk_cell c0 1; have d02 := blk_cell c0 2; have d1 := blk_cell c1 0; have d2 := blk_cell c2 0; have d30 := blk_cell c3 0; have d31 := blk_cell c3 1; have d4 := blk_cell c4 0; have f00 := blk_free c0 0; have f01 := blk_free c0 1; have f02 := blk_free c0 2; have f1 := blk_free c1 0; have f2 := blk_free c2 0; have f30 := blk_free c3 0; have f31 := blk_free c3 1; have f4 := blk_free c4 0; dsimp at d00 d01 d02 d1 d2 d30 d31 d4; clear c0 c1 c2 c3 c4)
        exact post_ret (HW.out.below_step HB1.out) ((Rnd.refl _ _).of_below HB1.out hN7) HRun.out HS.out _
      | true =>
        have HK := Aside0.mk (show (pfF line).2.2 = false → False by rw [← HPf.out]; exact fun h => by cases h)
        cases hv3 : (nb.toList == [116, 114, 97, 110, 115, 102, 101, 114, 45, 101, 110, 99, 111, 100, 105, 110, 103]) with
        | true =>
          have HS := Aside0.mk (show stepH s (at_, line) = .bad 154 at_ by
            unfold stepH
            rw [if_neg HL.out, if_neg HK.out, if_pos]
            rw [← HPf.out]
            rw [HN.out, toList_bs] at hv3
            exact eq_of_beq hv3)
          gi_wp2_with (refine ⟨trivial, ?_⟩; gi_at_call 61; refine (CallsIn.inRound l (callsIn_wide.2 (Y.http_parseField.calls 1 _ _ _ _ _ HGW.out HP.out))).mono ?_; rintro e W1 ⟨rfl, hb1⟩; have HB1 := Aside0.mk hb1; clear hb1; have c0 := cells_below HB1.out _ _ _ _ C0.out; have c1 := cells_below HB1.out _ _ _ _ C1.out; have c2 := cells_below HB1.out _ _ _ _ C2.out; have c3 := cells_below HB1.out _ _ _ _ C3.out; have c4 := cells_below HB1.out _ _ _ _ C4.out; have d00 := blk_cell c0 0; have d01 := blk_cell c0 1; have d02 := blk_cell c0 2; have d1 := blk_cell c1 0; have d2 := blk_cell c2 0; have d30 := blk_cell c3 0; have d31 := blk_cell c3 1; have d4 := blk_cell c4 0; have f00 := blk_free c0 0; have f01 := blk_free c0 1; have f02 := blk_free c0 2; have f1 := blk_free c1 0; have f2 := blk_free c2 0; have f30 := blk_free c3 0; have f31 := blk_free c3 1; have f4 := blk_free c4 0; dsimp at d00 d01 d02 d1 d2 d30 d31 d4; clear c0 c1 c2 c3 c4)
          exact post_ret (HW.out.below_step HB1.out) ((Rnd.refl _ _).of_below HB1.out hN7) HRun.out HS.out _
        | false =>
          have HK3 := Aside0.mk (show ¬ (pfF line).1 = sTE by
            rw [← HPf.out]
            rw [HN.out, toList_bs] at hv3
            exact fun h => by rw [show nm = sTE from h] at hv3; revert hv3; decide)
          cases hv4 : (nb.toList == [99, 111, 110, 116, 101, 110, 116, 45, 108, 101, 110, 103, 116, 104]) with
          | true =>
            have HK4 := Aside0.mk (show (pfF line).1 = sCL by
              rw [← HPf.out]
              rw [HN.out, toList_bs] at hv4
              exact eq_of_beq hv4)
            have HS := Aside0.mk (show stepH s (at_, line) = if (s.sized || !(decide (1 ≤ vb.size) && (decide (vb.size ≤ 9) && vb.data.toList.all pDig))) = true then .bad 154 at_ else .go { s with sized := true, length := numF vl } by
              unfold stepH
              rw [if_neg HL.out, if_neg HK.out, if_neg HK3.out, if_pos HK4.out, ← HPf.out]
              show (if (s.sized || !digsB vl) = true then _ else _) = _
              rw [HV.out, bs_size]
              rfl)
            by_cases g1 : 1 ≤ vb.size
            · by_cases g9 : vb.size ≤ 9
              · cases ga : vb.data.toList.all pDig with
                | true =>
                  cases gs : s.sized with
                  | true =>
                    have HS2 := Aside0.mk (show stepH s (at_, line) = .bad 154 at_ by rw [HS.out, if_pos]; simp [ga, g1, g9, gs])
                    have HA := Aside0.mk (show http_all_parseHead_1.f vb = some true by unfold http_all_parseHead_1.f; rw [if_pos (by omega), ga])
                    rw [gs] at C4
                    gi_wp2_with (first | (refine ⟨trivial, ?_⟩; gi_at_call 61; refine (CallsIn.inRound l (callsIn_wide.2 (Y.http_parseField.calls 1 _ _ _ _ _ HGW.out HP.out))).mono ?_; rintro e W1 ⟨rfl, hb1⟩; have HB1 := Aside0.mk hb1; clear hb1; have c0 := cells_below HB1.out _ _ _ _ C0.out; have c1 := cells_below HB1.out _ _ _ _ C1.out; have c2 := cells_below HB1.out _ _ _ _ C2.out; have c3 := cells_below HB1.out _ _ _ _ C3.out; have c4 := cells_below HB1.out _ _ _ _ C4.out; have d00 := blk_cell c0 0; have d01 := blk_cell c0 1; have d02 := blk_cell c0 2; have d1 := blk_cell c1 0; have d2 := blk_cell c2 0; have d30 := blk_cell c3 0; have d31 := blk_cell c3 1; have d4 := blk_cell c4 0; have f00 := blk_free c0 0; have f01 := blk_free c0 1; have f02 := blk_free c0 2; have f1 := blk_free c1 0; have f2 := blk_free c2 0; have f30 := blk_free c3 0; have f31 := blk_free c3 1; have f4 := blk_free c4 0; dsimp at d00 d01 d02 d1 d2 d30 d31 d4; clear c0 c1 c2 c3 c4) | (refine ⟨trivial, ?_⟩; gi_at_call 53; refine (CallsIn.inRound l (callsIn_wide.2 (http_all_parseHead_1.calls _ _ _ HA.out))).mono ?_; rintro e W2 ⟨rfl, ⟨n2, rfl⟩⟩))
                    exact post_ret (HW.out.below_step (below_drewN HB1.out n2)) ((Rnd.refl _ _).of_below (below_drewN HB1.out n2) hN7) HRun.out HS2.out _
                  | false =>
                    have HS2 := Aside0.mk (show stepH s (at_, line) = .go { s with sized := true, length := numF vl } by rw [HS.out, if_neg]; simp [ga, g1, g9, gs])
                    have HA := Aside0.mk (show http_all_parseHead_1.f vb = some true by unfold http_all_parseHead_1.f; rw [if_pos (by omega), ga])
                    have hga : vl.all pDig = true := by rw [HV.out] at ga; exact ga
                    have hsz : vb.size = vl.length := by rw [HV.out, bs_size]
                    have HT := Aside0.mk (show strconv_Atoi.f vb = some ((numF vl : Int), none) by rw [HV.out]; exact atoi_f vl hga (by omega) (by omega))
                    have hnum : numF vl < 1000000000 := Nat.lt_of_lt_of_le (numF_lt vl hga) (Nat.pow_le_pow_right (by decide) (show vl.length ≤ 9 by omega))
                    rw [gs] at C4
                    clear hga hsz
                    gi_wp2_with (first | (refine ⟨trivial, ?_⟩; gi_at_call 61; refine (CallsIn.inRound l (callsIn_wide.2 (Y.http_parseField.calls 1 _ _ _ _ _ HGW.out HP.out))).mono ?_; rintro e W1 ⟨rfl, hb1⟩; have HB1 := Aside0.mk hb1; clear hb1; have c0 := cells_below HB1.out _ _ _ _ C0.out; have c1 := cells_below HB1.out _ _ _ _ C1.out; have c2 := cells_below HB1.out _ _ _ _ C2.out; have c3 := cells_below HB1.out _ _ _ _ C3.out; have c4 := cells_below HB1.out _ _ _ _ C4.out; have d00 := blk_cell c0 0; have d01 := blk_cell c0 1; have d02 := blk_cell c0 2; have d1 := blk_cell c1 0; have d2 := blk_cell c2 0; have d30 := blk_cell c3 0; have d31 := blk_cell c3 1; have d4 := blk_cell c4 0; have f00 := blk_free c0 0; have f01 := blk_free c0 1; have f02 := blk_free c0 2; have f1 := blk_free c1 0; have f2 := blk_free c2 0; have f30 := blk_free c3 0; have f31 := blk_free c3 1; have f4 := blk_free c4 0; dsimp at d00 d01 d02 d1 d2 d30 d31 d4; clear c0 c1 c2 c3 c4) | (refine ⟨trivial, ?_⟩; gi_at_call 53; refine (CallsIn.inRound l (callsIn_wide.2 (http_all_parseHead_1.calls _ _ _ HA.out))).mono ?_; rintro e W2 ⟨rfl, ⟨n2, rfl⟩⟩) | (refine ⟨trivial, ?_⟩; gi_at_call 55; refine (CallsIn.inRound l (callsIn_wide.2 (atoi_calls vb (numF vl) _ HT.out))).mono ?_; rintro e W3 ⟨rfl, hb3⟩; have HB3 := Aside0.mk hb3; clear hb3; have c3 := cells_below HB3.out _ _ _ _ ((far_set (W1.drewN n2) (w.heap.size + 4) 0 (.bool true) (w.heap.size + 3) (by omega)).trans ((by rw [heap_drewN]; exact cells_below HB1.out _ _ _ _ C3.out))); have e31 := blk_cell c3 1; have h31 := blk_free c3 1; dsimp at e31; clear c3))
                    have HW2 := ((HW.out.below_step HB1.out).drewN n2).set4 true
                    have HW3 := HW2.below_step HB3.out
                    have R2 := ((Rnd.refl w.heap.size W).of_below (below_drewN HB1.out n2) hN7).set ⟨w.heap.size + 4, 0, none⟩ (.bool true) (by show _ ≤ w.heap.size + 4; omega) (by show w.heap.size + 4 < _; omega)
                    have R3 := R2.of_below HB3.out hN7
                    exact post_go (HW3.set3 (s' := { s with sized := true, length := numF vl }) 1 _ rfl rfl ⟨HW.out.ok.many, hnum, HW.out.ok.beh⟩ (fun v => by simp)) (R3.set _ _ (by show _ ≤ w.heap.size + 3; omega) (by show w.heap.size + 3 < _; omega)) HRun.out HS2.out _
                | false =>
                  cases gs : s.sized with
                  | true =>
                    have HS2 := Aside0.mk (show stepH s (at_, line) = .bad 154 at_ by rw [HS.out, if_pos]; simp [ga, g1, g9, gs])
                    have HA := Aside0.mk (show http_all_parseHead_1.f vb = some false by unfold http_all_parseHead_1.f; rw [if_pos (by omega), ga])
                    rw [gs] at C4
                    gi_wp2_with (first | (refine ⟨trivial, ?_⟩; gi_at_call 61; refine (CallsIn.inRound l (callsIn_wide.2 (Y.http_parseField.calls 1 _ _ _ _ _ HGW.out HP.out))).mono ?_; rintro e W1 ⟨rfl, hb1⟩; have HB1 := Aside0.mk hb1; clear hb1; have c0 := cells_below HB1.out _ _ _ _ C0.out; have c1 := cells_below HB1.out _ _ _ _ C1.out; have c2 := cells_below HB1.out _ _ _ _ C2.out; have c3 := cells_below HB1.out _ _ _ _ C3.out; have c4 := cells_below HB1.out _ _ _ _ C4.out; have d00 := blk_cell c0 0; have d01 := blk_cell c0 1; have d02 := blk_cell c0 2; have d1 := blk_cell c1 0; have d2 := blk_cell c2 0; have d30 := blk_cell c3 0; have d31 := blk_cell c3 1; have d4 := blk_cell c4 0; have f00 := blk_free c0 0; have f01 := blk_free c0 1; have f02 := blk_free c0 2; have f1 := blk_free c1 0; have f2 := blk_free c2 0; have f30 := blk_free c3 0; have f31 := blk_free c3 1; have f4 := blk_free c4 0; dsimp at d00 d01 d02 d1 d2 d30 d31 d4; clear c0 c1 c2 c3 c4) | (refine ⟨trivial, ?_⟩; gi_at_call 53; refine (CallsIn.inRound l (callsIn_wide.2 (http_all_parseHead_1.calls _ _ _ HA.out))).mono ?_; rintro e W2 ⟨rfl, ⟨n2, rfl⟩⟩))
                    exact post_ret (HW.out.below_step (below_drewN HB1.out n2)) ((Rnd.refl _ _).of_below (below_drewN HB1.out n2) hN7) HRun.out HS2.out _
                  | false =>
                    have HS2 := Aside0.mk (show stepH s (at_, line) = .bad 154 at_ by rw [HS.out, if_pos]; simp [ga, g1, g9, gs])
                    have HA := Aside0.mk (show http_all_parseHead_1.f vb = some false by unfold http_all_parseHead_1.f; rw [if_pos (by omega), ga])
                    rw [gs] at C4
                    gi_wp2_with (first | (refine ⟨trivial, ?_⟩; gi_at_call 61; refine (CallsIn.inRound l (callsIn_wide.2 (Y.http_parseField.calls 1 _ _ _ _ _ HGW.out HP.out))).mono ?_; rintro e W1 ⟨rfl, hb1⟩; have HB1 := Aside0.mk hb1; clear hb1; have c0 := cells_below HB1.out _ _ _ _ C0.out; have c1 := cells_below HB1.out _ _ _ _ C1.out; have c2 := cells_below HB1.out _ _ _ _ C2.out; have c3 := cells_below HB1.out _ _ _ _ C3.out; have c4 := cells_below HB1.out _ _ _ _ C4.out; have d00 := blk_cell c0 0; have d01 := blk_cell c0 1; have d02 := blk_cell c0 2; have d1 := blk_cell c1 0; have d2 := blk_cell c2 0; have d30 := blk_cell c3 0; have d31 := blk_cell c3 1; have d4 := blk_cell c4 0; have f00 := blk_free c0 0; have f01 := blk_free c0 1; have f02 := blk_free c0 2; have f1 := blk_free c1 0; have f2 := blk_free c2 0; have f30 := blk_free c3 0; have f31 := blk_free c3 1; have f4 := blk_free c4 0; dsimp at d00 d01 d02 d1 d2 d30 d31 d4; clear c0 c1 c2 c3 c4) | (refine ⟨trivial, ?_⟩; gi_at_call 53; refine (CallsIn.inRound l (callsIn_wide.2 (http_all_parseHead_1.calls _ _ _ HA.out))).mono ?_; rintro e W2 ⟨rfl, ⟨n2, rfl⟩⟩))
                    exact post_ret (HW.out.below_step (below_drewN HB1.out n2)) ((Rnd.refl _ _).of_below (below_drewN HB1.out n2) hN7) HRun.out HS2.out _
              · have g9' : ¬ (vb.size ≤ 9) := g9
                cases gs : s.sized with
                | true =>
                  have HS2 := Aside0.mk (show stepH s (at_, line) = .bad 154 at_ by rw [HS.out, if_pos]; simp [g1, g9, gs])
                  rw [gs] at C4
                  gi_wp2_with (first | (refine ⟨trivial, ?_⟩; gi_at_call 61; refine (CallsIn.inRound l (callsIn_wide.2 (Y.http_parseField.calls 1 _ _ _ _ _ HGW.out HP.out))).mono ?_; rintro e W1 ⟨rfl, hb1⟩; have HB1 := Aside0.mk hb1; clear hb1; have c0 := cells_below HB1.out _ _ _ _ C0.out; have c1 := cells_below HB1.out _ _ _ _ C1.out; have c2 := cells_below HB1.out _ _ _ _ C2.out; have c3 := cells_below HB1.out _ _ _ _ C3.out; have c4 := cells_below HB1.out _ _ _ _ C4.out; have d00 := blk_cell c0 0; have d01 := blk_cell c0 1; have d02 := blk_cell c0 2; have d1 := blk_cell c1 0; have d2 := blk_cell c2 0; have d30 := blk_cell c3 0; have d31 := blk_cell c3 1; have d4 := blk_cell c4 0; have f00 := blk_free c0 0; have f01 := blk_free c0 1; have f02 := blk_free c0 2; have f1 := blk_free c1 0; have f2 := blk_free c2 0; have f30 := blk_free c3 0; have f31 := blk_free c3 1; have f4 := blk_free c4 0; dsimp at d00 d01 d02 d1 d2 d30 d31 d4; clear c0 c1 c2 c3 c4) | (refine ⟨trivial, ?_⟩))
                  exact post_ret (HW.out.below_step HB1.out) ((Rnd.refl _ _).of_below HB1.out hN7) HRun.out HS2.out _
                | false =>
                  have HS2 := Aside0.mk (show stepH s (at_, line) = .bad 154 at_ by rw [HS.out, if_pos]; simp [g1, g9, gs])
                  rw [gs] at C4
                  gi_wp2_with (first | (refine ⟨trivial, ?_⟩; gi_at_call 61; refine (CallsIn.inRound l (callsIn_wide.2 (Y.http_parseField.calls 1 _ _ _ _ _ HGW.out HP.out))).mono ?_; rintro e W1 ⟨rfl, hb1⟩; have HB1 := Aside0.mk hb1; clear hb1; have c0 := cells_below HB1.out _ _ _ _ C0.out; have c1 := cells_below HB1.out _ _ _ _ C1.out; have c2 := cells_below HB1.out _ _ _ _ C2.out; have c3 := cells_below HB1.out _ _ _ _ C3.out; have c4 := cells_below HB1.out _ _ _ _ C4.out; have d00 := blk_cell c0 0; have d01 := blk_cell c0 1; have d02 := blk_cell c0 2; have d1 := blk_cell c1 0; have d2 := blk_cell c2 0; have d30 := blk_cell c3 0; have d31 := blk_cell c3 1; have d4 := blk_cell c4 0; have f00 := blk_free c0 0; have f01 := blk_free c0 1; have f02 := blk_free c0 2; have f1 := blk_free c1 0; have f2 := blk_free c2 0; have f30 := blk_free c3 0; have f31 := blk_free c3 1; have f4 := blk_free c4 0; dsimp at d00 d01 d02 d1 d2 d30 d31 d4; clear c0 c1 c2 c3 c4) | (refine ⟨trivial, ?_⟩))
                  exact post_ret (HW.out.below_step HB1.out) ((Rnd.refl _ _).of_below HB1.out hN7) HRun.out HS2.out _
            · have g1' : ¬ (1 ≤ vb.size) := g1
              cases gs : s.sized with
              | true =>
                have HS2 := Aside0.mk (show stepH s (at_, line) = .bad 154 at_ by rw [HS.out, if_pos]; simp [g1, gs])
                rw [gs] at C4
                gi_wp2_with (first | (refine ⟨trivial, ?_⟩; gi_at_call 61; refine (CallsIn.inRound l (callsIn_wide.2 (Y.http_parseField.calls 1 _ _ _ _ _ HGW.out HP.out))).mono ?_; rintro e W1 ⟨rfl, hb1⟩; have HB1 := Aside0.mk hb1; clear hb1; have c0 := cells_below HB1.out _ _ _ _ C0.out; have c1 := cells_below HB1.out _ _ _ _ C1.out; have c2 := cells_below HB1.out _ _ _ _ C2.out; have c3 := cells_below HB1.out _ _ _ _ C3.out; have c4 := cells_below HB1.out _ _ _ _ C4.out; have d00 := blk_cell c0 0; have d01 := blk_cell c0 1; have d02 := blk_cell c0 2; have d1 := blk_cell c1 0; have d2 := blk_cell c2 0; have d30 := blk_cell c3 0; have d31 := blk_cell c3 1; have d4 := blk_cell c4 0; have f00 := blk_free c0 0; have f01 := blk_free c0 1; have f02 := blk_free c0 2; have f1 := blk_free c1 0; have f2 := blk_free c2 0; have f30 := blk_free c3 0; have f31 := blk_free c3 1; have f4 := blk_free c4 0; dsimp at d00 d01 d02 d1 d2 d30 d31 d4; clear c0 c1 c2 c3 c4) | (refine ⟨trivial, ?_⟩))
                exact post_ret (HW.out.below_step HB1.out) ((Rnd.refl _ _).of_below HB1.out hN7) HRun.out HS2.out _
              | false =>
                have HS2 := Aside0.mk (show stepH s (at_, line) = .bad 154 at_ by rw [HS.out, if_pos]; simp [g1, gs])
                rw [gs] at C4
                gi_wp2_with (first | (refine ⟨trivial, ?_⟩; gi_at_call 61; refine (CallsIn.inRound l (callsIn_wide.2 (Y.http_parseField.calls 1 _ _ _ _ _ HGW.out HP.out))).mono ?_; rintro e W1 ⟨rfl, hb1⟩; have HB1 := Aside0.mk hb1; clear hb1; have c0 := cells_below HB1.out _ _ _ _ C0.out; have c1 := cells_below HB1.out _ _ _ _ C1.out; have c2 := cells_below HB1.out _ _ _ _ C2.out; have c3 := cells_below HB1.out _ _ _ _ C3.out; have c4 := cells_below HB1.out _ _ _ _ C4.out; have d00 := blk_cell c0 0; have d01 := blk_cell c0 1; have d02 := blk_cell c0 2; have d1 := blk_cell c1 0; have d2 := blk_cell c2 0; have d30 := blk_cell c3 0; have d31 := blk_cell c3 1; have d4 := blk_cell c4 0; have f00 := blk_free c0 0; have f01 := blk_free c0 1; have f02 := blk_free c0 2; have f1 := blk_free c1 0; have f2 := blk_free c2 0; have f30 := blk_free c3 0; have f31 := blk_free c3 1; have f4 := blk_free c4 0; dsimp at d00 d01 d02 d1 d2 d30 d31 d4; clear c0 c1 c2 c3 c4) | (refine ⟨trivial, ?_⟩))
                exact post_ret (HW.out.below_step HB1.out) ((Rnd.refl _ _).of_below HB1.out hN7) HRun.out HS2.out _
          | false =>
            have HK4 := Aside0.mk (show ¬ (pfF line).1 = sCL by
              rw [← HPf.out]
              rw [HN.out, toList_bs] at hv4
              exact fun h => by rw [show nm = sCL from h] at hv4; revert hv4; decide)
            obtain ⟨A, cap, hv⟩ := own_slice HO.out
            have hmany := HW.out.ok.many
            by_cases gm : s.fields.length = 64
            · have HS := Aside0.mk (show stepH s (at_, line) = .bad 32 at_ by
                unfold stepH
                rw [if_neg HL.out, if_neg HK.out, if_neg HK3.out, if_neg HK4.out, if_pos gm])
              rw [hv, gm] at C3
              clear hv
              gi_wp2_with (refine ⟨trivial, ?_⟩; gi_at_call 61; refine (CallsIn.inRound l (callsIn_wide.2 (Y.http_parseField.calls 1 _ _ _ _ _ HGW.out HP.out))).mono ?_; rintro e W1 ⟨rfl, hb1⟩; have HB1 := Aside0.mk hb1; clear hb1; have c0 := cells_below HB1.out _ _ _ _ C0.out; have c1 := cells_below HB1.out _ _ _ _ C1.out; have c2 := cells_below HB1.out _ _ _ _ C2.out; have c3 := cells_below HB1.out _ _ _ _ C3.out; have c4 := cells_below HB1.out _ _ _ _ C4.out; have d00 := blk_cell c0 0; have d01 := blk_cell c0 1; have d02 := blk_cell c0 2; have d1 := blk_cell c1 0; have d2 := blk_cell c2 0; have d30 := blk_cell c3 0; have d31 := blk_cell c3 1; have d4 := blk_cell c4 0; have f00 := blk_free c0 0; have f01 := blk_free c0 1; have f02 := blk_free c0 2; have f1 := blk_free c1 0; have f2 := blk_free c2 0; have f30 := blk_free c3 0; have f31 := blk_free c3 1; have f4 := blk_free c4 0; dsimp at d00 d01 d02 d1 d2 d30 d31 d4; clear c0 c1 c2 c3 c4)
              exact post_ret (HW.out.below_step HB1.out) ((Rnd.refl _ _).of_below HB1.out hN7) HRun.out HS.out _
            · have HS := Aside0.mk (show stepH s (at_, line) = .go { s with fields := s.fields ++ [(nm, vl)] } by
                unfold stepH
                rw [if_neg HL.out, if_neg HK.out, if_neg HK3.out, if_neg HK4.out, if_neg gm, ← HPf.out])
              rw [hv] at C3 HO
              clear hv
              obtain ⟨i0, hi, hz0, hz1, hz2⟩ := info_pair
              gi_wp2_with (first | (refine ⟨trivial, ?_⟩; gi_at_call 61; refine (CallsIn.inRound l (callsIn_wide.2 (Y.http_parseField.calls 1 _ _ _ _ _ HGW.out HP.out))).mono ?_; rintro e W1 ⟨rfl, hb1⟩; have HB1 := Aside0.mk hb1; clear hb1; have c0 := cells_below HB1.out _ _ _ _ C0.out; have c1 := cells_below HB1.out _ _ _ _ C1.out; have c2 := cells_below HB1.out _ _ _ _ C2.out; have c3 := cells_below HB1.out _ _ _ _ C3.out; have c4 := cells_below HB1.out _ _ _ _ C4.out; have d00 := blk_cell c0 0; have d01 := blk_cell c0 1; have d02 := blk_cell c0 2; have d1 := blk_cell c1 0; have d2 := blk_cell c2 0; have d30 := blk_cell c3 0; have d31 := blk_cell c3 1; have d4 := blk_cell c4 0; have f00 := blk_free c0 0; have f01 := blk_free c0 1; have f02 := blk_free c0 2; have f1 := blk_free c1 0; have f2 := blk_free c2 0; have f30 := blk_free c3 0; have f31 := blk_free c3 1; have f4 := blk_free c4 0; dsimp at d00 d01 d02 d1 d2 d30 d31 d4; clear c0 c1 c2 c3 c4; have HO1 := own_cells HO.out (cells_below HB1.out)) | (gi_at_builtin; refine wpListIn_append_own _ rfl (.tmp 32) (.tmp 36) 22 rfl w.heap.size 80 i0 _ 2 32 Tryz.underlying22 hi hz0 hz1 hz2 rfl (by decide) _ _ _ rfl (HO1.alloc _) ⟨W1.heap.size, 0, none⟩ 1 1 [.string nb, .string vb] rfl rfl (two_cells W1 _ _ _) (by intro u hu; simp at hu; rcases hu with rfl | rfl <;> rfl) (by unfold maxLen; omega) (by omega) (by have := HB1.out.size; rw [World.size_alloc]; omega) ?_))
              intro v' W2 hown' hgrow' hnil'
              obtain ⟨A', cap', rfl⟩ := own_slice hown'
              have HOW := Aside0.mk hown'
              have HGR := Aside0.mk hgrow'
              clear hown' hgrow' hnil'
              have hs1 := HB1.out.size
              have c3 := app_far (HO1.alloc _) HGR.out ((Below.heap_alloc W1 _ _ (by omega)).trans (cells_below HB1.out _ _ _ _ C3.out)) (by decide)
              have e30 := blk_cell c3 0
              have h30 := blk_free c3 0
              dsimp at e30
              clear c3
              gi_wp2_with (fail)
              have HWa := (HW.out.below_step HB1.out).below_step ((Below.refl _ W1).alloc (Nat.le_refl _) (.cells #[.string nb, .string vb] 80))
              have C3a := (Below.heap_alloc W1 (.cells #[.string nb, .string vb] 80) _ (by have := HB1.out.size; omega)).trans (cells_below HB1.out _ _ _ _ C3.out)
              have HOW2 := HOW.out
              rw [HN.out, HV.out] at HOW2
              obtain ⟨q1, q2, q3, q4, q5⟩ := HWa.app C3a (HO1.alloc _) nm vl HOW2 HGR.out (by omega)
              have R1 := ((Rnd.refl w.heap.size W).of_below HB1.out hN7).of_below ((Below.refl _ W1).alloc (Nat.le_refl _) (.cells #[.string nb, .string vb] 80)) hN7
              have R2 : Rnd w.heap.size W W2 := ⟨R1.ko.trans q2, q3.trans R1.k1, q4.trans R1.k2, R1.be.trans q5⟩
              exact post_go q1 (R2.set _ _ (by show _ ≤ w.heap.size + 3; omega) (by show w.heap.size + 3 < _; omega)) HRun.out HS.out _
end Go.Proofs.YtmfkgjnlobiobaaGreatDoor.X
