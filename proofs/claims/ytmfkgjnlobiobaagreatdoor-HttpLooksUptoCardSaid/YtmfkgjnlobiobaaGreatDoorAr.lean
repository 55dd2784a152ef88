/- What a row gives: the facts that the http functions lean on; requests and responses that come in as arguments, opened. -/
import Derived.Test.YtmfkgjnlobiobaaGreatDoorCards
import Derived.Test.YtmfkgjnlobiobaaGreatDoorTie
import Derived.Test.YtmfkgjnlobiobaaGreatDoorE0
import Derived.Lay
import Derived.MakeChecks
import Derived.Stop.LaidErr
import Derived.ShapedOpen
import Derived.Shelf.Vars
import Derived.Lib.LaidTab
import Derived.Test.YtmfkgjnlobiobaaGreatDoorX0
import Derived.Lib.SmallJoins
import Derived.Deep.SlicePairs
import Derived.SizedLaws
import Derived.ProofKit
set_option linter.unusedVariables false
set_option linter.unusedSimpArgs false
namespace Go.Proofs.YtmfkgjnlobiobaaGreatDoor.X
open Go.RowKit
theorem gPow : Tryz.prog.globalNamed "internal/strconv.uint64pow10" = some 3 := by kernel_rfl
theorem gPowType : (Tryz.prog.globals[3]?).map (·.type) = some 147 := by kernel_rfl
theorem cellsPow : Tryz.prog.cellsOf 147 = 20 := by kernel_rfl
theorem cellsU64 : Tryz.prog.cellsOf 132 = 1 := by kernel_rfl
theorem plainLaid : (Rows.httpBackRow.laid.all fun x => x.2.handleName?.isNone) = true := by kernel_rfl
theorem pow_of {W : World} (h : laidMet Tryz.prog Rows.httpBackRow.laid W) : Lib.TabIs Tryz.prog W "internal/strconv.uint64pow10" .u64 Lib.pow10Tab :=
  Lib.tabIs_of_head gPow gPowType Tryz.underlying147 Tryz.underlying132 cellsU64 cellsPow (laidMet.tail (laidMet.tail h))
theorem GL_of {W : World} (hL : laidMetH Tryz.prog Rows.httpBackRow.laid W) (hS : W.ShapedOpen Tryz.prog) : GL W := by
  rw [MakeChecks.laidMetH_plain _ _ _ plainLaid] at hL
  exact ⟨Go.Proofs.cell_of_shapedOpen_int (zero := #[.int .i64 0]) (t := 3) hS (of_decide_eq_true (by kernel_rfl)) (by kernel_rfl) rfl (by kernel_rfl) (by kernel_rfl) Tryz.underlying3, pow_of hL⟩
end Go.Proofs.YtmfkgjnlobiobaaGreatDoor.X
namespace Go.Proofs.YtmfkgjnlobiobaaGreatDoor.X
open Go.ChangeShapes Go.WideShapes Go.RowKit Go.Proofs.YtmfkgjnlobiobaaGreatDoorW.PrintWords
variable {H : Type} {enc : TypeId × Value → H}
theorem weightsAll_mem {P : Program} {e : TypeId} {n : Nat} : ∀ {l : List (DataW H)} {d : DataW H}, d ∈ l → n ∈ d.weights P e → n ∈ DataW.weightsAll P e l
  | x :: r, d, hd, hn => by
    simp only [DataW.weightsAll, List.mem_append]
    rcases List.mem_cons.1 hd with rfl | hd
    · exact .inl hn
    · exact .inr (weightsAll_mem hd hn)
abbrev lim : Nat := 140737488351232
/-- A slice of pairs that is read. -/
theorem open_fields {W : World} {n : Nat} {v : Value} {y : DataW H × List MemPlace} (h : DataW.trod enc Tryz.prog W 0 (fun _ => true) true n 22 [v] = some y) (hw : ∀ k ∈ y.1.weights Tryz.prog 22, k ≤ lim) :
    ∃ (A : Option Addr) (l : List S80) (c : Nat), v = .slice A l.length c ∧ l.length ≤ c ∧ Kd.C k80 W A l.length l ∧ (∀ f ∈ l, f.f0.size ≤ lim ∧ f.f1.size ≤ lim) := by
  rcases Go.Deep.open_slice_pairs Tryz.underlying22 Tryz.underlying80 (by kernel_rfl) rfl rfl (by kernel_rfl) (by kernel_rfl) h with ⟨hc, rfl⟩ | ⟨a, len, cap, m, k, V0, V1, D0, D1, P0, P1, hc, _, hl, hm, hmm, rfl, hx⟩
  · obtain rfl : v = .slice none 0 0 := by simpa using hc
    exact ⟨none, [], 0, rfl, Nat.le_refl _, ⟨rfl, by decide, fun h => absurd h (by decide)⟩, fun f hf => by cases hf⟩
  · obtain rfl : v = .slice (some a) len cap := by simpa using hc
    have hlm : len ≤ m := by rw [hmm, if_pos rfl]; exact hl
    have each : ∀ i, i < len → ∃ q : S80, V0 i = .string q.f0 ∧ V1 i = .string q.f1 ∧ D0 i = .lit (.string q.f0.data.toList) ∧ D1 i = .lit (.string q.f1.data.toList) := by
      intro i hi
      obtain ⟨_, _, h0, h1⟩ := hx i (by omega)
      obtain ⟨s0, e0, x0, _⟩ := DataW.trod_string Tryz.underlying9 h0
      obtain ⟨s1, e1, x1, _⟩ := DataW.trod_string Tryz.underlying9 h1
      simp only [Prod.mk.injEq] at x0 x1
      exact ⟨⟨s0, s1⟩, by simpa using e0, by simpa using e1, x0.1, x1.1⟩
    haveI : Inhabited S80 := ⟨z80⟩
    obtain ⟨q, hq⟩ := Go.Deep.choose_lt each
    have hlen : ((List.range len).map q).length = len := by simp
    refine ⟨some a, (List.range len).map q, cap, by rw [hlen], by rw [hlen]; exact hl, ⟨rfl, ?_, fun _ => ⟨a, rfl, ?_⟩⟩, ?_⟩
    · rw [hlen]
      have : maxLen = 9223372036854775807 := rfl
      omega
    · intro j p hj
      have hj' : j < len := by
        have := (List.getElem?_eq_some_iff.1 hj).1
        simpa using this
      have hp : p = q j := by
        simp [List.getElem?_map, List.getElem?_range hj'] at hj
        exact hj.symm
      subst hp
      obtain ⟨c0, c1, _, _⟩ := hx j (by omega)
      obtain ⟨q0, q1, _, _⟩ := hq j hj'
      refine ⟨[.string (q j).f0, .string (q j).f1], rfl, k80_mk W (q j), fun i u hu => ?_⟩
      match i, hu with
      | 0, hu => rw [← q0] at hu; simp at hu; subst hu; exact c0
      | 1, hu => rw [← q1] at hu; simp at hu; subst hu; exact c1
      | i + 2, hu => simp at hu
    · intro f hf
      obtain ⟨i, hi, rfl⟩ := List.mem_map.1 hf
      have hi' := List.mem_range.1 hi
      obtain ⟨_, _, d0, d1⟩ := hq i hi'
      have hmem : ∀ k ∈ (DataW.agg [D0 i, D1 i] : DataW H).weights Tryz.prog 80, k ≤ lim := by
        intro k hk
        refine hw k ?_
        simp only [DataW.weights, Tryz.underlying22, List.mem_cons, List.mem_append]
        exact .inr (.inl (weightsAll_mem (List.mem_map.2 ⟨i, hi, rfl⟩) hk))
      rw [d0, d1] at hmem
      simp only [DataW.weights, Tryz.underlying80, DataW.weightsEach] at hmem
      have a0 := hmem (q i).f0.data.toList.length (by simp [DataW.weightsEach, DataW.weights])
      have a1 := hmem (q i).f1.data.toList.length (by simp [DataW.weightsEach, DataW.weights])
      rw [Array.length_toList] at a0 a1
      exact ⟨a0, a1⟩
set_option maxRecDepth 100000 in
theorem open_request {W : World} {r : Reach} {b0 : Nat} {v : Value} {d : DataW H} {p : List MemPlace} (hv : Value.okWide Tryz.prog W r b0 24 v) (h : DataW.Trod enc Tryz.prog W 0 (fun _ => true) true 24 v d p)
    (hw : ∀ k ∈ d.weights Tryz.prog 24, k ≤ lim) :
    ∃ (m t : ByteArray) (A : Option Addr) (l : List S80) (c : Nat) (b : ByteArray), v = .agg #[.string m, .string t, .slice A l.length c, .string b] ∧ l.length ≤ c ∧ Kd.C k80 W A l.length l ∧ (∀ f ∈ l, f.f0.size ≤ lim ∧ f.f1.size ≤ lim) ∧ m.size ≤ lim ∧ t.size ≤ lim ∧ b.size ≤ lim := by
  obtain ⟨v0, v1, v2, v3, y0, y1, y2, y3, n, rfl, rfl, rfl, h0, h1, h2, h3⟩ := Go.Joins.open_agg4 Tryz.underlying24 (by kernel_rfl) (by kernel_rfl) hv h
  obtain ⟨s0, e0, x0, _⟩ := DataW.trod_string Tryz.underlying9 h0
  obtain ⟨s1, e1, x1, _⟩ := DataW.trod_string Tryz.underlying9 h1
  obtain ⟨s3, e3, x3, _⟩ := DataW.trod_string Tryz.underlying9 h3
  simp only [List.cons.injEq, and_true] at e0 e1 e3
  subst e0 e1 e3 x0 x1 x3
  simp only [DataW.weights, Tryz.underlying24, DataW.weightsEach, List.map_cons, List.map_nil, List.mem_append, List.mem_cons, List.not_mem_nil, or_false] at hw
  obtain ⟨A, l, c, rfl, hc, hk, hs⟩ := open_fields h2 (fun k hk => hw k (.inr (.inr (.inl hk))))
  have w0 := hw _ (.inl rfl)
  have w1 := hw _ (.inr (.inl rfl))
  have w3 := hw _ (.inr (.inr (.inr rfl)))
  rw [Array.length_toList] at w0 w1 w3
  exact ⟨s0, s1, A, l, c, s3, rfl, hc, hk, hs, w0, w1, w3⟩
end Go.Proofs.YtmfkgjnlobiobaaGreatDoor.X
namespace Go.Proofs.YtmfkgjnlobiobaaGreatDoor.X
open Go.ChangeShapes Go.WideShapes Go.RowKit Go.Proofs.YtmfkgjnlobiobaaGreatDoorW.PrintWords
variable {H : Type} {enc : TypeId × Value → H}
set_option maxRecDepth 100000 in
theorem open_response {W : World} {r : Reach} {b0 : Nat} {v : Value} {d : DataW H} {p : List MemPlace} (hv : Value.okWide Tryz.prog W r b0 39 v) (h : DataW.Trod enc Tryz.prog W 0 (fun _ => true) true 39 v d p)
    (hw : ∀ k ∈ d.weights Tryz.prog 39, k ≤ lim) :
    ∃ (n : Int) (A : Option Addr) (l : List S80) (c : Nat) (b : ByteArray), v = .agg #[.int .i64 n, .slice A l.length c, .string b] ∧ l.length ≤ c ∧ Kd.C k80 W A l.length l ∧ (∀ f ∈ l, f.f0.size ≤ lim ∧ f.f1.size ≤ lim) ∧ True ∧ b.size ≤ lim := by
  obtain ⟨v0, v1, v2, y0, y1, y2, n, rfl, rfl, rfl, h0, h1, h2⟩ := Go.Joins.open_agg3 Tryz.underlying39 (by kernel_rfl) (by kernel_rfl) hv h
  obtain ⟨i, e0, x0, _⟩ := DataW.trod_int Tryz.underlying3 h0
  obtain ⟨s2, e2, x2, _⟩ := DataW.trod_string Tryz.underlying9 h2
  simp only [List.cons.injEq, and_true] at e0 e2
  subst e0 e2 x0 x2
  simp only [DataW.weights, Tryz.underlying39, DataW.weightsEach, List.map_cons, List.map_nil, List.mem_append, List.mem_cons, List.not_mem_nil, or_false] at hw
  obtain ⟨A, l, c, rfl, hc, hk, hs⟩ := open_fields h1 (fun k hk => hw k (.inr (.inl hk)))
  have w2 := hw _ (.inr (.inr rfl))
  rw [Array.length_toList] at w2
  exact ⟨i, A, l, c, s2, rfl, hc, hk, hs, trivial, w2⟩
theorem int_wf {n : Int} (h : (Lit.int .i64 n).wf = true) : -9223372036854775808 ≤ n ∧ n ≤ 9223372036854775807 := by
  have e : IntKind.i64.min = -9223372036854775808 := rfl
  simp [Lit.wf] at h
  rw [e] at h
  exact h
end Go.Proofs.YtmfkgjnlobiobaaGreatDoor.X
