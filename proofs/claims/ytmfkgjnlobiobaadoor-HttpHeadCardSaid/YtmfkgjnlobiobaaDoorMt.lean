/- What PrintRequest computes, in plain Lean. -/
import Derived.Test.YtmfkgjnlobiobaaDoorX3
import Derived.IntWalk
namespace Go.Proofs.YtmfkgjnlobiobaaDoor.X
open Go.RowKit Go.Shelf Go.Proofs.YtmfkgjnlobiobaaDoorW.PrintWords
def methB (l : List UInt8) : Bool := decide (1 ≤ l.length ∧ l.length ≤ 16) && l.all pUp
def targB (l : List UInt8) : Bool := decide (1 ≤ l.length ∧ l.length ≤ 1024) && (decide (l.head? = some 47) && l.all pVis)
theorem isMethod_f (a : ByteArray) : http_isMethod.f a = some (methB a.data.toList) := by
  have hl := size_data a
  unfold http_isMethod.f methB http_all_isMethod_1.f
  split
  · split
    · rw [if_pos (by omega)]
      simp only [Option.bind_some, Option.some.injEq]
      rw [decide_eq_true (by omega), Bool.true_and]
    · rw [decide_eq_false (by omega), Bool.false_and]
  · rw [decide_eq_false (by omega), Bool.false_and]
theorem head_is (a : ByteArray) (h : 0 < a.size) : (bt a 0 = 47) ↔ a.data.toList.head? = some 47 := by
  have e0 : bt a 0 = ((a[0]'h).toNat : Int) := (bt_at a 0 h).symm
  have e : a.data.toList.head? = some (a[0]'h) := by
    rw [List.head?_eq_getElem?, List.getElem?_eq_getElem (by rw [size_data]; exact h)]
    rfl
  rw [e, e0]
  have h47 : (47 : UInt8).toNat = 47 := rfl
  constructor
  · intro h2
    congr 1
    apply UInt8.toNat_inj.1
    omega
  · intro h2
    rw [Option.some.inj h2]
    rfl
theorem isTarget_f (a : ByteArray) : http_isTarget.f a = some (targB a.data.toList) := by
  have hl := size_data a
  unfold http_isTarget.f targB http_all_visible.f
  split
  · split
    · rw [if_pos (by omega), decide_eq_true (by omega), Bool.true_and]
      by_cases h : bt a 0 = 47
      · rw [if_pos h, if_pos (by omega), decide_eq_true ((head_is a (by omega)).1 h)]
        rfl
      · rw [if_neg h, decide_eq_false (fun h2 => h ((head_is a (by omega)).2 h2))]
        rfl
    · rw [decide_eq_false (by omega), Bool.false_and]
  · rw [decide_eq_false (by omega), Bool.false_and]
def sVer : List UInt8 := [32, 72, 84, 84, 80, 47, 49, 46, 49]
def reqF (m t : List UInt8) (l : List (List UInt8 × List UInt8)) (b : List UInt8) : List UInt8 × Int :=
  if methB m = false then ([], 150) else if targB t = false then ([], 151) else restF (m ++ [32] ++ t ++ sVer) l b
theorem methB_len {l : List UInt8} (h : methB l = true) : l.length ≤ 16 := by
  unfold methB at h
  simp only [Bool.and_eq_true, decide_eq_true_eq] at h
  exact h.1.2
theorem targB_len {l : List UInt8} (h : targB l = true) : l.length ≤ 1024 := by
  unfold targB at h
  simp only [Bool.and_eq_true, decide_eq_true_eq] at h
  exact h.1.2
theorem PrintRequest_f (m t : ByteArray) (l : List S71) (b : ByteArray) (hl : ∀ f ∈ l, f.f0.size ≤ 140737488351232) (hb : b.size ≤ 140737488351232) :
    http_PrintRequest.f m t l b = some (bs (reqF m.data.toList t.data.toList (pairsL l) b.data.toList).1, (reqF m.data.toList t.data.toList (pairsL l) b.data.toList).2) := by
  unfold http_PrintRequest.f reqF
  rw [isMethod_f, isTarget_f]
  simp only [Option.bind_some]
  cases hm : methB m.data.toList with
  | false => rfl
  | true =>
    cases ht : targB t.data.toList with
    | false => rfl
    | true =>
      have h1 := methB_len hm
      have h2 := targB_len ht
      rw [size_data] at h1 h2
      have s1 : (m ++ (⟨#[32]⟩ : ByteArray)).size = m.size + 1 := by rw [ByteArray.size_append]; rfl
      have s2 : ((m ++ (⟨#[32]⟩ : ByteArray)) ++ t).size = m.size + 1 + t.size := by rw [ByteArray.size_append, s1]
      have s3 : (((m ++ (⟨#[32]⟩ : ByteArray)) ++ t) ++ (⟨#[32, 72, 84, 84, 80, 47, 49, 46, 49]⟩ : ByteArray)).size = m.size + 1 + t.size + 9 := by rw [ByteArray.size_append, s2]; rfl
      simp only [reduceIte, Option.bind_some, Bool.true_eq_false]
      rw [if_pos (by omega), if_pos (by rw [s1]; omega), if_pos (by rw [s2]; omega)]
      unfold http_rest.f
      rw [if_pos ⟨by rw [s3]; omega, List.all_eq_true.2 (fun f hf => decide_eq_true (hl f hf)), hb⟩]
      simp only [Option.bind_some]
      have e : (((m ++ (⟨#[32]⟩ : ByteArray)) ++ t) ++ (⟨#[32, 72, 84, 84, 80, 47, 49, 46, 49]⟩ : ByteArray)).data.toList = m.data.toList ++ [32] ++ t.data.toList ++ sVer := by
        simp [ByteArray.data_append, sVer]
      rw [e]
/-- Either the request is refused whatever its body, or it is printed so unless it is too long. -/
theorem reqF_two (m t : List UInt8) (l : List (List UInt8 × List UInt8)) : (∃ c : Int, c ≠ 0 ∧ ∀ b, reqF m t l b = ([], c)) ∨
    (∃ pre : List UInt8, ∀ b, reqF m t l b = if (pre ++ clF b ++ [13, 10]).length + b.length > 32768 then ([], 1) else (pre ++ clF b ++ [13, 10] ++ b, 0)) := by
  unfold reqF
  cases hm : methB m with
  | false => exact .inl ⟨150, by decide, fun b => rfl⟩
  | true =>
    cases ht : targB t with
    | false => exact .inl ⟨151, by decide, fun b => rfl⟩
    | true =>
      by_cases h1 : l.length > 64
      · exact .inl ⟨32, by decide, fun b => by unfold restF; rw [if_neg (by decide), if_neg (by decide), if_pos h1]⟩
      · by_cases h2 : l.all (fun f => okF f.1 f.2) = false
        · exact .inl ⟨153, by decide, fun b => by unfold restF; rw [if_neg (by decide), if_neg (by decide), if_neg h1, if_pos h2]⟩
        · exact .inr ⟨(m ++ [32] ++ t ++ sVer) ++ [13, 10] ++ l.flatMap (fun f => lineF f.1 f.2), fun b => by unfold restF headF; rw [if_neg (by decide), if_neg (by decide), if_neg h1, if_neg h2]⟩
theorem live_f : wicketlaw15_live.f 40 = some true := by kernel_rfl
theorem wr (n : Int) (h : -9223372036854775808 ≤ n ∧ n ≤ 9223372036854775807) : wrap64 n = n := (IntWalk.i64_left n).symm.trans (IntWalk.i64_in n h)
theorem toList_ext (a : ByteArray) (i j : Nat) : (a.extract i j).toList = (a.data.toList.drop i).take (j - i) := by
  rw [toList_data, Lib.extract_data]
end Go.Proofs.YtmfkgjnlobiobaaDoor.X
