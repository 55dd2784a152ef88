/- HttpLooks: for every input that is not too large the law returns true, and every argument reads as before: the plain law, the row, then the card (what the row lists is tied to the program's text). -/
import Derived.Test.YtmfkgjnlobiobaaGreatDoorHs0
import Derived.Test.YtmfkgjnlobiobaaGreatDoorX8
import Derived.Test.YtmfkgjnlobiobaaGreatDoorX7b
import Derived.Test.YtmfkgjnlobiobaaGreatDoorX0
import Derived.Test.YtmfkgjnlobiobaaGreatDoorE0
import Derived.Test.YtmfkgjnlobiobaaGreatDoorRe
import Derived.Test.YtmfkgjnlobiobaaGreatDoorX1
import Derived.Test.YtmfkgjnlobiobaaGreatDoorX3
import Derived.Test.YtmfkgjnlobiobaaGreatDoorAr
import Derived.WalkKit
import Derived.ProofKit
import Derived.OpenShut
import Derived.ShutString
import Derived.Carry
import Derived.SizedLaws
import Derived.Deep.DeepHandedRow
import Derived.Deep.DeepWitnessRowRef
set_option linter.unusedVariables false
set_option linter.unusedSimpArgs false
namespace Go.Proofs.YtmfkgjnlobiobaaGreatDoor.X
open Go.RowKit Go.Shelf Go.Proofs.YtmfkgjnlobiobaaGreatDoorW.PrintWords
/-! ### trim -/
def pBl (c : UInt8) : Bool := ([32, 9] : List UInt8).contains c
def rstrip (l : List UInt8) : List UInt8 := (l.reverse.dropWhile pBl).reverse
theorem rstrip_cons (a : UInt8) (r : List UInt8) : rstrip (a :: r) = if rstrip r = [] ∧ pBl a = true then [] else a :: rstrip r := by
  unfold rstrip
  rw [List.reverse_cons, List.dropWhile_append]
  cases h : r.reverse.dropWhile pBl with
  | nil =>
    cases ha : pBl a with
    | true => simp [ha]
    | false => simp [ha]
  | cons x y => simp
theorem strip_comm : ∀ l : List UInt8, rstrip (l.dropWhile pBl) = (rstrip l).dropWhile pBl
  | [] => rfl
  | a :: r => by
    have ih := strip_comm r
    rw [rstrip_cons, List.dropWhile_cons]
    cases ha : pBl a with
    | true =>
      rw [if_pos rfl, ih]
      by_cases h : rstrip r = []
      · rw [if_pos ⟨h, rfl⟩, h]
      · rw [if_neg (fun e => h e.1), List.dropWhile_cons, ha, if_pos rfl]
    | false =>
      rw [if_neg (by decide), if_neg (fun e => by cases e.2), List.dropWhile_cons, ha, if_neg (by decide), rstrip_cons, ha, if_neg (fun e => by cases e.2)]
theorem trimS_is (l : List UInt8) : Lib.trimS l [32, 9] = rstrip (l.dropWhile pBl) := (strip_comm l).symm
theorem bt_bs (l : List UInt8) (n : Nat) (h : n < l.length) : bt (bs l) (n : Int) = ((l[n]).toNat : Int) := by
  obtain ⟨c, hc, hb⟩ := bt_nat (bs l) n (by rw [bs_size]; exact h)
  rw [data_bs, List.getElem?_eq_getElem h] at hc
  rw [hb, Option.some.inj hc]
theorem pBl_is (c : UInt8) : pBl c = true ↔ (c.toNat : Int) = 32 ∨ (c.toNat : Int) = 9 := by
  unfold pBl
  rw [List.contains_iff_mem]
  simp only [List.mem_cons, List.not_mem_nil, or_false]
  constructor
  · rintro (rfl | rfl)
    · exact .inl rfl
    · exact .inr rfl
  · rintro (h | h)
    · exact .inl (UInt8.toNat_inj.1 (by have : (32 : UInt8).toNat = 32 := rfl; omega))
    · exact .inr (UInt8.toNat_inj.1 (by have : (9 : UInt8).toNat = 9 := rfl; omega))
theorem ext_bs (l : List UInt8) (i j : Nat) : (bs l).extract i j = bs ((l.drop i).take (j - i)) := by rw [extract_bs, data_bs]
theorem rtrim_l1 : ∀ (n k : Nat) (l : List UInt8), l.length = n → n ≤ 140737488351232 → n < k → wicketref15_trim.l1 k (bs l) = some (bs (rstrip l))
  | _, 0, _, _, _, hk => absurd hk (Nat.not_lt_zero _)
  | 0, k + 1, l, hl, _, _ => by
    obtain rfl := List.length_eq_zero_iff.1 hl
    rw [wicketref15_trim.l1, if_pos (toList_bs [])]
    rfl
  | n + 1, k + 1, l, hl, hn, hk => by
    have hne : l ≠ [] := by intro e; rw [e] at hl; cases hl
    obtain ⟨r, c, rfl⟩ : ∃ r c, l = r ++ [c] := ⟨_, _, (List.dropLast_concat_getLast hne).symm⟩
    have hr : r.length = n := by simpa using hl
    have hg : (r ++ [c])[n]'(by rw [hl]; omega) = c := by simp [hr]
    have hb := bt_bs (r ++ [c]) n (by rw [hl]; omega)
    rw [hg] at hb
    have hsz : ((bs (r ++ [c])).size : Int) = n + 1 := by rw [bs_size, hl]; rfl
    have he : (bs (r ++ [c])).extract 0 (((n : Int)).toNat) = bs r := by
      rw [ext_bs, Int.toNat_natCast, List.drop_zero, Nat.sub_zero, ← hr, List.take_left' rfl]
    have ih := rtrim_l1 n k r hr (by omega) (by omega)
    have hrs : rstrip (r ++ [c]) = if pBl c = true then rstrip r else r ++ [c] := by
      unfold rstrip
      rw [List.reverse_append]
      show (List.dropWhile pBl (c :: r.reverse)).reverse = _
      rw [List.dropWhile_cons]
      cases pBl c with
      | true => rfl
      | false => simp
    rw [wicketref15_trim.l1, if_neg (by rw [toList_bs]; exact hne), hsz, wr _ (by omega), show (n : Int) + 1 - 1 = n by omega, if_pos (by omega), if_pos (by omega), hb, hrs]
    by_cases h1 : (c.toNat : Int) = 32
    · rw [if_pos h1, if_pos (by omega), he, ih, if_pos ((pBl_is c).2 (.inl h1))]
    · rw [if_neg h1]
      by_cases h2 : (c.toNat : Int) = 9
      · rw [if_pos h2, if_pos (by omega), he, ih, if_pos ((pBl_is c).2 (.inr h2))]
      · rw [if_neg h2, if_neg (fun h => by rcases (pBl_is c).1 h with h | h <;> contradiction)]
theorem rtrim_l0 : ∀ (l : List UInt8) (k : Nat), l.length ≤ 140737488351232 → 2 * l.length + 2 < k → wicketref15_trim.l0 k (bs l) = some (bs (rstrip (l.dropWhile pBl)))
  | _, 0, _, hk => absurd hk (Nat.not_lt_zero _)
  | [], k + 1, _, hk => by
    rw [wicketref15_trim.l0, if_pos (toList_bs [])]
    obtain ⟨k, rfl⟩ : ∃ m, k = m + 1 := ⟨k - 1, by omega⟩
    rw [wicketref15_trim.j1, rtrim_l1 0 k [] rfl (by omega) (by have : ([] : List UInt8).length = 0 := rfl; omega)]
    rfl
  | c :: r, k + 1, hn, hk => by
    rw [List.length_cons] at hn hk
    have hb := bt_bs (c :: r) 0 (by simp)
    rw [show ((0 : Nat) : Int) = 0 from rfl, List.getElem_cons_zero] at hb
    have hsz : (bs (c :: r)).size = r.length + 1 := by rw [bs_size, List.length_cons]
    have he : (bs (c :: r)).extract 1 (bs (c :: r)).size = bs r := by
      rw [ext_bs, hsz, List.drop_succ_cons, List.drop_zero, List.take_of_length_le (by omega)]
    have ih := rtrim_l0 r k (by omega) (by omega)
    rw [wicketref15_trim.l0, if_neg (by rw [toList_bs]; exact fun e => by cases e), if_pos (by omega), hb, List.dropWhile_cons]
    by_cases h1 : (c.toNat : Int) = 32
    · rw [if_pos h1, if_pos (by omega), he, ih, if_pos ((pBl_is c).2 (.inl h1))]
    · rw [if_neg h1]
      by_cases h2 : (c.toNat : Int) = 9
      · rw [if_pos h2, if_pos (by omega), he, ih, if_pos ((pBl_is c).2 (.inr h2))]
      · rw [if_neg h2, if_neg (fun h => by rcases (pBl_is c).1 h with h | h <;> contradiction)]
        obtain ⟨k, rfl⟩ : ∃ m, k = m + 1 := ⟨k - 1, by omega⟩
        rw [wicketref15_trim.j1, rtrim_l1 (r.length + 1) k (c :: r) (List.length_cons ..) (by omega) (by omega)]
theorem rtrim_f (k : Nat) (a : ByteArray) (ha : a.size ≤ 140737488351232) (hk : 2 * a.size + 2 < k) : wicketref15_trim.f k a = some (bs (Lib.trimS a.data.toList [32, 9])) := by
  have h := rtrim_l0 a.data.toList k (by rw [size_data]; exact ha) (by rw [size_data]; exact hk)
  rw [bs_eq] at h
  rw [trimS_is]
  exact h
/-! ### length -/
theorem rlength_l0 (a : ByteArray) (ha : a.size ≤ 9) : ∀ (d k i acc : Nat), i + d = a.size → d < k → acc < 10 ^ i → wicketref15_length.l0 k a (acc : Int) (i : Int) = some (if (a.data.toList.drop i).all pDig = true then (((a.data.toList.drop i).foldl (fun a b => a * 10 + (b.toNat - 48)) acc : Nat) : Int) else -1)
  | _, 0, _, _, _, hk, _ => absurd hk (Nat.not_lt_zero _)
  | 0, k + 1, i, acc, hi, _, _ => by
    rw [wicketref15_length.l0, if_neg (by omega), List.drop_of_length_le (by rw [size_data]; omega)]
    rfl
  | d + 1, k + 1, i, acc, hi, hk, hacc => by
    obtain ⟨c, hc, hb⟩ := bt_nat a i (by omega)
    have hd : a.data.toList.drop i = c :: a.data.toList.drop (i + 1) := by
      obtain ⟨h1, h2⟩ := List.getElem?_eq_some_iff.1 hc
      rw [List.drop_eq_getElem_cons h1, h2]
    have hlt := c.toNat_lt
    have hpow : acc < 10 ^ 9 := Nat.lt_of_lt_of_le hacc (Nat.pow_le_pow_right (by omega) (by omega))
    rw [wicketref15_length.l0, if_pos (by omega), if_pos (by omega), hb, hd, List.all_cons, List.foldl_cons]
    by_cases hp : pDig c = true
    · have hp' := pDig_is c hp
      have ih := rlength_l0 a ha d k (i + 1) (acc * 10 + (c.toNat - 48)) (by omega) (by omega) (by rw [Nat.pow_succ]; omega)
      rw [if_neg (by omega), if_neg (by omega), hp, Bool.true_and, wr ((acc : Int) * 10) (by omega), wr _ (by omega), wr _ (by omega)]
      rw [show (acc : Int) * 10 + ((c.toNat : Int) - 48) % 256 = ((acc * 10 + (c.toNat - 48) : Nat) : Int) by omega]
      exact ih
    · have hp' : ¬ (48 ≤ c.toNat ∧ c.toNat ≤ 57) := by
        unfold pDig at hp
        rwa [decide_eq_true_eq] at hp
      rw [Bool.eq_false_iff.2 hp, Bool.false_and, if_neg (by decide : ¬ (false = true))]
      split
      · rfl
      · rw [if_pos (by omega)]
theorem rlength_f (k : Nat) (a : ByteArray) (hk : 11 < k) : wicketref15_length.f k a = some (if digsB a.data.toList = true then (numF a.data.toList : Int) else -1) := by
  obtain ⟨k, rfl⟩ : ∃ m, k = m + 1 := ⟨k - 1, by omega⟩
  unfold wicketref15_length.f digsB
  rw [size_data]
  by_cases h1 : a.size < 1
  · rw [if_pos (by omega), wicketref15_length.j0, if_pos rfl, decide_eq_false (by omega : ¬ 1 ≤ a.size), Bool.false_and]
    rfl
  · rw [if_neg (by omega), wicketref15_length.j0, decide_eq_true (by omega : 1 ≤ a.size), Bool.true_and]
    by_cases h9 : a.size > 9
    · rw [decide_eq_true (by omega : (a.size : Int) > 9), if_pos rfl, decide_eq_false (by omega : ¬ a.size ≤ 9), Bool.false_and]
      rfl
    · rw [decide_eq_false (by omega : ¬ (a.size : Int) > 9), if_neg (by decide), decide_eq_true (by omega : a.size ≤ 9), Bool.true_and]
      exact rlength_l0 a (by omega) a.size k 0 0 (by omega) (by omega) (by decide)
/-! ### cut -/
def rcutF (l : List UInt8) : List UInt8 × List UInt8 × Bool :=
  if ((Lib.cut l [58]).2.2 && nameB (Lib.cut l [58]).1) = true then (lows (Lib.cut l [58]).1, Lib.trimS (Lib.cut l [58]).2.1 [32, 9], valB (Lib.trimS (Lib.cut l [58]).2.1 [32, 9])) else ([], [], false)
theorem index_none (y : UInt8) : ∀ a : List UInt8, (∀ c ∈ a, c ≠ y) → Lib.index a [y] = -1
  | [], _ => by simp [Lib.index]
  | c :: r, h => by
    have ih := index_none y r (fun x hx => h x (List.mem_cons_of_mem _ hx))
    have hc : c ≠ y := h c List.mem_cons_self
    rw [Lib.index, ih]
    have hp : ([y] : List UInt8).isPrefixOf (c :: r) = false := by simp [List.isPrefixOf, Ne.symm hc]
    rw [hp]
    rfl
theorem cut_none (y : UInt8) (a : List UInt8) (h : ∀ c ∈ a, c ≠ y) : (Lib.cut a [y]).2.2 = false := by
  unfold Lib.cut
  rw [index_none y a h, if_neg (by omega)]
def pNC (c : UInt8) : Bool := decide (c.toNat ≠ 58)
theorem rcut_l0 (a : ByteArray) (ha : a.size ≤ 140737488351232) (K : Nat) (d : Nat) : ∀ (M i : Nat), M = K + d + 1 → i + d = (a.data.toList.takeWhile pNC).length → wicketref15_cut.l0 M a (i : Int) = wicketref15_cut.j1 K a ((a.data.toList.takeWhile pNC).length : Int) := by
  induction d with
  | zero =>
    intro M i hM hi
    subst hM
    have hle := tw_le pNC a.data.toList
    rw [size_data] at hle
    rw [wicketref15_cut.l0]
    by_cases h : i < a.size
    · obtain ⟨c, hc, hb⟩ := bt_nat a i h
      have hn := tw_out (p := pNC) a.data.toList c (by rw [← hi]; exact hc)
      unfold pNC at hn
      rw [decide_eq_false_iff_not] at hn
      rw [if_pos (by omega), if_pos (by omega), hb, if_pos (by omega)]
      rw [show (i : Int) = ((a.data.toList.takeWhile pNC).length : Int) by omega]
    · rw [if_neg (by omega), show (i : Int) = ((a.data.toList.takeWhile pNC).length : Int) by omega]
  | succ d ih =>
    intro M i hM hi
    subst hM
    have hle := tw_le pNC a.data.toList
    rw [size_data] at hle
    obtain ⟨c, hc, hb⟩ := bt_nat a i (by omega)
    have hn := tw_in (p := pNC) a.data.toList i c (by omega) hc
    unfold pNC at hn
    rw [decide_eq_true_eq] at hn
    show wicketref15_cut.l0 (K + d + 1 + 1) a (i : Int) = _
    rw [wicketref15_cut.l0, if_pos (by omega), if_pos (by omega), hb, if_neg (by omega), wr _ (by omega)]
    exact ih (K + d + 1) (i + 1) rfl (by omega)
theorem rcut_f (k : Nat) (a : ByteArray) (ha : a.size ≤ 140737488351232) (hk : 3 * a.size + 20 < k) : wicketref15_cut.f k a = some (bs (rcutF a.data.toList).1, bs (rcutF a.data.toList).2.1, (rcutF a.data.toList).2.2) := by
  have hsz := size_data a
  have hle := tw_le pNC a.data.toList
  rw [hsz] at hle
  obtain ⟨K, hK⟩ : ∃ K, k = K + 1 + 1 + (a.data.toList.takeWhile pNC).length + 1 := ⟨k - (a.data.toList.takeWhile pNC).length - 3, by omega⟩
  unfold wicketref15_cut.f
  rw [show (0 : Int) = ((0 : Nat) : Int) from rfl, rcut_l0 a ha (K + 1 + 1) _ k 0 hK (by omega), wicketref15_cut.j1]
  have hnc : ∀ c ∈ a.data.toList.takeWhile pNC, c ≠ 58 := by
    intro c hc e
    have := List.all_eq_true.1 List.all_takeWhile c hc
    unfold pNC at this
    rw [decide_eq_true_eq, e] at this
    exact this rfl
  by_cases h : (a.data.toList.takeWhile pNC).length = a.size
  · have hall : a.data.toList.takeWhile pNC = a.data.toList := by
      have := (List.takeWhile_prefix pNC (l := a.data.toList)).eq_of_length (by omega)
      exact this
    rw [if_pos (by omega), wicketref15_cut.j2, if_pos rfl]
    have hc := cut_none 58 a.data.toList (by rw [← hall]; exact hnc)
    unfold rcutF
    rw [hc, Bool.false_and, if_neg (by decide)]
    rfl
  · obtain ⟨n, hn⟩ : ∃ n, n = (a.data.toList.takeWhile pNC).length := ⟨_, rfl⟩
    rw [← hn] at h hle ⊢
    have htk : a.data.toList.take n = a.data.toList.takeWhile pNC := by
      rw [hn]
      exact (List.prefix_iff_eq_take.1 (List.takeWhile_prefix pNC)).symm
    obtain ⟨c, hc, hb⟩ := bt_nat a n (by omega)
    have hc58 : c = 58 := by
      have hno := tw_out (p := pNC) a.data.toList c (by rw [← hn]; exact hc)
      unfold pNC at hno
      rw [decide_eq_false_iff_not] at hno
      exact UInt8.toNat_inj.1 (by have : (58 : UInt8).toNat = 58 := rfl; omega)
    have hsplit : a.data.toList = a.data.toList.take n ++ 58 :: a.data.toList.drop (n + 1) := by
      obtain ⟨h1, h2⟩ := List.getElem?_eq_some_iff.1 hc
      rw [← hc58, ← h2, ← List.drop_eq_getElem_cons h1, List.take_append_drop]
    have hcut : Lib.cut a.data.toList [58] = (a.data.toList.take n, a.data.toList.drop (n + 1), true) := by
      conv => lhs; rw [hsplit]
      exact cut_byte 58 _ _ (by rw [htk]; exact hnc)
    have he1 : a.extract 0 (n : Int).toNat = bs (a.data.toList.take n) := by rw [extract_bs, Int.toNat_natCast, List.drop_zero, Nat.sub_zero]
    have he2 : a.extract ((n : Int) + 1).toNat a.size = bs (a.data.toList.drop (n + 1)) := by
      rw [extract_bs, show ((n : Int) + 1).toNat = n + 1 by omega, List.take_of_length_le (by rw [List.length_drop]; omega)]
    rw [if_neg (by omega), if_pos (by omega), if_pos (by omega), he1, rname_f _ _ (by rw [bs_size, List.length_take]; omega) (by rw [bs_size, List.length_take]; omega), data_bs]
    simp only [Option.bind_some]
    unfold rcutF
    rw [hcut]
    dsimp only
    rw [Bool.true_and]
    cases hnm : nameB (a.data.toList.take n) with
    | false =>
      rw [wicketref15_cut.j2, if_pos (show (!false) = true from rfl), if_neg (by decide)]
      rfl
    | true =>
      have hb1 : (bs (Lib.trimS (a.data.toList.drop (n + 1)) [32, 9])).size ≤ a.size := by
        rw [bs_size]
        have := trimS_le (a.data.toList.drop (n + 1)) [32, 9]
        rw [List.length_drop] at this
        omega
      rw [wicketref15_cut.j2, if_neg (by decide), wr _ (by omega), if_pos (by omega), if_pos (by omega), he2, rtrim_f _ _ (by rw [bs_size, List.length_drop]; omega) (by rw [bs_size, List.length_drop]; omega), data_bs]
      simp only [Option.bind_some]
      rw [if_pos (by omega), if_pos (by omega), he1]
      unfold wicketref15_Small.f
      rw [if_pos (by rw [bs_size, List.length_take]; omega)]
      simp only [Option.bind_some]
      rw [rvalue_f _ _ (by omega) (by omega), data_bs, data_bs, if_pos trivial]
      rfl
theorem mem_drop (p : UInt8 → Bool) : ∀ (l : List UInt8) (c : UInt8), c ∈ l → c ∈ l.dropWhile p ∨ p c = true
  | [], c, h => by cases h
  | a :: r, c, h => by
    rw [List.dropWhile_cons]
    split
    · rename_i ha
      rcases List.mem_cons.1 h with rfl | h
      · exact .inr ha
      · exact mem_drop p r c h
    · exact .inl h
theorem mem_trim (l : List UInt8) (c : UInt8) (h : c ∈ l) : c ∈ Lib.trimS l [32, 9] ∨ pBl c = true := by
  rw [trimS_is]
  rcases mem_drop pBl l c h with h | h
  · unfold rstrip
    rcases mem_drop pBl (l.dropWhile pBl).reverse c (List.mem_reverse.2 h) with h | h
    · exact .inl (List.mem_reverse.2 h)
    · exact .inr h
  · exact .inr h
/-- The two readings of a line are one. -/
theorem cut_same (l : List UInt8) : (rcutF l).2.2 = (pfF l).2.2 ∧ ((pfF l).2.2 = true → rcutF l = pfF l) := by
  cases hp : (pfF l).2.2 with
  | true =>
    obtain ⟨g1, g2, g3, g4⟩ := pfF_good hp
    have hp' := hp
    unfold pfF at hp' g3
    split at hp'
    · rename_i hc
      rw [if_pos hc] at g3
      dsimp only at g3
      simp only [Bool.and_eq_true] at hc
      have e : rcutF l = pfF l := by
        unfold rcutF
        rw [if_pos (by rw [hc.1, hc.2.1]; rfl), g3, ← hp]
        unfold pfF
        rw [if_pos (by rw [hc.1, hc.2.1, hc.2.2]; rfl)]
      exact ⟨by rw [e, hp], fun _ => e⟩
    · cases hp'
  | false =>
    refine ⟨?_, fun h => by cases h⟩
    rw [Bool.eq_false_iff]
    intro hr
    unfold rcutF at hr
    split at hr
    · rename_i hc
      simp only [Bool.and_eq_true] at hc
      dsimp only at hr
      obtain ⟨v1, v2, v3, v4⟩ := (valB_iff _).1 hr
      have hall : (Lib.cut l [58]).2.1.all pField = true := by
        rw [List.all_eq_true]
        intro c hc'
        rcases mem_trim _ c hc' with h | h
        · exact pVal_pField (List.all_eq_true.1 v2 c h)
        · rcases (pBl_is c).1 h with h | h
          · unfold pField; rw [decide_eq_true_eq]; omega
          · unfold pField; rw [decide_eq_true_eq]; omega
      unfold pfF at hp
      rw [if_pos (by rw [hc.1, hc.2, hall]; rfl)] at hp
      dsimp only at hp
      rw [decide_eq_true v1, contains9 _ (List.all_eq_true.1 v2)] at hp
      cases hp
    · cases hr
end Go.Proofs.YtmfkgjnlobiobaaGreatDoor.X
namespace Go.Proofs.YtmfkgjnlobiobaaGreatDoor.X
open Go.RowKit Go.Shelf Go.Proofs.YtmfkgjnlobiobaaGreatDoorW.PrintWords
def fF (p : S80) : S84 := ⟨p.f0, p.f1⟩
theorem rd_pair (l : List S80) (i : Nat) (h : i < l.length) : rd_T80 l (i : Int) = l[i] := by
  unfold rd_T80
  rw [Int.toNat_natCast]
  simp [h]
theorem rd_field (l : List S80) (i : Nat) (h : i < l.length) : rd_T84 (l.map fF) (i : Int) = fF l[i] := by
  unfold rd_T84
  rw [Int.toNat_natCast]
  simp [h]
theorem ours_l0 (l : List S80) (hl : l.length < 4398046511104) : ∀ (d k i : Nat), i + d = l.length → d < k → wicketlaw15_ours.l0 k l ((l.take i).map fF) (i : Int) = some (l.map fF)
  | _, 0, _, _, hk => absurd hk (Nat.not_lt_zero _)
  | 0, k + 1, i, hi, hk => by
    rw [wicketlaw15_ours.l0, if_neg (by omega), List.take_of_length_le (by omega)]
  | d + 1, k + 1, i, hi, hk => by
    rw [wicketlaw15_ours.l0, if_pos (by omega), if_pos (by omega), if_pos (by rw [List.length_map, List.length_take]; omega), rd_pair l i (by omega), wr _ (by omega)]
    have h := ours_l0 l hl d k (i + 1) (by omega) (by omega)
    rw [List.take_succ_eq_append_getElem (by omega), List.map_append] at h
    exact h
theorem ours_f (k : Nat) (l : List S80) (hl : l.length < 4398046511104) (hk : l.length < k) : wicketlaw15_ours.f k l = some (l.map fF) := ours_l0 l hl l.length k 0 (by omega) hk
theorem fields_l0 (l : List S80) (hl : l.length < 4398046511104) : ∀ (d k i : Nat), i + d = l.length → d < k → wicketlaw15_fields.l0 k l (l.map fF) (i : Int) = some true
  | _, 0, _, _, hk => absurd hk (Nat.not_lt_zero _)
  | 0, k + 1, i, hi, hk => by
    rw [wicketlaw15_fields.l0, if_neg (by omega)]
  | d + 1, k + 1, i, hi, hk => by
    rw [wicketlaw15_fields.l0, if_pos (by omega), if_pos (by omega), if_pos (by rw [List.length_map]; omega), rd_pair l i (by omega), rd_field l i (by omega), if_pos (show (l[i]).f0.toList = (fF l[i]).f0.toList from rfl), if_pos (show (l[i]).f1.toList = (fF l[i]).f1.toList from rfl), wr _ (by omega)]
    exact fields_l0 l hl d k (i + 1) (by omega) (by omega)
theorem fields_f (k : Nat) (l : List S80) (hl : l.length < 4398046511104) (hk : l.length < k) : wicketlaw15_fields.f k l (l.map fF) = some true := by
  unfold wicketlaw15_fields.f
  rw [if_pos (by rw [List.length_map])]
  exact fields_l0 l hl l.length k 0 (by omega) hk
theorem pairs_back (l : List (List UInt8 × List UInt8)) : pairsL (l.map pairOf) = l := by
  unfold pairsL
  rw [List.map_map]
  conv => rhs; rw [← List.map_id l]
  exact List.map_congr_left (fun f _ => by simp only [Function.comp, pairOf, data_bs]; rfl)
theorem low_same {l : List (List UInt8 × List UInt8)} (h : ∀ f ∈ l, lows f.1 = f.1) : l.map lowP = l := by
  conv => rhs; rw [← List.map_id l]
  exact List.map_congr_left (fun f hf => by show (lows f.1, f.2) = f; rw [h f hf])
theorem small_pairs {l : List (List UInt8 × List UInt8)} (h : ∀ f ∈ l, okF f.1 f.2 = true ∧ lows f.1 = f.1) : ∀ f ∈ l.map pairOf, f.f0.size ≤ 140737488351232 := by
  intro f hf
  obtain ⟨g, hg, rfl⟩ := List.mem_map.1 hf
  obtain ⟨h1, h2⟩ := h g hg
  have h3 := (okF_parts h1).1
  rw [h2] at h3
  unfold nameB at h3
  simp only [Bool.and_eq_true, decide_eq_true_eq] at h3
  show (bs g.1).size ≤ _
  rw [bs_size]
  omega
theorem encS_ok (n : Nat) (l : List (List UInt8 × List UInt8)) (b : List UInt8) : encS (n, l, b, 0, 0) = ((n : Int), l.map pairOf, bs b, 0, 0) := rfl
theorem encP_ok (m t : List UInt8) (l : List (List UInt8 × List UInt8)) (b : List UInt8) : encP (m, t, l, b, 0, 0) = (bs m, bs t, l.map pairOf, bs b, 0, 0) := rfl
theorem parseF_bad (raw : List UInt8) (h : ¬ okP (parseF raw)) : (parseF raw).1 = [] ∧ ¬ (parseF raw).2.2.2.2.1 = 0 := by
  refine ⟨?_, h⟩
  revert h
  unfold okP parseF targP tailP
  repeat' split
  all_goals first | (intro _; rfl) | (intro h; exact absurd rfl h)
theorem parseRF_bad (raw : List UInt8) (h : ¬ okS (parseRF raw)) : (parseRF raw).1 = 0 ∧ ¬ (parseRF raw).2.2.2.1 = 0 := by
  refine ⟨?_, h⟩
  revert h
  unfold okS parseRF tailS
  repeat' split
  all_goals first | (intro _; rfl) | (intro h; exact absurd rfl h)
end Go.Proofs.YtmfkgjnlobiobaaGreatDoor.X
namespace Go.Proofs.YtmfkgjnlobiobaaGreatDoor.X
open Go.RowKit Go.Shelf Go.Proofs.YtmfkgjnlobiobaaGreatDoorW.PrintWords
def pNe (y c : UInt8) : Bool := decide (c.toNat ≠ y.toNat)
def upTo (y : UInt8) (l : List UInt8) : Nat := (l.takeWhile (pNe y)).length
theorem cut_at (y : UInt8) (l : List UInt8) : (Lib.cut l [y]).1 = l.take (upTo y l) ∧ (Lib.cut l [y]).2.1 = l.drop (upTo y l + 1) := by
  have hnc : ∀ c ∈ l.takeWhile (pNe y), c ≠ y := by
    intro c hc e
    have := List.all_eq_true.1 List.all_takeWhile c hc
    unfold pNe at this
    rw [decide_eq_true_eq, e] at this
    exact this rfl
  have htk : l.take (upTo y l) = l.takeWhile (pNe y) := (List.prefix_iff_eq_take.1 (List.takeWhile_prefix (pNe y))).symm
  have hle := tw_le (pNe y) l
  by_cases h : upTo y l = l.length
  · have hall : l.takeWhile (pNe y) = l := (List.takeWhile_prefix (pNe y) (l := l)).eq_of_length h
    rw [hall] at hnc
    unfold Lib.cut
    rw [index_none y l hnc, if_neg (by omega), h, List.take_length, List.drop_of_length_le (by omega)]
    exact ⟨rfl, rfl⟩
  · have hlt : upTo y l < l.length := Nat.lt_of_le_of_ne hle h
    have hc := tw_out (p := pNe y) l (l[upTo y l]) (List.getElem?_eq_getElem hlt)
    have hy : l[upTo y l] = y := by
      unfold pNe at hc
      rw [decide_eq_false_iff_not] at hc
      exact UInt8.toNat_inj.1 (by omega)
    have hsplit : l = l.take (upTo y l) ++ y :: l.drop (upTo y l + 1) := by
      conv => lhs; rw [← List.take_append_drop (upTo y l) l, List.drop_eq_getElem_cons hlt, hy]
    have hcut : Lib.cut l [y] = (l.take (upTo y l), l.drop (upTo y l + 1), true) := by
      conv => lhs; rw [hsplit]
      exact cut_byte y _ _ (by rw [htk]; exact hnc)
    rw [hcut]
    exact ⟨rfl, rfl⟩
theorem upTo_in (y : UInt8) (a : ByteArray) (i : Nat) (h : i < upTo y a.data.toList) : ∃ c : UInt8, i < a.size ∧ bt a (i : Int) = (c.toNat : Int) ∧ ¬ (c.toNat : Int) = (y.toNat : Int) := by
  have hle := tw_le (pNe y) a.data.toList
  rw [size_data] at hle
  unfold upTo at h
  obtain ⟨c, hc, hb⟩ := bt_nat a i (by omega)
  have hn := tw_in (p := pNe y) a.data.toList i c h hc
  unfold pNe at hn
  rw [decide_eq_true_eq] at hn
  exact ⟨c, by omega, hb, by omega⟩
theorem upTo_at (y : UInt8) (a : ByteArray) (h : upTo y a.data.toList < a.size) : bt a (upTo y a.data.toList : Int) = (y.toNat : Int) := by
  obtain ⟨c, hc, hb⟩ := bt_nat a _ h
  have hn := tw_out (p := pNe y) a.data.toList c hc
  unfold pNe at hn
  rw [decide_eq_false_iff_not] at hn
  rw [hb]
  omega
theorem upTo_le (y : UInt8) (a : ByteArray) : upTo y a.data.toList ≤ a.size := by
  have hle := tw_le (pNe y) a.data.toList
  rw [size_data] at hle
  exact hle
/-! ### Split -/
theorem rsplit_l0 (a : ByteArray) (ha : a.size ≤ 1000000000) (d : Nat) : ∀ (k i : Nat), i + d = upTo 63 a.data.toList → d + 1 ≤ k → wicketref15_Split.l0 k a (i : Int) = some (bs (a.data.toList.take (upTo 63 a.data.toList)), bs (a.data.toList.drop (upTo 63 a.data.toList + 1))) := by
  have hle := upTo_le 63 a
  have hsz := size_data a
  induction d with
  | zero =>
    intro k i hi hk
    obtain ⟨k, rfl⟩ : ∃ m, k = m + 1 := ⟨k - 1, by omega⟩
    obtain rfl : i = upTo 63 a.data.toList := by omega
    rw [wicketref15_Split.l0]
    by_cases h : upTo 63 a.data.toList < a.size
    · have hb := upTo_at 63 a h
      rw [show ((63 : UInt8).toNat : Int) = 63 from rfl] at hb
      rw [if_pos (by omega), if_pos (by omega), hb, if_pos rfl, if_pos (by omega), wr _ (by omega), if_pos (by omega), if_pos (by omega), extract_bs, extract_bs, Int.toNat_natCast, show ((upTo 63 a.data.toList : Int) + 1).toNat = upTo 63 a.data.toList + 1 by omega, List.drop_zero, Nat.sub_zero, List.take_of_length_le (i := a.size - (upTo 63 a.data.toList + 1)) (by rw [List.length_drop]; omega)]
    · have he : upTo 63 a.data.toList = a.size := by omega
      rw [if_neg (by omega), he, List.take_of_length_le (by omega), List.drop_of_length_le (by omega), bs_eq]
      rfl
  | succ d ih =>
    intro k i hi hk
    obtain ⟨k, rfl⟩ : ∃ m, k = m + 1 := ⟨k - 1, by omega⟩
    obtain ⟨c, h1, h2, h3⟩ := upTo_in 63 a i (by omega)
    rw [show ((63 : UInt8).toNat : Int) = 63 from rfl] at h3
    rw [wicketref15_Split.l0, if_pos (by omega), if_pos (by omega), h2, if_neg h3, wr _ (by omega)]
    exact ih k (i + 1) (by omega) (by omega)
theorem rSplit_f (k : Nat) (a : ByteArray) (ha : a.size ≤ 1000000000) (hk : a.size + 2 ≤ k) : wicketref15_Split.f k a = some (bs (a.data.toList.take (upTo 63 a.data.toList)), bs (a.data.toList.drop (upTo 63 a.data.toList + 1))) := by
  have hle := upTo_le 63 a
  exact rsplit_l0 a ha (upTo 63 a.data.toList) k 0 (by omega) (by omega)
theorem Split_f (a : ByteArray) (ha : a.size ≤ 1000000000) : http_Split.f a = some (bs (a.data.toList.take (upTo 63 a.data.toList)), bs (a.data.toList.drop (upTo 63 a.data.toList + 1))) := by
  unfold http_Split.f strings_Cut.f
  rw [if_pos (by omega)]
  simp only [Option.bind_some]
  rw [(cut_at 63 _).1, (cut_at 63 _).2]
/-! ### Media -/
theorem rmedia_l0 (a : ByteArray) (ha : a.size ≤ 1000000000) (d : Nat) : ∀ (k i : Nat), i + d = upTo 59 a.data.toList → d + 2 * a.size + 10 ≤ k → wicketref15_Media.l0 k a (i : Int) = some (bs (lows (Lib.trimS (a.data.toList.take (upTo 59 a.data.toList)) [32, 9]))) := by
  have hle := upTo_le 59 a
  have hsz := size_data a
  have hfin : ∀ k, 2 * a.size + 8 ≤ k → ((wicketref15_trim.f k (a.extract 0 (upTo 59 a.data.toList : Int).toNat)).bind fun t344 => ((wicketref15_Small.f t344).bind fun t345 => (some t345))) = some (bs (lows (Lib.trimS (a.data.toList.take (upTo 59 a.data.toList)) [32, 9]))) := by
    intro k hk
    have hl : (a.data.toList.take (upTo 59 a.data.toList)).length ≤ a.size := by rw [List.length_take]; omega
    have ht := trimS_le (a.data.toList.take (upTo 59 a.data.toList)) [32, 9]
    rw [extract_bs, Int.toNat_natCast, List.drop_zero, Nat.sub_zero, rtrim_f k _ (by rw [bs_size]; omega) (by rw [bs_size]; omega), data_bs]
    simp only [Option.bind_some]
    unfold wicketref15_Small.f
    rw [if_pos (by rw [bs_size]; omega), data_bs]
    rfl
  induction d with
  | zero =>
    intro k i hi hk
    obtain ⟨k, rfl⟩ : ∃ m, k = m + 1 := ⟨k - 1, by omega⟩
    obtain rfl : i = upTo 59 a.data.toList := by omega
    rw [wicketref15_Media.l0]
    by_cases h : upTo 59 a.data.toList < a.size
    · have hb := upTo_at 59 a h
      rw [show ((59 : UInt8).toNat : Int) = 59 from rfl] at hb
      rw [if_pos (by omega), if_pos (by omega), hb, if_pos rfl, if_pos (by omega)]
      exact hfin k (by omega)
    · rw [if_neg (by omega), if_pos (by omega), if_pos (by omega)]
      exact hfin k (by omega)
  | succ d ih =>
    intro k i hi hk
    obtain ⟨k, rfl⟩ : ∃ m, k = m + 1 := ⟨k - 1, by omega⟩
    obtain ⟨c, h1, h2, h3⟩ := upTo_in 59 a i (by omega)
    rw [show ((59 : UInt8).toNat : Int) = 59 from rfl] at h3
    rw [wicketref15_Media.l0, if_pos (by omega), if_pos (by omega), h2, if_neg h3, wr _ (by omega)]
    exact ih k (i + 1) (by omega) (by omega)
theorem rMedia_f (k : Nat) (a : ByteArray) (ha : a.size ≤ 1000000000) (hk : 3 * a.size + 20 ≤ k) : wicketref15_Media.f k a = some (bs (lows (Lib.trimS (a.data.toList.take (upTo 59 a.data.toList)) [32, 9]))) := by
  have hle := upTo_le 59 a
  exact rmedia_l0 a ha (upTo 59 a.data.toList) k 0 (by omega) (by omega)
theorem Media_f (a : ByteArray) (ha : a.size ≤ 1000000000) : http_Media.f a = some (bs (lows (Lib.trimS (a.data.toList.take (upTo 59 a.data.toList)) [32, 9]))) := by
  have hsz := size_data a
  have hl : (a.data.toList.take (upTo 59 a.data.toList)).length ≤ a.size := by rw [List.length_take]; omega
  have ht := trimS_le (a.data.toList.take (upTo 59 a.data.toList)) [32, 9]
  unfold http_Media.f strings_Cut.f
  rw [if_pos (by omega)]
  simp only [Option.bind_some]
  rw [(cut_at 59 _).1]
  unfold strings_Trim.f
  rw [data_bs, if_pos ⟨by rw [bs_size]; omega, by decide, by decide⟩]
  simp only [Option.bind_some]
  unfold http_small.f
  rw [if_pos (by rw [bs_size]; exact Nat.le_trans ht (by omega)), data_bs]
  rfl
/-! ### Field -/
theorem small_same (a : ByteArray) : http_small.f a = wicketref15_Small.f a := rfl
theorem field_find (l : List S80) (hl : l.length ≤ 1000000000) (a : ByteArray) : ∀ (k : Nat) (v : ByteArray) (n : Int) (i : Nat), http_Field.l0 k a v n l (l.length : Int) (i : Int) = wicketref15_Find.l0 k (l.map fF) a n v (i : Int)
  | 0, _, _, _ => rfl
  | k + 1, v, n, i => by
    rw [http_Field.l0, wicketref15_Find.l0]
    by_cases h : i < l.length
    · rw [if_pos (by omega), if_pos (by omega), if_pos (by omega), if_pos (by rw [List.length_map]; omega), if_pos (by omega), rd_pair l i h, rd_field l i h, wr ((i : Int) + 1) (by omega)]
      have e1 := field_find l hl a k (l[i]).f1 (wrap64 (n + 1)) (i + 1)
      have e2 := field_find l hl a k v n (i + 1)
      rw [show ((i + 1 : Nat) : Int) = (i : Int) + 1 by omega] at e1 e2
      rw [e1, e2]
      rfl
    · rw [if_neg (show ¬ (i : Int) < (l.length : Int) by omega), if_neg (show ¬ (i : Int) < ((l.map fF).length : Int) by rw [List.length_map]; omega)]
theorem find_some (l : List S80) (hl : l.length ≤ 1000000000) (hs : ∀ f ∈ l, f.f0.size ≤ 140737488351232) (a : ByteArray) (ha : a.size ≤ 140737488351232) : ∀ (d k : Nat) (v : ByteArray) (n : Int) (i : Nat), i + d = l.length → d < k → ∃ r, wicketref15_Find.l0 k (l.map fF) a n v (i : Int) = some r
  | _, 0, _, _, _, _, hk => absurd hk (Nat.not_lt_zero _)
  | 0, k + 1, v, n, i, hi, _ => by
    rw [wicketref15_Find.l0, if_neg (by rw [List.length_map]; omega)]
    split <;> exact ⟨_, rfl⟩
  | d + 1, k + 1, v, n, i, hi, hk => by
    have h : i < l.length := by omega
    rw [wicketref15_Find.l0, if_pos (by rw [List.length_map]; omega), if_pos (by omega), rd_field l i h, wr ((i : Int) + 1) (by omega)]
    unfold wicketref15_Small.f
    rw [if_pos (show (fF l[i]).f0.size ≤ 140737488351232 from hs _ (List.getElem_mem _)), if_pos ha]
    simp only [Option.bind_some]
    rw [show (i : Int) + 1 = ((i + 1 : Nat) : Int) by omega]
    split
    · exact find_some l hl hs a ha d k _ _ (i + 1) (by omega) (by omega)
    · exact find_some l hl hs a ha d k _ _ (i + 1) (by omega) (by omega)
theorem Field_both (k : Nat) (l : List S80) (hl : l.length ≤ 1000000000) (hs : ∀ f ∈ l, f.f0.size ≤ 140737488351232) (a : ByteArray) (ha : a.size ≤ 140737488351232) (hk : l.length < k) : ∃ r, http_Field.f k l a = some r ∧ wicketref15_Find.f k (l.map fF) a = some r := by
  obtain ⟨r, hr⟩ := find_some l hl hs a ha l.length k ⟨#[]⟩ 0 0 (by omega) hk
  refine ⟨r, ?_, hr⟩
  unfold http_Field.f
  rw [show (0 : Int) = ((0 : Nat) : Int) from rfl]
  exact (field_find l hl a k ⟨#[]⟩ 0 0).trans hr
end Go.Proofs.YtmfkgjnlobiobaaGreatDoor.X
namespace Go.Proofs.YtmfkgjnlobiobaaGreatDoor.X
open Go.RowKit Go.Proofs.YtmfkgjnlobiobaaGreatDoorW.PrintWords Go.Proofs.YtmfkgjnlobiobaaGreatDoorW.PrintLast Go.Proofs.YtmfkgjnlobiobaaGreatDoorW.PrintMore
attribute [local go_sem] max2_int min2_int max_two min_two max_three min_three max_four min_four   -- for this text's walks alone
set_option linter.unusedVariables false
set_option linter.unusedSimpArgs false

/-! ### wicketref15_Reason: function 29 -/
def wicketref15_Reason.f (a0 : Int) : Option (ByteArray) := if a0 = 200 then (some (⟨#[79, 75]⟩ : ByteArray)) else (if a0 = 204 then (some (⟨#[78, 111, 32, 67, 111, 110, 116, 101, 110, 116]⟩ : ByteArray)) else (if a0 = 400 then (some (⟨#[66, 97, 100, 32, 82, 101, 113, 117, 101, 115, 116]⟩ : ByteArray)) else (if a0 = 401 then (some (⟨#[85, 110, 97, 117, 116, 104, 111, 114, 105, 122, 101, 100]⟩ : ByteArray)) else (if a0 = 403 then (some (⟨#[70, 111, 114, 98, 105, 100, 100, 101, 110]⟩ : ByteArray)) else (if a0 = 404 then (some (⟨#[78, 111, 116, 32, 70, 111, 117, 110, 100]⟩ : ByteArray)) else (if a0 = 405 then (some (⟨#[77, 101, 116, 104, 111, 100, 32, 78, 111, 116, 32, 65, 108, 108, 111, 119, 101, 100]⟩ : ByteArray)) else (if a0 = 413 then (some (⟨#[67, 111, 110, 116, 101, 110, 116, 32, 84, 111, 111, 32, 76, 97, 114, 103, 101]⟩ : ByteArray)) else (if a0 = 415 then (some (⟨#[85, 110, 115, 117, 112, 112, 111, 114, 116, 101, 100, 32, 77, 101, 100, 105, 97, 32, 84, 121, 112, 101]⟩ : ByteArray)) else (if a0 = 429 then (some (⟨#[84, 111, 111, 32, 77, 97, 110, 121, 32, 82, 101, 113, 117, 101, 115, 116, 115]⟩ : ByteArray)) else (if a0 = 500 then (some (⟨#[73, 110, 116, 101, 114, 110, 97, 108, 32, 83, 101, 114, 118, 101, 114, 32, 69, 114, 114, 111, 114]⟩ : ByteArray)) else (if a0 = 503 then (some (⟨#[83, 101, 114, 118, 105, 99, 101, 32, 85, 110, 97, 118, 97, 105, 108, 97, 98, 108, 101]⟩ : ByteArray)) else (some (⟨#[]⟩ : ByteArray)))))))))))))
set_option maxHeartbeats 8000000 in
set_option maxRecDepth 100000 in
theorem wicketref15_Reason.calls (a0 : Int) (r : ByteArray) (w : World) (h : wicketref15_Reason.f a0 = some r) :
    Calls Tryz.prog 29 #[.int .i64 a0] w fun e w' => e = .returned (.string r) ∧ Drawn0 w w' := by
  have H : (if a0 = 200 then (some (⟨#[79, 75]⟩ : ByteArray)) else (if a0 = 204 then (some (⟨#[78, 111, 32, 67, 111, 110, 116, 101, 110, 116]⟩ : ByteArray)) else (if a0 = 400 then (some (⟨#[66, 97, 100, 32, 82, 101, 113, 117, 101, 115, 116]⟩ : ByteArray)) else (if a0 = 401 then (some (⟨#[85, 110, 97, 117, 116, 104, 111, 114, 105, 122, 101, 100]⟩ : ByteArray)) else (if a0 = 403 then (some (⟨#[70, 111, 114, 98, 105, 100, 100, 101, 110]⟩ : ByteArray)) else (if a0 = 404 then (some (⟨#[78, 111, 116, 32, 70, 111, 117, 110, 100]⟩ : ByteArray)) else (if a0 = 405 then (some (⟨#[77, 101, 116, 104, 111, 100, 32, 78, 111, 116, 32, 65, 108, 108, 111, 119, 101, 100]⟩ : ByteArray)) else (if a0 = 413 then (some (⟨#[67, 111, 110, 116, 101, 110, 116, 32, 84, 111, 111, 32, 76, 97, 114, 103, 101]⟩ : ByteArray)) else (if a0 = 415 then (some (⟨#[85, 110, 115, 117, 112, 112, 111, 114, 116, 101, 100, 32, 77, 101, 100, 105, 97, 32, 84, 121, 112, 101]⟩ : ByteArray)) else (if a0 = 429 then (some (⟨#[84, 111, 111, 32, 77, 97, 110, 121, 32, 82, 101, 113, 117, 101, 115, 116, 115]⟩ : ByteArray)) else (if a0 = 500 then (some (⟨#[73, 110, 116, 101, 114, 110, 97, 108, 32, 83, 101, 114, 118, 101, 114, 32, 69, 114, 114, 111, 114]⟩ : ByteArray)) else (if a0 = 503 then (some (⟨#[83, 101, 114, 118, 105, 99, 101, 32, 85, 110, 97, 118, 97, 105, 108, 97, 98, 108, 101]⟩ : ByteArray)) else (some (⟨#[]⟩ : ByteArray)))))))))))))) = some r := h
  clear h
  by_cases c2 : a0 = 200
  · rw [if_pos c2] at H
    have c2b0 : (a0 == 200) = true := beq_iff_eq.mpr c2
    have c2b1 : (a0 != 200) = false := bne_eq_false_iff_eq.mpr c2
    clear c2
    obtain rfl := Option.some.inj H
    go_enter Tryz.func29, Tryz.ntmps29
    go_wp2
    go_ret
    exact ⟨by first | rfl | (simp; done) | (simp [*]; done), by repeat (first | exact Drawn0.refl _ | apply Drawn0.step)⟩
  · rw [if_neg c2] at H
    have c2b0 : (a0 == 200) = false := beq_eq_false_iff_ne.mpr c2
    have c2b1 : (a0 != 200) = true := bne_iff_ne.mpr c2
    by_cases c3 : a0 = 204
    · rw [if_pos c3] at H
      have c3b0 : (a0 == 204) = true := beq_iff_eq.mpr c3
      have c3b1 : (a0 != 204) = false := bne_eq_false_iff_eq.mpr c3
      clear c3
      obtain rfl := Option.some.inj H
      go_enter Tryz.func29, Tryz.ntmps29
      go_wp2
      go_ret
      exact ⟨by first | rfl | (simp; done) | (simp [*]; done), by repeat (first | exact Drawn0.refl _ | apply Drawn0.step)⟩
    · rw [if_neg c3] at H
      have c3b0 : (a0 == 204) = false := beq_eq_false_iff_ne.mpr c3
      have c3b1 : (a0 != 204) = true := bne_iff_ne.mpr c3
      by_cases c4 : a0 = 400
      · rw [if_pos c4] at H
        have c4b0 : (a0 == 400) = true := beq_iff_eq.mpr c4
        have c4b1 : (a0 != 400) = false := bne_eq_false_iff_eq.mpr c4
        clear c4
        obtain rfl := Option.some.inj H
        go_enter Tryz.func29, Tryz.ntmps29
        go_wp2
        go_ret
        exact ⟨by first | rfl | (simp; done) | (simp [*]; done), by repeat (first | exact Drawn0.refl _ | apply Drawn0.step)⟩
      · rw [if_neg c4] at H
        have c4b0 : (a0 == 400) = false := beq_eq_false_iff_ne.mpr c4
        have c4b1 : (a0 != 400) = true := bne_iff_ne.mpr c4
        by_cases c5 : a0 = 401
        · rw [if_pos c5] at H
          have c5b0 : (a0 == 401) = true := beq_iff_eq.mpr c5
          have c5b1 : (a0 != 401) = false := bne_eq_false_iff_eq.mpr c5
          clear c5
          obtain rfl := Option.some.inj H
          go_enter Tryz.func29, Tryz.ntmps29
          go_wp2
          go_ret
          exact ⟨by first | rfl | (simp; done) | (simp [*]; done), by repeat (first | exact Drawn0.refl _ | apply Drawn0.step)⟩
        · rw [if_neg c5] at H
          have c5b0 : (a0 == 401) = false := beq_eq_false_iff_ne.mpr c5
          have c5b1 : (a0 != 401) = true := bne_iff_ne.mpr c5
          by_cases c6 : a0 = 403
          · rw [if_pos c6] at H
            have c6b0 : (a0 == 403) = true := beq_iff_eq.mpr c6
            have c6b1 : (a0 != 403) = false := bne_eq_false_iff_eq.mpr c6
            clear c6
            obtain rfl := Option.some.inj H
            go_enter Tryz.func29, Tryz.ntmps29
            go_wp2
            go_ret
            exact ⟨by first | rfl | (simp; done) | (simp [*]; done), by repeat (first | exact Drawn0.refl _ | apply Drawn0.step)⟩
          · rw [if_neg c6] at H
            have c6b0 : (a0 == 403) = false := beq_eq_false_iff_ne.mpr c6
            have c6b1 : (a0 != 403) = true := bne_iff_ne.mpr c6
            by_cases c7 : a0 = 404
            · rw [if_pos c7] at H
              have c7b0 : (a0 == 404) = true := beq_iff_eq.mpr c7
              have c7b1 : (a0 != 404) = false := bne_eq_false_iff_eq.mpr c7
              clear c7
              obtain rfl := Option.some.inj H
              go_enter Tryz.func29, Tryz.ntmps29
              go_wp2
              go_ret
              exact ⟨by first | rfl | (simp; done) | (simp [*]; done), by repeat (first | exact Drawn0.refl _ | apply Drawn0.step)⟩
            · rw [if_neg c7] at H
              have c7b0 : (a0 == 404) = false := beq_eq_false_iff_ne.mpr c7
              have c7b1 : (a0 != 404) = true := bne_iff_ne.mpr c7
              by_cases c8 : a0 = 405
              · rw [if_pos c8] at H
                have c8b0 : (a0 == 405) = true := beq_iff_eq.mpr c8
                have c8b1 : (a0 != 405) = false := bne_eq_false_iff_eq.mpr c8
                clear c8
                obtain rfl := Option.some.inj H
                go_enter Tryz.func29, Tryz.ntmps29
                go_wp2
                go_ret
                exact ⟨by first | rfl | (simp; done) | (simp [*]; done), by repeat (first | exact Drawn0.refl _ | apply Drawn0.step)⟩
              · rw [if_neg c8] at H
                have c8b0 : (a0 == 405) = false := beq_eq_false_iff_ne.mpr c8
                have c8b1 : (a0 != 405) = true := bne_iff_ne.mpr c8
                by_cases c9 : a0 = 413
                · rw [if_pos c9] at H
                  have c9b0 : (a0 == 413) = true := beq_iff_eq.mpr c9
                  have c9b1 : (a0 != 413) = false := bne_eq_false_iff_eq.mpr c9
                  clear c9
                  obtain rfl := Option.some.inj H
                  go_enter Tryz.func29, Tryz.ntmps29
                  go_wp2
                  go_ret
                  exact ⟨by first | rfl | (simp; done) | (simp [*]; done), by repeat (first | exact Drawn0.refl _ | apply Drawn0.step)⟩
                · rw [if_neg c9] at H
                  have c9b0 : (a0 == 413) = false := beq_eq_false_iff_ne.mpr c9
                  have c9b1 : (a0 != 413) = true := bne_iff_ne.mpr c9
                  by_cases c10 : a0 = 415
                  · rw [if_pos c10] at H
                    have c10b0 : (a0 == 415) = true := beq_iff_eq.mpr c10
                    have c10b1 : (a0 != 415) = false := bne_eq_false_iff_eq.mpr c10
                    clear c10
                    obtain rfl := Option.some.inj H
                    go_enter Tryz.func29, Tryz.ntmps29
                    go_wp2
                    go_ret
                    exact ⟨by first | rfl | (simp; done) | (simp [*]; done), by repeat (first | exact Drawn0.refl _ | apply Drawn0.step)⟩
                  · rw [if_neg c10] at H
                    have c10b0 : (a0 == 415) = false := beq_eq_false_iff_ne.mpr c10
                    have c10b1 : (a0 != 415) = true := bne_iff_ne.mpr c10
                    by_cases c11 : a0 = 429
                    · rw [if_pos c11] at H
                      have c11b0 : (a0 == 429) = true := beq_iff_eq.mpr c11
                      have c11b1 : (a0 != 429) = false := bne_eq_false_iff_eq.mpr c11
                      clear c11
                      obtain rfl := Option.some.inj H
                      go_enter Tryz.func29, Tryz.ntmps29
                      go_wp2
                      go_ret
                      exact ⟨by first | rfl | (simp; done) | (simp [*]; done), by repeat (first | exact Drawn0.refl _ | apply Drawn0.step)⟩
                    · rw [if_neg c11] at H
                      have c11b0 : (a0 == 429) = false := beq_eq_false_iff_ne.mpr c11
                      have c11b1 : (a0 != 429) = true := bne_iff_ne.mpr c11
                      by_cases c12 : a0 = 500
                      · rw [if_pos c12] at H
                        have c12b0 : (a0 == 500) = true := beq_iff_eq.mpr c12
                        have c12b1 : (a0 != 500) = false := bne_eq_false_iff_eq.mpr c12
                        clear c12
                        obtain rfl := Option.some.inj H
                        go_enter Tryz.func29, Tryz.ntmps29
                        go_wp2
                        go_ret
                        exact ⟨by first | rfl | (simp; done) | (simp [*]; done), by repeat (first | exact Drawn0.refl _ | apply Drawn0.step)⟩
                      · rw [if_neg c12] at H
                        have c12b0 : (a0 == 500) = false := beq_eq_false_iff_ne.mpr c12
                        have c12b1 : (a0 != 500) = true := bne_iff_ne.mpr c12
                        by_cases c13 : a0 = 503
                        · rw [if_pos c13] at H
                          have c13b0 : (a0 == 503) = true := beq_iff_eq.mpr c13
                          have c13b1 : (a0 != 503) = false := bne_eq_false_iff_eq.mpr c13
                          clear c13
                          obtain rfl := Option.some.inj H
                          go_enter Tryz.func29, Tryz.ntmps29
                          go_wp2
                          go_ret
                          exact ⟨by first | rfl | (simp; done) | (simp [*]; done), by repeat (first | exact Drawn0.refl _ | apply Drawn0.step)⟩
                        · rw [if_neg c13] at H
                          have c13b0 : (a0 == 503) = false := beq_eq_false_iff_ne.mpr c13
                          have c13b1 : (a0 != 503) = true := bne_iff_ne.mpr c13
                          obtain rfl := Option.some.inj H
                          go_enter Tryz.func29, Tryz.ntmps29
                          go_wp2
                          go_ret
                          exact ⟨by first | rfl | (simp; done) | (simp [*]; done), by repeat (first | exact Drawn0.refl _ | apply Drawn0.step)⟩

end Go.Proofs.YtmfkgjnlobiobaaGreatDoor.X
namespace Go.Proofs.YtmfkgjnlobiobaaGreatDoor.X
open Go.RowKit Go.Proofs.YtmfkgjnlobiobaaGreatDoorW.PrintWords Go.Proofs.YtmfkgjnlobiobaaGreatDoorW.PrintLast Go.Proofs.YtmfkgjnlobiobaaGreatDoorW.PrintMore
attribute [local go_sem] max2_int min2_int max_two min_two max_three min_three max_four min_four   -- for this text's walks alone
set_option linter.unusedVariables false
set_option linter.unusedSimpArgs false

/-! ### wicketlaw15_HttpLooks: function 5 -/
def wicketlaw15_HttpLooks.j0 : Nat → ByteArray → Int → Bool → Option (Bool)
  | 0, _, _, _ => none
  | k + 1, x2, x3, x58 => if x58 = true then none else ((http_Split.f x2).bind fun bt368 => ((wicketref15_Split.f k x2).bind fun bt370 => ((http_Media.f x2).bind fun t372 => ((wicketref15_Media.f k x2).bind fun t373 => (if t372.toList = t373.toList then (if bt368.1.toList = bt370.1.toList then (if bt368.2.toList = bt370.2.toList then ((http_Reason.f x3).bind fun t374 => ((wicketref15_Reason.f x3).bind fun t375 => (if t374.toList = t375.toList then ((wicketlaw15_live.f k).bind fun t376 => (some t376)) else none))) else none) else none) else none)))))
def wicketlaw15_HttpLooks.f (k : Nat) (l0 : List (S80)) (a1 : ByteArray) (a2 : ByteArray) (a3 : Int) : Option (Bool) := (some (([] : List (S80)) : List (S80))).bind fun y348 => (if y348.length + l0.length < 4398046511104 then ((some (y348 ++ l0 : List (S80))).bind fun y351 => ((http_Field.f k y351 a1).bind fun bt354 => ((wicketlaw15_ours.f k l0).bind fun t357 => ((wicketref15_Find.f k t357 a1).bind fun bt360 => (if bt354.1.toList = bt360.1.toList then (if (bt354.2.1 != bt360.2.1) = true then (wicketlaw15_HttpLooks.j0 k a2 a3 true) else ((wicketlaw15_num.f bt354.2.2).bind fun t363 => (if t363 = bt360.2.2 then ((wicketlaw15_ours.f k l0).bind fun t364 => ((wicketlaw15_fields.f k y351 t364).bind fun t367 => (wicketlaw15_HttpLooks.j0 k a2 a3 (!t367)))) else (wicketlaw15_HttpLooks.j0 k a2 a3 true)))) else (wicketlaw15_HttpLooks.j0 k a2 a3 true)))))) else (none))
theorem wicketlaw15_HttpLooks.mono_l : ∀ k, (∀ y0 y1 y2, LeO (wicketlaw15_HttpLooks.j0 k y0 y1 y2) (wicketlaw15_HttpLooks.j0 (k + 1) y0 y1 y2))
  | 0 => fun _ _ _ r h => by simp [wicketlaw15_HttpLooks.j0] at h
  | k + 1 => by
    have ih0 := wicketlaw15_HttpLooks.mono_l k
    · intro y0 y1 y2
      unfold wicketlaw15_HttpLooks.j0
      repeat' first
      | (with_reducible exact ih0 _ _ _)
      | (with_reducible exact http_Field.mono _ _ _)
      | (with_reducible exact wicketlaw15_fields.mono _ _ _)
      | (with_reducible exact wicketlaw15_live.mono _)
      | (with_reducible exact wicketlaw15_ours.mono _ _)
      | (with_reducible exact wicketref15_Find.mono _ _ _)
      | (with_reducible exact wicketref15_Media.mono _ _)
      | (with_reducible exact wicketref15_Split.mono _ _)
      | (with_reducible exact LeO.refl _)
      | (with_reducible exact LeO.none _)
      | (with_reducible refine LeO.ite ?_ ?_)
      | (with_reducible refine LeO.bind ?_ (fun _ => ?_))
      | exact ih0 _ _ _
      | exact http_Field.mono _ _ _
      | exact wicketlaw15_fields.mono _ _ _
      | exact wicketlaw15_live.mono _
      | exact wicketlaw15_ours.mono _ _
      | exact wicketref15_Find.mono _ _ _
      | exact wicketref15_Media.mono _ _
      | exact wicketref15_Split.mono _ _
      | exact LeO.none _
      | refine LeO.ite ?_ ?_
      | refine LeO.bind ?_ (fun _ => ?_)
theorem wicketlaw15_HttpLooks.mono : ∀ a0 a1 a2 a3 k, LeO (wicketlaw15_HttpLooks.f k a0 a1 a2 a3) (wicketlaw15_HttpLooks.f (k + 1) a0 a1 a2 a3) := by
  intro a0 a1 a2 a3 k
  have ih0 := wicketlaw15_HttpLooks.mono_l k
  unfold wicketlaw15_HttpLooks.f
  repeat' first
      | (with_reducible exact ih0 _ _ _)
      | (with_reducible exact http_Field.mono _ _ _)
      | (with_reducible exact wicketlaw15_fields.mono _ _ _)
      | (with_reducible exact wicketlaw15_live.mono _)
      | (with_reducible exact wicketlaw15_ours.mono _ _)
      | (with_reducible exact wicketref15_Find.mono _ _ _)
      | (with_reducible exact wicketref15_Media.mono _ _)
      | (with_reducible exact wicketref15_Split.mono _ _)
      | (with_reducible exact LeO.refl _)
      | (with_reducible exact LeO.none _)
      | (with_reducible refine LeO.ite ?_ ?_)
      | (with_reducible refine LeO.bind ?_ (fun _ => ?_))
      | exact ih0 _ _ _
      | exact http_Field.mono _ _ _
      | exact wicketlaw15_fields.mono _ _ _
      | exact wicketlaw15_live.mono _
      | exact wicketlaw15_ours.mono _ _
      | exact wicketref15_Find.mono _ _ _
      | exact wicketref15_Media.mono _ _
      | exact wicketref15_Split.mono _ _
      | exact LeO.none _
      | refine LeO.ite ?_ ?_
      | refine LeO.bind ?_ (fun _ => ?_)
set_option maxHeartbeats 8000000 in
set_option maxRecDepth 100000 in
theorem wicketlaw15_HttpLooks.calls (k : Nat) (A0 : Option Addr) (c0 : Nat) (l0 : List (S80)) (a1 : ByteArray) (a2 : ByteArray) (a3 : Int) (r : Bool) (w : World) (hr0 : Kd.C k80 w A0 l0.length l0) (hc0 : l0.length ≤ c0) (hG : GL w) (h : wicketlaw15_HttpLooks.f k l0 a1 a2 a3 = some r) :
    Calls Tryz.prog 5 #[.slice A0 l0.length c0, .string a1, .string a2, .int .i64 a3] w fun e w' => e = .returned (.bool r) ∧ Below w.heap.size w w' := by
  have HR0 := Aside0.mk hr0
  have HC0 := Aside0.mk hc0
  clear hr0 hc0
  have HB := Aside0.mk (Below.refl w.heap.size w)
  have HG := Aside0.mk hG
  clear hG
  have H : ((some (([] : List (S80)) : List (S80))).bind fun y348 => (if y348.length + l0.length < 4398046511104 then ((some (y348 ++ l0 : List (S80))).bind fun y351 => ((http_Field.f k y351 a1).bind fun bt354 => ((wicketlaw15_ours.f k l0).bind fun t357 => ((wicketref15_Find.f k t357 a1).bind fun bt360 => (if bt354.1.toList = bt360.1.toList then (if (bt354.2.1 != bt360.2.1) = true then (wicketlaw15_HttpLooks.j0 k a2 a3 true) else ((wicketlaw15_num.f bt354.2.2).bind fun t363 => (if t363 = bt360.2.2 then ((wicketlaw15_ours.f k l0).bind fun t364 => ((wicketlaw15_fields.f k y351 t364).bind fun t367 => (wicketlaw15_HttpLooks.j0 k a2 a3 (!t367)))) else (wicketlaw15_HttpLooks.j0 k a2 a3 true)))) else (wicketlaw15_HttpLooks.j0 k a2 a3 true)))))) else (none))) = some r := h
  clear h
  obtain ⟨y348, hy348⟩ : ∃ y_ : List (S80), y_ = (([] : List (S80))) := ⟨_, rfl⟩
  replace H : (if y348.length + l0.length < 4398046511104 then ((some (y348 ++ l0 : List (S80))).bind fun y351 => ((http_Field.f k y351 a1).bind fun bt354 => ((wicketlaw15_ours.f k l0).bind fun t357 => ((wicketref15_Find.f k t357 a1).bind fun bt360 => (if bt354.1.toList = bt360.1.toList then (if (bt354.2.1 != bt360.2.1) = true then (wicketlaw15_HttpLooks.j0 k a2 a3 true) else ((wicketlaw15_num.f bt354.2.2).bind fun t363 => (if t363 = bt360.2.2 then ((wicketlaw15_ours.f k l0).bind fun t364 => ((wicketlaw15_fields.f k y351 t364).bind fun t367 => (wicketlaw15_HttpLooks.j0 k a2 a3 (!t367)))) else (wicketlaw15_HttpLooks.j0 k a2 a3 true)))) else (wicketlaw15_HttpLooks.j0 k a2 a3 true)))))) else (none)) = some r := by first | (rw [hy348]; with_reducible exact H) | (have H2_ := (Option.bind_some _ _).symm.trans H; rw [hy348]; with_reducible exact H2_) | (have H2_ := (Option.bind_some _ _).symm.trans H; with_reducible exact H2_) | with_reducible exact H | (rw [hy348]; exact H) | exact H
  have Ny348 := Aside0.mk hy348
  clear hy348
  by_cases c5 : y348.length + l0.length < 4398046511104
  · rw [if_pos c5] at H
    have LMc5 := Aside0.mk c5
    clear c5
    obtain ⟨y351, hy351⟩ : ∃ y_ : List (S80), y_ = (y348 ++ l0) := ⟨_, rfl⟩
    replace H : ((http_Field.f k y351 a1).bind fun bt354 => ((wicketlaw15_ours.f k l0).bind fun t357 => ((wicketref15_Find.f k t357 a1).bind fun bt360 => (if bt354.1.toList = bt360.1.toList then (if (bt354.2.1 != bt360.2.1) = true then (wicketlaw15_HttpLooks.j0 k a2 a3 true) else ((wicketlaw15_num.f bt354.2.2).bind fun t363 => (if t363 = bt360.2.2 then ((wicketlaw15_ours.f k l0).bind fun t364 => ((wicketlaw15_fields.f k y351 t364).bind fun t367 => (wicketlaw15_HttpLooks.j0 k a2 a3 (!t367)))) else (wicketlaw15_HttpLooks.j0 k a2 a3 true)))) else (wicketlaw15_HttpLooks.j0 k a2 a3 true))))) = some r := by first | (rw [hy351]; with_reducible exact H) | (have H2_ := (Option.bind_some _ _).symm.trans H; rw [hy351]; with_reducible exact H2_) | (have H2_ := (Option.bind_some _ _).symm.trans H; with_reducible exact H2_) | with_reducible exact H | (rw [hy351]; exact H) | exact H
    have Ny351 := Aside0.mk hy351
    clear hy351
    replace H := Option.bind_eq_some_iff.mp H
    obtain ⟨⟨t354, t355, t356⟩, A60, H⟩ := H
    replace H : ((wicketlaw15_ours.f k l0).bind fun t357 => ((wicketref15_Find.f k t357 a1).bind fun bt360 => (if t354.toList = bt360.1.toList then (if (t355 != bt360.2.1) = true then (wicketlaw15_HttpLooks.j0 k a2 a3 true) else ((wicketlaw15_num.f t356).bind fun t363 => (if t363 = bt360.2.2 then ((wicketlaw15_ours.f k l0).bind fun t364 => ((wicketlaw15_fields.f k y351 t364).bind fun t367 => (wicketlaw15_HttpLooks.j0 k a2 a3 (!t367)))) else (wicketlaw15_HttpLooks.j0 k a2 a3 true)))) else (wicketlaw15_HttpLooks.j0 k a2 a3 true)))) = some r := H
    have A6 := Aside0.mk A60
    clear A60
    replace H := Option.bind_eq_some_iff.mp H
    obtain ⟨t357, A70, H⟩ := H
    replace H : ((wicketref15_Find.f k t357 a1).bind fun bt360 => (if t354.toList = bt360.1.toList then (if (t355 != bt360.2.1) = true then (wicketlaw15_HttpLooks.j0 k a2 a3 true) else ((wicketlaw15_num.f t356).bind fun t363 => (if t363 = bt360.2.2 then ((wicketlaw15_ours.f k l0).bind fun t364 => ((wicketlaw15_fields.f k y351 t364).bind fun t367 => (wicketlaw15_HttpLooks.j0 k a2 a3 (!t367)))) else (wicketlaw15_HttpLooks.j0 k a2 a3 true)))) else (wicketlaw15_HttpLooks.j0 k a2 a3 true))) = some r := H
    have A7 := Aside0.mk A70
    clear A70
    replace H := Option.bind_eq_some_iff.mp H
    obtain ⟨⟨t360, t361, t362⟩, A80, H⟩ := H
    replace H : (if t354.toList = t360.toList then (if (t355 != t361) = true then (wicketlaw15_HttpLooks.j0 k a2 a3 true) else ((wicketlaw15_num.f t356).bind fun t363 => (if t363 = t362 then ((wicketlaw15_ours.f k l0).bind fun t364 => ((wicketlaw15_fields.f k y351 t364).bind fun t367 => (wicketlaw15_HttpLooks.j0 k a2 a3 (!t367)))) else (wicketlaw15_HttpLooks.j0 k a2 a3 true)))) else (wicketlaw15_HttpLooks.j0 k a2 a3 true)) = some r := H
    have A8 := Aside0.mk A80
    clear A80
    have HC9 := Aside0.mk H
    clear H
    go_enter Tryz.func5, Tryz.ntmps5
    go_upto_region 4 with (first | ((with_reducible refine gate_dst (N := 20) rfl ?_); refine Kd.R_lit k80 _ 80 ?hg (N := 20) ?hd (xs := ([] : List (S80))) (inner := []) (ok := fun _ => True) (okp := fun _ => True) ?hr ?hp (fun _ hk => hk) trivial (Below.refl _ _) (Nat.le_refl _) (by simp) ?_; (case hd => rfl); (case hg => rfl); (case hr => first | (go_simp; done) | (go_simp; rfl)); (case hp => exact (Reps.none _ _)); intro v349 w10 ho11 hb hg_ hnew_; clear hg_ hnew_; (first | rw [← Ny348.out] at ho11 | (simp only [Int.reduceToNat] at ho11; rw [← Ny348.out] at ho11)); have n0_ := Aside0.mk (Kd.R_lower ho11 (below_size (by repeat (first | (with_reducible first | exact HB.out | apply below_alloc | apply pw_below_drewN | apply below_drew1) | exact HB.out)))); have n1_ := Aside0.mk (below_step (by repeat (first | (with_reducible first | exact HB.out | apply below_alloc | apply pw_below_drewN | apply below_drew1) | exact HB.out)) hb); clear HB; have HO350 := n0_; have HB := n1_; clear n0_ n1_; clear hb ho11) | ((with_reducible refine gate_builtin (b := .append) (xs := #[.tmp 20, .tmp 21]) rfl ?_); at_builtin; refine Kd.R_append_rows k80 (w0 := w) w.heap.size rfl (.tmp 20) (.tmp 21) 22 80 (.agg #[(.string ⟨#[]⟩), (.string ⟨#[]⟩)]) 32 rfl Tryz.underlying22 info80 rfl (by decide) (by omega) v349 y348 l0 _ _ _ (fun _ => True) (fun _ => False) rfl rfl ?aO ?aR (fun _ _ h => h) (fun _ h => h.elim) ?aF ?aB ?aS ?aL ?_; (case aR => repeat (first | exact (Kd.C_below HR0.out HB.out) | (with_reducible refine Kd.C_alloc ?_ _) | (with_reducible refine Kd.C_drewN ?_ _) | (with_reducible refine Kd.C_drew ?_))); (case aB => exact (by repeat (first | (with_reducible first | exact HB.out | apply below_alloc | apply pw_below_drewN | apply below_drew1) | exact HB.out))); (case aF => exact (fun _ _ => trivial)); (case aO => exact (by (with_reducible repeat (first | apply Kd.R_alloc | apply Kd.R_drewN | apply Kd.R_drew)); exact HO350.out)); (case aS => exact (below_size (by repeat (first | (with_reducible first | exact HB.out | apply below_alloc | apply pw_below_drewN | apply below_drew1) | exact HB.out)))); (case aL => have := LMc5.out; omega); intro v352 w12 ho hb hg hat; rw [← Ny351.out] at ho; have n0_ := Aside0.mk (hb); have n1_ := Aside0.mk (ho); clear HB; clear HO350; have HB := n0_; have HO353 := n1_; clear n0_ n1_; clear ho hb hg hat; obtain ⟨Ao13, co13, eo13⟩ := Kd.R_slice HO353.out; subst eo13) | ((with_reducible refine gate_callee (f := 22) rfl ?_); refine goesL_ (some 26) rfl rfl Tryz.func22 (by kernel_rfl) rfl #[.slice Ao13 y351.length co13, .string a1] rfl (by (try simp only [List.map_toArray, List.map_cons, List.map_nil]); first | done | rfl | (simp only [List.length_drop, List.length_take]; rfl)) ?_; (with_reducible refine (http_Field.calls k _ _ y351 a1 t354 t355 t356 _ ?side1 ?side2 A6.out).mono ?_); (case side1 => repeat (first | exact (Kd.R_reads' HO353.out).2.2 | (with_reducible refine Kd.C_alloc ?_ _) | (with_reducible refine Kd.C_drewN ?_ _) | (with_reducible refine Kd.C_drew ?_))); (case side2 => exact (Kd.R_reads' HO353.out).2.1); rintro e w14 ⟨rfl, hb⟩; refine ⟨_, rfl, ?_⟩; have n0_ := Aside0.mk (Kd.R_below (by (with_reducible repeat (first | apply Kd.R_alloc | apply Kd.R_drewN | apply Kd.R_drew)); exact HO353.out) hb); have n1_ := Aside0.mk (below_step (by repeat (first | (with_reducible first | exact HB.out | apply below_alloc | apply pw_below_drewN | apply below_drew1) | exact HB.out)) hb); clear HO353; clear HB; have HO353 := n0_; have HB := n1_; clear n0_ n1_; (try clear hb); (try clear hb2); (try clear hk); (try clear hi)) | ((with_reducible refine gate_callee (f := 21) rfl ?_); refine goesL_ (some 32) rfl rfl Tryz.func21 (by kernel_rfl) rfl #[.slice A0 l0.length c0] rfl (by (try simp only [List.map_toArray, List.map_cons, List.map_nil]); first | done | rfl | (simp only [List.length_drop, List.length_take]; rfl)) ?_; (with_reducible refine (wicketlaw15_ours.calls k _ _ l0 t357 _ ?side1 ?side2 A7.out).mono ?_); (case side1 => repeat (first | exact (Kd.C_below HR0.out HB.out) | (with_reducible refine Kd.C_alloc ?_ _) | (with_reducible refine Kd.C_drewN ?_ _) | (with_reducible refine Kd.C_drew ?_))); (case side2 => exact HC0.out); rintro e w15 ⟨v358, rfl, ho0, hb⟩; refine ⟨_, rfl, ?_⟩; have n0_ := Aside0.mk (Kd.R_below (by (with_reducible repeat (first | apply Kd.R_alloc | apply Kd.R_drewN | apply Kd.R_drew)); exact HO353.out) hb); have n1_ := Aside0.mk (Kd.R_lower ho0 (below_size (by repeat (first | (with_reducible first | exact HB.out | apply below_alloc | apply pw_below_drewN | apply below_drew1) | exact HB.out)))); have n2_ := Aside0.mk (below_step (by repeat (first | (with_reducible first | exact HB.out | apply below_alloc | apply pw_below_drewN | apply below_drew1) | exact HB.out)) hb); clear HO353; clear HB; have HO353 := n0_; have HO359 := n1_; have HB := n2_; clear n0_ n1_ n2_; (try clear hb); (try clear hb2); (try clear hk); (try clear hi); (try clear ho0); obtain ⟨Ao16, co16, eo16⟩ := Kd.R_slice HO359.out; subst eo16) | ((with_reducible refine gate_callee (f := 23) rfl ?_); refine goesL_ (some 34) rfl rfl Tryz.func23 (by kernel_rfl) rfl #[.slice Ao16 t357.length co16, .string a1] rfl (by (try simp only [List.map_toArray, List.map_cons, List.map_nil]); first | done | rfl | (simp only [List.length_drop, List.length_take]; rfl)) ?_; (with_reducible refine (wicketref15_Find.calls k _ _ t357 a1 t360 t361 t362 _ ?side1 ?side2 A8.out).mono ?_); (case side1 => repeat (first | exact (Kd.R_reads' HO359.out).2.2 | (with_reducible refine Kd.C_alloc ?_ _) | (with_reducible refine Kd.C_drewN ?_ _) | (with_reducible refine Kd.C_drew ?_))); (case side2 => exact (Kd.R_reads' HO359.out).2.1); rintro e w17 ⟨rfl, hb⟩; refine ⟨_, rfl, ?_⟩; have n0_ := Aside0.mk (Kd.R_below (by (with_reducible repeat (first | apply Kd.R_alloc | apply Kd.R_drewN | apply Kd.R_drew)); exact HO353.out) hb); have n1_ := Aside0.mk (Kd.R_below (by (with_reducible repeat (first | apply Kd.R_alloc | apply Kd.R_drewN | apply Kd.R_drew)); exact HO359.out) hb); have n2_ := Aside0.mk (below_step (by repeat (first | (with_reducible first | exact HB.out | apply below_alloc | apply pw_below_drewN | apply below_drew1) | exact HB.out)) hb); clear HO353; clear HO359; clear HB; have HO353 := n0_; have HO359 := n1_; have HB := n2_; clear n0_ n1_ n2_; (try clear hb); (try clear hb2); (try clear hk); (try clear hi)))
    (try simp only [Act.put, List.setIfInBounds_toArray, List.set_cons_zero, List.set_cons_succ])
    go_cut [58] (fun v58 wc => ∃ (kq : Nat) (x58_8 : Bool), v58 = .bool x58_8 ∧ Aside0 (wicketlaw15_HttpLooks.j0 kq a2 a3 x58_8 = some r) ∧ Aside0 (kq ≤ k) ∧ Aside0 (Below w.heap.size w wc))
    case first =>
      have H := HC9.out
      clear HC9
      by_cases c18 : t354.toList = t360.toList
      · rw [if_pos c18] at H
        have c18b0 : (t354.toList == t360.toList) = true := beq_iff_eq.mpr c18
        have c18b1 : (t354.toList != t360.toList) = false := bne_eq_false_iff_eq.mpr c18
        clear c18
        (first | rw [c18b0] | (simp only [i64_w, i32_w]; rw [c18b0]) | skip)
        by_cases c19 : (t355 != t361) = true
        · rw [if_pos c19] at H
          have c19b0 : (t355 != t361) = true := c19
          (try (have c19b1 : decide (t355 = t361) = false := by simpa using c19))
          (try (have c19b2 : (t355 == t361) = false := by simpa using c19))
          (try (have c19b3 : ¬ (t355 = t361) := by simpa using c19))
          clear c19
          have H' := Aside0.mk H
          clear H
          go_wp2
          go_meet
          case rel => exact ⟨_, (true), (by first | rfl | (simp; done) | (simp [*]; done)), H', ⟨by first | omega | exact Nat.le_refl _⟩, ⟨by repeat (first | (with_reducible first | exact HB.out | apply below_alloc | apply pw_below_drewN | apply below_drew1) | exact HB.out)⟩⟩
        · rw [if_neg c19] at H
          have c19b0 : (t355 != t361) = false := by simpa using c19
          (try (have c19b1 : decide (t355 = t361) = true := by simpa using c19))
          (try (have c19b2 : (t355 == t361) = true := by simpa using c19))
          clear c19
          replace H := Option.bind_eq_some_iff.mp H
          obtain ⟨t363, A200, H⟩ := H
          obtain rfl : t356 = t363 := Option.some.inj A200
          replace H : (if t356 = t362 then ((wicketlaw15_ours.f k l0).bind fun t364 => ((wicketlaw15_fields.f k y351 t364).bind fun t367 => (wicketlaw15_HttpLooks.j0 k a2 a3 (!t367)))) else (wicketlaw15_HttpLooks.j0 k a2 a3 true)) = some r := H
          have A20 := Aside0.mk A200
          clear A200
          by_cases c21 : t356 = t362
          · rw [if_pos c21] at H
            have c21b0 : (t356 == t362) = true := beq_iff_eq.mpr c21
            have c21b1 : (t356 != t362) = false := bne_eq_false_iff_eq.mpr c21
            clear c21
            replace H := Option.bind_eq_some_iff.mp H
            obtain ⟨t364, A220, H⟩ := H
            replace H : ((wicketlaw15_fields.f k y351 t364).bind fun t367 => (wicketlaw15_HttpLooks.j0 k a2 a3 (!t367))) = some r := H
            have A22 := Aside0.mk A220
            clear A220
            replace H := Option.bind_eq_some_iff.mp H
            obtain ⟨t367, A230, H⟩ := H
            replace H : (wicketlaw15_HttpLooks.j0 k a2 a3 (!t367)) = some r := H
            have A23 := Aside0.mk A230
            clear A230
            have H' := Aside0.mk H
            clear H
            go_wp2_with (first | (go_at_call 10; (with_reducible refine (wicketlaw15_num.calls t356 t356 _ A20.out).mono ?_); rintro e w' ⟨rfl, ⟨nd, rfl⟩⟩) | (go_at_call 21; (with_reducible refine (wicketlaw15_ours.calls k _ _ l0 t364 _ ?side1 ?side2 A22.out).mono ?_); (case side1 => repeat (first | exact (Kd.C_below HR0.out (by repeat (first | (with_reducible first | exact HB.out | apply below_alloc | apply pw_below_drewN | apply below_drew1) | exact HB.out))) | (with_reducible refine Kd.C_alloc ?_ _) | (with_reducible refine Kd.C_drewN ?_ _) | (with_reducible refine Kd.C_drew ?_))); (case side2 => exact HC0.out); rintro e w24 ⟨v365, rfl, ho0, hb⟩; have n0_ := Aside0.mk (Kd.R_below (by (with_reducible repeat (first | apply Kd.R_alloc | apply Kd.R_drewN | apply Kd.R_drew)); exact HO353.out) hb); have n1_ := Aside0.mk (Kd.R_elder' (by (with_reducible repeat (first | apply Kd.R_alloc | apply Kd.R_drewN | apply Kd.R_drew)); exact HO359.out) (Kd.R_base ho0) hb); have n2_ := Aside0.mk (Kd.R_lower (Kd.R_new' ho0 (Kd.R_lt (by (with_reducible repeat (first | apply Kd.R_alloc | apply Kd.R_drewN | apply Kd.R_drew)); exact HO359.out))) (below_size (by repeat (first | (with_reducible first | exact HB.out | apply below_alloc | apply pw_below_drewN | apply below_drew1) | exact HB.out)))); have n3_ := Aside0.mk (below_step (by repeat (first | (with_reducible first | exact HB.out | apply below_alloc | apply pw_below_drewN | apply below_drew1) | exact HB.out)) hb); clear HO353; clear HO359; clear HB; have HO353 := n0_; have HO359 := n1_; have HO366 := n2_; have HB := n3_; clear n0_ n1_ n2_ n3_; (try clear hb); (try clear hb2); (try clear hk); (try clear hi); (try clear ho0); obtain ⟨Ao25, co25, eo25⟩ := Kd.R_slice HO366.out; subst eo25) | (go_at_call 20; (with_reducible refine (wicketlaw15_fields.calls k _ _ y351 _ _ t364 t367 _ ?side1 ?side2 ?side3 ?side4 A23.out).mono ?_); (case side1 => repeat (first | exact (Kd.R_reads' HO353.out).2.2 | (with_reducible refine Kd.C_alloc ?_ _) | (with_reducible refine Kd.C_drewN ?_ _) | (with_reducible refine Kd.C_drew ?_))); (case side2 => exact (Kd.R_reads' HO353.out).2.1); (case side3 => repeat (first | exact (Kd.R_reads' HO366.out).2.2 | (with_reducible refine Kd.C_alloc ?_ _) | (with_reducible refine Kd.C_drewN ?_ _) | (with_reducible refine Kd.C_drew ?_))); (case side4 => exact (Kd.R_reads' HO366.out).2.1); rintro e w' ⟨rfl, ⟨nd, rfl⟩⟩))
            go_meet
            case rel => exact ⟨_, (!t367), (by first | rfl | (simp; done) | (simp [*]; done)), H', ⟨by first | omega | exact Nat.le_refl _⟩, ⟨by repeat (first | (with_reducible first | exact HB.out | apply below_alloc | apply pw_below_drewN | apply below_drew1) | exact HB.out)⟩⟩
          · rw [if_neg c21] at H
            have c21b0 : (t356 == t362) = false := beq_eq_false_iff_ne.mpr c21
            have c21b1 : (t356 != t362) = true := bne_iff_ne.mpr c21
            have H' := Aside0.mk H
            clear H
            go_wp2_with (first | (go_at_call 10; (with_reducible refine (wicketlaw15_num.calls t356 t356 _ A20.out).mono ?_); rintro e w' ⟨rfl, ⟨nd, rfl⟩⟩))
            go_meet
            case rel => exact ⟨_, (true), (by first | rfl | (simp; done) | (simp [*]; done)), H', ⟨by first | omega | exact Nat.le_refl _⟩, ⟨by repeat (first | (with_reducible first | exact HB.out | apply below_alloc | apply pw_below_drewN | apply below_drew1) | exact HB.out)⟩⟩
      · rw [if_neg c18] at H
        have c18b0 : (t354.toList == t360.toList) = false := beq_eq_false_iff_ne.mpr c18
        have c18b1 : (t354.toList != t360.toList) = true := bne_iff_ne.mpr c18
        (first | rw [c18b0] | (simp only [i64_w, i32_w]; rw [c18b0]) | skip)
        have H' := Aside0.mk H
        clear H
        go_wp2
        go_meet
        case rel => exact ⟨_, (true), (by first | rfl | (simp; done) | (simp [*]; done)), H', ⟨by first | omega | exact Nat.le_refl _⟩, ⟨by repeat (first | (with_reducible first | exact HB.out | apply below_alloc | apply pw_below_drewN | apply below_drew1) | exact HB.out)⟩⟩
    case rest =>
      clear HC9
      try clear c1
      try clear c2
      try clear p2
      try clear c5
      try clear c18
      try clear c18b0
      try clear c18b1
      try clear c19
      try clear c19b0
      try clear c19b1
      try clear c19b2
      try clear c21
      try clear c21b0
      try clear c21b1
      try clear c22
      try clear c23
      obtain ⟨kq, x58_8, rfl, HA, HJ8, HB⟩ := hcut
      cases kq with
      | zero => exact absurd HA.out (by simp [wicketlaw15_HttpLooks.j0])
      | succ kj8 =>
        have H := HA.out
        clear HA
        simp only [wicketlaw15_HttpLooks.j0] at H
        by_cases c26 : x58_8 = true
        · subst c26
          have H1 : none = some r := by rw [if_pos rfl] at H; exact H
          clear H
          have H := H1
          clear H1
          cases H
        · replace c26 := Bool.eq_false_iff.mpr c26
          subst c26
          have H1 : ((http_Split.f a2).bind fun bt368 => ((wicketref15_Split.f kj8 a2).bind fun bt370 => ((http_Media.f a2).bind fun t372 => ((wicketref15_Media.f kj8 a2).bind fun t373 => (if t372.toList = t373.toList then (if bt368.1.toList = bt370.1.toList then (if bt368.2.toList = bt370.2.toList then ((http_Reason.f a3).bind fun t374 => ((wicketref15_Reason.f a3).bind fun t375 => (if t374.toList = t375.toList then ((wicketlaw15_live.f kj8).bind fun t376 => (some t376)) else none))) else none) else none) else none))))) = some r := by rw [if_neg (show ¬ (false = true) by decide)] at H; exact H
          clear H
          have H := H1
          clear H1
          replace H := Option.bind_eq_some_iff.mp H
          obtain ⟨⟨t368, t369⟩, A270, H⟩ := H
          replace H : ((wicketref15_Split.f kj8 a2).bind fun bt370 => ((http_Media.f a2).bind fun t372 => ((wicketref15_Media.f kj8 a2).bind fun t373 => (if t372.toList = t373.toList then (if t368.toList = bt370.1.toList then (if t369.toList = bt370.2.toList then ((http_Reason.f a3).bind fun t374 => ((wicketref15_Reason.f a3).bind fun t375 => (if t374.toList = t375.toList then ((wicketlaw15_live.f kj8).bind fun t376 => (some t376)) else none))) else none) else none) else none)))) = some r := H
          have A27 := Aside0.mk A270
          clear A270
          replace H := Option.bind_eq_some_iff.mp H
          obtain ⟨⟨t370, t371⟩, A280, H⟩ := H
          replace H : ((http_Media.f a2).bind fun t372 => ((wicketref15_Media.f kj8 a2).bind fun t373 => (if t372.toList = t373.toList then (if t368.toList = t370.toList then (if t369.toList = t371.toList then ((http_Reason.f a3).bind fun t374 => ((wicketref15_Reason.f a3).bind fun t375 => (if t374.toList = t375.toList then ((wicketlaw15_live.f kj8).bind fun t376 => (some t376)) else none))) else none) else none) else none))) = some r := H
          have A28 := Aside0.mk A280
          clear A280
          replace H := Option.bind_eq_some_iff.mp H
          obtain ⟨t372, A290, H⟩ := H
          replace H : ((wicketref15_Media.f kj8 a2).bind fun t373 => (if t372.toList = t373.toList then (if t368.toList = t370.toList then (if t369.toList = t371.toList then ((http_Reason.f a3).bind fun t374 => ((wicketref15_Reason.f a3).bind fun t375 => (if t374.toList = t375.toList then ((wicketlaw15_live.f kj8).bind fun t376 => (some t376)) else none))) else none) else none) else none)) = some r := H
          have A29 := Aside0.mk A290
          clear A290
          replace H := Option.bind_eq_some_iff.mp H
          obtain ⟨t373, A300, H⟩ := H
          replace H : (if t372.toList = t373.toList then (if t368.toList = t370.toList then (if t369.toList = t371.toList then ((http_Reason.f a3).bind fun t374 => ((wicketref15_Reason.f a3).bind fun t375 => (if t374.toList = t375.toList then ((wicketlaw15_live.f kj8).bind fun t376 => (some t376)) else none))) else none) else none) else none) = some r := H
          have A30 := Aside0.mk A300
          clear A300
          by_cases c31 : t372.toList = t373.toList
          · rw [if_pos c31] at H
            have c31b0 : (t372.toList == t373.toList) = true := beq_iff_eq.mpr c31
            have c31b1 : (t372.toList != t373.toList) = false := bne_eq_false_iff_eq.mpr c31
            clear c31
            by_cases c32 : t368.toList = t370.toList
            · rw [if_pos c32] at H
              have c32b0 : (t368.toList == t370.toList) = true := beq_iff_eq.mpr c32
              have c32b1 : (t368.toList != t370.toList) = false := bne_eq_false_iff_eq.mpr c32
              clear c32
              by_cases c33 : t369.toList = t371.toList
              · rw [if_pos c33] at H
                have c33b0 : (t369.toList == t371.toList) = true := beq_iff_eq.mpr c33
                have c33b1 : (t369.toList != t371.toList) = false := bne_eq_false_iff_eq.mpr c33
                clear c33
                replace H := Option.bind_eq_some_iff.mp H
                obtain ⟨t374, A340, H⟩ := H
                replace H : ((wicketref15_Reason.f a3).bind fun t375 => (if t374.toList = t375.toList then ((wicketlaw15_live.f kj8).bind fun t376 => (some t376)) else none)) = some r := H
                have A34 := Aside0.mk A340
                clear A340
                replace H := Option.bind_eq_some_iff.mp H
                obtain ⟨t375, A350, H⟩ := H
                replace H : (if t374.toList = t375.toList then ((wicketlaw15_live.f kj8).bind fun t376 => (some t376)) else none) = some r := H
                have A35 := Aside0.mk A350
                clear A350
                by_cases c36 : t374.toList = t375.toList
                · rw [if_pos c36] at H
                  have c36b0 : (t374.toList == t375.toList) = true := beq_iff_eq.mpr c36
                  have c36b1 : (t374.toList != t375.toList) = false := bne_eq_false_iff_eq.mpr c36
                  clear c36
                  replace H := Option.bind_eq_some_iff.mp H
                  obtain ⟨t376, A370, H⟩ := H
                  replace H : (some t376) = some r := H
                  have A37 := Aside0.mk A370
                  clear A370
                  obtain rfl := Option.some.inj H
                  go_wp2_with (first | ((with_reducible refine gate_callee (f := 24) rfl ?_); refine goesL_ (some 61) rfl rfl Tryz.func24 (by kernel_rfl) rfl #[.string a2] rfl (by (try simp only [List.map_toArray, List.map_cons, List.map_nil]); first | done | rfl | (simp only [List.length_drop, List.length_take]; rfl)) ?_; (with_reducible refine (http_Split.calls a2 t368 t369 _ ?side1 A27.out).mono ?_); (case side1 => exact GL_below HG.out (by repeat (first | (with_reducible first | exact HB.out | apply below_alloc | apply pw_below_drewN | apply below_drew1) | exact HB.out))); rintro e w38 ⟨rfl, hb⟩; refine ⟨_, rfl, ?_⟩; have n0_ := Aside0.mk (below_step (by repeat (first | (with_reducible first | exact HB.out | apply below_alloc | apply pw_below_drewN | apply below_drew1) | exact HB.out)) hb); clear HB; have HB := n0_; clear n0_; (try clear hb); (try clear hb2); (try clear hk); (try clear hi)) | ((with_reducible refine gate_callee (f := 25) rfl ?_); refine goesL_ (some 66) rfl rfl Tryz.func25 (by kernel_rfl) rfl #[.string a2] rfl (by (try simp only [List.map_toArray, List.map_cons, List.map_nil]); first | done | rfl | (simp only [List.length_drop, List.length_take]; rfl)) ?_; (with_reducible refine (wicketref15_Split.calls kj8 a2 t370 t371 _ A28.out).mono ?_); rintro e w' ⟨rfl, ⟨nd, rfl⟩⟩; refine ⟨_, rfl, ?_⟩) | ((with_reducible refine gate_callee (f := 26) rfl ?_); refine goesL_ (some 70) rfl rfl Tryz.func26 (by kernel_rfl) rfl #[.string a2] rfl (by (try simp only [List.map_toArray, List.map_cons, List.map_nil]); first | done | rfl | (simp only [List.length_drop, List.length_take]; rfl)) ?_; (with_reducible refine (http_Media.calls a2 t372 _ ?side1 A29.out).mono ?_); (case side1 => exact GL_below HG.out (by repeat (first | (with_reducible first | exact HB.out | apply below_alloc | apply pw_below_drewN | apply below_drew1) | exact HB.out))); rintro e w39 ⟨rfl, hb⟩; refine ⟨_, rfl, ?_⟩; have n0_ := Aside0.mk (below_step (by repeat (first | (with_reducible first | exact HB.out | apply below_alloc | apply pw_below_drewN | apply below_drew1) | exact HB.out)) hb); clear HB; have HB := n0_; clear n0_; (try clear hb); (try clear hb2); (try clear hk); (try clear hi)) | ((with_reducible refine gate_callee (f := 27) rfl ?_); refine goesL_ (some 72) rfl rfl Tryz.func27 (by kernel_rfl) rfl #[.string a2] rfl (by (try simp only [List.map_toArray, List.map_cons, List.map_nil]); first | done | rfl | (simp only [List.length_drop, List.length_take]; rfl)) ?_; (with_reducible refine (wicketref15_Media.calls kj8 a2 t373 _ A30.out).mono ?_); rintro e w40 ⟨rfl, hb⟩; refine ⟨_, rfl, ?_⟩; have n0_ := Aside0.mk (below_step (by repeat (first | (with_reducible first | exact HB.out | apply below_alloc | apply pw_below_drewN | apply below_drew1) | exact HB.out)) hb); clear HB; have HB := n0_; clear n0_; (try clear hb); (try clear hb2); (try clear hk); (try clear hi)) | (go_at_call 28; (with_reducible refine (http_Reason.calls a3 t374 _ A34.out).mono ?_); rintro e w' ⟨rfl, ⟨nd, rfl⟩⟩) | (go_at_call 29; (with_reducible refine (wicketref15_Reason.calls a3 t375 _ A35.out).mono ?_); rintro e w' ⟨rfl, ⟨nd, rfl⟩⟩) | (go_at_call 13; (with_reducible refine (wicketlaw15_live.calls kj8  t376 _ ?side1 A37.out).mono ?_); (case side1 => exact GL_below HG.out (by repeat (first | (with_reducible first | exact HB.out | apply below_alloc | apply pw_below_drewN | apply below_drew1) | exact HB.out))); rintro e w41 ⟨rfl, hb⟩; have n0_ := Aside0.mk (below_step (by repeat (first | (with_reducible first | exact HB.out | apply below_alloc | apply pw_below_drewN | apply below_drew1) | exact HB.out)) hb); clear HB; have HB := n0_; clear n0_; (try clear hb); (try clear hb2); (try clear hk); (try clear hi)))
                  go_ret
                  exact ⟨by first | rfl | (simp [errW_none, errW_some] <;> rfl) | (simp [*, errW_none, errW_some] <;> rfl), by repeat (first | (with_reducible first | exact HB.out | apply below_alloc | apply pw_below_drewN | apply below_drew1) | exact HB.out)⟩
                · rw [if_neg c36] at H
                  have c36b0 : (t374.toList == t375.toList) = false := beq_eq_false_iff_ne.mpr c36
                  have c36b1 : (t374.toList != t375.toList) = true := bne_iff_ne.mpr c36
                  cases H
              · rw [if_neg c33] at H
                have c33b0 : (t369.toList == t371.toList) = false := beq_eq_false_iff_ne.mpr c33
                have c33b1 : (t369.toList != t371.toList) = true := bne_iff_ne.mpr c33
                cases H
            · rw [if_neg c32] at H
              have c32b0 : (t368.toList == t370.toList) = false := beq_eq_false_iff_ne.mpr c32
              have c32b1 : (t368.toList != t370.toList) = true := bne_iff_ne.mpr c32
              cases H
          · rw [if_neg c31] at H
            have c31b0 : (t372.toList == t373.toList) = false := beq_eq_false_iff_ne.mpr c31
            have c31b1 : (t372.toList != t373.toList) = true := bne_iff_ne.mpr c31
            cases H
  · rw [if_neg c5] at H
    exact absurd H (by simp)

end Go.Proofs.YtmfkgjnlobiobaaGreatDoor.X
namespace Go.Proofs.YtmfkgjnlobiobaaGreatDoor.X
open Go.ChangeShapes Go.WideShapes Go.RowKit Go.Proofs.YtmfkgjnlobiobaaGreatDoorW.PrintWords
variable {H : Type} {enc : TypeId × Value → H}
theorem bulk_mem {d : DataW H} : ∀ {l : List (DataW H)}, d ∈ l → Rows.uptoBulk d ≤ Rows.uptoBulkAll l
  | [], h => by cases h
  | a :: r, h => by
    simp only [Rows.uptoBulkAll]
    rcases List.mem_cons.1 h with rfl | h
    · omega
    · have := bulk_mem h
      omega
theorem bulk_pos (d : DataW H) : 1 ≤ Rows.uptoBulk d := by
  cases d with
  | lit b => cases b <;> simp [Rows.uptoBulk]
  | _ => simp [Rows.uptoBulk]
theorem bulk_len : ∀ l : List (DataW H), l.length ≤ Rows.uptoBulkAll l
  | [] => Nat.zero_le _
  | a :: r => by
    have h1 := bulk_len r
    have h2 := bulk_pos a
    simp only [Rows.uptoBulkAll, List.length_cons]
    omega
theorem open_fields_up {W : World} {n : Nat} {v : Value} {y : DataW H × List MemPlace} (h : DataW.trod enc Tryz.prog W 0 (fun _ => true) true n 22 [v] = some y) (hw : ∀ k ∈ y.1.weights Tryz.prog 22, k ≤ lim) :
    ∃ (A : Option Addr) (l : List S80) (c : Nat), v = .slice A l.length c ∧ l.length ≤ c ∧ Kd.C k80 W A l.length l ∧ (∀ f ∈ l, f.f0.size ≤ lim ∧ f.f1.size ≤ lim) ∧ (∀ B, Rows.uptoBulk y.1 ≤ B → l.length ≤ B ∧ ∀ f ∈ l, f.f0.size ≤ B ∧ f.f1.size ≤ B) := by
  rcases Go.Deep.open_slice_pairs Tryz.underlying22 Tryz.underlying80 (by kernel_rfl) rfl rfl (by kernel_rfl) (by kernel_rfl) h with ⟨hc, rfl⟩ | ⟨a, len, cap, m, k, V0, V1, D0, D1, P0, P1, hc, _, hl, hm, hmm, rfl, hx⟩
  · obtain rfl : v = .slice none 0 0 := by simpa using hc
    exact ⟨none, [], 0, rfl, Nat.le_refl _, ⟨rfl, by decide, fun h => absurd h (by decide)⟩, (fun f hf => by cases hf), fun B _ => ⟨Nat.zero_le _, fun f hf => by cases hf⟩⟩
  · obtain rfl : v = .slice (some a) len cap := by simpa using hc
    have hlm : len ≤ m := by rw [hmm, if_pos rfl]; exact hl
    have each : ∀ i, i < len → ∃ q : S80, V0 i = .string q.f0 ∧ V1 i = .string q.f1 ∧ D0 i = .lit (.string q.f0.data.toList) ∧ D1 i = .lit (.string q.f1.data.toList) := by
      intro i hi
      obtain ⟨_, _, h0, h1⟩ := hx i (by omega)
      obtain ⟨s0, e0, x0, _⟩ := DataW.trod_string Tryz.underlying9 h0
      obtain ⟨s1, e1, x1, _⟩ := DataW.trod_string Tryz.underlying9 h1
      simp only [Prod.mk.injEq] at x0 x1
      exact ⟨⟨s0, s1⟩, by simpa using e0, by simpa using e1, x0.1, x1.1⟩
    haveI : Inhabited S80 := ⟨z80⟩
    obtain ⟨q, hq⟩ := Go.Deep.choose_lt each
    have hlen : ((List.range len).map q).length = len := by simp
    refine ⟨some a, (List.range len).map q, cap, by rw [hlen], by rw [hlen]; exact hl, ⟨rfl, ?_, fun _ => ⟨a, rfl, ?_⟩⟩, ?_, ?_⟩
    · rw [hlen]
      have : maxLen = 9223372036854775807 := rfl
      omega
    · intro j p hj
      have hj' : j < len := by
        have := (List.getElem?_eq_some_iff.1 hj).1
        simpa using this
      have hp : p = q j := by
        simp [List.getElem?_map, List.getElem?_range hj'] at hj
        exact hj.symm
      subst hp
      obtain ⟨c0, c1, _, _⟩ := hx j (by omega)
      obtain ⟨q0, q1, _, _⟩ := hq j hj'
      refine ⟨[.string (q j).f0, .string (q j).f1], rfl, k80_mk W (q j), fun i u hu => ?_⟩
      match i, hu with
      | 0, hu => rw [← q0] at hu; simp at hu; subst hu; exact c0
      | 1, hu => rw [← q1] at hu; simp at hu; subst hu; exact c1
      | i + 2, hu => simp at hu
    · intro f hf
      obtain ⟨i, hi, rfl⟩ := List.mem_map.1 hf
      have hi' := List.mem_range.1 hi
      obtain ⟨_, _, d0, d1⟩ := hq i hi'
      have hmem : ∀ k ∈ (DataW.agg [D0 i, D1 i] : DataW H).weights Tryz.prog 80, k ≤ lim := by
        intro k hk
        refine hw k ?_
        simp only [DataW.weights, Tryz.underlying22, List.mem_cons, List.mem_append]
        exact .inr (.inl (weightsAll_mem (List.mem_map.2 ⟨i, hi, rfl⟩) hk))
      rw [d0, d1] at hmem
      simp only [DataW.weights, Tryz.underlying80, DataW.weightsEach] at hmem
      have a0 := hmem (q i).f0.data.toList.length (by simp [DataW.weightsEach, DataW.weights])
      have a1 := hmem (q i).f1.data.toList.length (by simp [DataW.weightsEach, DataW.weights])
      rw [Array.length_toList] at a0 a1
      exact ⟨a0, a1⟩
    · intro B hB
      have hmem : ∀ i, i < len → Rows.uptoBulk (DataW.agg [D0 i, D1 i] : DataW H) ≤ B := by
        intro i hi
        refine Nat.le_trans ?_ hB
        have := bulk_mem (H := H) (List.mem_map.2 ⟨i, List.mem_range.2 hi, rfl⟩ : (DataW.agg [D0 i, D1 i] : DataW H) ∈ (List.range len).map fun i => DataW.agg [D0 i, D1 i])
        simp only [Rows.uptoBulk] at this ⊢
        omega
      refine ⟨?_, ?_⟩
      · have := bulk_len ((List.range len).map fun i => (DataW.agg [D0 i, D1 i] : DataW H))
        rw [List.length_map, List.length_range] at this
        rw [hlen]
        simp only [Rows.uptoBulk] at hB
        omega
      · intro f hf
        obtain ⟨i, hi, rfl⟩ := List.mem_map.1 hf
        have hi' := List.mem_range.1 hi
        obtain ⟨_, _, d0, d1⟩ := hq i hi'
        have hb := hmem i hi'
        rw [d0, d1] at hb
        simp only [Rows.uptoBulk, Rows.uptoBulkAll, Array.length_toList] at hb
        exact ⟨by show (q i).f0.data.size ≤ B; omega, by show (q i).f1.data.size ≤ B; omega⟩
set_option maxRecDepth 100000 in
theorem open_request_up {W : World} {r : Reach} {b0 : Nat} {v : Value} {d : DataW H} {p : List MemPlace} (hv : Value.okWide Tryz.prog W r b0 24 v) (h : DataW.Trod enc Tryz.prog W 0 (fun _ => true) true 24 v d p)
    (hw : ∀ k ∈ d.weights Tryz.prog 24, k ≤ lim) :
    ∃ (m t : ByteArray) (A : Option Addr) (l : List S80) (c : Nat) (b : ByteArray), v = .agg #[.string m, .string t, .slice A l.length c, .string b] ∧ l.length ≤ c ∧ Kd.C k80 W A l.length l ∧ (∀ f ∈ l, f.f0.size ≤ lim ∧ f.f1.size ≤ lim) ∧ m.size ≤ lim ∧ t.size ≤ lim ∧ b.size ≤ lim ∧ (∀ B, Rows.uptoBulk d ≤ B → (l.length ≤ B ∧ ∀ f ∈ l, f.f0.size ≤ B ∧ f.f1.size ≤ B) ∧ m.size ≤ B ∧ t.size ≤ B ∧ b.size ≤ B) := by
  obtain ⟨v0, v1, v2, v3, y0, y1, y2, y3, n, rfl, rfl, rfl, h0, h1, h2, h3⟩ := Go.Joins.open_agg4 Tryz.underlying24 (by kernel_rfl) (by kernel_rfl) hv h
  obtain ⟨s0, e0, x0, _⟩ := DataW.trod_string Tryz.underlying9 h0
  obtain ⟨s1, e1, x1, _⟩ := DataW.trod_string Tryz.underlying9 h1
  obtain ⟨s3, e3, x3, _⟩ := DataW.trod_string Tryz.underlying9 h3
  simp only [List.cons.injEq, and_true] at e0 e1 e3
  subst e0 e1 e3 x0 x1 x3
  simp only [DataW.weights, Tryz.underlying24, DataW.weightsEach, List.map_cons, List.map_nil, List.mem_append, List.mem_cons, List.not_mem_nil, or_false] at hw
  obtain ⟨A, l, c, rfl, hc, hk, hs, hu⟩ := open_fields_up h2 (fun k hk => hw k (.inr (.inr (.inl hk))))
  have w0 := hw _ (.inl rfl)
  have w1 := hw _ (.inr (.inl rfl))
  have w3 := hw _ (.inr (.inr (.inr rfl)))
  rw [Array.length_toList] at w0 w1 w3
  refine ⟨s0, s1, A, l, c, s3, rfl, hc, hk, hs, w0, w1, w3, fun B hB => ?_⟩
  simp only [Rows.uptoBulk, Rows.uptoBulkAll, Array.length_toList, List.map_cons, List.map_nil] at hB
  have e0 : s0.size = s0.data.size := rfl
  have e1 : s1.size = s1.data.size := rfl
  have e3 : s3.size = s3.data.size := rfl
  exact ⟨hu B (by omega), by omega, by omega, by omega⟩
set_option maxRecDepth 100000 in
theorem open_response_up {W : World} {r : Reach} {b0 : Nat} {v : Value} {d : DataW H} {p : List MemPlace} (hv : Value.okWide Tryz.prog W r b0 39 v) (h : DataW.Trod enc Tryz.prog W 0 (fun _ => true) true 39 v d p)
    (hw : ∀ k ∈ d.weights Tryz.prog 39, k ≤ lim) :
    ∃ (n : Int) (A : Option Addr) (l : List S80) (c : Nat) (b : ByteArray), v = .agg #[.int .i64 n, .slice A l.length c, .string b] ∧ l.length ≤ c ∧ Kd.C k80 W A l.length l ∧ (∀ f ∈ l, f.f0.size ≤ lim ∧ f.f1.size ≤ lim) ∧ True ∧ b.size ≤ lim ∧ (∀ B, Rows.uptoBulk d ≤ B → (l.length ≤ B ∧ ∀ f ∈ l, f.f0.size ≤ B ∧ f.f1.size ≤ B) ∧ b.size ≤ B) := by
  obtain ⟨v0, v1, v2, y0, y1, y2, n, rfl, rfl, rfl, h0, h1, h2⟩ := Go.Joins.open_agg3 Tryz.underlying39 (by kernel_rfl) (by kernel_rfl) hv h
  obtain ⟨i, e0, x0, _⟩ := DataW.trod_int Tryz.underlying3 h0
  obtain ⟨s2, e2, x2, _⟩ := DataW.trod_string Tryz.underlying9 h2
  simp only [List.cons.injEq, and_true] at e0 e2
  subst e0 e2 x0 x2
  simp only [DataW.weights, Tryz.underlying39, DataW.weightsEach, List.map_cons, List.map_nil, List.mem_append, List.mem_cons, List.not_mem_nil, or_false] at hw
  obtain ⟨A, l, c, rfl, hc, hk, hs, hu⟩ := open_fields_up h1 (fun k hk => hw k (.inr (.inl hk)))
  have w2 := hw _ (.inr (.inr rfl))
  rw [Array.length_toList] at w2
  refine ⟨i, A, l, c, s2, rfl, hc, hk, hs, trivial, w2, fun B hB => ?_⟩
  simp only [Rows.uptoBulk, Rows.uptoBulkAll, Array.length_toList, List.map_cons, List.map_nil] at hB
  have e2 : s2.size = s2.data.size := rfl
  exact ⟨hu B (by omega), by omega⟩
set_option maxRecDepth 100000 in
theorem open_list_up {W : World} {r : Reach} {b0 : Nat} {v : Value} {d : DataW H} {p : List MemPlace} (hv : Value.okWide Tryz.prog W r b0 22 v) (h : DataW.Trod enc Tryz.prog W 0 (fun _ => true) true 22 v d p) (hw : ∀ k ∈ d.weights Tryz.prog 22, k ≤ lim) :
    ∃ (A : Option Addr) (l : List S80) (c : Nat), v = .slice A l.length c ∧ l.length ≤ c ∧ Kd.C k80 W A l.length l ∧ (∀ f ∈ l, f.f0.size ≤ lim ∧ f.f1.size ≤ lim) ∧ (∀ B, Rows.uptoBulk d ≤ B → l.length ≤ B ∧ ∀ f ∈ l, f.f0.size ≤ B ∧ f.f1.size ≤ B) := by
  obtain ⟨a, len, cap, rfl⟩ := okWide_slice Tryz.underlying22 hv
  obtain ⟨m, hm⟩ := h
  exact open_fields_up (y := (d, p)) hm hw
end Go.Proofs.YtmfkgjnlobiobaaGreatDoor.X
namespace Go.Proofs.YtmfkgjnlobiobaaGreatDoor.X
open Go.RowKit Go.Shelf Go.Proofs.YtmfkgjnlobiobaaGreatDoorW.PrintWords
theorem looks0 (v : ByteArray) (hv : v.size ≤ 1048576) (n : Int) : wicketlaw15_HttpLooks.j0 (4000000 + 1) v n false = some true := by
  obtain ⟨r, hr⟩ : ∃ r, http_Reason.f n = some r := ⟨_, (Reason_f n).1⟩
  rw [wicketlaw15_HttpLooks.j0, if_neg (by decide), Split_f v (by omega), rSplit_f _ v (by omega) (by omega), Media_f v (by omega), rMedia_f _ v (by omega) (by omega), show wicketref15_Reason.f n = http_Reason.f n from rfl, hr]
  simp only [Option.bind_some]
  rw [if_pos trivial, if_pos trivial, if_pos trivial, if_pos trivial, show wicketlaw15_live.f 4000000 = some true from live_at 3999960]
  rfl
theorem Looks_f (l : List S80) (a v : ByteArray) (n : Int) (u : l.length ≤ 1048576 ∧ ∀ f ∈ l, f.f0.size ≤ 1048576 ∧ f.f1.size ≤ 1048576) (ha : a.size ≤ 1048576) (hv : v.size ≤ 1048576) : wicketlaw15_HttpLooks.f (4000000 + 1) l a v n = some true := by
  obtain ⟨ul, us⟩ := u
  obtain ⟨r, h1, h2⟩ := Field_both (4000000 + 1) l (by omega) (fun f hf => by have := (us f hf).1; omega) a (by omega) (by omega)
  unfold wicketlaw15_HttpLooks.f
  simp only [Option.bind_some, List.nil_append, List.length_nil, Nat.zero_add]
  rw [if_pos (show l.length < 4398046511104 by omega), h1, ours_f _ l (by omega) (by omega)]
  simp only [Option.bind_some]
  rw [h2]
  simp only [Option.bind_some, wicketlaw15_num.f]
  rw [if_pos trivial, if_neg (by simp), if_pos trivial, fields_f _ l (by omega) (by omega)]
  simp only [Option.bind_some]
  exact looks0 v hv n
end Go.Proofs.YtmfkgjnlobiobaaGreatDoor.X
namespace Go.Proofs.YtmfkgjnlobiobaaGreatDoor.httpLooks
open Go.ChangeShapes Go.WideShapes Go.ChangeAt Go.RowKit
open Go.ChangeMaps (open_string shut_string)
theorem own : ownKnob Tryz.prog.godebug = none := by kernel_rfl
theorem laidOut : laidOutB Tryz.prog = true := by kernel_rfl
set_option maxRecDepth 100000 in
theorem contract (H : Type) (enc : TypeId × Value → H) (W : World) (base : Nat) (args : Array Value) (ds gs : List (DataW H)) (before : List MemPlace)
    (hval0 : ∀ (j : Nat) t v, Tryz.f5.params[j]? = some t → args[j]? = some v → Value.okWide Tryz.prog W .any base t v)
    (hW : DataW.Whole enc Tryz.prog Tryz.f5.params.toList Rows.httpLooksSpec.vars false W args.toList ds gs before)
    (hsz0 : (DataW.weightsEach Tryz.prog (Tryz.f5.params.toList ++ Rows.httpLooksSpec.plain.varTypes Tryz.prog) (ds ++ gs)).all (· ≤ reachBytes) = true) (hup : Rows.uptoSmall H (ds ++ gs) = true) (hG : X.GL W) :
    Calls Tryz.prog 5 args W fun e W' => ∃ v, e = .returned v ∧ Rows.httpLooksSpec.post enc Tryz.prog Tryz.f5 false true false false W args v W' := by
  have hval := hval0
  have hsz := hsz0
  have hW' := hW
  obtain ⟨p, q, hA0, hV, rfl, hfz, hnd⟩ := hW
  have hA : DataW.TrodAll enc Tryz.prog W 0 (fun _ => true) true Tryz.f5.params.toList args.toList ds p := hA0
  rw [Tryz.params5] at hA hval hsz
  obtain ⟨v0, vs0, d0, ds0, p0, q0, hargs, rfl, rfl, h0, r0⟩ := trodAll_cons hA
  obtain ⟨v1, vs1, d1, ds1, p1, q1, rfl, rfl, rfl, h1, r1⟩ := trodAll_cons r0
  obtain ⟨v2, vs2, d2, ds2, p2, q2, rfl, rfl, rfl, h2, r2⟩ := trodAll_cons r1
  obtain ⟨v3, vs3, d3, ds3, p3, q3, rfl, rfl, rfl, h3, r3⟩ := trodAll_cons r2
  obtain ⟨rfl, rfl, rfl⟩ := trodAll_nil r3
  obtain rfl : args = #[v0, v1, v2, v3] := by cases args; simp_all
  obtain ⟨rfl, rfl⟩ := trodVars_none hV
  have k0 := h0
  have lt0 : ∀ x ∈ p0, x.block < W.heap.size := by obtain ⟨m, hm⟩ := k0; exact DataW.trod_lt m _ _ _ hm
  have sz0 : ∀ k ∈ d0.weights Tryz.prog 22, k ≤ X.lim := fun k hk => of_decide_eq_true (List.all_eq_true.1 hsz k (DataW.weights_mem_each (j := 0) (t := 22) rfl rfl k hk))
  obtain ⟨A0, l0, c0, rfl, hc0, hk0, hs0, hB0⟩ := X.open_list_up (hval 0 22 v0 rfl rfl) h0 sz0
  obtain ⟨a1, rfl, rfl, rfl, y1⟩ := open_string Tryz.underlying9 (hval 1 9 v1 rfl rfl) h1
  have w1 : a1.size ≤ 140737488351232 := by
    have z := sized_string hsz (j := 1) (t := 9) rfl rfl
    rw [Array.length_toList] at z
    exact z
  obtain ⟨a2, rfl, rfl, rfl, y2⟩ := open_string Tryz.underlying9 (hval 2 9 v2 rfl rfl) h2
  have w2 : a2.size ≤ 140737488351232 := by
    have z := sized_string hsz (j := 2) (t := 9) rfl rfl
    rw [Array.length_toList] at z
    exact z
  obtain ⟨a3, rfl, rfl, rfl, w3⟩ := open_int Tryz.underlying3 (hval 3 3 v3 rfl rfl) h3
  have hU := of_decide_eq_true hup
  simp only [List.cons_append, List.nil_append, List.append_nil, Rows.uptoBulkAll, Rows.uptoBulk, Array.length_toList] at hU
  have U0 := hB0 1048576 (by omega)
  have U1 : a1.size ≤ 1048576 := by show a1.data.size ≤ 1048576; omega
  have U2 : a2.size ≤ 1048576 := by show a2.data.size ≤ 1048576; omega
  clear hA0 hval0 hsz0 hsz
  refine (X.wicketlaw15_HttpLooks.calls (4000000 + 1) A0 c0 l0 a1 a2 a3 true W hk0 hc0 hG (X.Looks_f l0 a1 a2 a3 U0 U1 U2)).mono fun e W' ⟨he, bel⟩ => ?_
  subst he
  exact ⟨_, rfl, _, _, _, [], _, [], hW', trodAll_mk1 (shut_bool Tryz.underlying4 _), (trodAll_cons_mk (Below.trod laidOut (by kernel_rfl) (of_decide_eq_true (by kernel_rfl)) k0 bel lt0) (trodAll_cons_mk (shut_string Tryz.underlying9 y1) (trodAll_cons_mk (shut_string Tryz.underlying9 y2) (trodAll_cons_mk (shut_int Tryz.underlying3 w3) trodAll_mk0)))), rfl, bel.frame _, fun h => by cases h⟩
theorem lay_met (os : Os) : laidMetH Tryz.prog Rows.httpLooksUptoRow.laid ((World.laidAll Tryz.prog os Rows.httpLooksUptoRow.laid).forCall (fun _ _ => 0) ⟨#[], #[.slice none 0 0, .string ⟨#[]⟩, .string ⟨#[]⟩, .int .i64 0], []⟩).memory := by
  rw [MakeChecks.laidMetH_plain _ _ _ (by kernel_rfl)]
  exact laidMet_laidAll _ (by kernel_rfl) (by kernel_rfl)
theorem reads (os : Os) {H : Type} (enc : TypeId × Value → H) : ∃ places, DataW.whole enc Tryz.prog ((World.laidAll Tryz.prog os Rows.httpLooksUptoRow.laid).forCall (fun _ _ => 0) ⟨#[], #[.slice none 0 0, .string ⟨#[]⟩, .string ⟨#[]⟩, .int .i64 0], []⟩).memory Tryz.f5.params.toList Rows.httpLooksSpec.vars false (#[.slice none 0 0, .string ⟨#[]⟩, .string ⟨#[]⟩, .int .i64 0] : Array Value).toList 8 = some ([.nil, .lit (.string []), .lit (.string []), .lit (.int .i64 0)], [], places) := ⟨[], by kernel_rfl⟩
set_option maxRecDepth 100000 in
theorem lifted (os : Os) (started : os.Started) (H : Type) (enc : TypeId × Value → H) (F : Stop.Interp) :
    ReturnsInHanded {} Tryz.checked os 5 .any ((Rows.OpenSpec.upto Rows.httpLooksSpec).preRow enc Tryz.prog Tryz.f5 Rows.httpLooksUptoRow.domain false Rows.httpLooksUptoRow.laid) (((Rows.OpenSpec.upto Rows.httpLooksSpec).at F).post enc Tryz.prog Tryz.f5 false true false false) := by
  obtain ⟨places, hx⟩ := reads os enc
  refine returnsInHanded_of_row (C := Tryz.checked) (s := Rows.OpenSpec.upto Rows.httpLooksSpec) own started (by kernel_rfl) Tryz.func5
    (witness_row_atRef (enc := enc) (C := Tryz.checked) false (World.laidAll Tryz.prog os Rows.httpLooksUptoRow.laid) #[.slice none 0 0, .string ⟨#[]⟩, .string ⟨#[]⟩, .int .i64 0] (World.laidAll_os _ _ _) (by kernel_rfl) (by kernel_rfl) (by kernel_rfl)
      (OpenSpec.preRow_of_cond 8 hx (by kernel_rfl) (fun k hk => by cases hk; kernel_rfl) (by kernel_rfl) (lay_met os))) ?_
  intro W base args ds gs before hval hW _ hcond hsz hL hS _
  exact contract H enc W base args ds gs before hval hW hsz (hcond _ rfl) (X.GL_of hL hS)
theorem said : Rows.HttpLooksUptoSaid :=
  OpenClaim.holds_of_cond 5 Tryz.f5 rfl rfl rfl rfl rfl rfl rfl ⟨rfl, rfl, rfl, rfl, rfl⟩ rfl rfl rfl rfl rfl (by kernel_rfl) Tryz.func5 (by kernel_rfl)
    (of_decide_eq_true (by kernel_rfl)) (by unfold Func.isWrapper; first | (rw [if_pos (by decide +kernel)]; kernel_rfl) | (rw [if_neg (by decide +kernel)]; exact ⟨rfl, rfl⟩))
    (fun os started H enc _ F => by rw [OpenClaim.pre_eq_preRow]; exact lifted os started H enc F)
theorem plain (f : FuncId) (fn : Func) (hf : Tryz.pinned.checked.prog.funcNamed "wicket/wicketlaw15.HttpLooks" = some f) (hfn : Tryz.pinned.checked.prog.funcs[f]? = some fn) :
    true = Tryz.pinned.checked.prog.looks [] ∧ ∀ (j : Nat) t, fn.params[j]? = some t → Tryz.pinned.checked.prog.wantsStandIn t = false := by
  obtain rfl : f = 5 := Option.some.inj ((show Tryz.prog.funcNamed "wicket/wicketlaw15.HttpLooks" = some 5 by kernel_rfl).symm.trans hf) |>.symm
  obtain rfl : fn = Tryz.f5 := (Option.some.inj (Tryz.func5.symm.trans hfn)).symm
  refine ⟨by kernel_rfl, fun j t ht => ?_⟩
  rw [Tryz.params5] at ht
  have hm := Array.mem_of_getElem? ht
  simp only [List.mem_toArray, List.mem_cons, List.not_mem_nil, or_false] at hm
  rcases hm with rfl | rfl | rfl | rfl
  · exact (show Tryz.prog.wantsStandIn 22 = false by kernel_rfl)
  · exact (show Tryz.prog.wantsStandIn 9 = false by kernel_rfl)
  · exact (show Tryz.prog.wantsStandIn 9 = false by kernel_rfl)
  · exact (show Tryz.prog.wantsStandIn 3 = false by kernel_rfl)
theorem card : Rows.HttpLooksUptoCardSaid :=
  Claim7.holds_tied_plain_at .later [] _ _ _ _ said (fun _ h => by cases h) (by kernel_rfl) (fun _ h => by cases h) httpLooksUpto_row_tie rfl ⟨rfl, rfl⟩ (by kernel_rfl) rfl plain (by kernel_rfl)
#print axioms card
end Go.Proofs.YtmfkgjnlobiobaaGreatDoor.httpLooks
