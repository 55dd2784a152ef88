/- What PrintRequest and ParseRequest compute, in plain Lean: a text that reads is no beginning of another, and what is printed reads back. -/
import Derived.Test.YtmfkgjnlobiobaaGreatDoorX3
import Derived.IntWalk
import Derived.Lib.Bytes2
namespace Go.Proofs.YtmfkgjnlobiobaaGreatDoor.X
open Go.RowKit Go.Shelf Go.Proofs.YtmfkgjnlobiobaaGreatDoorW.PrintWords
def methB (l : List UInt8) : Bool := decide (1 ≤ l.length ∧ l.length ≤ 16) && l.all pUp
def targB (l : List UInt8) : Bool := decide (1 ≤ l.length ∧ l.length ≤ 1024) && (decide (l.head? = some 47) && l.all pVis)
theorem isMethod_f (a : ByteArray) : http_isMethod.f a = some (methB a.data.toList) := by
  have hl := size_data a
  unfold http_isMethod.f methB http_all_isMethod_1.f
  split
  · split
    · rw [if_pos (by omega)]
      simp only [Option.bind_some, Option.some.injEq]
      rw [decide_eq_true (by omega), Bool.true_and]
    · rw [decide_eq_false (by omega), Bool.false_and]
  · rw [decide_eq_false (by omega), Bool.false_and]
theorem head_is (a : ByteArray) (h : 0 < a.size) : (bt a 0 = 47) ↔ a.data.toList.head? = some 47 := by
  have e0 : bt a 0 = ((a[0]'h).toNat : Int) := (bt_at a 0 h).symm
  have e : a.data.toList.head? = some (a[0]'h) := by
    rw [List.head?_eq_getElem?, List.getElem?_eq_getElem (by rw [size_data]; exact h)]
    rfl
  rw [e, e0]
  have h47 : (47 : UInt8).toNat = 47 := rfl
  constructor
  · intro h2
    congr 1
    apply UInt8.toNat_inj.1
    omega
  · intro h2
    rw [Option.some.inj h2]
    rfl
theorem isTarget_f (a : ByteArray) : http_isTarget.f a = some (targB a.data.toList) := by
  have hl := size_data a
  unfold http_isTarget.f targB http_all_visible.f
  split
  · split
    · rw [if_pos (by omega), decide_eq_true (by omega), Bool.true_and]
      by_cases h : bt a 0 = 47
      · rw [if_pos h, if_pos (by omega), decide_eq_true ((head_is a (by omega)).1 h)]
        rfl
      · rw [if_neg h, decide_eq_false (fun h2 => h ((head_is a (by omega)).2 h2))]
        rfl
    · rw [decide_eq_false (by omega), Bool.false_and]
  · rw [decide_eq_false (by omega), Bool.false_and]
def sVer : List UInt8 := [32, 72, 84, 84, 80, 47, 49, 46, 49]
def reqF (m t : List UInt8) (l : List (List UInt8 × List UInt8)) (b : List UInt8) : List UInt8 × Int :=
  if methB m = false then ([], 150) else if targB t = false then ([], 151) else restF (m ++ [32] ++ t ++ sVer) l b
theorem methB_len {l : List UInt8} (h : methB l = true) : l.length ≤ 16 := by
  unfold methB at h
  simp only [Bool.and_eq_true, decide_eq_true_eq] at h
  exact h.1.2
theorem targB_len {l : List UInt8} (h : targB l = true) : l.length ≤ 1024 := by
  unfold targB at h
  simp only [Bool.and_eq_true, decide_eq_true_eq] at h
  exact h.1.2
theorem PrintRequest_f (m t : ByteArray) (l : List S80) (b : ByteArray) (hl : ∀ f ∈ l, f.f0.size ≤ 140737488351232) (hb : b.size ≤ 140737488351232) :
    http_PrintRequest.f m t l b = some (bs (reqF m.data.toList t.data.toList (pairsL l) b.data.toList).1, (reqF m.data.toList t.data.toList (pairsL l) b.data.toList).2) := by
  unfold http_PrintRequest.f reqF
  rw [isMethod_f, isTarget_f]
  simp only [Option.bind_some]
  cases hm : methB m.data.toList with
  | false => rfl
  | true =>
    cases ht : targB t.data.toList with
    | false => rfl
    | true =>
      have h1 := methB_len hm
      have h2 := targB_len ht
      rw [size_data] at h1 h2
      have s1 : (m ++ (⟨#[32]⟩ : ByteArray)).size = m.size + 1 := by rw [ByteArray.size_append]; rfl
      have s2 : ((m ++ (⟨#[32]⟩ : ByteArray)) ++ t).size = m.size + 1 + t.size := by rw [ByteArray.size_append, s1]
      have s3 : (((m ++ (⟨#[32]⟩ : ByteArray)) ++ t) ++ (⟨#[32, 72, 84, 84, 80, 47, 49, 46, 49]⟩ : ByteArray)).size = m.size + 1 + t.size + 9 := by rw [ByteArray.size_append, s2]; rfl
      simp only [reduceIte, Option.bind_some, Bool.true_eq_false]
      rw [if_pos (by omega), if_pos (by rw [s1]; omega), if_pos (by rw [s2]; omega)]
      unfold http_rest.f
      rw [if_pos ⟨by rw [s3]; omega, List.all_eq_true.2 (fun f hf => decide_eq_true (hl f hf)), hb⟩]
      simp only [Option.bind_some]
      have e : (((m ++ (⟨#[32]⟩ : ByteArray)) ++ t) ++ (⟨#[32, 72, 84, 84, 80, 47, 49, 46, 49]⟩ : ByteArray)).data.toList = m.data.toList ++ [32] ++ t.data.toList ++ sVer := by
        simp [ByteArray.data_append, sVer]
      rw [e]
/-- Either the request is refused whatever its body, or it is printed so unless it is too long. -/
theorem reqF_two (m t : List UInt8) (l : List (List UInt8 × List UInt8)) : (∃ c : Int, c ≠ 0 ∧ ∀ b, reqF m t l b = ([], c)) ∨
    (∃ pre : List UInt8, ∀ b, reqF m t l b = if (pre ++ clF b ++ [13, 10]).length + b.length > 32768 then ([], 1) else (pre ++ clF b ++ [13, 10] ++ b, 0)) := by
  unfold reqF
  cases hm : methB m with
  | false => exact .inl ⟨150, by decide, fun b => rfl⟩
  | true =>
    cases ht : targB t with
    | false => exact .inl ⟨151, by decide, fun b => rfl⟩
    | true =>
      by_cases h1 : l.length > 64
      · exact .inl ⟨32, by decide, fun b => by unfold restF; rw [if_neg (by decide), if_neg (by decide), if_pos h1]⟩
      · by_cases h2 : l.all (fun f => okF f.1 f.2) = false
        · exact .inl ⟨153, by decide, fun b => by unfold restF; rw [if_neg (by decide), if_neg (by decide), if_neg h1, if_pos h2]⟩
        · exact .inr ⟨(m ++ [32] ++ t ++ sVer) ++ [13, 10] ++ l.flatMap (fun f => lineF f.1 f.2), fun b => by unfold restF headF; rw [if_neg (by decide), if_neg (by decide), if_neg h1, if_neg h2]⟩
theorem live_f : wicketlaw15_live.f 40 = some true := by kernel_rfl
theorem mono_add {α : Type} {g : Nat → Option α} (hm : ∀ k, LeO (g k) (g (k + 1))) {a : Nat} {r : α} (h : g a = some r) : ∀ d, g (a + d) = some r
  | 0 => h
  | d + 1 => hm (a + d) r (mono_add hm h d)
theorem live_at (d : Nat) : wicketlaw15_live.f (40 + d) = some true := mono_add wicketlaw15_live.mono live_f d
theorem wr (n : Int) (h : -9223372036854775808 ≤ n ∧ n ≤ 9223372036854775807) : wrap64 n = n := (IntWalk.i64_left n).symm.trans (IntWalk.i64_in n h)
theorem toList_ext (a : ByteArray) (i j : Nat) : (a.extract i j).toList = (a.data.toList.drop i).take (j - i) := by
  rw [toList_data, Lib.extract_data]
end Go.Proofs.YtmfkgjnlobiobaaGreatDoor.X
namespace Go.Proofs.YtmfkgjnlobiobaaGreatDoor.X
open Go.RowKit Go.Shelf Go.Proofs.YtmfkgjnlobiobaaGreatDoorW.PrintWords
def sV2 : List UInt8 := [72, 84, 84, 80, 47, 49, 46, 49, 13, 10]
abbrev PR := List UInt8 × List UInt8 × List (List UInt8 × List UInt8) × List UInt8 × Nat × Nat
def badP (e a : Nat) : PR := ([], [], [], [], e, a)
def encP (r : PR) : ByteArray × ByteArray × List S80 × ByteArray × Int × Int := (bs r.1, bs r.2.1, r.2.2.1.map pairOf, bs r.2.2.2.1, r.2.2.2.2.1, r.2.2.2.2.2)
/-- Behind the first line. -/
def tailP (raw m t : List UInt8) (place : Nat) : PR :=
  if (parseHeadF raw place).2.2.2.1 = 0 then (m, t, (parseHeadF raw place).1, raw.drop (parseHeadF raw place).2.2.1, 0, 0) else badP (parseHeadF raw place).2.2.2.1 (parseHeadF raw place).2.2.2.2
/-- Behind the target's length. -/
def targP (raw m b : List UInt8) (n : Nat) : PR :=
  if n = b.length then badP 151 (m.length + 1)
  else if b[n]? = some 32 ∧ targB (b.take n) = true then
    (if Lib.hasPrefix (raw.drop (m.length + 1 + n + 1)) sV2 = true then tailP raw m (b.take n) (m.length + 1 + n + 1 + 10) else badP 152 (m.length + 1 + n + 1))
  else badP 151 (m.length + 1)
def parseF (raw : List UInt8) : PR :=
  if raw.length > 32768 then badP 1 0
  else if ((Lib.cut raw [32]).2.2 && methB (Lib.cut raw [32]).1) = true then targP raw (Lib.cut raw [32]).1 (Lib.cut raw [32]).2.1 ((Lib.cut raw [32]).2.1.takeWhile pVis).length
  else badP 150 0
theorem endH_behind (raw : List UInt8) (s : HS) (h : (endH raw s).2.2.2.1 = 0) : (endH raw s).2.2.1 ≤ raw.length := by
  unfold endH at h ⊢
  split
  · simp
  · rename_i h2
    show s.behind ≤ raw.length
    simp only [ne_eq, Decidable.not_not] at h2
    omega
theorem parseHeadF_behind (raw : List UInt8) (p : Nat) (h : (parseHeadF raw p).2.2.2.1 = 0) : (parseHeadF raw p).2.2.1 ≤ raw.length := by
  unfold parseHeadF at h ⊢
  split
  · simp
  · rename_i s hs
    rw [hs] at h
    exact endH_behind raw s h
  · rename_i s hs
    rw [hs] at h
    exact endH_behind raw s h
theorem bs_eq (a : ByteArray) : bs a.data.toList = a := by simp [bs]
theorem extract_bs (a : ByteArray) (i j : Nat) : a.extract i j = bs ((a.data.toList.drop i).take (j - i)) := by
  rw [← bs_eq (a.extract i j), Lib.extract_data]
theorem bt_nat (a : ByteArray) (n : Nat) (h : n < a.size) : ∃ c, a.data.toList[n]? = some c ∧ bt a n = (c.toNat : Int) := by
  refine ⟨a[n]'h, ?_, ?_⟩
  · rw [List.getElem?_eq_getElem (by rw [size_data]; exact h)]; rfl
  · exact (bt_at a n (by simpa using h)).symm
theorem visible_f (c : UInt8) : http_visible.f (c.toNat : Int) = some (pVis c) := by
  unfold http_visible.f pVis
  by_cases h : (c.toNat : Int) ≥ 33
  · rw [if_pos h]
    congr 1
    by_cases h2 : c.toNat ≤ 126
    · rw [decide_eq_true (by omega), decide_eq_true (by omega)]
    · rw [decide_eq_false (by omega), decide_eq_false (by omega)]
  · rw [if_neg h]
    congr 1
    rw [decide_eq_false (by omega)]
theorem j3_bad (k : Nat) (x0 x5 x6 : ByteArray) (x8 x9 : Int) : http_ParseRequest.j3 (k + 1) x0 x5 x6 x8 x9 true = some (⟨#[]⟩, ⟨#[]⟩, [], ⟨#[]⟩, 151, x8) := by
  simp only [http_ParseRequest.j3, if_true]
theorem j3_good (k : Nat) (raw m b : ByteArray) (n : Nat) (hr : raw.size ≤ 32768) (hm : m.size ≤ 32768) (hn : n ≤ b.size) (hb : b.size ≤ 32768) (hpl : m.size + 1 + n + 1 ≤ raw.size) :
    http_ParseRequest.j3 (k + 1) raw m b ((m.size : Int) + 1) n false = some (encP (if Lib.hasPrefix (raw.data.toList.drop (m.data.toList.length + 1 + n + 1)) sV2 = true then tailP raw.data.toList m.data.toList (b.data.toList.take n) (m.data.toList.length + 1 + n + 1 + 10) else badP 152 (m.data.toList.length + 1 + n + 1))) := by
  have hml := size_data m
  have hrl := size_data raw
  simp only [http_ParseRequest.j3]
  rw [if_neg (by decide), wr ((m.size : Int) + 1 + n) (by omega), wr ((m.size : Int) + 1 + n + 1) (by omega), wr ((m.size : Int) + 1 + n + 1 + 10) (by omega)]
  rw [if_pos (by omega), if_pos (by omega)]
  have e1 : ((m.size : Int) + 1 + n + 1).toNat = m.data.toList.length + 1 + n + 1 := by omega
  unfold strings_HasPrefix.f
  simp only [Option.bind_some]
  rw [e1, extract_bs, data_bs, List.take_of_length_le (by rw [List.length_drop]; omega)]
  show (if Lib.hasPrefix _ sV2 = true then _ else _) = _
  by_cases hp : Lib.hasPrefix (raw.data.toList.drop (m.data.toList.length + 1 + n + 1)) sV2 = true
  · rw [if_pos hp, if_pos hp]
    have hlen : m.size + 1 + n + 1 + 10 ≤ raw.size := by
      have h10 := Lib.hasPrefix_le hp
      rw [List.length_drop, hml, hrl] at h10
      have : sV2.length = 10 := rfl
      omega
    unfold http_parseHead.f
    rw [if_pos ⟨hr, by omega, by omega⟩]
    simp only [Option.bind_some]
    have e2 : ((m.size : Int) + 1 + n + 1 + 10).toNat = m.data.toList.length + 1 + n + 1 + 10 := by omega
    rw [e2]
    unfold tailP
    have hbh := parseHeadF_behind raw.data.toList (m.data.toList.length + 1 + n + 1 + 10)
    generalize parseHeadF raw.data.toList (m.data.toList.length + 1 + n + 1 + 10) = r at hbh ⊢
    obtain ⟨f, len, beh, e, at_⟩ := r
    dsimp only at hbh ⊢
    by_cases he : e = 0
    · have := hbh he
      rw [if_pos (by omega), if_pos he, if_pos (by omega), if_pos (by omega), if_pos (by omega), if_pos (by omega)]
      simp only [encP, Int.toNat_natCast, bs_eq]
      rw [extract_bs, extract_bs, List.drop_zero, Nat.sub_zero, List.take_of_length_le (l := List.drop beh raw.data.toList) (by rw [List.length_drop]; omega)]
      rfl
    · rw [if_neg (by omega), if_neg he]
      rfl
  · rw [if_neg hp, if_neg hp]
    simp only [encP, badP, Option.some.injEq, Prod.mk.injEq]
    refine ⟨rfl, rfl, rfl, rfl, rfl, by omega⟩
theorem tw_in {p : UInt8 → Bool} : ∀ (l : List UInt8) (i : Nat) (c : UInt8), i < (l.takeWhile p).length → l[i]? = some c → p c = true
  | a :: r, i, c, h, hc => by
    rw [List.takeWhile_cons] at h
    split at h
    · rename_i ha
      match i, hc, h with
      | 0, hc, _ => simp at hc; rw [← hc]; exact ha
      | i + 1, hc, h => exact tw_in r i c (by simpa using h) (by simpa using hc)
    · simp at h
  | [], i, c, h, _ => by simp at h
theorem tw_out {p : UInt8 → Bool} : ∀ (l : List UInt8) (c : UInt8), l[(l.takeWhile p).length]? = some c → p c = false
  | a :: r, c, h => by
    rw [List.takeWhile_cons] at h
    split at h
    · exact tw_out r c (by simpa using h)
    · rename_i ha
      simp at h
      rw [← h]
      simpa using ha
  | [], c, h => by simp at h
theorem tw_le (p : UInt8 → Bool) (l : List UInt8) : (l.takeWhile p).length ≤ l.length := (List.takeWhile_prefix p).length_le
theorem l0_go (M : Nat) (raw m b : ByteArray) (x8 : Int) (j : Nat) (hj : j < b.size) (hb : b.size ≤ 32768) (h : ∀ c, b.data.toList[j]? = some c → pVis c = true) : http_ParseRequest.l0 (M + 1) raw m b x8 (j : Int) = http_ParseRequest.l0 M raw m b x8 ((j + 1 : Nat) : Int) := by
  obtain ⟨c, hc, hbt⟩ := bt_nat b j hj
  rw [http_ParseRequest.l0, if_pos (show (j : Int) < (b.size : Int) by omega), if_pos (show 0 ≤ (j : Int) by omega), hbt, visible_f, h c hc, Option.bind_some, if_pos rfl, wr _ (by omega)]
  rfl
theorem l0_out (M : Nat) (raw m b : ByteArray) (x8 : Int) (j : Nat) (h : ∀ c, b.data.toList[j]? = some c → pVis c = false) : http_ParseRequest.l0 (M + 1) raw m b x8 (j : Int) = http_ParseRequest.j2 M raw m b x8 (j : Int) := by
  rw [http_ParseRequest.l0]
  by_cases hlt : j < b.size
  · obtain ⟨c, hc, hbt⟩ := bt_nat b j hlt
    rw [if_pos (show (j : Int) < (b.size : Int) by omega), if_pos (show 0 ≤ (j : Int) by omega), hbt, visible_f, h c hc, Option.bind_some, if_neg (by decide)]
  · rw [if_neg (show ¬ (j : Int) < (b.size : Int) by omega)]
theorem l0_run (raw m b : ByteArray) (x8 : Int) (hb : b.size ≤ 32768) (d : Nat) : ∀ (M K j : Nat), M = K + d + 1 → j + d = (b.data.toList.takeWhile pVis).length → http_ParseRequest.l0 M raw m b x8 (j : Int) = http_ParseRequest.j2 K raw m b x8 ((b.data.toList.takeWhile pVis).length : Int) := by
  have hn := tw_le pVis b.data.toList
  rw [size_data] at hn
  induction d with
  | zero =>
    intro M K j hM h
    have hM' : M = K + 1 := by omega
    have hj : j = (b.data.toList.takeWhile pVis).length := by omega
    rw [hM', hj]
    exact l0_out K raw m b x8 _ (fun c hc => tw_out (p := pVis) _ c hc)
  | succ d ih =>
    intro M K j hM h
    obtain ⟨M', hM'⟩ : ∃ M', M = M' + 1 := ⟨K + d + 1, by omega⟩
    rw [hM', l0_go M' raw m b x8 j (by omega) hb (fun c hc => tw_in (p := pVis) _ j c (by omega) hc)]
    exact ih M' K (j + 1) (by omega) (by omega)
theorem j2_run (K : Nat) (raw m b : ByteArray) (n : Nat) (hr : raw.size ≤ 32768) (hm : m.size ≤ 32768) (hn : n ≤ b.size) (hb : b.size ≤ 32768) (hpl : n < b.size → m.size + 1 + n + 1 ≤ raw.size) :
    http_ParseRequest.j2 (K + 1 + 1) raw m b ((m.size : Int) + 1) n = some (encP (targP raw.data.toList m.data.toList b.data.toList n)) := by
  have hml := size_data m
  have hbl := size_data b
  rw [show K + 1 + 1 = (K + 1) + 1 from rfl]
  simp only [http_ParseRequest.j2]
  unfold targP
  have bad : some ((⟨#[]⟩ : ByteArray), (⟨#[]⟩ : ByteArray), ([] : List S80), (⟨#[]⟩ : ByteArray), (151 : Int), (m.size : Int) + 1) = some (encP (badP 151 (m.data.toList.length + 1))) := by
    simp only [encP, badP, Option.some.injEq, Prod.mk.injEq]
    refine ⟨rfl, rfl, rfl, rfl, rfl, by omega⟩
  by_cases hnb : n = b.size
  · rw [if_pos (show (n : Int) = (b.size : Int) by omega), if_pos (show n = b.data.toList.length by omega), j3_bad]
    exact bad
  · rw [if_neg (show ¬ (n : Int) = (b.size : Int) by omega), if_neg (show ¬ n = b.data.toList.length by omega), if_pos (show 0 ≤ (n : Int) by omega), if_pos (show (n : Int) < (b.size : Int) by omega)]
    obtain ⟨c, hc, hbt⟩ := bt_nat b n (by omega)
    rw [hbt, hc]
    by_cases h32 : c = 32
    · subst h32
      rw [if_pos (show ((32 : UInt8).toNat : Int) = 32 by decide), if_pos (show (n : Int) ≤ (b.size : Int) by omega), isTarget_f]
      simp only [Option.bind_some, Int.toNat_natCast]
      have et : (b.extract 0 n).data.toList = b.data.toList.take n := by rw [Lib.extract_data, List.drop_zero, Nat.sub_zero]
      rw [et]
      cases ht : targB (b.data.toList.take n) with
      | true =>
        rw [if_pos ⟨trivial, rfl⟩, Bool.not_true, j3_good K raw m b n hr hm hn hb (hpl (by omega))]
      | false =>
        rw [if_neg (by simp), Bool.not_false, j3_bad]
        exact bad
    · have hne : ¬ ((c.toNat : Int) = 32) := fun h => h32 (UInt8.toNat_inj.1 (by have : (32 : UInt8).toNat = 32 := rfl; omega))
      rw [if_neg hne, if_neg (by simp [h32]), j3_bad]
      exact bad
theorem cut_sum (l : List UInt8) (h : (Lib.cut l [32]).2.2 = true) : (Lib.cut l [32]).1.length + 1 + (Lib.cut l [32]).2.1.length = l.length := by
  have hr := Lib.index_room l [32]
  unfold Lib.cut at h ⊢
  split
  · rename_i h0
    have := hr h0
    have h1 : ([32] : List UInt8).length = 1 := rfl
    rw [h1] at this
    simp only [List.length_take, List.length_drop, h1]
    omega
  · rename_i h0
    rw [if_neg h0] at h
    cases h
theorem ParseRequest_f (K : Nat) (raw : ByteArray) (hK : 40000 ≤ K) : http_ParseRequest.f K raw = some (encP (parseF raw.data.toList)) := by
  have hrl := size_data raw
  unfold http_ParseRequest.f parseF
  by_cases hbig : raw.size > 32768
  · rw [if_pos (by omega), if_pos (by omega)]
    rfl
  · rw [if_neg (by omega), if_neg (by omega)]
    unfold strings_Cut.f
    rw [if_pos (by omega)]
    simp only [Option.bind_some]
    show (if (Lib.cut raw.data.toList [32]).2.2 = true then ((http_isMethod.f (bs (Lib.cut raw.data.toList [32]).1)).bind fun t112 => http_ParseRequest.j0 K raw (bs (Lib.cut raw.data.toList [32]).1) (bs (Lib.cut raw.data.toList [32]).2.1) (!t112)) else http_ParseRequest.j0 K raw (bs (Lib.cut raw.data.toList [32]).1) (bs (Lib.cut raw.data.toList [32]).2.1) true) = _
    have hs := cut_sum raw.data.toList
    have hle := cut_le raw.data.toList [32]
    generalize Lib.cut raw.data.toList [32] = c at hs hle ⊢
    obtain ⟨m, b, f⟩ := c
    dsimp only at hs hle ⊢
    obtain ⟨k, rfl⟩ : ∃ k, K = k + 1 := ⟨K - 1, by omega⟩
    have bad : http_ParseRequest.j0 (k + 1) raw (bs m) (bs b) true = some (encP (badP 150 0)) := by
      simp only [http_ParseRequest.j0, if_true]
      rfl
    cases f with
    | false => rw [if_neg (by decide), if_neg (by simp), bad]
    | true =>
      rw [if_pos rfl, isMethod_f, data_bs]
      simp only [Option.bind_some, Bool.true_and]
      cases hm : methB m with
      | false => rw [if_neg (by decide), Bool.not_false, bad]
      | true =>
        have hsum := hs rfl
        have h16 := methB_len hm
        rw [if_pos rfl, Bool.not_true]
        simp only [http_ParseRequest.j0]
        rw [if_neg (by decide), wr _ (by rw [bs_size]; omega)]
        have hn := tw_le pVis b
        obtain ⟨k', hk'⟩ : ∃ k', k = (k' + 1 + 1) + (b.takeWhile pVis).length + 1 := ⟨k - (b.takeWhile pVis).length - 3, by omega⟩
        have e := l0_run raw (bs m) (bs b) (((bs m).size : Int) + 1) (by rw [bs_size]; omega) (b.takeWhile pVis).length k (k' + 1 + 1) 0 hk' (by rw [data_bs]; omega)
        rw [data_bs] at e
        rw [show ((0 : Nat) : Int) = 0 from rfl] at e
        rw [e, j2_run k' raw (bs m) (bs b) _ (by omega) (by rw [bs_size]; omega) (by rw [bs_size]; exact hn) (by rw [bs_size]; omega) (by rw [bs_size, bs_size]; intro h; omega), data_bs, data_bs]
end Go.Proofs.YtmfkgjnlobiobaaGreatDoor.X
namespace Go.Proofs.YtmfkgjnlobiobaaGreatDoor.X
open Go.RowKit Go.Shelf Go.Proofs.YtmfkgjnlobiobaaGreatDoorW.PrintWords
/-! ### decimal digits -/
theorem digit_toNat (u : Nat) (h : u < 10) : (UInt8.ofNat (48 + u)).toNat = 48 + u := by
  rw [UInt8.toNat_ofNat']
  omega
/-! ### lines -/
def no13 (l : List UInt8) : Prop := ∀ c ∈ l, c ≠ 13
theorem index_line : ∀ (line rest : List UInt8), no13 line → Lib.index (line ++ 13 :: 10 :: rest) crlf = line.length
  | [], rest, _ => by simp [Lib.index, crlf]
  | c :: r, rest, h => by
    have ih := index_line r rest (fun x hx => h x (List.mem_cons_of_mem _ hx))
    have hc : c ≠ 13 := h c List.mem_cons_self
    rw [List.cons_append, Lib.index, ih]
    have hp : crlf.isPrefixOf (c :: (r ++ 13 :: 10 :: rest)) = false := by
      simp [crlf, List.isPrefixOf, Ne.symm hc]
    rw [hp]
    have h1 : ((r.length : Int) == -1) = false := beq_eq_false_iff_ne.2 (by omega)
    rw [h1]
    simp only [if_false, List.length_cons]
    simp
theorem linesL_line (k : Nat) (line rest : List UInt8) (pos : Nat) (h : no13 line) : linesL (k + 1) (line ++ 13 :: 10 :: rest) pos = (pos, line) :: linesL k rest (pos + line.length + 2) := by
  rw [linesL, index_line line rest h, if_neg (by omega), Int.toNat_natCast]
  have e1 : (line ++ 13 :: 10 :: rest).take line.length = line := by simp
  have e2 : (line ++ 13 :: 10 :: rest).drop (line.length + 2) = rest := by
    rw [show line ++ 13 :: 10 :: rest = (line ++ [13, 10]) ++ rest by simp, List.drop_left' (by simp)]
  rw [e1, e2]
/-! ### a text that reads is no beginning of another -/
theorem prefix_app (sub a x : List UInt8) (h : sub.length ≤ a.length) : sub.isPrefixOf (a ++ x) = sub.isPrefixOf a := by
  rw [Bool.eq_iff_iff, List.isPrefixOf_iff_prefix, List.isPrefixOf_iff_prefix]
  exact ⟨fun hp => List.prefix_of_prefix_length_le hp ⟨x, rfl⟩ h, fun hp => hp.trans ⟨x, rfl⟩⟩
theorem index_app (l x sub : List UInt8) (h : 0 ≤ Lib.index l sub) : Lib.index (l ++ x) sub = Lib.index l sub := by
  have hroom := Lib.index_room l sub h
  rcases Lib.index_spec l sub with ⟨e, _⟩ | ⟨i, e, hi, ho, hn⟩
  · omega
  · rw [e] at hroom ⊢
    have hocc : ∀ j, j ≤ i → Lib.occAt (l ++ x) sub j = Lib.occAt l sub j := by
      intro j hj
      unfold Lib.occAt
      rw [List.drop_append_of_le_length (by omega)]
      exact prefix_app _ _ _ (by rw [List.length_drop]; omega)
    exact Lib.index_first (by rw [List.length_append]; omega) (by rw [hocc i (Nat.le_refl _)]; exact ho) (fun j hj => by rw [hocc j (by omega)]; exact hn j hj)
theorem pf10 : (pfF [10]).2.2 = false := by decide
theorem runH_app (x : List UInt8) : ∀ (K : Nat) (s s' : HS) (l : List UInt8) (pos K' : Nat), runH s (linesL K l pos) = .stop s' → (l ++ x).length < K' → runH s (linesL K' (l ++ x) pos) = .stop s'
  | 0, s, s', l, pos, K', h, _ => by simp [linesL, runH] at h
  | K + 1, s, s', l, pos, K', h, hK => by
    obtain ⟨K', rfl⟩ : ∃ m, K' = m + 1 := ⟨K' - 1, by omega⟩
    rw [linesL] at h ⊢
    by_cases hi : Lib.index l crlf < 0
    · rw [if_pos hi] at h
      have hb : stepH s (pos, [10]) = .bad 153 pos := by
        unfold stepH
        rw [if_neg (by simp), if_pos pf10]
      simp [runH, hb] at h
    · rw [if_neg hi] at h
      have hroom := Lib.index_room l crlf (by omega)
      have h2 : crlf.length = 2 := rfl
      rw [h2] at hroom
      rw [index_app l x crlf (by omega), if_neg hi]
      have et : (l ++ x).take (Lib.index l crlf).toNat = l.take (Lib.index l crlf).toNat := List.take_append_of_le_length (by omega)
      have ed : (l ++ x).drop ((Lib.index l crlf).toNat + 2) = l.drop ((Lib.index l crlf).toNat + 2) ++ x := List.drop_append_of_le_length (by omega)
      rw [et, ed]
      simp only [runH] at h ⊢
      cases hst : stepH s (pos, l.take (Lib.index l crlf).toNat) with
      | go s2 =>
        rw [hst] at h
        exact runH_app x K s2 s' _ _ K' h (by simp only [List.length_append, List.length_drop] at hK ⊢; omega)
      | stop s2 =>
        rw [hst] at h
        exact h
      | bad e a =>
        rw [hst] at h
        exact h
theorem runH_no_go : ∀ (K : Nat) (s s' : HS) (l : List UInt8) (pos : Nat), l.length < K → runH s (linesL K l pos) ≠ .go s'
  | K + 1, s, s', l, pos, hK => by
    rw [linesL]
    by_cases hi : Lib.index l crlf < 0
    · rw [if_pos hi]
      have hb : stepH s (pos, [10]) = .bad 153 pos := by
        unfold stepH
        rw [if_neg (by simp), if_pos pf10]
      simp [runH, hb]
    · rw [if_neg hi]
      have hroom := Lib.index_room l crlf (by omega)
      have h2 : crlf.length = 2 := rfl
      rw [h2] at hroom
      simp only [runH]
      split
      · exact runH_no_go K _ s' _ _ (by rw [List.length_drop]; omega)
      · rename_i o hne
        intro e
        exact hne s' e
theorem stepH_bad (s : HS) (x : Nat × List UInt8) (e a : Nat) (h : stepH s x = .bad e a) : e ≠ 0 := by
  unfold stepH at h
  repeat' split at h
  all_goals first | (cases h; done) | (injection h with h1 h2; omega)
theorem bad_ne : ∀ (l : List (Nat × List UInt8)) (s : HS) (a : Nat), runH s l ≠ .bad 0 a
  | [], s, a => by simp [runH]
  | x :: r, s, a => by
    simp only [runH]
    split
    · exact bad_ne r _ a
    · rename_i o hne
      intro e
      exact stepH_bad s x 0 a e rfl
theorem parseHeadF_stop (raw : List UInt8) (p : Nat) (h : (parseHeadF raw p).2.2.2.1 = 0) : ∃ s, runH .start (linesL (raw.length + 1) (raw.drop p) p) = .stop s ∧ parseHeadF raw p = endH raw s := by
  unfold parseHeadF at h ⊢
  have hg := runH_no_go (raw.length + 1) .start
  split
  · rename_i e a he
    rw [he] at h
    exact absurd h (by
      show ¬ e = 0
      intro he0
      subst he0
      exact bad_ne _ _ _ he)
  · rename_i s hs
    exact absurd hs (hg s _ _ (by rw [List.length_drop]; omega))
  · rename_i s hs
    exact ⟨s, hs, rfl⟩
theorem endH_ok (raw : List UInt8) (s : HS) (h : (endH raw s).2.2.2.1 = 0) : (raw.length : Int) - s.behind = s.length := by
  unfold endH at h
  split at h
  · simp at h
  · rename_i hn
    simpa using hn
theorem parseHeadF_app (raw x : List UInt8) (p : Nat) (hp : p ≤ raw.length) (h : (parseHeadF raw p).2.2.2.1 = 0) (hx : x ≠ []) : (parseHeadF (raw ++ x) p).2.2.2.1 ≠ 0 := by
  obtain ⟨s, hs, he⟩ := parseHeadF_stop raw p h
  rw [he] at h
  have hok := endH_ok raw s h
  have hs2 := runH_app x _ _ _ _ _ ((raw ++ x).length + 1) hs (by simp only [List.length_append, List.length_drop]; omega)
  rw [← List.drop_append_of_le_length hp] at hs2
  unfold parseHeadF
  rw [hs2]
  show (endH (raw ++ x) s).2.2.2.1 ≠ 0
  unfold endH
  have hxl : 0 < x.length := List.length_pos_iff.2 hx
  rw [if_pos (by rw [List.length_append]; push_cast; omega)]
  show (155 : Nat) ≠ 0
  decide
def okP (r : PR) : Prop := r.2.2.2.2.1 = 0
theorem tw_app (p : UInt8 → Bool) (l x : List UInt8) (h : (l.takeWhile p).length ≠ l.length) : (l ++ x).takeWhile p = l.takeWhile p := by
  induction l with
  | nil => simp at h
  | cons c r ih =>
    rw [List.cons_append, List.takeWhile_cons, List.takeWhile_cons]
    rw [List.takeWhile_cons] at h
    split
    · rename_i hc
      rw [if_pos hc] at h
      rw [ih (by simpa using h)]
    · rfl
theorem parseF_app (raw x : List UInt8) (h : okP (parseF raw)) (hx : x ≠ []) : ¬ okP (parseF (raw ++ x)) := by
  unfold okP parseF at h ⊢
  by_cases hbig : raw.length > 32768
  · rw [if_pos hbig] at h
    simp [badP] at h
  · rw [if_neg hbig] at h
    by_cases hc : ((Lib.cut raw [32]).2.2 && methB (Lib.cut raw [32]).1) = true
    · rw [if_pos hc] at h
      by_cases hbig2 : (raw ++ x).length > 32768
      · rw [if_pos hbig2]
        simp [badP]
      · rw [if_neg hbig2]
        have hi : 0 ≤ Lib.index raw [32] := by
          simp only [Bool.and_eq_true] at hc
          have := hc.1
          unfold Lib.cut at this
          split at this
          · assumption
          · cases this
        have hroom := Lib.index_room raw [32] hi
        have h1 : ([32] : List UInt8).length = 1 := rfl
        rw [h1] at hroom
        have hcut : Lib.cut (raw ++ x) [32] = ((Lib.cut raw [32]).1, (Lib.cut raw [32]).2.1 ++ x, (Lib.cut raw [32]).2.2) := by
          unfold Lib.cut
          rw [index_app raw x [32] hi, if_pos hi, if_pos hi]
          simp only [Prod.mk.injEq]
          exact ⟨List.take_append_of_le_length (by omega), List.drop_append_of_le_length (by rw [h1]; omega), trivial⟩
        rw [hcut]
        dsimp only
        rw [if_pos hc]
        have hsum := cut_sum raw (by simp only [Bool.and_eq_true] at hc; exact hc.1)
        generalize Lib.cut raw [32] = c at h hc hsum ⊢
        obtain ⟨m, b, f⟩ := c
        dsimp only at h hc hsum ⊢
        have hn := tw_le pVis b
        unfold targP at h ⊢
        by_cases hnb : (b.takeWhile pVis).length = b.length
        · rw [if_pos hnb] at h
          simp [badP] at h
        · rw [if_neg hnb] at h
          rw [tw_app pVis b x hnb, if_neg (by rw [List.length_append]; omega)]
          have e1 : (b ++ x)[(b.takeWhile pVis).length]? = b[(b.takeWhile pVis).length]? := List.getElem?_append_left (by omega)
          have e2 : (b ++ x).take (b.takeWhile pVis).length = b.take (b.takeWhile pVis).length := List.take_append_of_le_length hn
          rw [e1, e2]
          by_cases hq : b[(b.takeWhile pVis).length]? = some 32 ∧ targB (b.take (b.takeWhile pVis).length) = true
          · rw [if_pos hq] at h ⊢
            by_cases hpre : Lib.hasPrefix (raw.drop (m.length + 1 + (b.takeWhile pVis).length + 1)) sV2 = true
            · rw [if_pos hpre] at h
              have hl := Lib.hasPrefix_le hpre
              have h10 : sV2.length = 10 := rfl
              rw [List.length_drop, h10] at hl
              have hpre2 : Lib.hasPrefix ((raw ++ x).drop (m.length + 1 + (b.takeWhile pVis).length + 1)) sV2 = true := by
                rw [List.drop_append_of_le_length (by omega)]
                unfold Lib.hasPrefix at hpre ⊢
                rw [prefix_app _ _ _ (by rw [List.length_drop, h10]; omega)]
                exact hpre
              rw [if_pos hpre2]
              unfold tailP at h ⊢
              by_cases he : (parseHeadF raw (m.length + 1 + (b.takeWhile pVis).length + 1 + 10)).2.2.2.1 = 0
              · have hne := parseHeadF_app raw x _ (by omega) he hx
                rw [if_neg hne]
                exact hne
              · rw [if_neg he] at h
                exact absurd h he
            · rw [if_neg hpre] at h
              simp [badP] at h
          · rw [if_neg hq] at h
            simp [badP] at h
    · rw [if_neg hc] at h
      simp [badP] at h
end Go.Proofs.YtmfkgjnlobiobaaGreatDoor.X
namespace Go.Proofs.YtmfkgjnlobiobaaGreatDoor.X
open Go.RowKit Go.Shelf Go.Proofs.YtmfkgjnlobiobaaGreatDoorW.PrintWords
theorem index_byte (y : UInt8) : ∀ (a rest : List UInt8), (∀ c ∈ a, c ≠ y) → Lib.index (a ++ y :: rest) [y] = a.length
  | [], rest, _ => by simp [Lib.index, List.isPrefixOf]
  | c :: r, rest, h => by
    have ih := index_byte y r rest (fun x hx => h x (List.mem_cons_of_mem _ hx))
    have hc : c ≠ y := h c List.mem_cons_self
    rw [List.cons_append, Lib.index, ih]
    have hp : ([y] : List UInt8).isPrefixOf (c :: (r ++ y :: rest)) = false := by
      simp [List.isPrefixOf, Ne.symm hc]
    rw [hp]
    have h1 : ((r.length : Int) == -1) = false := beq_eq_false_iff_ne.2 (by omega)
    rw [h1]
    simp
theorem cut_byte (y : UInt8) (a rest : List UInt8) (h : ∀ c ∈ a, c ≠ y) : Lib.cut (a ++ y :: rest) [y] = (a, rest, true) := by
  unfold Lib.cut
  rw [index_byte y a rest h, if_pos (by omega), Int.toNat_natCast]
  simp only [Prod.mk.injEq]
  refine ⟨by simp, ?_, trivial⟩
  rw [show a ++ y :: rest = (a ++ [y]) ++ rest by simp, List.drop_left' (by simp)]
theorem pName_ne {c : UInt8} (h : pName c = true) : c ≠ 58 ∧ c ≠ 13 := by
  unfold pName at h
  simp only [decide_eq_true_eq] at h
  refine ⟨?_, ?_⟩ <;> (rintro rfl; revert h; decide)
theorem pVal_ne {c : UInt8} (h : pVal c = true) : c ≠ 9 ∧ c ≠ 13 := by
  unfold pVal at h
  simp only [decide_eq_true_eq] at h
  refine ⟨?_, ?_⟩ <;> (rintro rfl; revert h; decide)
theorem pVal_pField {c : UInt8} (h : pVal c = true) : pField c = true := by
  unfold pVal at h
  unfold pField
  simp only [decide_eq_true_eq] at h ⊢
  exact .inl h
theorem low_low (c : UInt8) : low (low c) = low c := by
  have e := low_toNat c
  have e2 := low_toNat (low c)
  apply UInt8.toNat_inj.1
  split at e <;> split at e2 <;> omega
theorem lows_lows (l : List UInt8) : lows (lows l) = lows l := by
  unfold lows
  rw [List.map_map]
  exact List.map_congr_left (fun c _ => low_low c)
/-- A value as it may be printed has no blank at its ends. -/
theorem valB_parts {v : List UInt8} (h : valB v = true) : v.length ≤ 4096 ∧ (∀ c ∈ v, pVal c = true) ∧ v.head? ≠ some 32 ∧ v.getLast? ≠ some 32 := by
  unfold valB at h
  simp only [Bool.and_eq_true, decide_eq_true_eq, Bool.not_eq_true', List.all_eq_true] at h
  obtain ⟨h1, h2, h3, h4⟩ := h
  refine ⟨h1, h4, ?_, ?_⟩
  · intro e
    match v, e with
    | c :: r, e =>
      simp at e
      subst e
      simp [Lib.hasPrefix, List.isPrefixOf] at h2
  · intro e
    obtain ⟨r, hr⟩ := List.getLast?_eq_some_iff.1 e
    unfold Lib.hasSuffix at h3
    have : ([32] : List UInt8).isSuffixOf v = true := by
      rw [List.isSuffixOf_iff_suffix]
      exact ⟨r, hr.symm⟩
    rw [this] at h3
    cases h3
theorem trim_val (v : List UInt8) (h : valB v = true) : Lib.trimS (if v = [] then [] else 32 :: v) [32, 9] = v := by
  obtain ⟨_, hv, hh, hl⟩ := valB_parts h
  by_cases h0 : v = []
  · subst h0; rfl
  · rw [if_neg h0]
    have inset : ∀ c : UInt8, ([32, 9] : List UInt8).contains c = true → c = 32 ∨ c = 9 := by
      intro c hc
      simpa using hc
    have hr : (32 :: v).reverse.dropWhile (([32, 9] : List UInt8).contains ·) = (32 :: v).reverse := by
      obtain ⟨r, d, hd⟩ : ∃ r d, v = r ++ [d] := ⟨v.dropLast, v.getLast h0, (List.dropLast_concat_getLast h0).symm⟩
      rw [hd] at hl hv ⊢
      have e : (32 :: (r ++ [d])).reverse = d :: (32 :: r).reverse := by simp
      rw [e, List.dropWhile_cons, if_neg]
      intro hc
      rcases inset d hc with rfl | rfl
      · simp at hl
      · exact (pVal_ne (hv 9 (by simp))).1 rfl
    unfold Lib.trimS Lib.trimRightS Lib.trimLeftS
    rw [hr, List.reverse_reverse, List.dropWhile_cons, if_pos (by decide)]
    match v, h0, hh, hv with
    | c :: r, _, hh, hv =>
      rw [List.dropWhile_cons, if_neg]
      intro hc
      rcases inset c hc with rfl | rfl
      · simp at hh
      · exact (pVal_ne (hv 9 (by simp))).1 rfl
def fl (n v : List UInt8) : List UInt8 := n ++ [58] ++ (if v = [] then [] else 32 :: v)
theorem nameB_parts {n : List UInt8} (h : nameB n = true) : 1 ≤ n.length ∧ ∀ c ∈ n, pName c = true := by
  unfold nameB at h
  simp only [Bool.and_eq_true, decide_eq_true_eq, List.all_eq_true] at h
  exact ⟨h.1.1, h.2⟩
theorem fl_no13 {n v : List UInt8} (hn : nameB n = true) (hv : valB v = true) : no13 (fl n v) := by
  obtain ⟨_, h1⟩ := nameB_parts hn
  obtain ⟨_, h2, _, _⟩ := valB_parts hv
  intro c hc
  unfold fl at hc
  simp only [List.mem_append, List.mem_singleton] at hc
  rcases hc with (hc | rfl) | hc
  · exact (pName_ne (h1 c hc)).2
  · decide
  · split at hc
    · cases hc
    · rcases List.mem_cons.1 hc with rfl | hc
      · decide
      · exact (pVal_ne (h2 c hc)).2
theorem contains9 (v : List UInt8) (h : ∀ c ∈ v, pVal c = true) : Lib.contains v [9] = false := by
  unfold Lib.contains
  apply decide_eq_false
  intro h0
  rcases Lib.index_spec v [9] with ⟨e, _⟩ | ⟨i, e, hi, ho, _⟩
  · omega
  · unfold Lib.occAt at ho
    rw [List.isPrefixOf_iff_prefix] at ho
    obtain ⟨t, ht⟩ := ho
    have : (9 : UInt8) ∈ v := by
      have hm : (9 : UInt8) ∈ v.drop i := by rw [← ht]; simp
      exact List.mem_of_mem_drop hm
    exact (pVal_ne (h 9 this)).1 rfl
theorem pfF_fl {n v : List UInt8} (hn : nameB n = true) (hv : valB v = true) : pfF (fl n v) = (lows n, v, true) := by
  obtain ⟨_, h1⟩ := nameB_parts hn
  obtain ⟨hl, h2, _, _⟩ := valB_parts hv
  have hc : Lib.cut (fl n v) [58] = (n, (if v = [] then [] else 32 :: v), true) := by
    unfold fl
    rw [show n ++ [58] ++ (if v = [] then [] else 32 :: v) = n ++ 58 :: (if v = [] then [] else 32 :: v) by simp]
    exact cut_byte 58 n _ (fun c hc => (pName_ne (h1 c hc)).1)
  have hall : (if v = [] then [] else 32 :: v).all pField = true := by
    rw [List.all_eq_true]
    intro c hc
    split at hc
    · cases hc
    · rcases List.mem_cons.1 hc with rfl | hc
      · decide
      · exact pVal_pField (h2 c hc)
  unfold pfF
  rw [hc]
  dsimp only
  rw [hn, hall, if_pos (by decide), trim_val v hv, decide_eq_true hl, contains9 v h2]
  rfl
theorem lineF_fl (n v : List UInt8) : lineF n v = fl (lows n) v ++ [13, 10] := rfl
def lowP (f : List UInt8 × List UInt8) : List UInt8 × List UInt8 := (lows f.1, f.2)
theorem okF_parts {n v : List UInt8} (h : okF n v = true) : nameB (lows n) = true ∧ valB v = true ∧ lows n ≠ sCL ∧ lows n ≠ sTE := by
  unfold okF at h
  simp only [Bool.and_eq_true, Bool.not_eq_true', beq_eq_false_iff_ne] at h
  exact ⟨h.1.1, h.1.2, h.2.1, h.2.2⟩
theorem fl_ne (n v : List UInt8) : fl n v ≠ [] := by
  unfold fl
  simp
theorem run_fields : ∀ (l : List (List UInt8 × List UInt8)) (s : HS) (K pos : Nat) (rest : List UInt8), (∀ f ∈ l, okF f.1 f.2 = true) → s.fields.length + l.length ≤ 64 →
    runH s (linesL (K + l.length) (l.flatMap (fun f => lineF f.1 f.2) ++ rest) pos) = runH { s with fields := s.fields ++ l.map lowP } (linesL K rest (pos + (l.flatMap (fun f => lineF f.1 f.2)).length))
  | [], s, K, pos, rest, _, _ => by simp
  | f :: r, s, K, pos, rest, h, hl => by
    obtain ⟨h1, h2, h3, h4⟩ := okF_parts (h f List.mem_cons_self)
    have ih := run_fields r { s with fields := s.fields ++ [lowP f] } K (pos + (fl (lows f.1) f.2).length + 2) rest (fun g hg => h g (List.mem_cons_of_mem _ hg)) (by simp only [List.length_append, List.length_cons, List.length_nil] at hl ⊢; omega)
    rw [List.flatMap_cons, List.length_cons, ← Nat.add_assoc, lineF_fl, show fl (lows f.1) f.2 ++ [13, 10] ++ r.flatMap (fun f => lineF f.1 f.2) ++ rest = fl (lows f.1) f.2 ++ 13 :: 10 :: (r.flatMap (fun f => lineF f.1 f.2) ++ rest) by simp,
      linesL_line _ _ _ _ (fl_no13 h1 h2)]
    have hs : stepH s (pos, fl (lows f.1) f.2) = .go { s with fields := s.fields ++ [lowP f] } := by
      unfold stepH
      rw [if_neg (fl_ne _ _), pfF_fl h1 h2, lows_lows]
      dsimp only
      rw [if_neg (by decide), if_neg h4, if_neg h3, if_neg (by simp only [List.length_cons] at hl; omega)]
      rfl
    rw [runH_go _ hs, ih]
    simp only [List.length_append, List.map_cons, List.append_assoc, List.cons_append, List.nil_append, List.length_cons, List.length_nil]
    congr 2
    omega
/-! ### numbers -/
theorem dig_all : ∀ (u : Nat), (∀ c ∈ Lib.decDigits u, pDig c = true) ∧ numF (Lib.decDigits u) = u := by
  intro u
  induction u using Nat.strongRecOn with
  | _ u ih =>
    have one : ∀ d, d < 10 → pDig (UInt8.ofNat (48 + d)) = true ∧ (UInt8.ofNat (48 + d)).toNat - 48 = d := by
      intro d hd
      have e := digit_toNat d hd
      unfold pDig
      rw [e]
      exact ⟨by simp; omega, by omega⟩
    by_cases h : u < 10
    · rw [Lib.decDigits_one h]
      obtain ⟨a, b⟩ := one u h
      refine ⟨fun c hc => ?_, ?_⟩
      · rw [List.mem_singleton] at hc
        rw [hc]; exact a
      · simp only [numF, List.foldl_cons, List.foldl_nil]
        omega
    · have e : Lib.decDigits u = Lib.decDigits (u / 10) ++ [UInt8.ofNat (48 + u % 10)] := by
        rw [Lib.decDigits, dif_neg h]
      obtain ⟨a, b⟩ := one (u % 10) (by omega)
      obtain ⟨i1, i2⟩ := ih (u / 10) (by omega)
      rw [e]
      refine ⟨fun c hc => ?_, ?_⟩
      · rcases List.mem_append.1 hc with hc | hc
        · exact i1 c hc
        · rw [List.mem_singleton] at hc
          rw [hc]; exact a
      · unfold numF at i2 ⊢
        rw [List.foldl_append, i2]
        simp only [List.foldl_cons, List.foldl_nil]
        omega
theorem nd_le : ∀ (k u : Nat), u < 10 ^ (k + 1) → Lib.nDigits u ≤ k + 1
  | 0, u, h => by rw [Lib.nDigits_small (by omega)]; omega
  | k + 1, u, h => by
    by_cases h10 : u < 10
    · rw [Lib.nDigits_small h10]; omega
    · rw [Lib.nDigits_big h10]
      have := nd_le k (u / 10) (by rw [Nat.pow_succ] at h; omega)
      omega
theorem itoa_nat (n : Nat) : Lib.itoa (n : Int) = Lib.decDigits n := by
  unfold Lib.itoa
  rw [if_neg (by omega), Int.toNat_natCast]
theorem itoa_facts (n : Nat) (h : n < 1000000000) : digsB (Lib.itoa n) = true ∧ numF (Lib.itoa n) = n ∧ valB (Lib.itoa n) = true := by
  rw [itoa_nat]
  obtain ⟨h1, h2⟩ := dig_all n
  have hlen := Lib.decDigits_length n
  have hp := Lib.nDigits_pos n
  have hle := nd_le 8 n h
  have hall : (Lib.decDigits n).all pDig = true := List.all_eq_true.2 h1
  have hd : ∀ c ∈ Lib.decDigits n, c ≠ 32 ∧ pVal c = true := by
    intro c hc
    have := pDig_is c (h1 c hc)
    refine ⟨?_, ?_⟩
    · rintro rfl; revert this; decide
    · unfold pVal; simp; omega
  refine ⟨?_, h2, ?_⟩
  · unfold digsB
    rw [hall, decide_eq_true (by omega), decide_eq_true (by omega)]
    rfl
  · unfold valB
    rw [decide_eq_true (by omega)]
    simp only [Bool.true_and, Bool.and_eq_true, Bool.not_eq_true', List.all_eq_true]
    refine ⟨?_, ?_, fun c hc => (hd c hc).2⟩
    · unfold Lib.hasPrefix
      rw [Bool.eq_false_iff]
      intro hq
      rw [List.isPrefixOf_iff_prefix] at hq
      obtain ⟨t, ht⟩ := hq
      exact (hd 32 (by rw [← ht]; simp)).1 rfl
    · unfold Lib.hasSuffix
      rw [Bool.eq_false_iff]
      intro hq
      rw [List.isSuffixOf_iff_suffix] at hq
      obtain ⟨t, ht⟩ := hq
      exact (hd 32 (by rw [← ht]; simp)).1 rfl
/-! ### the head -/
theorem sCL_name : nameB sCL = true := by decide
theorem sCL_low : lows sCL = sCL := by decide
theorem run_end (s : HS) (K pos : Nat) (body tail : List UInt8) (hs : s.sized = false) (hl : s.length = 0) (hb : body.length < 1000000000) :
    runH s (linesL (K + 2) (clF body ++ [13, 10] ++ tail) pos) = .stop ⟨s.fields, body.length, pos + (clF body).length + 2, !decide (body = [])⟩ := by
  have hblank : ∀ (s : HS) (K pos : Nat), runH s (linesL (K + 1) ([13, 10] ++ tail) pos) = .stop { s with behind := pos + 2 } := by
    intro s K pos
    have := linesL_line K [] tail pos (fun c hc => by cases hc)
    rw [show [13, 10] ++ tail = [] ++ 13 :: 10 :: tail by simp, this]
    exact runH_stop _ (by unfold stepH; rw [if_pos rfl])
  by_cases h0 : body = []
  · have e : clF body = [] := by unfold clF; rw [if_pos h0]
    rw [e, List.nil_append, show K + 2 = (K + 1) + 1 by omega, hblank]
    obtain ⟨f, len, beh, sz⟩ := s
    dsimp only at hs hl
    subst hs hl
    rw [h0]
    simp
  · obtain ⟨d1, d2, d3⟩ := itoa_facts body.length hb
    have hne : Lib.itoa (body.length : Int) ≠ [] := by
      intro e
      rw [e] at d1
      revert d1; decide
    have e : clF body = fl sCL (Lib.itoa body.length) ++ [13, 10] := by
      unfold clF fl
      rw [if_neg h0, if_neg hne]
      simp
    have hstep : stepH s (pos, fl sCL (Lib.itoa body.length)) = .go { s with sized := true, length := body.length } := by
      unfold stepH
      rw [if_neg (fl_ne _ _), pfF_fl sCL_name d3, sCL_low]
      dsimp only
      rw [if_neg (by decide), if_neg (by decide), if_pos rfl, hs, d1, if_neg (by decide), d2]
    rw [e, show fl sCL (Lib.itoa body.length) ++ [13, 10] ++ [13, 10] ++ tail = fl sCL (Lib.itoa body.length) ++ 13 :: 10 :: ([13, 10] ++ tail) by simp, show K + 2 = (K + 1) + 1 by omega,
      linesL_line _ _ _ _ (fl_no13 sCL_name d3), runH_go _ hstep, hblank]
    simp only [List.length_append, List.length_cons, List.length_nil]
    rw [decide_eq_false h0]
    congr 2
theorem head_reads (first : List UInt8) (l : List (List UInt8 × List UInt8)) (body tail : List UInt8) (hl : l.length ≤ 64) (hok : ∀ f ∈ l, okF f.1 f.2 = true) (hb : body.length < 1000000000) :
    parseHeadF (headF first l body ++ tail) (first.length + 2) = endH (headF first l body ++ tail) ⟨l.map lowP, body.length, (headF first l body).length, !decide (body = [])⟩ := by
  have hlen : l.length ≤ (l.flatMap (fun f => lineF f.1 f.2)).length := by
    clear hl hok
    induction l with
    | nil => simp
    | cons f r ih =>
      rw [List.flatMap_cons, List.length_append, lineF_fl]
      simp only [List.length_cons, List.length_append, List.length_nil]
      omega
  have hdrop : (headF first l body ++ tail).drop (first.length + 2) = l.flatMap (fun f => lineF f.1 f.2) ++ (clF body ++ [13, 10] ++ tail) := by
    unfold headF
    rw [show first ++ [13, 10] ++ l.flatMap (fun f => lineF f.1 f.2) ++ clF body ++ [13, 10] ++ tail = (first ++ [13, 10]) ++ (l.flatMap (fun f => lineF f.1 f.2) ++ (clF body ++ [13, 10] ++ tail)) by simp, List.drop_left' (by simp)]
  obtain ⟨K, hK⟩ : ∃ K, (headF first l body ++ tail).length + 1 = (K + 2) + l.length := by
    refine ⟨(headF first l body ++ tail).length - 1 - l.length, ?_⟩
    unfold headF
    simp only [List.length_append, List.length_cons, List.length_nil]
    omega
  have e := run_fields l .start (K + 2) (first.length + 2) (clF body ++ [13, 10] ++ tail) hok (by simpa [HS.start] using hl)
  rw [run_end _ K _ body tail rfl rfl hb] at e
  unfold parseHeadF
  rw [hK, hdrop, e]
  show endH _ _ = endH _ _
  congr 1
  unfold headF
  simp only [HS.start, List.nil_append, List.length_append, List.length_cons, List.length_nil]
theorem parse_print (m t : List UInt8) (l : List (List UInt8 × List UInt8)) (b : List UInt8) (h : (reqF m t l b).2 = 0) : parseF (reqF m t l b).1 = (m, t, l.map lowP, b, 0, 0) ∧ (reqF m t l b).1.length ≤ 32768 := by
  unfold reqF at h ⊢
  by_cases hm : methB m = false
  · rw [if_pos hm] at h; simp at h
  · rw [if_neg hm] at h ⊢
    by_cases ht : targB t = false
    · rw [if_pos ht] at h; simp at h
    · rw [if_neg ht] at h ⊢
      unfold restF at h ⊢
      by_cases h64 : l.length > 64
      · rw [if_pos h64] at h; simp at h
      · rw [if_neg h64] at h ⊢
        by_cases hall : l.all (fun f => okF f.1 f.2) = false
        · rw [if_pos hall] at h; simp at h
        · rw [if_neg hall] at h ⊢
          by_cases hbig : (headF (m ++ [32] ++ t ++ sVer) l b).length + b.length > 32768
          · rw [if_pos hbig] at h; simp at h
          · rw [if_neg hbig]
            clear h
            rw [Bool.not_eq_false] at hm ht hall
            have hok : ∀ f ∈ l, okF f.1 f.2 = true := List.all_eq_true.1 hall
            have hr := head_reads (m ++ [32] ++ t ++ sVer) l b b (by omega) hok (by omega)
            dsimp only
            refine ⟨?_, by rw [List.length_append]; omega⟩
            have hmu : ∀ c ∈ m, c ≠ 32 := by
              unfold methB at hm
              simp only [Bool.and_eq_true, List.all_eq_true] at hm
              intro c hc
              have := hm.2 c hc
              rintro rfl
              revert this; decide
            have htv : ∀ c ∈ t, pVis c = true := by
              have h2 := ht
              unfold targB at h2
              simp only [Bool.and_eq_true, List.all_eq_true] at h2
              exact h2.2.2
            obtain ⟨R, hR⟩ : ∃ R, R = l.flatMap (fun f => lineF f.1 f.2) ++ clF b ++ [13, 10] ++ b := ⟨_, rfl⟩
            have hraw : headF (m ++ [32] ++ t ++ sVer) l b ++ b = m ++ 32 :: (t ++ 32 :: (sV2 ++ R)) := by
              rw [hR]; unfold headF sVer sV2; simp
            have hcut := cut_byte 32 m (t ++ 32 :: (sV2 ++ R)) hmu
            have htw : (t ++ 32 :: (sV2 ++ R)).takeWhile pVis = t := by
              rw [List.takeWhile_append_of_pos htv, List.takeWhile_cons, if_neg (by decide), List.append_nil]
            have hlen : (headF (m ++ [32] ++ t ++ sVer) l b ++ b).length ≤ 32768 := by rw [List.length_append]; omega
            unfold parseF
            rw [if_neg (by omega), hraw, hcut]
            dsimp only
            rw [hm, if_pos (by decide), htw]
            unfold targP
            rw [if_neg (by simp), if_pos ⟨by simp, by simpa using ht⟩]
            have hd : (m ++ 32 :: (t ++ 32 :: (sV2 ++ R))).drop (m.length + 1 + t.length + 1) = sV2 ++ R := by
              rw [show m ++ 32 :: (t ++ 32 :: (sV2 ++ R)) = (m ++ [32] ++ t ++ [32]) ++ (sV2 ++ R) by simp, List.drop_left' (by simp; omega)]
            rw [hd, if_pos (by unfold Lib.hasPrefix; rw [List.isPrefixOf_iff_prefix]; exact ⟨R, rfl⟩)]
            have hplace : (m ++ [32] ++ t ++ sVer).length + 2 = m.length + 1 + t.length + 1 + 10 := by simp [sVer]; omega
            rw [hplace, hraw] at hr
            unfold tailP
            have hend : endH (m ++ 32 :: (t ++ 32 :: (sV2 ++ R))) ⟨l.map lowP, b.length, (headF (m ++ [32] ++ t ++ sVer) l b).length, !decide (b = [])⟩ = (l.map lowP, b.length, (headF (m ++ [32] ++ t ++ sVer) l b).length, 0, 0) := by
              unfold endH
              rw [if_neg]
              rw [← hraw, List.length_append]
              push_cast
              omega
            rw [hr, hend]
            dsimp only
            rw [if_pos rfl, ← hraw, List.drop_left' rfl]
            simp
end Go.Proofs.YtmfkgjnlobiobaaGreatDoor.X
