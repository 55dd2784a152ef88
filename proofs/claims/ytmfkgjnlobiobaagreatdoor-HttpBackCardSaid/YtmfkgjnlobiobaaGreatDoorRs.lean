/- What PrintResponse and ParseResponse compute, in plain Lean; what is printed reads back; a text that reads is no beginning of another. -/
import Derived.Test.YtmfkgjnlobiobaaGreatDoorX5
import Derived.Test.YtmfkgjnlobiobaaGreatDoorX6
import Derived.Test.YtmfkgjnlobiobaaGreatDoorRb
namespace Go.Proofs.YtmfkgjnlobiobaaGreatDoor.X
open Go.RowKit Go.Shelf Go.Proofs.YtmfkgjnlobiobaaGreatDoorW.PrintWords
def sV9 : List UInt8 := [72, 84, 84, 80, 47, 49, 46, 49, 32]
def reasonL (n : Int) : List UInt8 := match http_Reason.f n with
  | some r => r.data.toList
  | none => []
def Told (o : Option ByteArray) : Prop := ∃ r, o = some r ∧ r.data.toList.length ≤ 40
theorem told_ite (c : Prop) [Decidable c] (a b : Option ByteArray) (ha : Told a) (hb : Told b) : Told (if c then a else b) := by
  split
  · exact ha
  · exact hb
theorem Reason_told (n : Int) : Told (http_Reason.f n) := by
  unfold http_Reason.f
  repeat' refine told_ite _ _ _ ?_ ?_
  all_goals exact ⟨_, rfl, by decide⟩
theorem Reason_f (n : Int) : http_Reason.f n = some (bs (reasonL n)) ∧ (reasonL n).length ≤ 40 := by
  unfold reasonL
  obtain ⟨r, hr, hl⟩ := Reason_told n
  rw [hr]
  exact ⟨by rw [bs_eq], hl⟩
def lineR (n : Nat) : List UInt8 := sV9 ++ Lib.itoa n ++ [32] ++ reasonL n
def respF (n : Int) (l : List (List UInt8 × List UInt8)) (b : List UInt8) : List UInt8 × Int :=
  if n < 100 ∨ n > 599 then ([], 156) else restF (lineR n.toNat) l b
theorem PrintResponse_f (K : Nat) (n : Int) (l : List S80) (b : ByteArray) (hl : ∀ f ∈ l, f.f0.size ≤ 140737488351232) (hb : b.size ≤ 140737488351232) :
    http_PrintResponse.f (K + 1) n l b = some (bs (respF n (pairsL l) b.data.toList).1, (respF n (pairsL l) b.data.toList).2) := by
  have bad : http_PrintResponse.j0 (K + 1) true n l b = some (bs [], 156) := by
    rw [http_PrintResponse.j0, if_pos rfl]
    rfl
  unfold http_PrintResponse.f respF
  by_cases h1 : n < 100
  · rw [if_pos h1, if_pos (.inl h1), bad]
  · rw [if_neg h1]
    by_cases h2 : n > 599
    · rw [if_pos (.inr h2), decide_eq_true h2, bad]
    · rw [if_neg (by omega), decide_eq_false h2, http_PrintResponse.j0, if_neg (by decide)]
      obtain ⟨m, rfl⟩ := Int.eq_ofNat_of_zero_le (show 0 ≤ n by omega)
      have hil := Lib.itoa_length_le (m : Int) (by omega) (by omega)
      obtain ⟨hr, hrl⟩ := Reason_f (m : Int)
      unfold strconv_Itoa.f
      rw [if_pos (by omega), hr]
      simp only [Option.bind_some, Int.toNat_natCast]
      have s1 : ((⟨#[72, 84, 84, 80, 47, 49, 46, 49, 32]⟩ : ByteArray) ++ bs (Lib.itoa m)).size = 9 + (Lib.itoa m).length := by rw [ByteArray.size_append, bs_size]; rfl
      have s2 : (((⟨#[72, 84, 84, 80, 47, 49, 46, 49, 32]⟩ : ByteArray) ++ bs (Lib.itoa m)) ++ (⟨#[32]⟩ : ByteArray)).size = 9 + (Lib.itoa m).length + 1 := by rw [ByteArray.size_append, s1]; rfl
      have s3 : ((((⟨#[72, 84, 84, 80, 47, 49, 46, 49, 32]⟩ : ByteArray) ++ bs (Lib.itoa m)) ++ (⟨#[32]⟩ : ByteArray)) ++ bs (reasonL m)).size = 9 + (Lib.itoa m).length + 1 + (reasonL m).length := by rw [ByteArray.size_append, s2, bs_size]
      rw [if_pos (by rw [bs_size]; omega), if_pos (by rw [s1]; omega), if_pos (by rw [s2, bs_size]; omega)]
      unfold http_rest.f
      rw [if_pos ⟨by rw [s3]; omega, List.all_eq_true.2 (fun f hf => decide_eq_true (hl f hf)), hb⟩]
      simp only [Option.bind_some]
      have e : ((((⟨#[72, 84, 84, 80, 47, 49, 46, 49, 32]⟩ : ByteArray) ++ bs (Lib.itoa m)) ++ (⟨#[32]⟩ : ByteArray)) ++ bs (reasonL m)).data.toList = lineR m := by
        simp [ByteArray.data_append, lineR, sV9, bs]
      rw [e]
abbrev PS := Nat × List (List UInt8 × List UInt8) × List UInt8 × Nat × Nat
def badS (e a : Nat) : PS := (0, [], [], e, a)
def encS (r : PS) : Int × List S80 × ByteArray × Int × Int := (r.1, r.2.1.map pairOf, bs r.2.2.1, r.2.2.2.1, r.2.2.2.2)
def statF (text : List UInt8) : Nat := if (decide (3 ≤ text.length) && (text.take 3).all pDig) = true then numF (text.take 3) else 0
def firstS (n : Nat) : List UInt8 := Lib.itoa n ++ [32] ++ reasonL n ++ [13, 10]
def tailS (raw : List UInt8) (n : Nat) (p : Nat) : PS :=
  if (parseHeadF raw p).2.2.2.1 = 0 then (n, (parseHeadF raw p).1, raw.drop (parseHeadF raw p).2.2.1, 0, 0) else badS (parseHeadF raw p).2.2.2.1 (parseHeadF raw p).2.2.2.2
def parseRF (raw : List UInt8) : PS :=
  if raw.length > 32768 then badS 1 0
  else if Lib.hasPrefix raw sV9 = true then
    (if 100 ≤ statF (raw.drop 9) ∧ statF (raw.drop 9) ≤ 599 ∧ Lib.hasPrefix (raw.drop 9) (firstS (statF (raw.drop 9))) = true then tailS raw (statF (raw.drop 9)) (9 + (firstS (statF (raw.drop 9))).length) else badS 156 9)
  else badS 152 0
theorem statF_lt (t : List UInt8) : statF t < 1000 := by
  unfold statF
  split
  · rename_i h
    simp only [Bool.and_eq_true, decide_eq_true_eq] at h
    have := numF_lt _ h.2
    rw [List.length_take, Nat.min_eq_left h.1] at this
    exact this
  · omega
theorem rj2 (K : Nat) (raw : ByteArray) (n : Nat) (fst : ByteArray) (b : Bool) (hr : raw.size ≤ 32768) (hf : b = false → 9 + fst.size ≤ raw.size) :
    http_ParseResponse.j2 (K + 1) raw n fst b = some (encS (if b = false then tailS raw.data.toList n (9 + fst.data.toList.length) else badS 156 9)) := by
  have hrl := size_data raw
  have hfl := size_data fst
  rw [http_ParseResponse.j2]
  cases b with
  | true => rfl
  | false =>
    have hf' := hf rfl
    rw [if_neg (by decide), if_pos rfl, wr _ (by omega)]
    unfold http_parseHead.f
    rw [if_pos ⟨hr, by omega, by omega⟩]
    simp only [Option.bind_some]
    rw [show ((9 : Int) + fst.size).toNat = 9 + fst.data.toList.length by omega]
    unfold tailS
    have hbh := parseHeadF_behind raw.data.toList (9 + fst.data.toList.length)
    generalize parseHeadF raw.data.toList (9 + fst.data.toList.length) = r at hbh ⊢
    obtain ⟨f, len, beh, e, at_⟩ := r
    dsimp only at hbh ⊢
    by_cases he : e = 0
    · have := hbh he
      rw [if_pos (show (e : Int) = 0 by omega), if_pos he, if_pos (show 0 ≤ (beh : Int) by omega), if_pos (show (beh : Int) ≤ (raw.size : Int) by omega)]
      simp only [encS, Int.toNat_natCast]
      rw [extract_bs, List.take_of_length_le (by rw [List.length_drop]; omega)]
      rfl
    · rw [if_neg (show ¬ (e : Int) = 0 by omega), if_neg he]
      rfl
theorem rj1 (K : Nat) (raw text : ByteArray) (n : Nat) (hr : raw.size ≤ 32768) (hn : n < 1000) (ht : text.size + 9 ≤ raw.size) :
    http_ParseResponse.j1 (K + 1 + 1) raw text n = some (encS (if 100 ≤ n ∧ n ≤ 599 ∧ Lib.hasPrefix text.data.toList (firstS n) = true then tailS raw.data.toList n (9 + (firstS n).length) else badS 156 9)) := by
  have htl := size_data text
  have hil := Lib.itoa_length_le (n : Int) (by omega) (by omega)
  obtain ⟨hrs, hrl⟩ := Reason_f (n : Int)
  rw [http_ParseResponse.j1]
  unfold strconv_Itoa.f
  rw [if_pos (by omega), hrs]
  simp only [Option.bind_some]
  have s1 : (bs (Lib.itoa n) ++ (⟨#[32]⟩ : ByteArray)).size = (Lib.itoa n).length + 1 := by rw [ByteArray.size_append, bs_size]; rfl
  have s2 : ((bs (Lib.itoa n) ++ (⟨#[32]⟩ : ByteArray)) ++ bs (reasonL n)).size = (Lib.itoa n).length + 1 + (reasonL n).length := by rw [ByteArray.size_append, s1, bs_size]
  have e : (((bs (Lib.itoa n) ++ (⟨#[32]⟩ : ByteArray)) ++ bs (reasonL n)) ++ (⟨#[13, 10]⟩ : ByteArray)) = bs (firstS n) := by
    rw [← bs_eq (((bs (Lib.itoa n) ++ (⟨#[32]⟩ : ByteArray)) ++ bs (reasonL n)) ++ (⟨#[13, 10]⟩ : ByteArray))]
    congr 1 <;> simp [ByteArray.data_append, firstS, bs]
  rw [if_pos (by rw [bs_size]; omega), if_pos (by rw [s1, bs_size]; omega), if_pos (by rw [s2]; omega), e]
  have bad := fun fst => rj2 K raw n fst true hr (fun h => by cases h)
  simp only [Bool.true_eq_false, if_false] at bad
  by_cases h1 : n < 100
  · rw [if_pos (show (n : Int) < 100 by omega), bad, if_neg (fun h => absurd h.1 (by omega))]
  · rw [if_neg (show ¬ (n : Int) < 100 by omega)]
    by_cases h2 : n > 599
    · rw [if_pos (show (n : Int) > 599 by omega), bad, if_neg (fun h => absurd h.2.1 (by omega))]
    · rw [if_neg (show ¬ (n : Int) > 599 by omega)]
      unfold strings_HasPrefix.f
      simp only [Option.bind_some, data_bs]
      cases hp : Lib.hasPrefix text.data.toList (firstS n) with
      | false =>
        rw [if_neg (fun h => by cases h.2.2)]
        exact bad _
      | true =>
        have hle := Lib.hasPrefix_le hp
        rw [if_pos ⟨by omega, by omega, rfl⟩]
        have := rj2 K raw n (bs (firstS n)) false hr (fun _ => by rw [bs_size]; omega)
        rw [if_pos rfl, data_bs] at this
        exact this
theorem ParseResponse_f (K : Nat) (raw : ByteArray) : http_ParseResponse.f (K + 1 + 1 + 1) raw = some (encS (parseRF raw.data.toList)) := by
  have hrl := size_data raw
  unfold http_ParseResponse.f parseRF
  by_cases hbig : raw.size > 32768
  · rw [if_pos (show (raw.size : Int) > 32768 by omega), if_pos (show raw.data.toList.length > 32768 by omega)]
    rfl
  · rw [if_neg (show ¬ (raw.size : Int) > 32768 by omega), if_neg (show ¬ raw.data.toList.length > 32768 by omega)]
    unfold strings_HasPrefix.f
    simp only [Option.bind_some]
    show (if Lib.hasPrefix raw.data.toList sV9 = true then _ else _) = _
    cases hp : Lib.hasPrefix raw.data.toList sV9 with
    | false => rfl
    | true =>
      have hle := Lib.hasPrefix_le hp
      have h9 : sV9.length = 9 := rfl
      rw [if_pos rfl, if_pos rfl, if_pos (show (9 : Int) ≤ (raw.size : Int) by omega)]
      have ht : (raw.extract 9 raw.size).data.toList = raw.data.toList.drop 9 := Lib.extract_to_end raw 9
      obtain ⟨text, htx⟩ : ∃ text, text = raw.extract 9 raw.size := ⟨_, rfl⟩
      rw [← htx] at ht ⊢
      have hts : text.size = raw.size - 9 := by rw [← size_data text, ht, List.length_drop]; omega
      have htl := size_data text
      rw [← ht]
      have nodig : statF text.data.toList = 0 → http_ParseResponse.j0 (K + 1 + 1 + 1) raw text 0 false = some (encS (if 100 ≤ statF text.data.toList ∧ statF text.data.toList ≤ 599 ∧ Lib.hasPrefix text.data.toList (firstS (statF text.data.toList)) = true then tailS raw.data.toList (statF text.data.toList) (9 + (firstS (statF text.data.toList)).length) else badS 156 9)) := by
        intro h0
        rw [http_ParseResponse.j0, if_neg (by decide), h0]
        exact rj1 K raw text 0 (by omega) (by omega) (by omega)
      by_cases h3 : text.size ≥ 3
      · rw [if_pos (show (text.size : Int) ≥ 3 by omega), if_pos (show (0 : Nat) ≤ 3 by decide), if_pos (show (3 : Int) ≤ (text.size : Int) by omega)]
        unfold http_all_ParseResponse_1.f
        have e3 : (text.extract 0 3).data.toList = text.data.toList.take 3 := by rw [Lib.extract_data, List.drop_zero]
        have es : (text.extract 0 3).size = 3 := by rw [← size_data, e3, List.length_take]; omega
        rw [if_pos (by omega)]
        simp only [Option.bind_some]
        rw [e3]
        cases hd : (text.data.toList.take 3).all pDig with
        | false =>
          exact nodig (by unfold statF; rw [hd, Bool.and_false, if_neg (by decide)])
        | true =>
          have hst : statF text.data.toList = numF (text.data.toList.take 3) := by unfold statF; rw [hd, decide_eq_true (by omega), if_pos (by decide)]
          rw [http_ParseResponse.j0, if_pos rfl, if_pos (show (0 : Nat) ≤ 3 by decide), if_pos (show (3 : Int) ≤ (text.size : Int) by omega)]
          have ha := atoi_f (text.data.toList.take 3) hd (by rw [List.length_take]; omega) (by rw [List.length_take]; omega)
          rw [← e3, bs_eq] at ha
          rw [ha]
          simp only [Option.bind_some]
          rw [e3, ← hst]
          exact rj1 K raw text _ (by omega) (statF_lt _) (by omega)
      · rw [if_neg (show ¬ (text.size : Int) ≥ 3 by omega)]
        exact nodig (by unfold statF; rw [decide_eq_false (by omega), Bool.false_and, if_neg (by decide)])
/-! ### what is printed reads back -/
theorem itoa3 (n : Nat) (h1 : 100 ≤ n) (h2 : n ≤ 599) : (Lib.itoa n).length = 3 := by
  rw [itoa_nat, Lib.decDigits_length]
  exact Lib.nDigits_unique 2 n (by omega) (by omega)
theorem parse_printR (n : Int) (l : List (List UInt8 × List UInt8)) (b : List UInt8) (h : (respF n l b).2 = 0) : ∃ m : Nat, n = m ∧ parseRF (respF n l b).1 = (m, l.map lowP, b, 0, 0) ∧ (respF n l b).1.length ≤ 32768 := by
  unfold respF at h ⊢
  by_cases hn : n < 100 ∨ n > 599
  · rw [if_pos hn] at h; simp at h
  · rw [if_neg hn] at h ⊢
    obtain ⟨m, rfl⟩ := Int.eq_ofNat_of_zero_le (show 0 ≤ n by omega)
    refine ⟨m, rfl, ?_⟩
    rw [Int.toNat_natCast] at h ⊢
    unfold restF at h ⊢
    by_cases h64 : l.length > 64
    · rw [if_pos h64] at h; simp at h
    · rw [if_neg h64] at h ⊢
      by_cases hall : l.all (fun f => okF f.1 f.2) = false
      · rw [if_pos hall] at h; simp at h
      · rw [if_neg hall] at h ⊢
        by_cases hbig : (headF (lineR m) l b).length + b.length > 32768
        · rw [if_pos hbig] at h; simp at h
        · rw [if_neg hbig]
          clear h
          rw [Bool.not_eq_false] at hall
          have hok : ∀ f ∈ l, okF f.1 f.2 = true := List.all_eq_true.1 hall
          have hr := head_reads (lineR m) l b b (by omega) hok (by omega)
          dsimp only
          refine ⟨?_, by rw [List.length_append]; omega⟩
          have h3 := itoa3 m (by omega) (by omega)
          obtain ⟨d1, d2, _⟩ := itoa_facts m (by omega)
          obtain ⟨R, hR⟩ : ∃ R, R = l.flatMap (fun f => lineF f.1 f.2) ++ clF b ++ [13, 10] ++ b := ⟨_, rfl⟩
          have hraw : headF (lineR m) l b ++ b = sV9 ++ (firstS m ++ R) := by
            rw [hR]; unfold headF lineR firstS; simp
          have hlen : (headF (lineR m) l b ++ b).length ≤ 32768 := by rw [List.length_append]; omega
          have hdrop : (sV9 ++ (firstS m ++ R)).drop 9 = firstS m ++ R := List.drop_left' rfl
          have htake : (firstS m ++ R).take 3 = Lib.itoa m := by
            unfold firstS
            rw [show Lib.itoa (m : Int) ++ [32] ++ reasonL m ++ [13, 10] ++ R = Lib.itoa m ++ ([32] ++ reasonL m ++ [13, 10] ++ R) by simp, ← h3, List.take_left' rfl]
          have hst : statF (firstS m ++ R) = m := by
            unfold statF
            unfold digsB at d1
            simp only [Bool.and_eq_true, decide_eq_true_eq] at d1
            rw [htake, d1.2.2, decide_eq_true (by unfold firstS; simp only [List.length_append]; omega), if_pos (by decide), d2]
          unfold parseRF
          rw [if_neg (by omega), hraw, if_pos (by unfold Lib.hasPrefix; rw [List.isPrefixOf_iff_prefix]; exact ⟨_, rfl⟩), hdrop, hst,
            if_pos ⟨by omega, by omega, by unfold Lib.hasPrefix; rw [List.isPrefixOf_iff_prefix]; exact ⟨_, rfl⟩⟩]
          have hplace : (lineR m).length + 2 = 9 + (firstS m).length := by
            unfold lineR firstS sV9
            simp only [List.length_append, List.length_cons, List.length_nil]
            omega
          rw [hplace, hraw] at hr
          unfold tailS
          have hend : endH (sV9 ++ (firstS m ++ R)) ⟨l.map lowP, b.length, (headF (lineR m) l b).length, !decide (b = [])⟩ = (l.map lowP, b.length, (headF (lineR m) l b).length, 0, 0) := by
            unfold endH
            rw [if_neg]
            rw [← hraw, List.length_append]
            push_cast
            omega
          rw [hr, hend]
          dsimp only
          rw [if_pos rfl, ← hraw, List.drop_left' rfl]
def okS (r : PS) : Prop := r.2.2.2.1 = 0
theorem parseRF_app (raw x : List UInt8) (h : okS (parseRF raw)) (hx : x ≠ []) : ¬ okS (parseRF (raw ++ x)) := by
  unfold okS parseRF at h ⊢
  by_cases hbig : raw.length > 32768
  · rw [if_pos hbig] at h
    simp [badS] at h
  · rw [if_neg hbig] at h
    by_cases hp : Lib.hasPrefix raw sV9 = true
    · rw [if_pos hp] at h
      by_cases hbig2 : (raw ++ x).length > 32768
      · rw [if_pos hbig2]
        simp [badS]
      · rw [if_neg hbig2]
        have h9 : sV9.length = 9 := rfl
        have hle := Lib.hasPrefix_le hp
        have hp2 : Lib.hasPrefix (raw ++ x) sV9 = true := by
          unfold Lib.hasPrefix at hp ⊢
          rw [prefix_app _ _ _ hle]
          exact hp
        rw [if_pos hp2, List.drop_append_of_le_length (by omega)]
        by_cases hq : 100 ≤ statF (raw.drop 9) ∧ statF (raw.drop 9) ≤ 599 ∧ Lib.hasPrefix (raw.drop 9) (firstS (statF (raw.drop 9))) = true
        · rw [if_pos hq] at h
          have h3 : 3 ≤ (raw.drop 9).length := by
            have h1 := hq.1
            unfold statF at h1
            split at h1
            · rename_i hh
              simp only [Bool.and_eq_true, decide_eq_true_eq] at hh
              exact hh.1
            · omega
          have hst : statF (raw.drop 9 ++ x) = statF (raw.drop 9) := by
            unfold statF
            rw [List.take_append_of_le_length h3, decide_eq_true h3, decide_eq_true (by rw [List.length_append]; omega)]
          have hl2 := Lib.hasPrefix_le hq.2.2
          rw [List.length_drop] at hl2
          rw [hst, if_pos ⟨hq.1, hq.2.1, by
            have h5 := hq.2.2
            unfold Lib.hasPrefix at h5 ⊢
            rw [prefix_app _ _ _ (by rw [List.length_drop]; exact hl2)]
            exact h5⟩]
          unfold tailS at h ⊢
          by_cases he : (parseHeadF raw (9 + (firstS (statF (raw.drop 9))).length)).2.2.2.1 = 0
          · have hne := parseHeadF_app raw x (9 + (firstS (statF (raw.drop 9))).length) (by omega) he hx
            rw [if_neg hne]
            exact hne
          · rw [if_neg he] at h
            exact absurd h he
        · rw [if_neg hq] at h
          simp [badS] at h
    · rw [if_neg hp] at h
      simp [badS] at h
end Go.Proofs.YtmfkgjnlobiobaaGreatDoor.X
