/- 'parseHead(raw, from)' of package http, in plain Lean: what a line says, what the fields' lines say. -/
import Derived.Test.YtmfkgjnlobiobaaGreatDoorE4a
import Derived.Lib.AtoiTie
namespace Go.Proofs.YtmfkgjnlobiobaaGreatDoor.X
open Go.RowKit Go.Shelf Go.Proofs.YtmfkgjnlobiobaaGreatDoorW.PrintWords
/-! ### a field's line -/
def pfF (l : List UInt8) : List UInt8 × List UInt8 × Bool :=
  if ((Lib.cut l [58]).2.2 && (nameB (Lib.cut l [58]).1 && (Lib.cut l [58]).2.1.all pField)) = true then
    (lows (Lib.cut l [58]).1, Lib.trimS (Lib.cut l [58]).2.1 [32, 9], decide ((Lib.trimS (Lib.cut l [58]).2.1 [32, 9]).length ≤ 4096) && !Lib.contains (Lib.trimS (Lib.cut l [58]).2.1 [32, 9]) [9])
  else ([], [], false)
theorem dropWhile_le (p : UInt8 → Bool) : ∀ l : List UInt8, (l.dropWhile p).length ≤ l.length
  | [] => Nat.le_refl _
  | a :: r => by
    simp only [List.dropWhile]
    split
    · exact Nat.le_succ_of_le (dropWhile_le p r)
    · exact Nat.le_refl _
theorem trimS_le (l cs : List UInt8) : (Lib.trimS l cs).length ≤ l.length := by
  unfold Lib.trimS Lib.trimLeftS Lib.trimRightS
  refine Nat.le_trans (dropWhile_le _ _) ?_
  rw [List.length_reverse]
  exact Nat.le_trans (dropWhile_le _ _) (by simp)
theorem cut_le (l s : List UInt8) : (Lib.cut l s).1.length ≤ l.length ∧ (Lib.cut l s).2.1.length ≤ l.length := by
  unfold Lib.cut
  split
  · exact ⟨by simp [List.length_take]; omega, by simp [List.length_drop]⟩
  · exact ⟨Nat.le_refl _, by simp⟩
theorem data_bs (l : List UInt8) : (bs l).data.toList = l := rfl
theorem parseField_f (a : ByteArray) (ha : a.size < 4294967281) : Y.http_parseField.f 1 a = some (bs (pfF a.data.toList).1, bs (pfF a.data.toList).2.1, (pfF a.data.toList).2.2) := by
  have h := cut_le a.data.toList [58]
  rw [size_data] at h
  have ht := trimS_le (Lib.cut a.data.toList [58]).2.1 [32, 9]
  unfold Y.http_parseField.f strings_Cut.f
  rw [if_pos ha]
  simp only [Option.bind_some]
  unfold pfF
  generalize Lib.cut a.data.toList [58] = c at h ht ⊢
  obtain ⟨n, v, f⟩ := c
  dsimp only at h ht ⊢
  cases f with
  | false => simp [Y.http_parseField.j0, bs]
  | true =>
    rw [if_pos rfl, isName_f]
    simp only [Option.bind_some]
    show (if nameB n = true then _ else _) = _
    cases hn : nameB n with
    | false => simp [Y.http_parseField.j0, bs]
    | true =>
      rw [if_pos rfl]
      unfold http_all_parseField_1.f
      rw [if_pos (by rw [bs_size]; omega)]
      simp only [Option.bind_some]
      show Y.http_parseField.j0 1 (bs n) (bs v) (!(v.all pField)) = _
      cases hv : v.all pField with
      | false => simp [Y.http_parseField.j0, bs]
      | true =>
        simp only [Y.http_parseField.j0, Bool.not_true, Bool.and_self]
        rw [if_neg (by decide), if_pos trivial]
        unfold strings_Trim.f http_small.f strings_Contains.f
        rw [data_bs, data_bs]
        rw [if_pos ⟨by rw [bs_size]; omega, by decide, by decide⟩, if_pos (by rw [bs_size]; omega)]
        simp only [Option.bind_some]
        show (if ((bs (Lib.trimS v [32, 9])).size : Int) ≤ 4096 then _ else _) = _
        rw [bs_size]
        by_cases hl : (Lib.trimS v [32, 9]).length ≤ 4096
        · rw [if_pos (by omega), if_pos (by omega)]
          simp only [Option.bind_some, decide_eq_true hl, Bool.true_and]
          rfl
        · rw [if_neg (by omega)]
          simp only [decide_eq_false hl, Bool.false_and]
          rfl
/-! ### a row of digits -/
def numF (l : List UInt8) : Nat := l.foldl (fun a b => a * 10 + (b.toNat - 48)) 0
theorem pDig_is (b : UInt8) (h : pDig b = true) : 48 ≤ b.toNat ∧ b.toNat ≤ 57 := by
  unfold pDig at h
  simpa using h
theorem decFrom_digits : ∀ (l : List UInt8) (a : Nat), l.all pDig = true → Lib.decFrom a l = some (l.foldl (fun a b => a * 10 + (b.toNat - 48)) a)
  | [], _, _ => rfl
  | b :: r, a, h => by
    simp only [List.all_cons, Bool.and_eq_true] at h
    have hb := pDig_is b h.1
    simp only [Lib.decFrom, Lib.digitVal]
    rw [if_pos hb]
    exact decFrom_digits r _ h.2
theorem atoi_digits (l : List UInt8) (h : l.all pDig = true) (h1 : 1 ≤ l.length) (h9 : l.length ≤ 18) : Lib.atoiAll l = .ok (numF l : Int) := by
  rw [Lib.atoiAll_short l (by omega)]
  match l, h1, h with
  | b :: r, _, h =>
    have h' := h
    simp only [List.all_cons, Bool.and_eq_true] at h'
    have hb := pDig_is b h'.1
    have n1 : (b == 45) = false := by
      rw [beq_eq_false_iff_ne]; rintro rfl; exact absurd hb.1 (by decide)
    have n2 : (b == 43) = false := by
      rw [beq_eq_false_iff_ne]; rintro rfl; exact absurd hb.1 (by decide)
    have hd : Lib.decNat (b :: r) = some (numF (b :: r)) := by
      unfold Lib.decNat
      rw [if_neg (by simp)]
      exact decFrom_digits _ _ h
    simp only [Lib.atoi, n1, n2, hd]
    rfl
theorem numF_lt (l : List UInt8) (h : l.all pDig = true) : numF l < 10 ^ l.length := by
  have := Lib.decFrom_lt l 0 _ (decFrom_digits l 0 h)
  simpa [numF] using this
theorem atoi_f (l : List UInt8) (h : l.all pDig = true) (h1 : 1 ≤ l.length) (h9 : l.length ≤ 18) : strconv_Atoi.f (bs l) = some ((numF l : Int), none) := by
  unfold strconv_Atoi.f
  rw [if_pos (by rw [bs_size]; omega)]
  show (match Lib.atoiAll l with | .ok v => some (v, none) | _ => none) = _
  rw [atoi_digits l h h1 h9]
/-! ### the fields' lines -/
structure HS where
  fields : List (List UInt8 × List UInt8)
  length : Nat
  behind : Nat
  sized : Bool
inductive HR
  | go (s : HS)
  | stop (s : HS)
  | bad (e at_ : Nat)
def HS.start : HS := ⟨[], 0, 0, false⟩
def digsB (v : List UInt8) : Bool := decide (1 ≤ v.length) && (decide (v.length ≤ 9) && v.all pDig)
def stepH (s : HS) (x : Nat × List UInt8) : HR :=
  if x.2 = [] then .stop { s with behind := x.1 + 2 }
  else if (pfF x.2).2.2 = false then .bad 153 x.1
  else if (pfF x.2).1 = sTE then .bad 154 x.1
  else if (pfF x.2).1 = sCL then
    if (s.sized || !digsB (pfF x.2).2.1) = true then .bad 154 x.1 else .go { s with sized := true, length := numF (pfF x.2).2.1 }
  else if s.fields.length = 64 then .bad 32 x.1
  else .go { s with fields := s.fields ++ [((pfF x.2).1, (pfF x.2).2.1)] }
def runH : HS → List (Nat × List UInt8) → HR
  | s, [] => .go s
  | s, x :: r => match stepH s x with
    | .go s' => runH s' r
    | o => o
def endH (raw : List UInt8) (s : HS) : List (List UInt8 × List UInt8) × Nat × Nat × Nat × Nat :=
  if (raw.length : Int) - s.behind ≠ s.length then ([], 0, 0, 155, s.behind) else (s.fields, s.length, s.behind, 0, 0)
def parseHeadF (raw : List UInt8) (from_ : Nat) : List (List UInt8 × List UInt8) × Nat × Nat × Nat × Nat :=
  match runH .start (linesL (raw.length + 1) (raw.drop from_) from_) with
  | .bad e a => ([], 0, 0, e, a)
  | .go s => endH raw s
  | .stop s => endH raw s
end Go.Proofs.YtmfkgjnlobiobaaGreatDoor.X
