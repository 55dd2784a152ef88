/- Plain facts on lists of fields: as they are copied, compared, printed. -/
import Derived.Test.YtmfkgjnlobiobaaGreatDoorX8
import Derived.Test.YtmfkgjnlobiobaaGreatDoorX7b
import Derived.Test.YtmfkgjnlobiobaaGreatDoorRs
namespace Go.Proofs.YtmfkgjnlobiobaaGreatDoor.X
open Go.RowKit Go.Shelf Go.Proofs.YtmfkgjnlobiobaaGreatDoorW.PrintWords
def fF (p : S80) : S84 := ⟨p.f0, p.f1⟩
theorem rd_pair (l : List S80) (i : Nat) (h : i < l.length) : rd_T80 l (i : Int) = l[i] := by
  unfold rd_T80
  rw [Int.toNat_natCast]
  simp [h]
theorem rd_field (l : List S80) (i : Nat) (h : i < l.length) : rd_T84 (l.map fF) (i : Int) = fF l[i] := by
  unfold rd_T84
  rw [Int.toNat_natCast]
  simp [h]
theorem ours_l0 (l : List S80) (hl : l.length < 4398046511104) : ∀ (d k i : Nat), i + d = l.length → d < k → wicketlaw15_ours.l0 k l ((l.take i).map fF) (i : Int) = some (l.map fF)
  | _, 0, _, _, hk => absurd hk (Nat.not_lt_zero _)
  | 0, k + 1, i, hi, hk => by
    rw [wicketlaw15_ours.l0, if_neg (by omega), List.take_of_length_le (by omega)]
  | d + 1, k + 1, i, hi, hk => by
    rw [wicketlaw15_ours.l0, if_pos (by omega), if_pos (by omega), if_pos (by rw [List.length_map, List.length_take]; omega), rd_pair l i (by omega), wr _ (by omega)]
    have h := ours_l0 l hl d k (i + 1) (by omega) (by omega)
    rw [List.take_succ_eq_append_getElem (by omega), List.map_append] at h
    exact h
theorem ours_f (k : Nat) (l : List S80) (hl : l.length < 4398046511104) (hk : l.length < k) : wicketlaw15_ours.f k l = some (l.map fF) := ours_l0 l hl l.length k 0 (by omega) hk
theorem fields_l0 (l : List S80) (hl : l.length < 4398046511104) : ∀ (d k i : Nat), i + d = l.length → d < k → wicketlaw15_fields.l0 k l (l.map fF) (i : Int) = some true
  | _, 0, _, _, hk => absurd hk (Nat.not_lt_zero _)
  | 0, k + 1, i, hi, hk => by
    rw [wicketlaw15_fields.l0, if_neg (by omega)]
  | d + 1, k + 1, i, hi, hk => by
    rw [wicketlaw15_fields.l0, if_pos (by omega), if_pos (by omega), if_pos (by rw [List.length_map]; omega), rd_pair l i (by omega), rd_field l i (by omega), if_pos (show (l[i]).f0.toList = (fF l[i]).f0.toList from rfl), if_pos (show (l[i]).f1.toList = (fF l[i]).f1.toList from rfl), wr _ (by omega)]
    exact fields_l0 l hl d k (i + 1) (by omega) (by omega)
theorem fields_f (k : Nat) (l : List S80) (hl : l.length < 4398046511104) (hk : l.length < k) : wicketlaw15_fields.f k l (l.map fF) = some true := by
  unfold wicketlaw15_fields.f
  rw [if_pos (by rw [List.length_map])]
  exact fields_l0 l hl l.length k 0 (by omega) hk
theorem pairs_back (l : List (List UInt8 × List UInt8)) : pairsL (l.map pairOf) = l := by
  unfold pairsL
  rw [List.map_map]
  conv => rhs; rw [← List.map_id l]
  exact List.map_congr_left (fun f _ => by simp only [Function.comp, pairOf, data_bs]; rfl)
theorem low_same {l : List (List UInt8 × List UInt8)} (h : ∀ f ∈ l, lows f.1 = f.1) : l.map lowP = l := by
  conv => rhs; rw [← List.map_id l]
  exact List.map_congr_left (fun f hf => by show (lows f.1, f.2) = f; rw [h f hf])
theorem small_pairs {l : List (List UInt8 × List UInt8)} (h : ∀ f ∈ l, okF f.1 f.2 = true ∧ lows f.1 = f.1) : ∀ f ∈ l.map pairOf, f.f0.size ≤ 140737488351232 := by
  intro f hf
  obtain ⟨g, hg, rfl⟩ := List.mem_map.1 hf
  obtain ⟨h1, h2⟩ := h g hg
  have h3 := (okF_parts h1).1
  rw [h2] at h3
  unfold nameB at h3
  simp only [Bool.and_eq_true, decide_eq_true_eq] at h3
  show (bs g.1).size ≤ _
  rw [bs_size]
  omega
theorem encS_ok (n : Nat) (l : List (List UInt8 × List UInt8)) (b : List UInt8) : encS (n, l, b, 0, 0) = ((n : Int), l.map pairOf, bs b, 0, 0) := rfl
theorem encP_ok (m t : List UInt8) (l : List (List UInt8 × List UInt8)) (b : List UInt8) : encP (m, t, l, b, 0, 0) = (bs m, bs t, l.map pairOf, bs b, 0, 0) := rfl
theorem parseF_bad (raw : List UInt8) (h : ¬ okP (parseF raw)) : (parseF raw).1 = [] ∧ ¬ (parseF raw).2.2.2.2.1 = 0 := by
  refine ⟨?_, h⟩
  revert h
  unfold okP parseF targP tailP
  repeat' split
  all_goals first | (intro _; rfl) | (intro h; exact absurd rfl h)
theorem parseRF_bad (raw : List UInt8) (h : ¬ okS (parseRF raw)) : (parseRF raw).1 = 0 ∧ ¬ (parseRF raw).2.2.2.1 = 0 := by
  refine ⟨?_, h⟩
  revert h
  unfold okS parseRF tailS
  repeat' split
  all_goals first | (intro _; rfl) | (intro h; exact absurd rfl h)
end Go.Proofs.YtmfkgjnlobiobaaGreatDoor.X
