/- 'small(s)' of package http: s with small letters. -/
import Derived.Test.YtmfkgjnlobiobaaGreatDoorE1
namespace Go.Proofs.YtmfkgjnlobiobaaGreatDoor.X
open Go.RowKit Go.Shelf Go.Proofs.YtmfkgjnlobiobaaGreatDoorW.PrintWords
def low (c : UInt8) : UInt8 := if 65 ≤ c.toNat ∧ c.toNat ≤ 90 then c + 32 else c
theorem low_toNat (c : UInt8) : ((low c).toNat : Int) = if 65 ≤ c.toNat ∧ c.toNat ≤ 90 then (c.toNat : Int) + 32 else c.toNat := by
  unfold low
  split
  · rename_i h
    rw [UInt8.toNat_add]
    have : (32 : UInt8).toNat = 32 := rfl
    rw [this]
    omega
  · rfl
def lowTo (l : List UInt8) (k j : Nat) : Int := if j < k then ((low (l.getD j 0)).toNat : Int) else ((l.getD j 0).toNat : Int)
theorem lowTo_str (s : ByteArray) : strOfNums ((List.range s.size).map (lowTo s.data.toList s.size)) = bs (s.data.toList.map low) := by
  unfold strOfNums bs
  congr 2
  apply List.ext_getElem
  · simp
  · intro i h1 h2
    have hi : i < s.data.toList.length := by simpa using h2
    simp only [List.getElem_map, List.getElem_range, lowTo]
    rw [if_pos (by simpa using hi), List.getD_eq_getElem?_getD, List.getElem?_eq_getElem hi]
    simp
structure SmallW (w : World) (s : ByteArray) (k : Nat) (wr : World) : Prop where
  below : Below w.heap.size w wr
  cell : ∀ j, j < s.size → wr.cell? ⟨w.heap.size, j, none⟩ = some (.int .u8 (lowTo s.data.toList k j))
  free : ∀ j, j < s.size → wr.frozen? ⟨w.heap.size, j, none⟩ = false
theorem smallW_start (w : World) (e : TypeId) (s : ByteArray) : SmallW w s 0 (Lib.bytesWorld w e s) := by
  refine ⟨below_bytes w e s, fun j hj => ?_, fun j hj => ?_⟩
  · rw [Lib.bytesWorld_cell w e s j hj]
    simp [lowTo]
  · have hl : s.size ≤ (Lib.bytesCells w e s).size := by
      have := Lib.bytesWorld_cell w e s j hj
      simp [Lib.bytesCells]
    simp only [World.frozen?, Lib.bytesWorld_at_new]
    simp
    omega
theorem smallW_keep {w : World} {s : ByteArray} {k : Nat} {wr : World} (h : SmallW w s k wr) (hk : k < s.size) (hc : ¬ (65 ≤ (s[k]).toNat ∧ (s[k]).toNat ≤ 90)) : SmallW w s (k + 1) wr := by
  refine ⟨h.below, fun j hj => ?_, h.free⟩
  rw [h.cell j hj]
  congr 2
  unfold lowTo
  by_cases e : j = k
  · subst e
    have hg : s.data.toList.getD j 0 = s[j] := by
      rw [List.getD_eq_getElem?_getD, List.getElem?_eq_getElem (by simpa using hj)]; rfl
    rw [if_neg (by omega), if_pos (by omega), hg]
    simp only [low, if_neg hc]
  · by_cases e2 : j < k
    · rw [if_pos e2, if_pos (by omega)]
    · rw [if_neg e2, if_neg (by omega)]
theorem smallW_set {w : World} {s : ByteArray} {k : Nat} {wr : World} (h : SmallW w s k wr) (hk : k < s.size) (hc : 65 ≤ (s[k]).toNat ∧ (s[k]).toNat ≤ 90) :
    SmallW w s (k + 1) (wr.setCell ⟨w.heap.size, k, none⟩ (.int .u8 ((s[k].toNat : Int) + 97 - 65))) := by
  refine ⟨h.below.setCell (p := ⟨w.heap.size, k, none⟩) (Nat.le_refl _) _, fun j hj => ?_, fun j hj => by rw [World.frozen?_setCell]; exact h.free j hj⟩
  by_cases e : j = k
  · subst e
    have hg : s.data.toList.getD j 0 = s[j] := by
      rw [List.getD_eq_getElem?_getD, List.getElem?_eq_getElem (by simpa using hj)]; rfl
    rw [World.cell?_setCell_same' _ _ _ (by rw [h.cell j hj]; rfl)]
    congr 2
    unfold lowTo
    rw [if_pos (by omega), hg, low_toNat, if_pos hc]; omega
  · rw [World.cell?_setCell_other _ _ _ _ (by intro h2; injection h2 with _ h3; exact e h3.symm), h.cell j hj]
    congr 2
    unfold lowTo
    by_cases e2 : j < k
    · rw [if_pos e2, if_pos (by omega)]
    · rw [if_neg e2, if_neg (by omega)]
set_option maxHeartbeats 1000000 in
theorem small_calls (s : ByteArray) (hs : s.size ≤ 140737488351232) (w : World) :
    Calls Tryz.prog 49 #[.string s] w fun e w' => e = .returned (.string (bs (s.data.toList.map low))) ∧ Below w.heap.size w w' := by
  have kb := fun W => print_bytes (P := Tryz.prog) 9 100 5 Tryz.underlying9 Tryz.underlying100 Tryz.underlying5 s W
  have S0 := Aside0.mk (smallW_start w 5 s)
  go_enter Tryz.func49, Tryz.ntmps49
  go_wp2
  go_loopw [10] (fun i wr => ∃ k : Nat, k ≤ s.size ∧ i = .int .i64 k ∧ SmallW w s k wr) (fun i _ => s.size - (intOf i).toNat)
  case atStart => exact ⟨0, Nat.zero_le _, rfl, S0.out⟩
  case round =>
    obtain ⟨k, hk, rfl, hS⟩ := hrel
    have HS := Aside0.mk hS
    clear hS S0 kb
    by_cases hlt : k < s.size
    · have hcell := HS.out.cell k hlt
      have hfree := HS.out.free k hlt
      rw [show lowTo s.data.toList k k = (s[k].toNat : Int) from by unfold lowTo; rw [if_neg (by omega), List.getD_eq_getElem?_getD, List.getElem?_eq_getElem (by simpa using hlt)]; rfl] at hcell
      have hb := s[k].toNat_lt
      by_cases hc : 65 ≤ (s[k]).toNat ∧ (s[k]).toNat ≤ 90
      · have HT := Aside0.mk (smallW_set HS.out hlt hc)
        obtain ⟨hc1, hc2⟩ := hc
        go_wp2
        go_roundw
        case rel => exact ⟨k + 1, by omega, by go_num, HT.out⟩
        case measure => simp [intOf]; omega
      · have HT := Aside0.mk (smallW_keep HS.out hlt hc)
        by_cases hc1 : 65 ≤ (s[k]).toNat
        · have hc2 : ¬ (s[k]).toNat ≤ 90 := fun h => hc ⟨hc1, h⟩
          clear hc
          go_wp2
          go_roundw
          case rel => exact ⟨k + 1, by omega, by go_num, HT.out⟩
          case measure => simp [intOf]; omega
        · clear hc
          go_wp2
          go_roundw
          case rel => exact ⟨k + 1, by omega, by go_num, HT.out⟩
          case measure => simp [intOf]; omega
    · obtain rfl : k = s.size := by omega
      have kc := run_convert_bytes_arg (P := Tryz.prog) wr 100 5 Tryz.underlying100 Tryz.underlying5 w.heap.size 0 s.size (grownCap w s.size 0 5) ((List.range s.size).map (lowTo s.data.toList s.size)) (by simp) (fun i hi => by
        rw [Nat.zero_add, HS.out.cell i hi]
        simp [List.getD_eq_getElem?_getD, hi]) 9 Tryz.underlying9
      rw [lowTo_str] at kc
      go_wp2
      go_ret
      exact ⟨rfl, HS.out.below⟩
def http_small.f (a0 : ByteArray) : Option ByteArray := if a0.size ≤ 140737488351232 then some (bs (a0.data.toList.map low)) else none
theorem http_small.calls (a0 : ByteArray) (r : ByteArray) (w : World) (h : http_small.f a0 = some r) :
    Calls Tryz.prog 49 #[.string a0] w fun e w' => e = .returned (.string r) ∧ Below w.heap.size w w' := by
  unfold http_small.f at h
  split at h
  · rename_i hs
    simp only [Option.some.injEq] at h
    subst h
    exact small_calls a0 hs w
  · cases h
end Go.Proofs.YtmfkgjnlobiobaaGreatDoor.X
