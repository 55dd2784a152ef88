/- 'Small(s)' of the reference: s with small letters. -/
import Derived.Test.YtmfkgjnlobiobaaGreatDoorE2
namespace Go.Proofs.YtmfkgjnlobiobaaGreatDoor.X
open Go.RowKit Go.Shelf Go.Proofs.YtmfkgjnlobiobaaGreatDoorW.PrintWords
set_option maxHeartbeats 1000000 in
theorem Small_calls (s : ByteArray) (hs : s.size ≤ 140737488351232) (w : World) :
    Calls Tryz.prog 50 #[.string s] w fun e w' => e = .returned (.string (bs (s.data.toList.map low))) ∧ Below w.heap.size w w' := by
  have kb := fun W => print_bytes (P := Tryz.prog) 9 100 5 Tryz.underlying9 Tryz.underlying100 Tryz.underlying5 s W
  have S0 := Aside0.mk (smallW_start w 5 s)
  go_enter Tryz.func50, Tryz.ntmps50
  go_wp2
  go_loopw [4] (fun i wr => ∃ k : Nat, k ≤ s.size ∧ i = .int .i64 k ∧ SmallW w s k wr) (fun i _ => s.size - (intOf i).toNat)
  case atStart => exact ⟨0, Nat.zero_le _, rfl, S0.out⟩
  case round =>
    obtain ⟨k, hk, rfl, hS⟩ := hrel
    have HS := Aside0.mk hS
    clear hS S0 kb
    by_cases hlt : k < s.size
    · have hcell := HS.out.cell k hlt
      have hfree := HS.out.free k hlt
      rw [show lowTo s.data.toList k k = (s[k].toNat : Int) from by unfold lowTo; rw [if_neg (by omega), List.getD_eq_getElem?_getD, List.getElem?_eq_getElem (by simpa using hlt)]; rfl] at hcell
      have hb := s[k].toNat_lt
      by_cases hc : 65 ≤ (s[k]).toNat ∧ (s[k]).toNat ≤ 90
      · have HT := Aside0.mk (show SmallW w s (k + 1) (wr.setCell ⟨w.heap.size, k, none⟩ (.int .u8 ((s[k].toNat : Int) - 65 + 97))) by rw [show (s[k].toNat : Int) - 65 + 97 = s[k].toNat + 97 - 65 by omega]; exact smallW_set HS.out hlt hc)
        obtain ⟨hc1, hc2⟩ := hc
        go_wp2
        go_roundw
        case rel => exact ⟨k + 1, by omega, by go_num, HT.out⟩
        case measure => simp [intOf]; omega
      · have HT := Aside0.mk (smallW_keep HS.out hlt hc)
        by_cases hc1 : 65 ≤ (s[k]).toNat
        · have hc2 : ¬ (s[k]).toNat ≤ 90 := fun h => hc ⟨hc1, h⟩
          clear hc
          go_wp2
          go_roundw
          case rel => exact ⟨k + 1, by omega, by go_num, HT.out⟩
          case measure => simp [intOf]; omega
        · clear hc
          go_wp2
          go_roundw
          case rel => exact ⟨k + 1, by omega, by go_num, HT.out⟩
          case measure => simp [intOf]; omega
    · obtain rfl : k = s.size := by omega
      have kc := run_convert_bytes_arg (P := Tryz.prog) wr 100 5 Tryz.underlying100 Tryz.underlying5 w.heap.size 0 s.size (grownCap w s.size 0 5) ((List.range s.size).map (lowTo s.data.toList s.size)) (by simp) (fun i hi => by
        rw [Nat.zero_add, HS.out.cell i hi]
        simp [List.getD_eq_getElem?_getD, hi]) 9 Tryz.underlying9
      rw [lowTo_str] at kc
      go_wp2
      go_ret
      exact ⟨rfl, HS.out.below⟩
def wicketref15_Small.f (a0 : ByteArray) : Option ByteArray := if a0.size ≤ 140737488351232 then some (bs (a0.data.toList.map low)) else none
theorem wicketref15_Small.calls (a0 : ByteArray) (r : ByteArray) (w : World) (h : wicketref15_Small.f a0 = some r) :
    Calls Tryz.prog 50 #[.string a0] w fun e w' => e = .returned (.string r) ∧ Below w.heap.size w w' := by
  unfold wicketref15_Small.f at h
  split at h
  · rename_i hs
    simp only [Option.some.injEq] at h
    subst h
    exact Small_calls a0 hs w
  · cases h
end Go.Proofs.YtmfkgjnlobiobaaGreatDoor.X
