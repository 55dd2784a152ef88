/- 'all(s, ok)' of package http: whether each byte of s is as ok asks, for whatever function that answers a Bool of a byte and leaves memory alone. -/
import Derived.Test.YtmfkgjnlobiobaaGreatDoorC1
import Derived.WalkSpells
import Derived.LoopTactic
import Derived.Shelf.Abstract
import Derived.Outline
namespace Go.Proofs.YtmfkgjnlobiobaaGreatDoor.X
open Go.RowKit Go.Shelf Go.Proofs.YtmfkgjnlobiobaaGreatDoorW.PrintWords
theorem take_all (p : UInt8 → Bool) (s : ByteArray) (k : Nat) (h : k < s.size) : (s.data.toList.take (k + 1)).all p = ((s.data.toList.take k).all p && p s[k]) := by
  rw [List.take_succ_eq_append_getElem (by simpa using h)]
  simp [List.all_append]
  rfl
theorem all_false_of_take (p : UInt8 → Bool) (l : List UInt8) (k : Nat) (h : (l.take k).all p = false) : l.all p = false := by
  rw [← List.take_append_drop k l, List.all_append, h, Bool.false_and]
theorem drawn_drew {w w1 : World} (h : Drawn0 w w1) : Drawn0 w w1.drew := by
  obtain ⟨n, rfl⟩ := h
  exact ⟨⟨n + 1, rfl⟩⟩
theorem drawn_trans {w w1 w2 : World} (h : Drawn0 w w1) (k : Drawn0 w1 w2) : Drawn0 w w2 := by
  obtain ⟨n, rfl⟩ := k
  exact h.step n
set_option maxHeartbeats 1000000 in
theorem all_any (K : Nat) (he : ∀ args w, (callFunc K args).run Tryz.prog w = .ok (.enter K args) w) (p : UInt8 → Bool)
    (hp : ∀ (c : UInt8) (W : World), Calls Tryz.prog K #[.int .u8 (c.toNat : Int)] W fun e w' => e = .returned (.bool (p c)) ∧ Drawn0 W w')
    (s : ByteArray) (hs : s.size ≤ 9223372036854775807) (w : World) :
    Calls Tryz.prog 53 #[.string s, .func (.func K) #[] #[]] w fun e w' => e = .returned (.bool (s.data.toList.all p)) ∧ Drawn0 w w' := by
  go_enter Tryz.func53, Tryz.ntmps53
  go_wp2
  go_loopw [8] (fun i wr => ∃ k : Nat, k ≤ s.size ∧ i = .int .i64 k ∧ (s.data.toList.take k).all p = true ∧ Drawn0 w wr) (fun i _ => s.size - (intOf i).toNat)
  case atStart => exact ⟨0, Nat.zero_le _, rfl, rfl, Drawn0.refl w⟩
  case round =>
    obtain ⟨k, hk, rfl, hall, hd⟩ := hrel
    have HD := Aside0.mk hd
    have HA := Aside0.mk hall
    clear hd hall
    have hnot : ∀ (x : Bool) (w : World), (Op.unary .not (.bool x)).run Tryz.prog w = .ok (.bool (!x)) w := fun _ _ => rfl
    by_cases hlt : k < s.size
    · cases hpk : p s[k] with
      | true =>
        have HT := Aside0.mk (show (s.data.toList.take (k + 1)).all p = true by rw [take_all p s k hlt, HA.out, hpk]; rfl)
        have HP := Aside0.mk hpk
        clear hpk
        go_wp2_with (go_at_fn K; refine (hp s[k] _).mono ?_; rintro e w' ⟨rfl, hd'⟩; rw [HP.out]; have HD' := Aside0.mk (drawn_trans HD.out hd'); clear hd')
        go_roundw
        case rel => exact ⟨k + 1, by omega, by go_num, HT.out, HD'.out⟩
        case measure => simp [intOf]; omega
      | false =>
        have HT := Aside0.mk (all_false_of_take p s.data.toList (k + 1) (by rw [take_all p s k hlt, HA.out, hpk]; rfl))
        have HP := Aside0.mk hpk
        clear hpk
        go_wp2_with (go_at_fn K; refine (hp s[k] _).mono ?_; rintro e w' ⟨rfl, hd'⟩; rw [HP.out]; have HD' := Aside0.mk (drawn_trans HD.out hd'); clear hd')
        go_ret
        exact ⟨by rw [HT.out]; rfl, HD'.out⟩
    · have HT := Aside0.mk (show s.data.toList.all p = true by
        have e : s.data.toList.take k = s.data.toList := List.take_of_length_le (by simp; omega)
        rw [← e]; exact HA.out)
      go_wp2
      go_ret
      exact ⟨by rw [HT.out]; rfl, HD.out⟩
end Go.Proofs.YtmfkgjnlobiobaaGreatDoor.X
