/- The texts of this work, put together: K62, K63, N60, K64, K65, K66, K67, K68, Qe, E8, Ar, N72, N9, K48, N66, K69, K84, K85, N67, N70, K87, K88, K89, K96, K97. -/
import Derived.Test.YtaalajhmfdcalaaDoorBq4
import Derived.Lib.ValidLaws
import Derived.Test.YtaalajhmfdcalaaDoorBq1
import Derived.Test.YtaalajhmfdcalaaDoorBq0
import Derived.Lib.SmallJoins
import Derived.Deep.SlicePairs
import Derived.SizedLaws
import Derived.ProofKit
import Derived.Test.YtaalajhmfdcalaaDoorBq2
import Derived.BigQuiet
import Derived.Deep.DeepCutAuto
import Derived.Deep.CutBlock
set_option linter.unusedVariables false
set_option linter.unusedSimpArgs false
namespace Go.Proofs.YtaalajhmfdcalaaDoor.X
open Go.RowKit Go.Lib Go.Proofs.YtaalajhmfdcalaaDoorW.PrintWords Go.Proofs.YtaalajhmfdcalaaDoorW.PrintLast Go.Proofs.YtaalajhmfdcalaaDoorW.PrintMore
def contZ : Nat → List UInt8 → Int → Int → Int → Int
 | 0, _, _, _, n => n
 | _ + 1, [], _, _, _ => -1
 | k + 1, x :: r, lo, hi, n => if (x.toNat : Int) < lo ∨ hi < (x.toNat : Int) then 0 else contZ k r 128 191 n
def cntZ (c : Int) : Nat := if c < 128 then 1 else if 194 ≤ c ∧ c ≤ 223 then 2 else if 224 ≤ c ∧ c ≤ 239 then 3 else if 240 ≤ c ∧ c ≤ 244 then 4 else 0
def loZ (c : Int) : Int := if c = 224 then 160 else if c = 240 then 144 else 128
def hiZ (c : Int) : Int := if c = 237 then 159 else if c = 244 then 143 else 191
def charZ : List UInt8 → Int
 | [] => 0
 | c :: r => if cntZ c.toNat ≤ 1 then cntZ c.toNat else contZ (cntZ c.toNat - 1) r (loZ c.toNat) (hiZ c.toNat) (cntZ c.toNat)
theorem wrap_byte (x : Int) (h0 : 0 ≤ x) (h1 : x ≤ 255) : wrap64 x = x := by unfold wrap64; omega
theorem wrap_sum (p k n : Nat) (h : p < n) (hn : n ≤ 4611686018427387904) (hk : k ≤ 4) : wrap64 ((p : Int) + (k : Int)) = ((p + k : Nat) : Int) := by unfold wrap64; omega
set_option maxRecDepth 1000000 in
set_option maxHeartbeats 8000000 in
theorem char_calls (s : ByteArray) (p : Nat) (w : World) (hsz : s.size ≤ 4611686018427387904) (hp : p < s.size) : Calls Tryd.prog 60 #[.string s, .int .i64 (p : Int)] w fun e w' => e = .returned (.int .i64 (charZ (s.data.toList.drop p))) ∧ w' = w := by
 obtain ⟨u, e1, hx⟩ := drop_at s p hp
 rw [e1]
 have p1 : (0 ≤ (p : Int)) = True := eq_true (by omega)
 have p2 : ((p : Int) < (s.size : Int)) = True := eq_true (by omega)
 have hu := u.toNat_lt
 clear e1
 obtain ⟨c, hc⟩ : ∃ c : Int, c = (u.toNat : Int) := ⟨_, rfl⟩
 have hb : 0 ≤ c ∧ c ≤ 255 := by omega
 have hcu := hc.symm
 have hwb := wrap_byte _ hb.1 hb.2
 have HV := am (show charZ (u :: s.data.toList.drop (p + 1)) = if cntZ c ≤ 1 then (cntZ c : Int) else contZ (cntZ c - 1) (s.data.toList.drop (p + 1)) (loZ c) (hiZ c) (cntZ c) by rw [charZ, ← hc])
 clear hc hu
 have HB := am hb
 clear hb
 generalize charZ (u :: s.data.toList.drop (p + 1)) = res at *
 go_enter Tryd.func60, Tryd.ntmps60
 go_upto_block 0 with (fail)
 go_cut [6] (fun v6 wc => v6 = .int .i64 (cntZ c : Int) ∧ Aside0 (2 ≤ cntZ c) ∧ w = wc)
 case first =>
  rcases (by have := HB.out; omega : c < 128 ∨ (128 ≤ c ∧ c < 194) ∨ 244 < c ∨ (194 ≤ c ∧ c ≤ 223) ∨ (224 ≤ c ∧ c ≤ 239) ∨ (240 ≤ c ∧ c ≤ 244)) with h | h | h | h | h | h
  ·have HN := am (show cntZ c = 1 by unfold cntZ; repeat (first | rw [if_pos (by omega)] | rw [if_neg (by omega)]))
   have a0 : decide (c < 128) = true := decide_eq_true (by omega)
   have a1 : decide (194 ≤ c) = false := decide_eq_false (by omega)
   have a2 : decide (c ≤ 223) = true := decide_eq_true (by omega)
   have a3 : decide (224 ≤ c) = false := decide_eq_false (by omega)
   have a4 : decide (c ≤ 239) = true := decide_eq_true (by omega)
   have a5 : decide (240 ≤ c) = false := decide_eq_false (by omega)
   have a6 : decide (c ≤ 244) = true := decide_eq_true (by omega)
   have HV2 := am HV.out
   clear h
   go_wp2
   go_ret
   exact ⟨by rw [HV.out, if_pos (by rw [HN.out]; decide), HN.out]; rfl, rfl⟩
  ·have HN := am (show cntZ c = 0 by unfold cntZ; repeat (first | rw [if_pos (by omega)] | rw [if_neg (by omega)]))
   have a0 : decide (c < 128) = false := decide_eq_false (by omega)
   have a1 : decide (194 ≤ c) = false := decide_eq_false (by omega)
   have a2 : decide (c ≤ 223) = true := decide_eq_true (by omega)
   have a3 : decide (224 ≤ c) = false := decide_eq_false (by omega)
   have a4 : decide (c ≤ 239) = true := decide_eq_true (by omega)
   have a5 : decide (240 ≤ c) = false := decide_eq_false (by omega)
   have a6 : decide (c ≤ 244) = true := decide_eq_true (by omega)
   have HV2 := am HV.out
   clear h
   go_wp2
   go_ret
   exact ⟨by rw [HV.out, if_pos (by rw [HN.out]; decide), HN.out]; rfl, rfl⟩
  ·have HN := am (show cntZ c = 0 by unfold cntZ; repeat (first | rw [if_pos (by omega)] | rw [if_neg (by omega)]))
   have a0 : decide (c < 128) = false := decide_eq_false (by omega)
   have a1 : decide (194 ≤ c) = true := decide_eq_true (by omega)
   have a2 : decide (c ≤ 223) = false := decide_eq_false (by omega)
   have a3 : decide (224 ≤ c) = true := decide_eq_true (by omega)
   have a4 : decide (c ≤ 239) = false := decide_eq_false (by omega)
   have a5 : decide (240 ≤ c) = true := decide_eq_true (by omega)
   have a6 : decide (c ≤ 244) = false := decide_eq_false (by omega)
   have HV2 := am HV.out
   clear h
   go_wp2
   go_ret
   exact ⟨by rw [HV.out, if_pos (by rw [HN.out]; decide), HN.out]; rfl, rfl⟩
  ·have HN := am (show cntZ c = 2 by unfold cntZ; repeat (first | rw [if_pos (by omega)] | rw [if_neg (by omega)]))
   have a0 : decide (c < 128) = false := decide_eq_false (by omega)
   have a1 : decide (194 ≤ c) = true := decide_eq_true (by omega)
   have a2 : decide (c ≤ 223) = true := decide_eq_true (by omega)
   have a3 : decide (224 ≤ c) = false := decide_eq_false (by omega)
   have a4 : decide (c ≤ 239) = true := decide_eq_true (by omega)
   have a5 : decide (240 ≤ c) = false := decide_eq_false (by omega)
   have a6 : decide (c ≤ 244) = true := decide_eq_true (by omega)
   have HV2 := am HV.out
   clear h
   go_wp2
   go_meet
   case rel => exact ⟨by rw [HN.out]; rfl, ⟨by rw [HN.out]; decide⟩, rfl⟩
  ·have HN := am (show cntZ c = 3 by unfold cntZ; repeat (first | rw [if_pos (by omega)] | rw [if_neg (by omega)]))
   have a0 : decide (c < 128) = false := decide_eq_false (by omega)
   have a1 : decide (194 ≤ c) = true := decide_eq_true (by omega)
   have a2 : decide (c ≤ 223) = false := decide_eq_false (by omega)
   have a3 : decide (224 ≤ c) = true := decide_eq_true (by omega)
   have a4 : decide (c ≤ 239) = true := decide_eq_true (by omega)
   have a5 : decide (240 ≤ c) = false := decide_eq_false (by omega)
   have a6 : decide (c ≤ 244) = true := decide_eq_true (by omega)
   have HV2 := am HV.out
   clear h
   go_wp2
   go_meet
   case rel => exact ⟨by rw [HN.out]; rfl, ⟨by rw [HN.out]; decide⟩, rfl⟩
  ·have HN := am (show cntZ c = 4 by unfold cntZ; repeat (first | rw [if_pos (by omega)] | rw [if_neg (by omega)]))
   have a0 : decide (c < 128) = false := decide_eq_false (by omega)
   have a1 : decide (194 ≤ c) = true := decide_eq_true (by omega)
   have a2 : decide (c ≤ 223) = false := decide_eq_false (by omega)
   have a3 : decide (224 ≤ c) = true := decide_eq_true (by omega)
   have a4 : decide (c ≤ 239) = false := decide_eq_false (by omega)
   have a5 : decide (240 ≤ c) = true := decide_eq_true (by omega)
   have a6 : decide (c ≤ 244) = true := decide_eq_true (by omega)
   have HV2 := am HV.out
   clear h
   go_wp2
   go_meet
   case rel => exact ⟨by rw [HN.out]; rfl, ⟨by rw [HN.out]; decide⟩, rfl⟩
 case rest =>
  obtain ⟨rfl, HN, rfl⟩ := hcut
  go_upto_block 1 with (fail)
  go_cut [7, 8] (fun v7 v8 wc => v7 = .int .i64 (loZ c) ∧ v8 = .int .i64 (hiZ c) ∧ w = wc)
  case first =>
   rcases (by omega : c = 224 ∨ c = 237 ∨ c = 240 ∨ c = 244 ∨ (c ≠ 224 ∧ c ≠ 237 ∧ c ≠ 240 ∧ c ≠ 244)) with h | h | h | h | h
   ·have HLO := am (show loZ c = 160 by unfold loZ; repeat (first | rw [if_pos (by omega)] | rw [if_neg (by omega)]))
    have HHI := am (show hiZ c = 191 by unfold hiZ; repeat (first | rw [if_pos (by omega)] | rw [if_neg (by omega)]))
    have b224 : (c == 224) = true := beq_iff_eq.mpr h
    have b237 : (c == 237) = false := beq_eq_false_iff_ne.mpr (by omega)
    have b240 : (c == 240) = false := beq_eq_false_iff_ne.mpr (by omega)
    have b244 : (c == 244) = false := beq_eq_false_iff_ne.mpr (by omega)
    clear h
    go_wp2
    go_meet
    case rel => exact ⟨by rw [HLO.out], by rw [HHI.out], rfl⟩
   ·have HLO := am (show loZ c = 128 by unfold loZ; repeat (first | rw [if_pos (by omega)] | rw [if_neg (by omega)]))
    have HHI := am (show hiZ c = 159 by unfold hiZ; repeat (first | rw [if_pos (by omega)] | rw [if_neg (by omega)]))
    have b224 : (c == 224) = false := beq_eq_false_iff_ne.mpr (by omega)
    have b237 : (c == 237) = true := beq_iff_eq.mpr h
    have b240 : (c == 240) = false := beq_eq_false_iff_ne.mpr (by omega)
    have b244 : (c == 244) = false := beq_eq_false_iff_ne.mpr (by omega)
    clear h
    go_wp2
    go_meet
    case rel => exact ⟨by rw [HLO.out], by rw [HHI.out], rfl⟩
   ·have HLO := am (show loZ c = 144 by unfold loZ; repeat (first | rw [if_pos (by omega)] | rw [if_neg (by omega)]))
    have HHI := am (show hiZ c = 191 by unfold hiZ; repeat (first | rw [if_pos (by omega)] | rw [if_neg (by omega)]))
    have b224 : (c == 224) = false := beq_eq_false_iff_ne.mpr (by omega)
    have b237 : (c == 237) = false := beq_eq_false_iff_ne.mpr (by omega)
    have b240 : (c == 240) = true := beq_iff_eq.mpr h
    have b244 : (c == 244) = false := beq_eq_false_iff_ne.mpr (by omega)
    clear h
    go_wp2
    go_meet
    case rel => exact ⟨by rw [HLO.out], by rw [HHI.out], rfl⟩
   ·have HLO := am (show loZ c = 128 by unfold loZ; repeat (first | rw [if_pos (by omega)] | rw [if_neg (by omega)]))
    have HHI := am (show hiZ c = 143 by unfold hiZ; repeat (first | rw [if_pos (by omega)] | rw [if_neg (by omega)]))
    have b224 : (c == 224) = false := beq_eq_false_iff_ne.mpr (by omega)
    have b237 : (c == 237) = false := beq_eq_false_iff_ne.mpr (by omega)
    have b240 : (c == 240) = false := beq_eq_false_iff_ne.mpr (by omega)
    have b244 : (c == 244) = true := beq_iff_eq.mpr h
    clear h
    go_wp2
    go_meet
    case rel => exact ⟨by rw [HLO.out], by rw [HHI.out], rfl⟩
   ·have HLO := am (show loZ c = 128 by unfold loZ; repeat (first | rw [if_pos (by omega)] | rw [if_neg (by omega)]))
    have HHI := am (show hiZ c = 191 by unfold hiZ; repeat (first | rw [if_pos (by omega)] | rw [if_neg (by omega)]))
    have b224 : (c == 224) = false := beq_eq_false_iff_ne.mpr (by omega)
    have b237 : (c == 237) = false := beq_eq_false_iff_ne.mpr (by omega)
    have b240 : (c == 240) = false := beq_eq_false_iff_ne.mpr (by omega)
    have b244 : (c == 244) = false := beq_eq_false_iff_ne.mpr (by omega)
    clear h
    go_wp2
    go_meet
    case rel => exact ⟨by rw [HLO.out], by rw [HHI.out], rfl⟩
  case rest =>
   obtain ⟨rfl, rfl, rfl⟩ := hcut
   clear hcu p1 p2 hx hwb
   have HRES := am (show res = contZ (cntZ c - 1) (s.data.toList.drop (p + 1)) (loZ c) (hiZ c) (cntZ c) by have := HV.out; rw [if_neg (by have := HN.out; omega)] at this; exact this)
   clear HV
   have hn4 : cntZ c ≤ 4 := by unfold cntZ; (repeat' split) <;> omega
   have hn2 := HN.out
   generalize cntZ c = n at *
   generalize loZ c = lo0 at *
   generalize hiZ c = hi0 at *
   go_wp2
   go_loopg [7, 8, 9] (n + 1) (fun g v7 v8 v9 wr => ∃ (k : Nat) (lo hi : Int), v7 = .int .i64 lo ∧ v8 = .int .i64 hi ∧ v9 = .int .i64 (k : Int) ∧ 1 ≤ k ∧ k ≤ n ∧ n + 1 ≤ k + g ∧ w = wr ∧ Aside0 (res = contZ (n - k) (s.data.toList.drop (p + k)) lo hi n))
   case atStart => exact ⟨1, _, _, rfl, rfl, rfl, by omega, by omega, by omega, rfl, HRES⟩
   case round =>
    obtain ⟨k, lo, hi, rfl, rfl, rfl, hk1, hk, hg, rfl, HR⟩ := hrel
    clear HRES
    by_cases hlt : k < n
    ·cases gk with
     | zero => omega
     | succ g =>
      have q0 : ((k : Int) < (n : Int)) = True := eq_true (by omega)
      have hws := wrap_sum p k s.size hp hsz (by omega)
      have hwk : wrap64 ((k : Int) + 1) = ((k + 1 : Nat) : Int) := by unfold wrap64; omega
      have HWK := am hwk
      clear hwk
      have HC1 := am (show n - k = (n - (k + 1)) + 1 by omega)
      by_cases hps : p + k < s.size
      ·obtain ⟨x, hxu, hx⟩ := drop_at s (p + k) hps
       have q1 : ((s.size : Int) ≤ ((p + k : Nat) : Int)) = False := eq_false (by omega)
       have q2 : (0 ≤ ((p + k : Nat) : Int)) = True := eq_true (by omega)
       have q3 : (((p + k : Nat) : Int) < (s.size : Int)) = True := eq_true (by omega)
       have hxr := x.toNat_lt
       have hwx := wrap_byte (x.toNat : Int) (by omega) (by omega)
       have HX := am (show res = if (x.toNat : Int) < lo ∨ hi < (x.toNat : Int) then 0 else contZ (n - (k + 1)) (s.data.toList.drop (p + (k + 1))) 128 191 n by rw [HR.out, HC1.out, hxu, contZ]; rfl)
       clear hxu hxr
       by_cases c1 : (x.toNat : Int) < lo
       ·have d1 : decide ((x.toNat : Int) < lo) = true := decide_eq_true c1
        have HF := am (show res = 0 by rw [HX.out, if_pos (.inl c1)])
        go_wp2
        go_ret
        exact ⟨by rw [HF.out]; rfl, rfl⟩
       ·have d1 : decide ((x.toNat : Int) < lo) = false := decide_eq_false c1
        by_cases c2 : hi < (x.toNat : Int)
        ·have d2 : decide (hi < (x.toNat : Int)) = true := decide_eq_true c2
         have HF := am (show res = 0 by rw [HX.out, if_pos (.inr c2)])
         go_wp2
         go_ret
         exact ⟨by rw [HF.out]; rfl, rfl⟩
        ·have d2 : decide (hi < (x.toNat : Int)) = false := decide_eq_false c2
         have HF := am (show res = contZ (n - (k + 1)) (s.data.toList.drop (p + (k + 1))) 128 191 n by rw [HX.out, if_neg (fun h => h.elim c1 c2)])
         go_wp2
         go_roundg g
         case measure => omega
         case rel => exact ⟨k + 1, 128, 191, rfl, rfl, (by first | exact congrArg (Value.int .i64) HWK.out | exact congrArg (Value.int .i64) (show (k : Int) + 1 = ((k + 1 : Nat) : Int) by omega)), by omega, by omega, by omega, rfl, HF⟩
      ·have q1 : ((s.size : Int) ≤ ((p + k : Nat) : Int)) = True := eq_true (by omega)
       have HF := am (show res = -1 by rw [HR.out, HC1.out, List.drop_eq_nil_of_le (by rw [size_data]; omega), contZ])
       go_wp2
       go_ret
       exact ⟨by rw [HF.out]; rfl, rfl⟩
    ·have q0 : ((k : Int) < (n : Int)) = False := eq_false (by omega)
     obtain rfl : k = n := by omega
     have HF := am (show res = (k : Int) by rw [HR.out, Nat.sub_self, contZ])
     go_wp2
     go_ret
     exact ⟨by rw [HF.out]; rfl, rfl⟩
theorem tab_of : ∀ c : Fin 256, 128 ≤ c.val → (2 ≤ cntZ c.val → firstT c.val % 8 = cntZ c.val ∧ (accLo (firstT c.val / 16) : Int) = loZ c.val ∧ (accHi (firstT c.val / 16) : Int) = hiZ c.val) ∧ (cntZ c.val < 2 → cntZ c.val = 0 ∧ ¬ (firstT c.val % 8 = 2 ∨ firstT c.val % 8 = 3 ∨ firstT c.val % 8 = 4)) := by decide +kernel
theorem cont_cons (k : Nat) (x : UInt8) (r : List UInt8) (lo hi n : Int) : contZ (k + 1) (x :: r) lo hi n = if (x.toNat : Int) < lo ∨ hi < (x.toNat : Int) then 0 else contZ k r 128 191 n := rfl
theorem cont_zero (l : List UInt8) (lo hi n : Int) : contZ 0 l lo hi n = n := by cases l <;> rfl
theorem cont_check (r : List UInt8) (lo hi sz : Nat) (hsz : sz = 2 ∨ sz = 3 ∨ sz = 4) :
  (checkN (r.length + 1) (r.getD 0 0).toNat (r.getD 1 0).toNat (r.getD 2 0).toNat sz lo hi = none ∧ contZ (sz - 1) r lo hi sz < 1) ∨ (checkN (r.length + 1) (r.getD 0 0).toNat (r.getD 1 0).toNat (r.getD 2 0).toNat sz lo hi = some sz ∧ contZ (sz - 1) r lo hi sz = sz ∧ sz ≤ r.length + 1) := by
 rcases hsz with rfl | rfl | rfl
 ·cases r with
  | nil => left; simp [checkN, contZ]
  | cons x r =>
   simp only [checkN, contZ, List.getD_cons_zero, List.length_cons, show (2 : Nat) - 1 = 1 from rfl, if_true]
   by_cases h : x.toNat < lo ∨ hi < x.toNat
   ·left; rw [if_pos (by omega), if_pos (by omega)]; exact ⟨rfl, by decide⟩
   ·right; rw [if_neg (by omega), if_neg (by omega)]; exact ⟨rfl, rfl, by omega⟩
 ·cases r with
  | nil => left; simp [checkN, contZ]
  | cons x r =>
   cases r with
   | nil =>
    left
    refine ⟨by unfold checkN; rw [if_neg (by decide), if_pos rfl, if_pos (.inl (by simp))], ?_⟩
    show (if (x.toNat : Int) < lo ∨ hi < (x.toNat : Int) then (0 : Int) else -1) < 1
    split <;> decide
   | cons y r =>
    unfold checkN
    simp only [List.getD_cons_zero, List.getD_cons_succ, List.length_cons]
    rw [show (3 : Nat) - 1 = 0 + 1 + 1 from rfl, cont_cons, cont_cons, cont_zero]
    by_cases h : x.toNat < lo ∨ hi < x.toNat
    ·left; rw [if_neg (by decide), if_pos (by decide), if_pos (by omega), if_pos (by omega)]; exact ⟨rfl, by decide⟩
    ·by_cases h2 : y.toNat < 128 ∨ 191 < y.toNat
     ·left; rw [if_neg (by decide), if_pos (by decide), if_pos (by omega), if_neg (by omega), if_pos (by omega)]; exact ⟨rfl, by decide⟩
     ·right; rw [if_neg (by decide), if_pos (by decide), if_neg (by omega), if_neg (by omega), if_neg (by omega)]; exact ⟨rfl, rfl, by omega⟩
 ·cases r with
  | nil => left; simp [checkN, contZ]
  | cons x r =>
   cases r with
   | nil =>
    left
    refine ⟨by unfold checkN; rw [if_neg (by decide), if_neg (by decide), if_pos rfl, if_pos (.inl (by simp))], ?_⟩
    show (if (x.toNat : Int) < lo ∨ hi < (x.toNat : Int) then (0 : Int) else -1) < 1
    split <;> decide
   | cons y r =>
    cases r with
    | nil =>
     left
     refine ⟨by unfold checkN; rw [if_neg (by decide), if_neg (by decide), if_pos rfl, if_pos (.inl (by simp))], ?_⟩
     show (if (x.toNat : Int) < lo ∨ hi < (x.toNat : Int) then (0 : Int) else if (y.toNat : Int) < 128 ∨ 191 < (y.toNat : Int) then 0 else -1) < 1
     (repeat' split) <;> decide
    | cons z r =>
     unfold checkN
     simp only [List.getD_cons_zero, List.getD_cons_succ, List.length_cons]
     rw [show (4 : Nat) - 1 = 0 + 1 + 1 + 1 from rfl, cont_cons, cont_cons, cont_cons, cont_zero]
     by_cases h : x.toNat < lo ∨ hi < x.toNat
     ·left; rw [if_neg (by decide), if_neg (by decide), if_pos (by decide), if_pos (by omega), if_pos (by omega)]; exact ⟨rfl, by decide⟩
     ·by_cases h2 : y.toNat < 128 ∨ 191 < y.toNat
      ·left; rw [if_neg (by decide), if_neg (by decide), if_pos (by decide), if_pos (by omega), if_neg (by omega), if_pos (by omega)]; exact ⟨rfl, by decide⟩
      ·by_cases h3 : z.toNat < 128 ∨ 191 < z.toNat
       ·left; rw [if_neg (by decide), if_neg (by decide), if_pos (by decide), if_pos (by omega), if_neg (by omega), if_neg (by omega), if_pos (by omega)]; exact ⟨rfl, by decide⟩
       ·right; rw [if_neg (by decide), if_neg (by decide), if_pos (by decide), if_neg (by omega), if_neg (by omega), if_neg (by omega), if_neg (by omega)]; exact ⟨rfl, rfl, by omega⟩
theorem char_valid (l : List UInt8) (hne : l ≠ []) : (charZ l < 1 ∧ validD l = false) ∨ ∃ n : Nat, charZ l = n ∧ 1 ≤ n ∧ n ≤ l.length ∧ validD l = validD (l.drop n) := by
 cases l with
 | nil => exact absurd rfl hne
 | cons c r =>
  have hc := c.toNat_lt
  by_cases h : c.toNat < 128
  ·right
   refine ⟨1, ?_, by omega, by simp, by rw [validD_cons c r h]; rfl⟩
   have : cntZ c.toNat = 1 := by unfold cntZ; rw [if_pos (by omega)]
   rw [charZ, this]; rfl
  ·obtain ⟨t1, t2⟩ := tab_of ⟨c.toNat, hc⟩ (by show 128 ≤ c.toNat; omega)
   simp only at t1 t2
   have hv := validD_lead (c :: r) hne (by rw [List.getD_cons_zero]; omega)
   rw [List.getD_cons_zero, List.getD_cons_succ, List.getD_cons_succ, List.getD_cons_succ, List.length_cons] at hv
   by_cases h2 : 2 ≤ cntZ c.toNat
   ·obtain ⟨e1, e2, e3⟩ := t1 h2
    have h4 : cntZ c.toNat ≤ 4 := by unfold cntZ; (repeat' split) <;> omega
    have hz : charZ (c :: r) = contZ (cntZ c.toNat - 1) r (loZ c.toNat) (hiZ c.toNat) (cntZ c.toNat) := by rw [charZ, if_neg (by omega)]
    rw [e1] at hv
    rw [hz, ← e2, ← e3]
    rcases cont_check r (accLo (firstT c.toNat / 16)) (accHi (firstT c.toNat / 16)) (cntZ c.toNat) (by omega) with ⟨g1, g2⟩ | ⟨g1, g2, g3⟩
    ·left; rw [g1] at hv; exact ⟨g2, hv⟩
    ·right; rw [g1] at hv; exact ⟨_, g2, by omega, by rw [List.length_cons]; exact g3, hv⟩
   ·obtain ⟨e1, e2⟩ := t2 (by omega)
    left
    refine ⟨by rw [charZ, e1, if_pos (by decide)]; decide, ?_⟩
    rw [hv]
    have : checkN (r.length + 1) (r.getD 0 0).toNat (r.getD 1 0).toNat (r.getD 2 0).toNat (firstT c.toNat % 8) (accLo (firstT c.toNat / 16)) (accHi (firstT c.toNat / 16)) = none := by
     unfold checkN
     rw [if_neg (fun h => e2 (.inl h)), if_neg (fun h => e2 (.inr (.inl h))), if_neg (fun h => e2 (.inr (.inr h)))]
    rw [this]
set_option maxRecDepth 1000000 in
set_option maxHeartbeats 4000000 in
theorem clean_calls (s : ByteArray) (w : World) (hsz : s.size ≤ 4611686018427387904) : Calls Tryd.prog 38 #[.string s] w fun e w' => e = .returned (.bool (validD s.data.toList)) ∧ w' = w := by
 go_enter Tryd.func38, Tryd.ntmps38
 go_wp2
 go_loopg [3] (s.size + 1) (fun g v3 wr => ∃ p : Nat, v3 = .int .i64 (p : Int) ∧ p ≤ s.size ∧ s.size + 1 ≤ p + g ∧ w = wr ∧ Aside0 (validD s.data.toList = validD (s.data.toList.drop p)))
 case atStart => exact ⟨0, rfl, by omega, by omega, rfl, ⟨by rw [List.drop_zero]⟩⟩
 case round =>
  obtain ⟨p, rfl, hp, hg, rfl, HL⟩ := hrel
  by_cases hlt : p < s.size
  ·cases gk with
   | zero => omega
   | succ g =>
    have p2 : ((p : Int) < (s.size : Int)) = True := eq_true (by omega)
    have hne : s.data.toList.drop p ≠ [] := fun h0 => by
     have := congrArg List.length h0
     rw [List.length_drop, size_data, List.length_nil] at this
     omega
    rcases char_valid _ hne with ⟨h1, h2⟩ | ⟨n, h1, h2, h3, h4⟩
    ·have d1 : decide (charZ (s.data.toList.drop p) < 1) = true := decide_eq_true h1
     have HF := am (show validD s.data.toList = false by rw [HL.out, h2])
     clear hne h1 h2
     go_wp2_with (go_at_call 60; (with_reducible refine (char_calls s p _ hsz hlt).mono ?_); rintro e w1 ⟨rfl, rfl⟩)
     go_ret
     exact ⟨by rw [HF.out]; rfl, rfl⟩
    ·have d1 : decide ((n : Int) < 1) = false := decide_eq_false (by omega)
     have HN := am h1
     have HF := am (show validD s.data.toList = validD (s.data.toList.drop (p + n)) by rw [HL.out, h4, List.drop_drop])
     have h5 : p + n ≤ s.size := by rw [List.length_drop, size_data] at h3; omega
     have hws : wrap64 ((p : Int) + (n : Int)) = ((p + n : Nat) : Int) := by unfold wrap64; omega
     have HWS := am hws
     clear hne h1 h3 h4 hws
     go_wp2_with (go_at_call 60; (with_reducible refine (char_calls s p _ hsz hlt).mono ?_); rintro e w1 ⟨rfl, rfl⟩; rw [HN.out])
     go_roundg g
     case measure => omega
     case rel => exact ⟨p + n, (by first | exact congrArg (Value.int .i64) HWS.out | exact congrArg (Value.int .i64) (show (p : Int) + (n : Int) = ((p + n : Nat) : Int) by omega)), by omega, by omega, rfl, HF⟩
  ·have p2 : ((p : Int) < (s.size : Int)) = False := eq_false (by omega)
   have HF := am (show validD s.data.toList = true by rw [HL.out, List.drop_eq_nil_of_le (by rw [size_data]; omega)]; rfl)
   go_wp2
   go_ret
   exact ⟨by rw [HF.out]; rfl, rfl⟩
end Go.Proofs.YtaalajhmfdcalaaDoor.X
namespace Go.Proofs.YtaalajhmfdcalaaDoor.X
open Go.RowKit Go.Lib Go.Proofs.YtaalajhmfdcalaaDoorW.PrintWords
theorem isDg_iff (c : UInt8) : isDg c = true ↔ 48 ≤ (c.toNat : Int) ∧ (c.toNat : Int) ≤ 57 := by unfold isDg; simp; omega
theorem stepZ_dig (s : Int) (c : UInt8) (h : isDg c = true) (hs : s = 3 ∨ s = 5 ∨ s = 8) : stepZ s c.toNat = s := by
 have := (isDg_iff c).1 h
 unfold stepZ
 rcases hs with rfl | rfl | rfl <;> (repeat' split) <;> omega
theorem u8_eq (c d : UInt8) : c = d ↔ (c.toNat : Int) = (d.toNat : Int) := by
 constructor
 ·rintro rfl; rfl
 ·intro h; exact UInt8.toNat_inj.1 (by omega)
theorem digs_le0 (l : List UInt8) : digsF l ≤ l.length := by have := digs_len l 0 (Nat.zero_le _); rw [List.drop_zero] at this; omega
theorem digs_cons (c : UInt8) (l : List UInt8) (h : isDg c = true) : digsF (c :: l) = digsF l + 1 := by unfold digsF; rw [List.takeWhile_cons_of_pos h]; rfl
theorem digs_no (c : UInt8) (l : List UInt8) (h : isDg c = false) : digsF (c :: l) = 0 := by unfold digsF; rw [List.takeWhile_cons_of_neg (by rw [h]; decide)]; rfl
def allD (l : List UInt8) : Bool := digsF l == l.length
def someD (l : List UInt8) : Bool := digsF l != 0 && allD l
def signP : List UInt8 → Bool
 | [] => false
 | d :: q => if d = 43 ∨ d = 45 then someD q else someD (d :: q)
def expP : List UInt8 → Bool
 | [] => true
 | c :: r => if c = 101 ∨ c = 69 then signP r else false
def fracP (l : List UInt8) : Bool := digsF l != 0 && expP (l.drop (digsF l))
def decP : List UInt8 → Bool
 | [] => true
 | c :: r => if c = 46 then fracP r else expP (c :: r)
theorem lit8 : ∀ l, litR l 8 = allD l
 | [] => rfl
 | c :: l => by
  rw [litR]
  cases h : isDg c with
  | true =>
   rw [stepZ_dig 8 c h (by simp), if_neg (by decide), lit8 l]
   unfold allD
   rw [digs_cons c l h, List.length_cons]
   rw [Bool.eq_iff_iff]; simp
  | false =>
   have : ¬ (48 ≤ (c.toNat : Int) ∧ (c.toNat : Int) ≤ 57) := fun hh => by rw [(isDg_iff c).2 hh] at h; cases h
   rw [if_pos (by unfold stepZ; (repeat' split) <;> omega)]
   unfold allD
   rw [digs_no c l h]
   rfl
theorem lit7 : ∀ l, litR l 7 = someD l
 | [] => rfl
 | c :: l => by
  rw [litR]
  cases h : isDg c with
  | true =>
   have hh := (isDg_iff c).1 h
   have e : stepZ 7 c.toNat = 8 := by unfold stepZ; (repeat' split) <;> omega
   rw [e, if_neg (by decide), lit8 l]
   unfold someD allD
   rw [digs_cons c l h, List.length_cons]
   rw [Bool.eq_iff_iff]; simp
  | false =>
   have : ¬ (48 ≤ (c.toNat : Int) ∧ (c.toNat : Int) ≤ 57) := fun hh => by rw [(isDg_iff c).2 hh] at h; cases h
   rw [if_pos (by unfold stepZ; (repeat' split) <;> omega)]
   unfold someD
   rw [digs_no c l h]
   rfl
theorem lit6 : ∀ l, litR l 6 = signP l
 | [] => rfl
 | c :: l => by
  rw [litR, signP]
  by_cases hs : c = 43 ∨ c = 45
  ·have e : stepZ 6 c.toNat = 7 := by rcases hs with rfl | rfl <;> rfl
   rw [if_pos hs, e, if_neg (by decide), lit7]
  ·rw [if_neg hs]
   have h1 : ¬ (c.toNat : Int) = 43 := fun h => hs (.inl ((u8_eq c 43).2 h))
   have h2 : ¬ (c.toNat : Int) = 45 := fun h => hs (.inr ((u8_eq c 45).2 h))
   cases h : isDg c with
   | true =>
    have hh := (isDg_iff c).1 h
    have e : stepZ 6 c.toNat = 8 := by unfold stepZ; (repeat' split) <;> omega
    rw [e, if_neg (by decide), lit8 l]
    unfold someD allD
    rw [digs_cons c l h, List.length_cons]
    rw [Bool.eq_iff_iff]; simp
   | false =>
    have : ¬ (48 ≤ (c.toNat : Int) ∧ (c.toNat : Int) ≤ 57) := fun hh => by rw [(isDg_iff c).2 hh] at h; cases h
    rw [if_pos (by unfold stepZ; (repeat' split) <;> omega)]
    unfold someD
    rw [digs_no c l h]
    rfl
theorem e_nat (c : UInt8) : (c = 101 ∨ c = 69) ↔ ((c.toNat : Int) = 101 ∨ (c.toNat : Int) = 69) := by rw [u8_eq c 101, u8_eq c 69]; exact Iff.rfl
set_option maxHeartbeats 2000000 in
theorem lit_exp (s : Int) (hs : s = 2 ∨ s = 3 ∨ s = 5) (c : UInt8) (l : List UInt8) (hd : isDg c = false) (h46 : ¬ (c.toNat : Int) = 46 ∨ s = 5) : litR (c :: l) s = expP (c :: l) := by
 have hn : ¬ (48 ≤ (c.toNat : Int) ∧ (c.toNat : Int) ≤ 57) := fun hh => by rw [(isDg_iff c).2 hh] at hd; cases hd
 rw [litR, expP]
 by_cases he : c = 101 ∨ c = 69
 ·have h1 := (e_nat c).1 he
  have e : stepZ s c.toNat = 6 := by unfold stepZ; rcases hs with rfl | rfl | rfl <;> (repeat' split) <;> omega
  rw [if_pos he, e, if_neg (by decide), lit6]
 ·have h1 : ¬ ((c.toNat : Int) = 101 ∨ (c.toNat : Int) = 69) := fun h => he ((e_nat c).2 h)
  rw [if_neg he, if_pos (by unfold stepZ; rcases hs with rfl | rfl | rfl <;> (repeat' split) <;> omega)]
theorem lit5 : ∀ l, litR l 5 = expP (l.drop (digsF l))
 | [] => rfl
 | c :: l => by
  cases h : isDg c with
  | true => rw [litR, stepZ_dig 5 c h (by simp), if_neg (by decide), lit5 l, digs_cons c l h, List.drop_succ_cons]
  | false => rw [digs_no c l h, List.drop_zero]; exact lit_exp 5 (by simp) c l h (.inr rfl)
theorem lit4 : ∀ l, litR l 4 = fracP l
 | [] => rfl
 | c :: l => by
  rw [litR]
  unfold fracP
  cases h : isDg c with
  | true =>
   have hh := (isDg_iff c).1 h
   have e : stepZ 4 c.toNat = 5 := by unfold stepZ; (repeat' split) <;> omega
   rw [e, if_neg (by decide), lit5 l, digs_cons c l h, List.drop_succ_cons]
   simp
  | false =>
   have : ¬ (48 ≤ (c.toNat : Int) ∧ (c.toNat : Int) ≤ 57) := fun hh => by rw [(isDg_iff c).2 hh] at h; cases h
   rw [if_pos (by unfold stepZ; (repeat' split) <;> omega), digs_no c l h]
   rfl
theorem lit_dec (s : Int) (hs : s = 2 ∨ s = 3) (c : UInt8) (l : List UInt8) (hd : isDg c = false) : litR (c :: l) s = decP (c :: l) := by
 rw [decP]
 by_cases h : c = 46
 ·subst h
  rw [if_pos rfl, litR]
  have e : stepZ s ((46 : UInt8).toNat : Int) = 4 := by rcases hs with rfl | rfl <;> rfl
  rw [e, if_neg (by decide), lit4]
 ·rw [if_neg h]
  exact lit_exp s (by omega) c l hd (.inl (fun hh => h ((u8_eq c 46).2 hh)))
theorem lit3 : ∀ l, litR l 3 = decP (l.drop (digsF l))
 | [] => rfl
 | c :: l => by
  cases h : isDg c with
  | true => rw [litR, stepZ_dig 3 c h (by simp), if_neg (by decide), lit3 l, digs_cons c l h, List.drop_succ_cons]
  | false => rw [digs_no c l h, List.drop_zero]; exact lit_dec 3 (by simp) c l h
theorem lit2 : ∀ l, litR l 2 = decP l
 | [] => rfl
 | c :: l => by
  cases h : isDg c with
  | true =>
   have hh := (isDg_iff c).1 h
   have h46 : ¬ c = 46 := fun e => by rw [e] at h; revert h; decide
   have he : ¬ (c = 101 ∨ c = 69) := fun e => by rcases e with rfl | rfl <;> (revert h; decide)
   rw [litR, if_pos (by unfold stepZ; (repeat' split) <;> omega), decP, if_neg h46, expP, if_neg he]
  | false => exact lit_dec 2 (by simp) c l h
def intP : List UInt8 → Bool
 | [] => false
 | c :: r => if c = 48 then decP r else if isDg c = true then decP (r.drop (digsF r)) else false
theorem lit01 (s : Int) (hs : s = 0 ∨ s = 1) (c : UInt8) (l : List UInt8) (h45 : ¬ c = 45 ∨ s = 1) : litR (c :: l) s = intP (c :: l) := by
 rw [litR, intP]
 by_cases h : c = 48
 ·subst h
  rw [if_pos rfl]
  have e : stepZ s ((48 : UInt8).toNat : Int) = 2 := by rcases hs with rfl | rfl <;> rfl
  rw [e, if_neg (by decide), lit2]
 ·rw [if_neg h]
  have h1 : ¬ (c.toNat : Int) = 48 := fun hh => h ((u8_eq c 48).2 hh)
  have h2 : ¬ (c.toNat : Int) = 45 ∨ s = 1 := h45.imp (fun hn hh => hn ((u8_eq c 45).2 hh)) id
  cases hd : isDg c with
  | true =>
   have hh := (isDg_iff c).1 hd
   have e : stepZ s c.toNat = 3 := by unfold stepZ; rcases hs with rfl | rfl <;> (repeat' split) <;> omega
   rw [e, if_neg (by decide), lit3, if_pos rfl]
  | false =>
   have : ¬ (48 ≤ (c.toNat : Int) ∧ (c.toNat : Int) ≤ 57) := fun hh => by rw [(isDg_iff c).2 hh] at hd; cases hd
   rw [if_pos (by unfold stepZ; rcases hs with rfl | rfl <;> (repeat' split) <;> omega), if_neg (by decide)]
def goodO (o : Nat × Bool) (n : Nat) : Bool := o.2 && o.1 == n
theorem good_digs (l : List UInt8) (j : Nat) (hj : j ≤ l.length) : goodO (if digsF (l.drop j) = 0 then (j, false) else (j + digsF (l.drop j), true)) l.length = someD (l.drop j) := by
 unfold goodO someD allD
 by_cases h : digsF (l.drop j) = 0
 ·rw [if_pos h]; simp [h]
 ·rw [if_neg h, List.length_drop, Bool.eq_iff_iff]
  have := digs_le0 (l.drop j)
  rw [List.length_drop] at this
  simp [h]
  omega
theorem litE_good (l : List UInt8) (i : Nat) (hi : i ≤ l.length) : goodO (litE l i) l.length = expP (l.drop i) := by
 unfold litE
 cases hc : l[i]? with
 | none =>
  have hl : l.length ≤ i := List.getElem?_eq_none_iff.1 hc
  rw [List.drop_eq_nil_of_le hl]
  simp [goodO, expP]
  omega
 | some c =>
  obtain ⟨hlt, hce⟩ := List.getElem?_eq_some_iff.1 hc
  have hd : l.drop i = c :: l.drop (i + 1) := by rw [List.drop_eq_getElem_cons hlt, hce]
  rw [hd, expP]
  simp only
  by_cases he : c = 101 ∨ c = 69
  ·rw [if_pos he, if_pos he]
   cases hd2 : l[i + 1]? with
   | none =>
    have hl : l.length ≤ i + 1 := List.getElem?_eq_none_iff.1 hd2
    have := good_digs l (i + 1) (by omega)
    rw [List.drop_eq_nil_of_le hl] at this ⊢
    exact this
   | some d =>
    obtain ⟨hlt2, hde⟩ := List.getElem?_eq_some_iff.1 hd2
    have hd3 : l.drop (i + 1) = d :: l.drop (i + 2) := by rw [List.drop_eq_getElem_cons hlt2, hde]
    rw [hd3, signP]
    by_cases hs : d = 43 ∨ d = 45
    ·simp only [if_pos hs]
     exact good_digs l (i + 2) (by omega)
    ·simp only [if_neg hs]
     rw [← hd3]
     exact good_digs l (i + 1) (by omega)
  ·rw [if_neg he, if_neg he]
   simp [goodO]
   omega
theorem litD_good (l : List UInt8) (i : Nat) (hi : i ≤ l.length) : goodO (litD l i) l.length = decP (l.drop i) := by
 unfold litD
 by_cases h : l[i]? = some 46
 ·obtain ⟨hlt, hce⟩ := List.getElem?_eq_some_iff.1 h
  have hd : l.drop i = 46 :: l.drop (i + 1) := by rw [List.drop_eq_getElem_cons hlt, hce]
  rw [if_pos h, hd, decP, if_pos rfl]
  unfold fracP
  by_cases hz : digsF (l.drop (i + 1)) = 0
  ·rw [if_pos hz]; simp [goodO, hz]
  ·have := digs_le0 (l.drop (i + 1))
   rw [List.length_drop] at this
   rw [if_neg hz, litE_good l _ (by omega), List.drop_drop]
   simp [hz]
 ·rw [if_neg h, litE_good l i hi]
  cases hl : l.drop i with
  | nil => rfl
  | cons c r =>
   have : l[i]? = some c := by
    have := congrArg (fun q => q[0]?) hl
    simp only [List.getElem?_drop, Nat.add_zero, List.getElem?_cons_zero] at this
    exact this
   have hc : ¬ c = 46 := fun e => h (by rw [this, e])
   rw [decP, if_neg hc]
theorem int_good (l : List UInt8) (i : Nat) (hi : i ≤ l.length) : goodO (if l[i]? = some 48 then litD l (i + 1) else if digsF (l.drop i) = 0 then (i, false) else litD l (i + digsF (l.drop i))) l.length = intP (l.drop i) := by
 cases hc : l[i]? with
 | none =>
  have hl : l.length ≤ i := List.getElem?_eq_none_iff.1 hc
  rw [if_neg (by simp), List.drop_eq_nil_of_le hl]
  rfl
 | some c =>
  obtain ⟨hlt, hce⟩ := List.getElem?_eq_some_iff.1 hc
  have hd : l.drop i = c :: l.drop (i + 1) := by rw [List.drop_eq_getElem_cons hlt, hce]
  by_cases h : c = 48
  ·subst h
   rw [if_pos rfl, litD_good l _ (by omega), hd, intP, if_pos rfl]
  ·rw [if_neg (by simpa using h)]
   have := digs_le0 (l.drop i)
   rw [List.length_drop] at this
   cases hg : isDg c with
   | true =>
    have hn : digsF (l.drop i) = digsF (l.drop (i + 1)) + 1 := by rw [hd, digs_cons c _ hg]
    rw [if_neg (by omega), litD_good l _ (by omega), hd, intP, if_neg h, if_pos hg, List.drop_drop]
    rw [← hd, hn]
    congr 2
    omega
   | false =>
    have hn : digsF (l.drop i) = 0 := by rw [hd, digs_no c _ hg]
    rw [if_pos hn, hd, intP, if_neg h, hg]
    rfl
theorem litF_good (l : List UInt8) : goodO (litF l) l.length = litR l 0 := by
 unfold litF
 cases l with
 | nil => rfl
 | cons c r =>
  by_cases h : c = 45
  ·subst h
   simp only [List.getElem?_cons_zero, if_true]
   rw [int_good (45 :: r) 1 (by simp)]
   have e : stepZ 0 ((45 : UInt8).toNat : Int) = 1 := rfl
   rw [litR, e, if_neg (by decide), List.drop_succ_cons, List.drop_zero]
   cases r with
   | nil => rfl
   | cons d q => exact (lit01 1 (by simp) d q (.inr rfl)).symm
  ·have h0 : ¬ (c :: r)[0]? = some 45 := by simpa using h
   simp only [if_neg h0]
   rw [int_good (c :: r) 0 (by simp), List.drop_zero]
   exact (lit01 0 (by simp) c r (.inl h)).symm
theorem lit_eq (s : ByteArray) : litR s.data.toList 0 = true ↔ litF s.data.toList = (s.size, true) := by
 rw [← litF_good, size_data]
 unfold goodO
 simp only [Bool.and_eq_true, beq_iff_eq]
 constructor
 ·rintro ⟨h1, h2⟩; exact Prod.ext h2 h1
 ·intro h; rw [h]; exact ⟨rfl, rfl⟩
end Go.Proofs.YtaalajhmfdcalaaDoor.X
namespace Go.Proofs.YtaalajhmfdcalaaDoor.X
open Go.RowKit Go.Lib Go.Proofs.YtaalajhmfdcalaaDoorW.PrintWords Go.Proofs.YtaalajhmfdcalaaDoorW.PrintLast Go.Proofs.YtaalajhmfdcalaaDoorW.PrintMore
def fitZ (d f0 : Int) (f1 : ByteArray) (n2 n3 : Nat) : Int := if ((f0 = 5 ∨ f0 = 6) ∧ 32 ≤ d) ∨ 32 < d then 46 else if nodeOK f0 f1 n2 n3 = true then 0 else 47
theorem fit_46 {d f0 : Int} {f1 : ByteArray} {n2 n3 : Nat} (h : ((f0 = 5 ∨ f0 = 6) ∧ 32 ≤ d) ∨ 32 < d) : fitZ d f0 f1 n2 n3 = 46 := by unfold fitZ; rw [if_pos h]
theorem fit_0 {d f0 : Int} {f1 : ByteArray} {n2 n3 : Nat} (h : ¬ (((f0 = 5 ∨ f0 = 6) ∧ 32 ≤ d) ∨ 32 < d)) (hn : nodeOK f0 f1 n2 n3 = true) : fitZ d f0 f1 n2 n3 = 0 := by unfold fitZ; rw [if_neg h, if_pos hn]
theorem fit_47 {d f0 : Int} {f1 : ByteArray} {n2 n3 : Nat} (h : ¬ (((f0 = 5 ∨ f0 = 6) ∧ 32 ≤ d) ∨ 32 < d)) (hn : nodeOK f0 f1 n2 n3 = false) : fitZ d f0 f1 n2 n3 = 47 := by unfold fitZ; rw [if_neg h, if_neg (by rw [hn]; decide)]
theorem nodeXX {f0 : Int} {f1 : ByteArray} {n2 n3 : Nat} (h : f0 < 0 ∨ 6 < f0) : nodeOK f0 f1 n2 n3 = false := by
 unfold nodeOK
 rw [if_neg (by omega), if_neg (by omega), if_neg (by omega), if_neg (by omega), if_neg (by omega)]
theorem nd0 {f0 : Int} {f1 : ByteArray} {n2 n3 : Nat} (h : f0 = 0 ∨ f0 = 1 ∨ f0 = 2) : nodeOK f0 f1 n2 n3 = decide (f1.size = 0 ∧ n2 = 0 ∧ n3 = 0) := by unfold nodeOK; rw [if_pos h]
theorem nd3 {f1 : ByteArray} {n2 n3 : Nat} : nodeOK 3 f1 n2 n3 = decide ((litF f1.data.toList).2 = true ∧ (litF f1.data.toList).1 = f1.size ∧ n2 = 0 ∧ n3 = 0) := by unfold nodeOK; rw [if_neg (by decide), if_pos rfl]
theorem nd4 {f1 : ByteArray} {n2 n3 : Nat} : nodeOK 4 f1 n2 n3 = decide (validD f1.data.toList = true ∧ n2 = 0 ∧ n3 = 0) := by unfold nodeOK; rw [if_neg (by decide), if_neg (by decide), if_pos rfl]
theorem nd5 {f1 : ByteArray} {n2 n3 : Nat} : nodeOK 5 f1 n2 n3 = decide (f1.size = 0 ∧ n2 = 0) := by unfold nodeOK; rw [if_neg (by decide), if_neg (by decide), if_neg (by decide), if_pos rfl]
theorem nd6 {f1 : ByteArray} {n2 n3 : Nat} : nodeOK 6 f1 n2 n3 = decide (f1.size = 0 ∧ n2 = n3) := by unfold nodeOK; rw [if_neg (by decide), if_neg (by decide), if_neg (by decide), if_neg (by decide), if_pos rfl]
set_option maxRecDepth 1000000 in
set_option maxHeartbeats 8000000 in
theorem fit_calls (f0 : Int) (f1 : ByteArray) (A2 A3 : Option Addr) (n2 c2 n3 c3 : Nat) (d : Int) (w : World) (hsz : f1.size ≤ 4611686018427387904) :
  Calls Tryd.prog 37 #[jVal f0 f1 A2 A3 n2 c2 n3 c3, .int .i64 d] w fun e w' => e = .returned (.int .i64 (fitZ d f0 f1 n2 n3)) ∧ Below w.heap.size w w' := by
 by_cases h32 : (32 : Int) < d
 ·have d1 : decide ((32 : Int) < d) = true := decide_eq_true h32
  have d2 : decide ((32 : Int) ≤ d) = true := decide_eq_true (by omega)
  by_cases h5 : f0 = 5
  ·subst h5
   have HF := am (show fitZ d 5 f1 n2 n3 = 46 from fit_46 (.inr h32))
   clear h32
   go_enter Tryd.func37, Tryd.ntmps37
   go_wp2
   go_ret
   exact ⟨by rw [HF.out]; rfl, by repeat (first | exact Below.refl _ _ | apply pw_below_drewN | apply below_drew1 | apply below_alloc)⟩
  ·have b5 : (f0 == 5) = false := beq_eq_false_iff_ne.mpr h5
   by_cases h6 : f0 = 6
   ·subst h6
    have HF := am (show fitZ d 6 f1 n2 n3 = 46 from fit_46 (.inr h32))
    clear h32
    go_enter Tryd.func37, Tryd.ntmps37
    go_wp2
    go_ret
    exact ⟨by rw [HF.out]; rfl, by repeat (first | exact Below.refl _ _ | apply pw_below_drewN | apply below_drew1 | apply below_alloc)⟩
   ·have b6 : (f0 == 6) = false := beq_eq_false_iff_ne.mpr h6
    have HF := am (show fitZ d f0 f1 n2 n3 = 46 from fit_46 (.inr h32))
    clear h32 h5 h6
    go_enter Tryd.func37, Tryd.ntmps37
    go_wp2
    go_ret
    exact ⟨by rw [HF.out]; rfl, by repeat (first | exact Below.refl _ _ | apply pw_below_drewN | apply below_drew1 | apply below_alloc)⟩
 ·have d1 : decide ((32 : Int) < d) = false := decide_eq_false h32
  rcases (by omega : f0 < 0 ∨ 6 < f0 ∨ f0 = 0 ∨ f0 = 1 ∨ f0 = 2 ∨ f0 = 3 ∨ f0 = 4 ∨ f0 = 5 ∨ f0 = 6) with h | h | h | h | h | h | h | h | h
  ·have b5 : (f0 == 5) = false := beq_eq_false_iff_ne.mpr (by omega)
   have b6 : (f0 == 6) = false := beq_eq_false_iff_ne.mpr (by omega)
   have k1 : decide (f0 < 0) = true := decide_eq_true (by omega)
   have HF := am (show fitZ d f0 f1 n2 n3 = 47 from fit_47 (by omega) (nodeXX (.inl h)))
   clear h h32
   go_enter Tryd.func37, Tryd.ntmps37
   go_wp2
   go_ret
   exact ⟨by rw [HF.out]; rfl, by repeat (first | exact Below.refl _ _ | apply pw_below_drewN | apply below_drew1 | apply below_alloc)⟩
  ·have b5 : (f0 == 5) = false := beq_eq_false_iff_ne.mpr (by omega)
   have b6 : (f0 == 6) = false := beq_eq_false_iff_ne.mpr (by omega)
   have k1 : decide (f0 < 0) = false := decide_eq_false (by omega)
   have k2 : decide (6 < f0) = true := decide_eq_true (by omega)
   have HF := am (show fitZ d f0 f1 n2 n3 = 47 from fit_47 (by omega) (nodeXX (.inr h)))
   clear h h32
   go_enter Tryd.func37, Tryd.ntmps37
   go_wp2
   go_ret
   exact ⟨by rw [HF.out]; rfl, by repeat (first | exact Below.refl _ _ | apply pw_below_drewN | apply below_drew1 | apply below_alloc)⟩
  ·subst h
   by_cases h1 : f1.size = 0
   case neg =>
    have hs := str_ne f1 h1
    have s1 := hs.1
    have s2 := hs.2
    have s3 : (f1.toList != (⟨#[]⟩ : ByteArray).toList) = true := by rw [bne, hs.1]; rfl
    have s4 : (f1.toList != []) = true := by rw [bne, hs.2]; rfl
    clear hs
    have HF := am (show fitZ d 0 f1 n2 n3 = 47 from fit_47 (by omega) (by rw [nd0 (.inl rfl)]; exact decide_eq_false (fun hh => h1 hh.1)))
    clear h1 h32
    go_enter Tryd.func37, Tryd.ntmps37
    go_wp2
    go_ret
    exact ⟨by rw [HF.out]; rfl, by repeat (first | exact Below.refl _ _ | apply pw_below_drewN | apply below_drew1 | apply below_alloc)⟩
   obtain rfl := str_empty f1 h1
   clear h1
   by_cases h3 : n3 = 0
   case neg =>
    have qn31 : (0 < n3) = True := eq_true (by omega)
    have qn32 : (n3 = 0) = False := eq_false (by omega)
    have qn33 : decide (0 < n3) = true := decide_eq_true (by omega)
    have qn34 : ((0 : Int) < (n3 : Int)) = True := eq_true (by omega)
    have HF := am (show fitZ d 0 ⟨#[]⟩ n2 n3 = 47 from fit_47 (by omega) (by rw [nd0 (.inl rfl)]; exact decide_eq_false (fun hh => h3 hh.2.2)))
    clear h32 h3
    go_enter Tryd.func37, Tryd.ntmps37
    go_wp2
    go_ret
    exact ⟨by rw [HF.out]; rfl, by repeat (first | exact Below.refl _ _ | apply pw_below_drewN | apply below_drew1 | apply below_alloc)⟩
   subst h3
   by_cases h2 : n2 = 0
   case neg =>
    have qn21 : (0 < n2) = True := eq_true (by omega)
    have qn22 : (n2 = 0) = False := eq_false (by omega)
    have qn23 : decide (0 < n2) = true := decide_eq_true (by omega)
    have qn24 : ((0 : Int) < (n2 : Int)) = True := eq_true (by omega)
    have HF := am (show fitZ d 0 ⟨#[]⟩ n2 0 = 47 from fit_47 (by omega) (by rw [nd0 (.inl rfl)]; exact decide_eq_false (fun hh => h2 hh.2.1)))
    clear h32 h2
    go_enter Tryd.func37, Tryd.ntmps37
    go_wp2
    go_ret
    exact ⟨by rw [HF.out]; rfl, by repeat (first | exact Below.refl _ _ | apply pw_below_drewN | apply below_drew1 | apply below_alloc)⟩
   subst h2
   have HF := am (show fitZ d 0 ⟨#[]⟩ 0 0 = 0 from fit_0 (by omega) (by rw [nd0 (.inl rfl)]; exact decide_eq_true ⟨rfl, rfl, rfl⟩))
   clear h32
   go_enter Tryd.func37, Tryd.ntmps37
   go_wp2
   go_ret
   exact ⟨by rw [HF.out]; rfl, by repeat (first | exact Below.refl _ _ | apply pw_below_drewN | apply below_drew1 | apply below_alloc)⟩
  ·subst h
   by_cases h1 : f1.size = 0
   case neg =>
    have hs := str_ne f1 h1
    have s1 := hs.1
    have s2 := hs.2
    have s3 : (f1.toList != (⟨#[]⟩ : ByteArray).toList) = true := by rw [bne, hs.1]; rfl
    have s4 : (f1.toList != []) = true := by rw [bne, hs.2]; rfl
    clear hs
    have HF := am (show fitZ d 1 f1 n2 n3 = 47 from fit_47 (by omega) (by rw [nd0 (.inr (.inl rfl))]; exact decide_eq_false (fun hh => h1 hh.1)))
    clear h1 h32
    go_enter Tryd.func37, Tryd.ntmps37
    go_wp2
    go_ret
    exact ⟨by rw [HF.out]; rfl, by repeat (first | exact Below.refl _ _ | apply pw_below_drewN | apply below_drew1 | apply below_alloc)⟩
   obtain rfl := str_empty f1 h1
   clear h1
   by_cases h3 : n3 = 0
   case neg =>
    have qn31 : (0 < n3) = True := eq_true (by omega)
    have qn32 : (n3 = 0) = False := eq_false (by omega)
    have qn33 : decide (0 < n3) = true := decide_eq_true (by omega)
    have qn34 : ((0 : Int) < (n3 : Int)) = True := eq_true (by omega)
    have HF := am (show fitZ d 1 ⟨#[]⟩ n2 n3 = 47 from fit_47 (by omega) (by rw [nd0 (.inr (.inl rfl))]; exact decide_eq_false (fun hh => h3 hh.2.2)))
    clear h32 h3
    go_enter Tryd.func37, Tryd.ntmps37
    go_wp2
    go_ret
    exact ⟨by rw [HF.out]; rfl, by repeat (first | exact Below.refl _ _ | apply pw_below_drewN | apply below_drew1 | apply below_alloc)⟩
   subst h3
   by_cases h2 : n2 = 0
   case neg =>
    have qn21 : (0 < n2) = True := eq_true (by omega)
    have qn22 : (n2 = 0) = False := eq_false (by omega)
    have qn23 : decide (0 < n2) = true := decide_eq_true (by omega)
    have qn24 : ((0 : Int) < (n2 : Int)) = True := eq_true (by omega)
    have HF := am (show fitZ d 1 ⟨#[]⟩ n2 0 = 47 from fit_47 (by omega) (by rw [nd0 (.inr (.inl rfl))]; exact decide_eq_false (fun hh => h2 hh.2.1)))
    clear h32 h2
    go_enter Tryd.func37, Tryd.ntmps37
    go_wp2
    go_ret
    exact ⟨by rw [HF.out]; rfl, by repeat (first | exact Below.refl _ _ | apply pw_below_drewN | apply below_drew1 | apply below_alloc)⟩
   subst h2
   have HF := am (show fitZ d 1 ⟨#[]⟩ 0 0 = 0 from fit_0 (by omega) (by rw [nd0 (.inr (.inl rfl))]; exact decide_eq_true ⟨rfl, rfl, rfl⟩))
   clear h32
   go_enter Tryd.func37, Tryd.ntmps37
   go_wp2
   go_ret
   exact ⟨by rw [HF.out]; rfl, by repeat (first | exact Below.refl _ _ | apply pw_below_drewN | apply below_drew1 | apply below_alloc)⟩
  ·subst h
   by_cases h1 : f1.size = 0
   case neg =>
    have hs := str_ne f1 h1
    have s1 := hs.1
    have s2 := hs.2
    have s3 : (f1.toList != (⟨#[]⟩ : ByteArray).toList) = true := by rw [bne, hs.1]; rfl
    have s4 : (f1.toList != []) = true := by rw [bne, hs.2]; rfl
    clear hs
    have HF := am (show fitZ d 2 f1 n2 n3 = 47 from fit_47 (by omega) (by rw [nd0 (.inr (.inr rfl))]; exact decide_eq_false (fun hh => h1 hh.1)))
    clear h1 h32
    go_enter Tryd.func37, Tryd.ntmps37
    go_wp2
    go_ret
    exact ⟨by rw [HF.out]; rfl, by repeat (first | exact Below.refl _ _ | apply pw_below_drewN | apply below_drew1 | apply below_alloc)⟩
   obtain rfl := str_empty f1 h1
   clear h1
   by_cases h3 : n3 = 0
   case neg =>
    have qn31 : (0 < n3) = True := eq_true (by omega)
    have qn32 : (n3 = 0) = False := eq_false (by omega)
    have qn33 : decide (0 < n3) = true := decide_eq_true (by omega)
    have qn34 : ((0 : Int) < (n3 : Int)) = True := eq_true (by omega)
    have HF := am (show fitZ d 2 ⟨#[]⟩ n2 n3 = 47 from fit_47 (by omega) (by rw [nd0 (.inr (.inr rfl))]; exact decide_eq_false (fun hh => h3 hh.2.2)))
    clear h32 h3
    go_enter Tryd.func37, Tryd.ntmps37
    go_wp2
    go_ret
    exact ⟨by rw [HF.out]; rfl, by repeat (first | exact Below.refl _ _ | apply pw_below_drewN | apply below_drew1 | apply below_alloc)⟩
   subst h3
   by_cases h2 : n2 = 0
   case neg =>
    have qn21 : (0 < n2) = True := eq_true (by omega)
    have qn22 : (n2 = 0) = False := eq_false (by omega)
    have qn23 : decide (0 < n2) = true := decide_eq_true (by omega)
    have qn24 : ((0 : Int) < (n2 : Int)) = True := eq_true (by omega)
    have HF := am (show fitZ d 2 ⟨#[]⟩ n2 0 = 47 from fit_47 (by omega) (by rw [nd0 (.inr (.inr rfl))]; exact decide_eq_false (fun hh => h2 hh.2.1)))
    clear h32 h2
    go_enter Tryd.func37, Tryd.ntmps37
    go_wp2
    go_ret
    exact ⟨by rw [HF.out]; rfl, by repeat (first | exact Below.refl _ _ | apply pw_below_drewN | apply below_drew1 | apply below_alloc)⟩
   subst h2
   have HF := am (show fitZ d 2 ⟨#[]⟩ 0 0 = 0 from fit_0 (by omega) (by rw [nd0 (.inr (.inr rfl))]; exact decide_eq_true ⟨rfl, rfl, rfl⟩))
   clear h32
   go_enter Tryd.func37, Tryd.ntmps37
   go_wp2
   go_ret
   exact ⟨by rw [HF.out]; rfl, by repeat (first | exact Below.refl _ _ | apply pw_below_drewN | apply below_drew1 | apply below_alloc)⟩
  ·subst h
   by_cases h3 : n3 = 0
   case neg =>
    have qn31 : (0 < n3) = True := eq_true (by omega)
    have qn32 : (n3 = 0) = False := eq_false (by omega)
    have qn33 : decide (0 < n3) = true := decide_eq_true (by omega)
    have qn34 : ((0 : Int) < (n3 : Int)) = True := eq_true (by omega)
    have HF := am (show fitZ d 3 f1 n2 n3 = 47 from fit_47 (by omega) (by rw [nd3]; exact decide_eq_false (fun hh => h3 hh.2.2.2)))
    clear h32 h3
    go_enter Tryd.func37, Tryd.ntmps37
    go_wp2
    go_ret
    exact ⟨by rw [HF.out]; rfl, by repeat (first | exact Below.refl _ _ | apply pw_below_drewN | apply below_drew1 | apply below_alloc)⟩
   subst h3
   by_cases h2 : n2 = 0
   case neg =>
    have qn21 : (0 < n2) = True := eq_true (by omega)
    have qn22 : (n2 = 0) = False := eq_false (by omega)
    have qn23 : decide (0 < n2) = true := decide_eq_true (by omega)
    have qn24 : ((0 : Int) < (n2 : Int)) = True := eq_true (by omega)
    have HF := am (show fitZ d 3 f1 n2 0 = 47 from fit_47 (by omega) (by rw [nd3]; exact decide_eq_false (fun hh => h2 hh.2.2.1)))
    clear h32 h2
    go_enter Tryd.func37, Tryd.ntmps37
    go_wp2
    go_ret
    exact ⟨by rw [HF.out]; rfl, by repeat (first | exact Below.refl _ _ | apply pw_below_drewN | apply below_drew1 | apply below_alloc)⟩
   subst h2
   by_cases hl : litF f1.data.toList = (f1.size, true)
   ·have HL := am ((lit_eq f1).2 hl)
    have HF := am (show fitZ d 3 f1 0 0 = 0 from fit_0 (by omega) (by rw [nd3]; exact decide_eq_true ⟨by rw [hl], by rw [hl], rfl, rfl⟩))
    clear h32 hl
    go_enter Tryd.func37, Tryd.ntmps37
    go_wp2_with (go_at_call 59; (with_reducible refine (lit_calls f1 _ hsz).mono ?_); rintro e w1 ⟨rfl, rfl⟩; rw [HL.out])
    go_ret
    exact ⟨by rw [HF.out]; rfl, by repeat (first | exact Below.refl _ _ | apply pw_below_drewN | apply below_drew1 | apply below_alloc)⟩
   ·have HL := am (show litR f1.data.toList 0 = false from Bool.eq_false_iff.2 (fun h => hl ((lit_eq f1).1 h)))
    have HF := am (show fitZ d 3 f1 0 0 = 47 from fit_47 (by omega) (by rw [nd3]; exact decide_eq_false (fun hh => hl (Prod.ext hh.2.1 hh.1))))
    clear h32 hl
    go_enter Tryd.func37, Tryd.ntmps37
    go_wp2_with (go_at_call 59; (with_reducible refine (lit_calls f1 _ hsz).mono ?_); rintro e w1 ⟨rfl, rfl⟩; rw [HL.out])
    go_ret
    exact ⟨by rw [HF.out]; rfl, by repeat (first | exact Below.refl _ _ | apply pw_below_drewN | apply below_drew1 | apply below_alloc)⟩
  ·subst h
   by_cases h3 : n3 = 0
   case neg =>
    have qn31 : (0 < n3) = True := eq_true (by omega)
    have qn32 : (n3 = 0) = False := eq_false (by omega)
    have qn33 : decide (0 < n3) = true := decide_eq_true (by omega)
    have qn34 : ((0 : Int) < (n3 : Int)) = True := eq_true (by omega)
    have HF := am (show fitZ d 4 f1 n2 n3 = 47 from fit_47 (by omega) (by rw [nd4]; exact decide_eq_false (fun hh => h3 hh.2.2)))
    clear h32 h3
    go_enter Tryd.func37, Tryd.ntmps37
    go_wp2
    go_ret
    exact ⟨by rw [HF.out]; rfl, by repeat (first | exact Below.refl _ _ | apply pw_below_drewN | apply below_drew1 | apply below_alloc)⟩
   subst h3
   by_cases h2 : n2 = 0
   case neg =>
    have qn21 : (0 < n2) = True := eq_true (by omega)
    have qn22 : (n2 = 0) = False := eq_false (by omega)
    have qn23 : decide (0 < n2) = true := decide_eq_true (by omega)
    have qn24 : ((0 : Int) < (n2 : Int)) = True := eq_true (by omega)
    have HF := am (show fitZ d 4 f1 n2 0 = 47 from fit_47 (by omega) (by rw [nd4]; exact decide_eq_false (fun hh => h2 hh.2.1)))
    clear h32 h2
    go_enter Tryd.func37, Tryd.ntmps37
    go_wp2
    go_ret
    exact ⟨by rw [HF.out]; rfl, by repeat (first | exact Below.refl _ _ | apply pw_below_drewN | apply below_drew1 | apply below_alloc)⟩
   subst h2
   by_cases hl : validD f1.data.toList = true
   ·have HL := am hl
    have HF := am (show fitZ d 4 f1 0 0 = 0 from fit_0 (by omega) (by rw [nd4]; exact decide_eq_true ⟨hl, rfl, rfl⟩))
    clear h32 hl
    go_enter Tryd.func37, Tryd.ntmps37
    go_wp2_with (go_at_call 38; (with_reducible refine (clean_calls f1 _ hsz).mono ?_); rintro e w1 ⟨rfl, rfl⟩; rw [HL.out])
    go_ret
    exact ⟨by rw [HF.out]; rfl, by repeat (first | exact Below.refl _ _ | apply pw_below_drewN | apply below_drew1 | apply below_alloc)⟩
   ·have HL := am (Bool.eq_false_iff.2 hl)
    have HF := am (show fitZ d 4 f1 0 0 = 47 from fit_47 (by omega) (by rw [nd4]; exact decide_eq_false (fun hh => hl hh.1)))
    clear h32 hl
    go_enter Tryd.func37, Tryd.ntmps37
    go_wp2_with (go_at_call 38; (with_reducible refine (clean_calls f1 _ hsz).mono ?_); rintro e w1 ⟨rfl, rfl⟩; rw [HL.out])
    go_ret
    exact ⟨by rw [HF.out]; rfl, by repeat (first | exact Below.refl _ _ | apply pw_below_drewN | apply below_drew1 | apply below_alloc)⟩
  ·subst h
   by_cases h32' : (32 : Int) ≤ d
   case pos =>
    have d2 : decide ((32 : Int) ≤ d) = true := decide_eq_true h32'
    have HF := am (show fitZ d 5 f1 n2 n3 = 46 from fit_46 (.inl ⟨by omega, h32'⟩))
    clear h32 h32'
    go_enter Tryd.func37, Tryd.ntmps37
    go_wp2
    go_ret
    exact ⟨by rw [HF.out]; rfl, by repeat (first | exact Below.refl _ _ | apply pw_below_drewN | apply below_drew1 | apply below_alloc)⟩
   have d2 : decide ((32 : Int) ≤ d) = false := decide_eq_false h32'
   by_cases h1 : f1.size = 0
   case neg =>
    have hs := str_ne f1 h1
    have s1 := hs.1
    have s2 := hs.2
    have s3 : (f1.toList != (⟨#[]⟩ : ByteArray).toList) = true := by rw [bne, hs.1]; rfl
    have s4 : (f1.toList != []) = true := by rw [bne, hs.2]; rfl
    clear hs
    have HF := am (show fitZ d 5 f1 n2 n3 = 47 from fit_47 (by omega) (by rw [nd5]; exact decide_eq_false (fun hh => h1 hh.1)))
    clear h1 h32 h32'
    go_enter Tryd.func37, Tryd.ntmps37
    go_wp2
    go_ret
    exact ⟨by rw [HF.out]; rfl, by repeat (first | exact Below.refl _ _ | apply pw_below_drewN | apply below_drew1 | apply below_alloc)⟩
   obtain rfl := str_empty f1 h1
   clear h1
   by_cases h2 : n2 = 0
   case neg =>
    have qn21 : (0 < n2) = True := eq_true (by omega)
    have qn22 : (n2 = 0) = False := eq_false (by omega)
    have qn23 : decide (0 < n2) = true := decide_eq_true (by omega)
    have qn24 : ((0 : Int) < (n2 : Int)) = True := eq_true (by omega)
    have HF := am (show fitZ d 5 ⟨#[]⟩ n2 n3 = 47 from fit_47 (by omega) (by rw [nd5]; exact decide_eq_false (fun hh => h2 hh.2)))
    clear h32 h32' h2
    go_enter Tryd.func37, Tryd.ntmps37
    go_wp2
    go_ret
    exact ⟨by rw [HF.out]; rfl, by repeat (first | exact Below.refl _ _ | apply pw_below_drewN | apply below_drew1 | apply below_alloc)⟩
   subst h2
   have HF := am (show fitZ d 5 ⟨#[]⟩ 0 n3 = 0 from fit_0 (by omega) (by rw [nd5]; exact decide_eq_true ⟨rfl, rfl⟩))
   clear h32 h32'
   go_enter Tryd.func37, Tryd.ntmps37
   go_wp2
   go_ret
   exact ⟨by rw [HF.out]; rfl, by repeat (first | exact Below.refl _ _ | apply pw_below_drewN | apply below_drew1 | apply below_alloc)⟩
  ·subst h
   by_cases h32' : (32 : Int) ≤ d
   case pos =>
    have d2 : decide ((32 : Int) ≤ d) = true := decide_eq_true h32'
    have HF := am (show fitZ d 6 f1 n2 n3 = 46 from fit_46 (.inl ⟨by omega, h32'⟩))
    clear h32 h32'
    go_enter Tryd.func37, Tryd.ntmps37
    go_wp2
    go_ret
    exact ⟨by rw [HF.out]; rfl, by repeat (first | exact Below.refl _ _ | apply pw_below_drewN | apply below_drew1 | apply below_alloc)⟩
   have d2 : decide ((32 : Int) ≤ d) = false := decide_eq_false h32'
   by_cases h1 : f1.size = 0
   case neg =>
    have hs := str_ne f1 h1
    have s1 := hs.1
    have s2 := hs.2
    have s3 : (f1.toList != (⟨#[]⟩ : ByteArray).toList) = true := by rw [bne, hs.1]; rfl
    have s4 : (f1.toList != []) = true := by rw [bne, hs.2]; rfl
    clear hs
    have HF := am (show fitZ d 6 f1 n2 n3 = 47 from fit_47 (by omega) (by rw [nd6]; exact decide_eq_false (fun hh => h1 hh.1)))
    clear h1 h32 h32'
    go_enter Tryd.func37, Tryd.ntmps37
    go_wp2
    go_ret
    exact ⟨by rw [HF.out]; rfl, by repeat (first | exact Below.refl _ _ | apply pw_below_drewN | apply below_drew1 | apply below_alloc)⟩
   obtain rfl := str_empty f1 h1
   clear h1
   by_cases hl : n2 = n3
   ·subst hl
    have l1 : ((n2 : Int) != (n2 : Int)) = false := by simp
    have HF := am (show fitZ d 6 ⟨#[]⟩ n2 n2 = 0 from fit_0 (by omega) (by rw [nd6]; exact decide_eq_true ⟨rfl, rfl⟩))
    clear h32 h32'
    go_enter Tryd.func37, Tryd.ntmps37
    go_wp2
    go_ret
    exact ⟨by rw [HF.out]; rfl, by repeat (first | exact Below.refl _ _ | apply pw_below_drewN | apply below_drew1 | apply below_alloc)⟩
   ·have l1 : ((n2 : Int) != (n3 : Int)) = true := bne_iff_ne.mpr (by omega)
    have l2 : (n2 == n3) = false := beq_eq_false_iff_ne.mpr hl
    have HF := am (show fitZ d 6 ⟨#[]⟩ n2 n3 = 47 from fit_47 (by omega) (by rw [nd6]; exact decide_eq_false (fun hh => hl hh.2)))
    clear h32 h32' hl
    go_enter Tryd.func37, Tryd.ntmps37
    go_wp2
    go_ret
    exact ⟨by rw [HF.out]; rfl, by repeat (first | exact Below.refl _ _ | apply pw_below_drewN | apply below_drew1 | apply below_alloc)⟩
def NmOK (ns : List ByteArray) (i : Nat) : Prop := (∀ s, s ∈ ns.take i → validD s.data.toList = true) ∧ ((ns.take i).map (fun b => b.data.toList)).Nodup
theorem NmOK.zero (ns : List ByteArray) : NmOK ns 0 := by
 refine ⟨fun s hs => ?_, ?_⟩
 ·rw [List.take_zero] at hs; cases hs
 ·rw [List.take_zero]; exact List.nodup_nil
theorem NmOK.next {ns : List ByteArray} {i : Nat} (h : NmOK ns i) (hi : i < ns.length) (hv : validD (nmAt ns i).data.toList = true) (hd : ∀ m, m < i → ¬ (nmAt ns m).data.toList = (nmAt ns i).data.toList) : NmOK ns (i + 1) := by
 have e := take_nm ns i hi
 refine ⟨fun s hs => ?_, ?_⟩
 ·rw [e] at hs
  rcases List.mem_append.1 hs with hs | hs
  ·exact h.1 s hs
  ·rw [List.mem_singleton] at hs; rw [hs]; exact hv
 ·rw [e, List.map_append, List.nodup_append]
  refine ⟨h.2, by simp, fun a ha b hb => ?_⟩
  simp only [List.map_cons, List.map_nil, List.mem_singleton] at hb
  rw [hb]
  rintro rfl
  obtain ⟨s, hs, he⟩ := List.mem_map.1 ha
  obtain ⟨m, hm, rfl⟩ := List.getElem_of_mem hs
  rw [List.length_take] at hm
  refine hd m (by omega) ?_
  rw [nmAt_eq ns m (by omega)]
  rw [List.getElem_take] at he
  exact he
def SEnd (P : Prop) (W : World) (e : Ending) (W' : World) : Prop := ∃ t : Bool, e = .returned (.bool t) ∧ (t = true ↔ P) ∧ Below W.heap.size W W'
theorem says_boxes (W : World) (o1 o2 : Obj) : Below W.heap.size W ((W.alloc o1).alloc o2) ∧ ((W.alloc o1).alloc o2).heap[W.heap.size]? = some o1 ∧ ((W.alloc o1).alloc o2).heap[W.heap.size + 1]? = some o2 := by
 have e1 : (W.alloc o1).heap.size = W.heap.size + 1 := by simp
 have h2 := heap_alloc_new (W.alloc o1) o2
 rw [e1] at h2
 exact ⟨below_alloc (below_alloc (Below.refl _ _) _) _, Below.alloc_at (heap_alloc_new W o1), h2⟩
theorem beq_bytes {a b : ByteArray} (h : ¬ a = b) : (a.toList == b.toList) = false := by
 rw [toList_data, toList_data]; exact beq_eq_false_iff_ne.mpr (fun e => h (bytes_ext e))
theorem send_no {P : Prop} {W : World} {f : Nat} {args : Array Value} (h : ¬ P) (hc : Calls Tryd.prog f args W (fun e W' => e = .returned (.bool false) ∧ Below W.heap.size W W')) : Calls Tryd.prog f args W (SEnd P W) := by
 refine hc.mono ?_
 rintro e W' ⟨he, hb⟩
 exact ⟨false, he, ⟨fun h2 => (by cases h2), fun h2 => absurd h2 h⟩, hb⟩
theorem send_iff {P Q : Prop} {W : World} {f : Nat} {args : Array Value} (h : Q ↔ P) (hc : Calls Tryd.prog f args W (SEnd P W)) : Calls Tryd.prog f args W (SEnd Q W) := by
 refine hc.mono ?_
 rintro e W' ⟨t, he, ht, hb⟩
 exact ⟨t, he, ht.trans h.symm, hb⟩
set_option maxRecDepth 1000000 in
set_option maxHeartbeats 8000000 in
theorem requal_no0 (f0 g0 : Int) (f1 g1 : ByteArray) (n2 n3 m2 m3 : Nat) (A2 A3 B2 B3 : Option Addr) (c2 c3 e2 e3 : Nat) (W : World) (h : ¬ f0 = g0) :
  Calls Tryd.prog 15 #[jVal f0 f1 A2 A3 n2 c2 n3 c3, jVal g0 g1 B2 B3 m2 e2 m3 e3] W (fun e W' => e = .returned (.bool false) ∧ Below W.heap.size W W') := by
 have k1 : (f0 != g0) = true := bne_iff_ne.mpr h
 obtain ⟨F0, F1, F2⟩ := says_boxes W (.cells #[.int .i64 f0, .string f1, .slice A2 n2 c2, .slice A3 n3 c3] 25) (.cells #[.int .i64 g0, .string g1, .slice B2 m2 e2, .slice B3 m3 e3] 25)
 have HS0 := am F0
 clear F0 F1 F2 h
 go_enter Tryd.func15, Tryd.ntmps15
 go_wp2
 go_ret
 exact ⟨rfl, by repeat (first | exact HS0.out | apply pw_below_drewN | apply below_drew1)⟩
set_option maxRecDepth 1000000 in
set_option maxHeartbeats 8000000 in
theorem requal_no1 (f0 : Int) (f1 g1 : ByteArray) (n2 n3 m2 m3 : Nat) (A2 A3 B2 B3 : Option Addr) (c2 c3 e2 e3 : Nat) (W : World) (h : ¬ f1 = g1) :
  Calls Tryd.prog 15 #[jVal f0 f1 A2 A3 n2 c2 n3 c3, jVal f0 g1 B2 B3 m2 e2 m3 e3] W (fun e W' => e = .returned (.bool false) ∧ Below W.heap.size W W') := by
 have k1 : (f1.toList == g1.toList) = false := beq_bytes h
 have k2 : (f1.toList != g1.toList) = true := by rw [bne, k1]; rfl
 obtain ⟨F0, F1, F2⟩ := says_boxes W (.cells #[.int .i64 f0, .string f1, .slice A2 n2 c2, .slice A3 n3 c3] 25) (.cells #[.int .i64 f0, .string g1, .slice B2 m2 e2, .slice B3 m3 e3] 25)
 have HS0 := am F0
 clear F0 F1 F2 h
 go_enter Tryd.func15, Tryd.ntmps15
 go_wp2
 go_ret
 exact ⟨rfl, by repeat (first | exact HS0.out | apply pw_below_drewN | apply below_drew1)⟩
set_option maxRecDepth 1000000 in
set_option maxHeartbeats 8000000 in
theorem requal_no2 (f0 : Int) (f1 : ByteArray) (n2 n3 m2 m3 : Nat) (A2 A3 B2 B3 : Option Addr) (c2 c3 e2 e3 : Nat) (W : World) (h : ¬ n2 = m2) :
  Calls Tryd.prog 15 #[jVal f0 f1 A2 A3 n2 c2 n3 c3, jVal f0 f1 B2 B3 m2 e2 m3 e3] W (fun e W' => e = .returned (.bool false) ∧ Below W.heap.size W W') := by
 have k3 : ((n2 : Int) != (m2 : Int)) = true := bne_iff_ne.mpr (fun e => h (Int.ofNat.inj e))
 have k4 : (n2 != m2) = true := bne_iff_ne.mpr h
 obtain ⟨F0, F1, F2⟩ := says_boxes W (.cells #[.int .i64 f0, .string f1, .slice A2 n2 c2, .slice A3 n3 c3] 25) (.cells #[.int .i64 f0, .string f1, .slice B2 m2 e2, .slice B3 m3 e3] 25)
 have HS0 := am F0
 clear F0 F1 F2 h
 go_enter Tryd.func15, Tryd.ntmps15
 go_wp2
 go_ret
 exact ⟨rfl, by repeat (first | exact HS0.out | apply pw_below_drewN | apply below_drew1)⟩
set_option maxRecDepth 1000000 in
set_option maxHeartbeats 8000000 in
theorem requal_no3 (f0 : Int) (f1 : ByteArray) (n2 n3 m2 m3 : Nat) (A2 A3 B2 B3 : Option Addr) (c2 c3 e2 e3 : Nat) (W : World) (h2 : n2 = m2) (h : ¬ n3 = m3) :
  Calls Tryd.prog 15 #[jVal f0 f1 A2 A3 n2 c2 n3 c3, jVal f0 f1 B2 B3 m2 e2 m3 e3] W (fun e W' => e = .returned (.bool false) ∧ Below W.heap.size W W') := by
 have k1 : ((n2 : Int) != (m2 : Int)) = false := bne_eq_false_iff_eq.mpr (by rw [h2])
 have k2 : (n2 != m2) = false := bne_eq_false_iff_eq.mpr h2
 have k3 : ((n3 : Int) != (m3 : Int)) = true := bne_iff_ne.mpr (fun e => h (Int.ofNat.inj e))
 have k4 : (n3 != m3) = true := bne_iff_ne.mpr h
 obtain ⟨F0, F1, F2⟩ := says_boxes W (.cells #[.int .i64 f0, .string f1, .slice A2 n2 c2, .slice A3 n3 c3] 25) (.cells #[.int .i64 f0, .string f1, .slice B2 m2 e2, .slice B3 m3 e3] 25)
 have HS0 := am F0
 clear F0 F1 F2 h h2
 go_enter Tryd.func15, Tryd.ntmps15
 go_wp2
 go_ret
 exact ⟨rfl, by repeat (first | exact HS0.out | apply pw_below_drewN | apply below_drew1)⟩
def EQC (a : J) : Prop := ∀ (b : J) (A2 A3 B2 B3 : Option Addr) (c2 c3 e2 e3 : Nat) (W : World), Kd.string.C W A2 a.f2.length a.f2 → k25.C W A3 a.f3.length a.f3 → Kd.string.C W B2 b.f2.length b.f2 → k25.C W B3 b.f3.length b.f3 →
 Calls Tryd.prog 15 #[jVal a.f0 a.f1 A2 A3 a.f2.length c2 a.f3.length c3, jVal b.f0 b.f1 B2 B3 b.f2.length e2 b.f3.length e3] W (SEnd (a = b) W)
theorem names_eq {ns ms : List ByteArray} (hl : ns.length = ms.length) (h : ∀ q : Nat, q < ns.length → (nmAt ms q).data.toList = (nmAt ns q).data.toList) : ns = ms := by
 refine List.ext_getElem hl (fun q h1 h2 => ?_)
 have := h q h1
 rw [nmAt_eq ms q h2, nmAt_eq ns q h1] at this
 exact (bytes_ext this).symm
theorem items_eq {ys zs : List J} (hl : ys.length = zs.length) (h : ∀ q : Nat, q < ys.length → rd_T25 ys q = rd_T25 zs q) : ys = zs := by
 refine List.ext_getElem hl (fun q h1 h2 => ?_)
 have := h q h1
 rwa [rd_nat ys q h1, rd_nat zs q h2] at this
set_option maxRecDepth 1000000 in
set_option maxHeartbeats 8000000 in
theorem requal_go (L : Nat) (hL : L ≤ 4611686018427387904) (f0 : Int) (f1 : ByteArray) (ns ms : List ByteArray) (ys zs : List J) (A2 A3 B2 B3 : Option Addr) (c2 c3 e2 e3 : Nat) (W : World) (hn : ns.length = ms.length) (hl : ys.length = zs.length) (hsn : ns.length ≤ L) (hsa : ys.length ≤ L)
  (IH : ∀ y, y ∈ ys → EQC y) (hC2 : Kd.string.C W A2 ns.length ns) (hC3 : k25.C W A3 ys.length ys) (hD2 : Kd.string.C W B2 ms.length ms) (hD3 : k25.C W B3 zs.length zs) :
  Calls Tryd.prog 15 #[jVal f0 f1 A2 A3 ns.length c2 ys.length c3, jVal f0 f1 B2 B3 ms.length e2 zs.length e3] W (SEnd (ns = ms ∧ ys = zs) W) := by
 obtain ⟨F0, F1, F2⟩ := says_boxes W (.cells #[.int .i64 f0, .string f1, .slice A2 ns.length c2, .slice A3 ys.length c3] 25) (.cells #[.int .i64 f0, .string f1, .slice B2 ms.length e2, .slice B3 zs.length e3] 25)
 have HNA := am (Kd.C_F Kd.heap_string hC2)
 have HNB := am (Kd.C_F Kd.heap_string hD2)
 have HFA := am (Kd.C_F heap25 hC3)
 have HFB := am (Kd.C_F heap25 hD3)
 have HIH := am (fun y hy => IH y hy)
 have HNN := am hn
 have HLL := am hl
 have HS0 := am F0
 have HS1 := am F1
 have HS2 := am F2
 have k1 : ((ns.length : Int) != (ms.length : Int)) = false := bne_eq_false_iff_eq.mpr (by rw [hn])
 have k2 : (ns.length != ms.length) = false := bne_eq_false_iff_eq.mpr hn
 have k3 : ((ys.length : Int) != (zs.length : Int)) = false := bne_eq_false_iff_eq.mpr (by rw [hl])
 have k4 : (ys.length != zs.length) = false := bne_eq_false_iff_eq.mpr hl
 clear hC2 hC3 hD2 hD3 IH hn hl F0 F1 F2
 go_enter Tryd.func15, Tryd.ntmps15
 go_wp2
 go_loopg [5] (ns.length + 1) (fun g v5 wr => ∃ i : Nat, v5 = .int .i64 (i : Int) ∧ i ≤ ns.length ∧ ns.length + 1 ≤ i + g ∧ Aside0 (wr.heap[W.heap.size]? = some (.cells #[.int .i64 f0, .string f1, .slice A2 ns.length c2, .slice A3 ys.length c3] 25 (0, 0))) ∧ Aside0 (wr.heap[W.heap.size + 1]? = some (.cells #[.int .i64 f0, .string f1, .slice B2 ms.length e2, .slice B3 zs.length e3] 25 (0, 0))) ∧ Aside0 (Below W.heap.size W wr) ∧ Aside0 (∀ q : Nat, q < i → (nmAt ms q).data.toList = (nmAt ns q).data.toList))
 case atStart => exact ⟨0, rfl, by omega, by omega, HS1, HS2, HS0, ⟨fun q hq => by omega⟩⟩
 case round =>
  obtain ⟨i, rfl, hi, hg, HXA, HXB, HB, HQ⟩ := hrel
  clear HS0 HS1 HS2
  have x2 := (blk_cell HXA.out 2).trans rfl
  have y2 := (blk_cell HXB.out 2).trans rfl
  by_cases hlt : i < ns.length
  ·cases gk with
   | zero => omega
   | succ g =>
    have p1 : (0 ≤ (i : Int)) = True := eq_true (by omega)
    have p2' : ((i : Int) < (ns.length : Int)) = True := eq_true (by omega)
    have p4 : ((i : Int) < (ms.length : Int)) = True := eq_true (by have := HNN.out; omega)
    have hwn := wrap_next i ns.length hlt (by omega)
    have HWN := am hwn
    clear hwn
    obtain ⟨na, ea, hna⟩ := name_at HNA.out i hlt
    subst ea
    obtain ⟨nb, eb, hnb⟩ := name_at HNB.out i (by have := HNN.out; omega)
    subst eb
    have ca := CellOf.at hna HB.out
    have cb := CellOf.at hnb HB.out
    clear hna hnb
    by_cases he : (nmAt ns i).data.toList = (nmAt ms i).data.toList
    case neg =>
     have h1 : ((nmAt ns i).toList == (nmAt ms i).toList) = false := by rw [toList_data, toList_data]; exact beq_eq_false_iff_ne.mpr he
     have h2 : ((nmAt ns i).toList != (nmAt ms i).toList) = true := by rw [bne, h1]; rfl
     have HNO := am (show ¬ (ns = ms ∧ ys = zs) from fun h => he (by rw [h.1]))
     clear he
     go_wp2
     go_quiet (fail)
     go_wp2
     go_ret
     exact ⟨false, rfl, ⟨fun h => (by cases h), fun h => absurd h HNO.out⟩, by repeat (first | exact HB.out | apply pw_below_drewN | apply below_drew1)⟩
    have h1 : ((nmAt ns i).toList == (nmAt ms i).toList) = true := by rw [toList_data, toList_data]; exact beq_iff_eq.mpr he
    have h2 : ((nmAt ns i).toList != (nmAt ms i).toList) = false := by rw [bne, h1]; rfl
    have HQ2 := am (show ∀ q : Nat, q < i + 1 → (nmAt ms q).data.toList = (nmAt ns q).data.toList from fun q hq => by
     by_cases h : q < i
     ·exact HQ.out q h
     ·obtain rfl : q = i := by omega
      exact he.symm)
    clear he
    go_wp2
    go_quiet (fail)
    go_wp2
    go_roundg g
    case measure => omega
    case rel => exact ⟨i + 1, (by first | exact congrArg (Value.int .i64) HWN.out | exact congrArg (Value.int .i64) (show (i : Int) + 1 = ((i + 1 : Nat) : Int) by omega)), by omega, by omega, ⟨by repeat (first | exact HXA.out | refine blk_drewN ?_ _ | refine blk_drew ?_)⟩, ⟨by repeat (first | exact HXB.out | refine blk_drewN ?_ _ | refine blk_drew ?_)⟩, ⟨by repeat (first | exact HB.out | apply pw_below_drewN | apply below_drew1)⟩, HQ2⟩
  have p2' : ((i : Int) < (ns.length : Int)) = False := eq_false (by omega)
  have HNE := am (show ns = ms from names_eq HNN.out (fun q hq => HQ.out q (by omega)))
  have HXA0 := HXA
  have HXB0 := HXB
  have HB0 := HB
  clear HQ HXA HXB HB y2
  go_wp2
  go_loopg [6] (ys.length + 1) (fun g v6 wr => ∃ i : Nat, v6 = .int .i64 (i : Int) ∧ i ≤ ys.length ∧ ys.length + 1 ≤ i + g ∧ Aside0 (wr.heap[W.heap.size]? = some (.cells #[.int .i64 f0, .string f1, .slice A2 ns.length c2, .slice A3 ys.length c3] 25 (0, 0))) ∧ Aside0 (wr.heap[W.heap.size + 1]? = some (.cells #[.int .i64 f0, .string f1, .slice B2 ms.length e2, .slice B3 zs.length e3] 25 (0, 0))) ∧ Aside0 (Below W.heap.size W wr) ∧ Aside0 (∀ q : Nat, q < i → rd_T25 ys q = rd_T25 zs q))
  case atStart => exact ⟨0, rfl, by omega, by omega, HXA0, HXB0, HB0, ⟨fun q hq => by omega⟩⟩
  case round =>
   clear hlt p2' hi hg x2 HXA0 HXB0 HB0
   rename_i i0 _ _ _ _ _
   obtain ⟨i, rfl, hi, hg, HXA, HXB, HB, HQ⟩ := hrel
   have x3 := (blk_cell HXA.out 3).trans rfl
   by_cases hlt : i < ys.length
   ·cases gk with
    | zero => omega
    | succ g =>
     have hkb : i < zs.length := by have := HLL.out; omega
     have HLT := am hlt
     have p1 : (0 ≤ (i : Int)) = True := eq_true (by omega)
     have p2' : ((i : Int) < (ys.length : Int)) = True := eq_true (by omega)
     have p3 : ((i : Int) < (zs.length : Int)) = True := eq_true (by omega)
     have hwn := wrap_next i ys.length hlt (by omega)
     have HWN := am hwn
     clear hwn
     obtain ⟨ada, P2, p2, P3, p3, e9, u0, u1, u2, u3, _, ga2, _, ga3⟩ := F_elem HFA.out i hlt
     subst e9
     obtain ⟨adb, Q2, q2, Q3, q3, e9, v0, v1, v2, v3, _, gb2, _, gb3⟩ := F_elem HFB.out i hkb
     subst e9
     have HA0 := am (show CellOf W _ _ from u0)
     have HA1 := am (show CellOf W _ _ from u1)
     have HA2 := am (show CellOf W _ _ from u2)
     have HA3 := am (show CellOf W _ _ from u3)
     have HC0 := am (show CellOf W _ _ from v0)
     have HC1 := am (show CellOf W _ _ from v1)
     have HC2 := am (show CellOf W _ _ from v2)
     have HC3 := am (show CellOf W _ _ from v3)
     have HGA2 := am ga2
     have HGA3 := am ga3
     have HGB2 := am gb2
     have HGB3 := am gb3
     clear u0 u1 u2 u3 v0 v1 v2 v3 ga2 ga3 gb2 gb3
     go_wp2
     refine start_ (n := 12) (S := fun w' => w'.cell? ⟨W.heap.size, 3, none⟩ = some (.slice (some ada) ys.length c3) ∧ w'.cell? ⟨W.heap.size + 1, 3, none⟩ = some (.slice (some adb) zs.length e3) ∧ w'.cell? (ada.add (i * 4)) = some (.int .i64 (rd_T25 ys i).f0) ∧ w'.cell? ⟨(ada.add (i * 4)).block, (ada.add (i * 4)).off + 1, none⟩ = some (.string (rd_T25 ys i).f1) ∧ w'.cell? ⟨(ada.add (i * 4)).block, (ada.add (i * 4)).off + 2, none⟩ = some (.slice P2 (rd_T25 ys i).f2.length p2) ∧ w'.cell? ⟨(ada.add (i * 4)).block, (ada.add (i * 4)).off + 3, none⟩ = some (.slice P3 (rd_T25 ys i).f3.length p3) ∧ w'.cell? (adb.add (i * 4)) = some (.int .i64 (rd_T25 zs i).f0) ∧ w'.cell? ⟨(adb.add (i * 4)).block, (adb.add (i * 4)).off + 1, none⟩ = some (.string (rd_T25 zs i).f1) ∧ w'.cell? ⟨(adb.add (i * 4)).block, (adb.add (i * 4)).off + 2, none⟩ = some (.slice Q2 (rd_T25 zs i).f2.length q2) ∧ w'.cell? ⟨(adb.add (i * 4)).block, (adb.add (i * 4)).off + 3, none⟩ = some (.slice Q3 (rd_T25 zs i).f3.length q3)) (ds := []) #[false, false, false, false, false, false, false, false, false, false, false, false] (by kernel_rfl) rfl rfl ⟨(blk_cell HXA.out 3).trans rfl, (blk_cell HXB.out 3).trans rfl, HA0.out.at (pw_below_drewN HB.out 1), HA1.out.at (pw_below_drewN HB.out 1), HA2.out.at (pw_below_drewN HB.out 1), HA3.out.at (pw_below_drewN HB.out 1), HC0.out.at (pw_below_drewN HB.out 1), HC1.out.at (pw_below_drewN HB.out 1), HC2.out.at (pw_below_drewN HB.out 1), HC3.out.at (pw_below_drewN HB.out 1)⟩ (fun hHeld => ?_)
     have HB2 := am (show Below W.heap.size W wr.drew from pw_below_drewN HB.out 1)
     have HXA2 := am (show wr.drew.heap[W.heap.size]? = some _ from HXA.out)
     have HXB2 := am (show wr.drew.heap[W.heap.size + 1]? = some _ from HXB.out)
     generalize wr.drew = w8 at HB2 HXA2 HXB2 hHeld ⊢
     refine pure_ (i := 0) (N := some 62) (v := ?_) (a' := ?_) #[true, false, false, false, false, false, false, false, false, false, false, false] rfl rfl (by kernel_rfl) (fun _ _ _ h => h) (Or.inl ⟨by rfl, ?_⟩) ?_ ?_
     rotate_left
     ·intro w'
      go_simp
      with_reducible rfl
     rotate_left
     ·simp only [Act.put, sAx, sZx, sSx, i64_w, i32_w]
      rfl
     refine pure_ (i := 2) (N := some 64) (v := ?_) (a' := ?_) #[true, false, true, false, false, false, false, false, false, false, false, false] rfl rfl (by kernel_rfl) (fun _ _ _ h => h) (Or.inl ⟨by rfl, ?_⟩) ?_ ?_
     rotate_left
     ·intro w'
      go_simp
      with_reducible rfl
     rotate_left
     ·simp only [Act.put, sAx, sZx, sSx, i64_w, i32_w]
      rfl
     refine pure_ (i := 5) (N := some 67) (v := ?_) (a' := ?_) #[true, false, true, false, false, true, false, false, false, false, false, false] rfl rfl (by kernel_rfl) (fun _ _ _ h => h) (Or.inl ⟨by rfl, ?_⟩) ?_ ?_
     rotate_left
     ·intro w'
      go_simp
      with_reducible rfl
     rotate_left
     ·simp only [Act.put, sAx, sZx, sSx, i64_w, i32_w]
      rfl
     refine pure_ (i := 7) (N := some 69) (v := ?_) (a' := ?_) #[true, false, true, false, false, true, false, true, false, false, false, false] rfl rfl (by kernel_rfl) (fun _ _ _ h => h) (Or.inl ⟨by rfl, ?_⟩) ?_ ?_
     rotate_left
     ·intro w'
      go_simp
      with_reducible rfl
     rotate_left
     ·simp only [Act.put, sAx, sZx, sSx, i64_w, i32_w]
      rfl
     refine take_ (i := 1) (N := some 63) (v := ?_) (a' := ?_) #[true, true, true, false, false, true, false, true, false, false, false, false] rfl rfl (by kernel_rfl) (fun _ _ _ h => h) (Or.inl ⟨by rfl, ?_⟩) hHeld ?_ ?_
     rotate_left
     ·rintro w' ⟨s0, s1, s2, s3, s4, s5, s6, s7, s8, s9⟩
      go_simp
      with_reducible rfl
     rotate_left
     ·simp only [Act.put, sAx, sZx, sSx, i64_w, i32_w]
      rfl
     refine take_ (i := 6) (N := some 68) (v := ?_) (a' := ?_) #[true, true, true, false, false, true, true, true, false, false, false, false] rfl rfl (by kernel_rfl) (fun _ _ _ h => h) (Or.inl ⟨by rfl, ?_⟩) hHeld ?_ ?_
     rotate_left
     ·rintro w' ⟨s0, s1, s2, s3, s4, s5, s6, s7, s8, s9⟩
      go_simp
      with_reducible rfl
     rotate_left
     ·simp only [Act.put, sAx, sZx, sSx, i64_w, i32_w]
      rfl
     refine pure_ (i := 3) (N := some 65) (v := ?_) (a' := ?_) #[true, true, true, true, false, true, true, true, false, false, false, false] rfl rfl (by kernel_rfl) (fun _ _ _ h => h) (Or.inl ⟨by rfl, ?_⟩) ?_ ?_
     rotate_left
     ·intro w'
      go_simp
      with_reducible rfl
     rotate_left
     ·simp only [Act.put, sAx, sZx, sSx, i64_w, i32_w]
      rfl
     refine pure_ (i := 8) (N := some 70) (v := ?_) (a' := ?_) #[true, true, true, true, false, true, true, true, true, false, false, false] rfl rfl (by kernel_rfl) (fun _ _ _ h => h) (Or.inl ⟨by rfl, ?_⟩) ?_ ?_
     rotate_left
     ·intro w'
      go_simp
      with_reducible rfl
     rotate_left
     ·simp only [Act.put, sAx, sZx, sSx, i64_w, i32_w]
      rfl
     refine take_ (i := 4) (N := some 66) (v := ?_) (a' := ?_) #[true, true, true, true, true, true, true, true, true, false, false, false] rfl rfl (by kernel_rfl) (fun _ _ _ h => h) (Or.inl ⟨by rfl, ?_⟩) hHeld ?_ ?_
     rotate_left
     ·rintro w' ⟨s0, s1, s2, s3, s4, s5, s6, s7, s8, s9⟩
      go_simp
      with_reducible rfl
     rotate_left
     ·simp only [Act.put, sAx, sZx, sSx, i64_w, i32_w]
      rfl
     refine take_ (i := 9) (N := some 71) (v := ?_) (a' := ?_) #[true, true, true, true, true, true, true, true, true, true, false, false] rfl rfl (by kernel_rfl) (fun _ _ _ h => h) (Or.inl ⟨by rfl, ?_⟩) hHeld ?_ ?_
     rotate_left
     ·rintro w' ⟨s0, s1, s2, s3, s4, s5, s6, s7, s8, s9⟩
      go_simp
      with_reducible rfl
     rotate_left
     ·simp only [Act.put, sAx, sZx, sSx, i64_w, i32_w]
      rfl
     refine one_ (i := 10) (N := some 72) #[true, true, true, true, true, true, true, true, true, true, true, false] rfl rfl (by kernel_rfl) (by decide) (fun K hK => ?_)
     refine goes_ Tryd.func15 (by kernel_rfl) rfl #[jVal (rd_T25 ys i).f0 (rd_T25 ys i).f1 P2 P3 (rd_T25 ys i).f2.length p2 (rd_T25 ys i).f3.length p3, jVal (rd_T25 zs i).f0 (rd_T25 zs i).f1 Q2 Q3 (rd_T25 zs i).f2.length q2 (rd_T25 zs i).f3.length q3] (by rfl) rfl rfl (by (try simp only [List.map_toArray, List.map_cons, List.map_nil]); first | done | rfl) ?_
     refine (HIH.out (rd_T25 ys i) (rd_mem ys i HLT.out) (rd_T25 zs i) P2 P3 Q2 Q3 p2 p3 q2 q3 w8 (Kd.F_now (Kd.F_old HGA2.out HB2.out)) (Kd.F_now (Kd.F_old HGA3.out HB2.out)) (Kd.F_now (Kd.F_old HGB2.out HB2.out)) (Kd.F_now (Kd.F_old HGB3.out HB2.out))).mono ?_
     rintro e w9 ⟨t, rfl, ht, hb⟩
     refine ⟨_, rfl, ?_⟩
     have HTT := am ht
     have HB9 := am (below_step HB2.out hb)
     have HXA9 := am ((hb.block _ (lt_of_block HXA2.out)).trans HXA2.out)
     have HXB9 := am ((hb.block _ (lt_of_block HXB2.out)).trans HXB2.out)
     clear ht hb
     refine hK.out _ _ ⟨(blk_cell HXA9.out 3).trans rfl, (blk_cell HXB9.out 3).trans rfl, HA0.out.at HB9.out, HA1.out.at HB9.out, HA2.out.at HB9.out, HA3.out.at HB9.out, HC0.out.at HB9.out, HC1.out.at HB9.out, HC2.out.at HB9.out, HC3.out.at HB9.out⟩ (fun hHeld => ?_)
     clear hK K
     refine norm_ (a' := ?_) ?_ ?_
     rotate_left
     ·show Act.put _ (some 72) _ = _
      simp only [Act.put, sAx, sZx, sSx, i64_w, i32_w]
      rfl
     refine pure_ (i := 11) (N := some 73) (v := ?_) (a' := ?_) #[true, true, true, true, true, true, true, true, true, true, true, true] rfl rfl (by kernel_rfl) (fun _ _ _ h => h) (Or.inl ⟨by rfl, ?_⟩) ?_ ?_
     rotate_left
     ·intro w'
      go_simp
      with_reducible rfl
     rotate_left
     ·simp only [Act.put, sAx, sZx, sSx, i64_w, i32_w]
      rfl
     refine done_ (by kernel_rfl) ?_
     try go_wp2
     ·rename_i hb0
      have htf : t = false := by cases t; rfl; cases hb0
      have HNO := am (show ¬ (ns = ms ∧ ys = zs) from fun h => by
       have := HTT.out.2 (by rw [h.2])
       rw [htf] at this
       cases this)
      go_ret
      exact ⟨false, rfl, ⟨fun h => (by cases h), fun h => absurd h HNO.out⟩, by repeat (first | exact HB9.out | apply pw_below_drewN | apply below_drew1)⟩
     ·rename_i hb0
      have htt : t = true := by cases t; cases hb0; rfl
      have HQ2 := am (show ∀ q : Nat, q < i + 1 → rd_T25 ys q = rd_T25 zs q from fun q hq => by
       by_cases h : q < i
       ·exact HQ.out q h
       ·obtain rfl : q = i := by omega
        exact HTT.out.1 htt)
      go_roundg g
      case measure => omega
      case rel => exact ⟨i + 1, (by first | exact congrArg (Value.int .i64) HWN.out | exact congrArg (Value.int .i64) (show (i : Int) + 1 = ((i + 1 : Nat) : Int) by omega)), by omega, by omega, ⟨by repeat (first | exact HXA9.out | refine blk_drewN ?_ _ | refine blk_drew ?_)⟩, ⟨by repeat (first | exact HXB9.out | refine blk_drewN ?_ _ | refine blk_drew ?_)⟩, ⟨by repeat (first | exact HB9.out | apply pw_below_drewN | apply below_drew1)⟩, HQ2⟩
   ·have p2' : ((i : Int) < (ys.length : Int)) = False := eq_false (by omega)
    go_wp2
    go_ret
    exact ⟨true, rfl, ⟨fun _ => ⟨HNE.out, items_eq HLL.out (fun q hq => HQ.out q (by omega))⟩, fun _ => rfl⟩, by repeat (first | exact HB.out | apply pw_below_drewN | apply below_drew1)⟩
theorem requal_ok (B L : Nat) (hL : L ≤ 4611686018427387904) {a : J} (ha : Bd B L a) : EQC a := by
 induction ha with
 | mk f0 f1 f2 f3 h1 h2 h3 h4 h5 ih =>
  intro b A2 A3 B2 B3 c2 c3 e2 e3 W hA2 hA3 hB2 hB3
  obtain ⟨g0, g1, g2, g3⟩ := b
  by_cases k0 : f0 = g0
  case neg => exact send_no (fun h => k0 (congrArg (fun j : J => j.f0) h)) (requal_no0 _ _ _ _ _ _ _ _ _ _ _ _ _ _ _ _ W k0)
  by_cases k1 : f1 = g1
  case neg =>
   subst k0
   exact send_no (fun h => k1 (congrArg (fun j : J => j.f1) h)) (requal_no1 _ _ _ _ _ _ _ _ _ _ _ _ _ _ _ W k1)
  subst k0 k1
  by_cases k2 : f2.length = g2.length
  case neg => exact send_no (fun h => k2 (congrArg (fun j : J => j.f2.length) h)) (requal_no2 _ _ _ _ _ _ _ _ _ _ _ _ _ _ W k2)
  by_cases k3 : f3.length = g3.length
  case neg => exact send_no (fun h => k3 (congrArg (fun j : J => j.f3.length) h)) (requal_no3 _ _ _ _ _ _ _ _ _ _ _ _ _ _ W k2 k3)
  refine send_iff ?_ (requal_go L hL f0 f1 f2 g2 f3 g3 A2 A3 B2 B3 c2 c3 e2 e3 W k2 k3 h3 h4 ih hA2 hA3 hB2 hB3)
  constructor
  ·intro h
   exact ⟨congrArg (fun j : J => j.f2) h, congrArg (fun j : J => j.f3) h⟩
  ·rintro ⟨rfl, rfl⟩
   rfl
def eqJ (a b : J) : Bool := decide (a.f0 = b.f0) && (decide (a.f1 = b.f1) && (decide (a.f2 = b.f2) && (decide (a.f3.length = b.f3.length) && (a.f3.attach.zip b.f3).all (fun p => eqJ p.1.1 p.2))))
termination_by SizeOf.sizeOf a
decreasing_by
 have h1 := List.sizeOf_lt_of_mem p.1.2
 cases a
 simp only [S25.mk.sizeOf_spec] at h1 ⊢
 omega
theorem eqJ_iff {B L : Nat} {a : J} (ha : Bd B L a) : ∀ (b : J), eqJ a b = true → a = b := by
 induction ha with
 | mk f0 f1 f2 f3 _ _ _ _ _ ih =>
  intro b h
  obtain ⟨b0, b1, b2, b3⟩ := b
  unfold eqJ at h
  simp only [Bool.and_eq_true, decide_eq_true_eq, List.all_eq_true] at h
  obtain ⟨rfl, rfl, rfl, hl, h3⟩ := h
  have : f3 = b3 := by
   refine List.ext_getElem hl (fun i h1 h2 => ?_)
   have hi : i < (f3.attach.zip b3).length := by rw [List.length_zip, List.length_attach]; omega
   have hm := h3 ((f3.attach.zip b3)[i]'hi) (List.getElem_mem hi)
   rw [List.getElem_zip, List.getElem_attach] at hm
   exact ih _ (List.getElem_mem h1) _ hm
  rw [this]
theorem eqJ_self {B L : Nat} {v : J} (h : Bd B L v) : eqJ v v = true := by
 induction h with
 | mk f0 f1 f2 f3 _ _ _ _ _ ih =>
  unfold eqJ
  simp only [Bool.and_eq_true, decide_eq_true_eq, List.all_eq_true, true_and]
  intro p hp
  obtain ⟨i, hi, rfl⟩ := List.getElem_of_mem hp
  rw [List.getElem_zip, List.getElem_attach]
  exact ih _ (List.getElem_mem _)
def eqT (v : J) : Bool := bdB 288230376151711743 10000 v
def wicketref04_Equal.f (a0_0 : Int) (a0_1 : ByteArray) (l0_2 : List ByteArray) (l0_3 : List (S25)) (a1_0 : Int) (a1_1 : ByteArray) (l1_2 : List ByteArray) (l1_3 : List (S25)) : Option Bool :=
 if eqT ⟨a0_0, a0_1, l0_2, l0_3⟩ && eqJ ⟨a0_0, a0_1, l0_2, l0_3⟩ ⟨a1_0, a1_1, l1_2, l1_3⟩ = true then some true else none
theorem wicketref04_Equal.calls (a0_0 : Int) (a0_1 : ByteArray) (A0_2 : Option Addr) (c0_2 : Nat) (l0_2 : List ByteArray) (A0_3 : Option Addr) (c0_3 : Nat) (l0_3 : List (S25)) (a1_0 : Int) (a1_1 : ByteArray) (A1_2 : Option Addr) (c1_2 : Nat) (l1_2 : List ByteArray) (A1_3 : Option Addr) (c1_3 : Nat) (l1_3 : List (S25)) (r1 : Bool) (w : World) (hr0_2 : Kd.C Kd.string w A0_2 l0_2.length l0_2) (hc0_2 : l0_2.length ≤ c0_2) (hr0_3 : Kd.C k25 w A0_3 l0_3.length l0_3) (hc0_3 : l0_3.length ≤ c0_3) (hr1_2 : Kd.C Kd.string w A1_2 l1_2.length l1_2) (hc1_2 : l1_2.length ≤ c1_2) (hr1_3 : Kd.C k25 w A1_3 l1_3.length l1_3) (hc1_3 : l1_3.length ≤ c1_3) (hG : GL w) (h : wicketref04_Equal.f a0_0 a0_1 l0_2 l0_3 a1_0 a1_1 l1_2 l1_3 = some r1) :
  Calls Tryd.prog 15 #[.agg #[.int .i64 a0_0, .string a0_1, .slice A0_2 l0_2.length c0_2, .slice A0_3 l0_3.length c0_3], .agg #[.int .i64 a1_0, .string a1_1, .slice A1_2 l1_2.length c1_2, .slice A1_3 l1_3.length c1_3]] w fun e w' => e = .returned (.bool r1) ∧ Below w.heap.size w w' := by
 unfold wicketref04_Equal.f at h
 split at h
 ·rename_i hs
  simp only [Option.some.injEq] at h
  subst h
  simp only [eqT, Bool.and_eq_true, decide_eq_true_eq] at hs
  obtain ⟨h1, h2⟩ := hs
  have hb := bdB_iff _ _ _ h1
  refine (requal_ok 288230376151711743 10000 (by decide) hb ⟨a1_0, a1_1, l1_2, l1_3⟩ A0_2 A0_3 A1_2 A1_3 c0_2 c0_3 c1_2 c1_3 w hr0_2 hr0_3 hr1_2 hr1_3).mono ?_
  rintro e w' ⟨t, rfl, ht, hbel⟩
  refine ⟨?_, hbel⟩
  rw [ht.2 (eqJ_iff hb _ (by first | exact h2 | exact of_decide_eq_true h2))]
 ·cases h
end Go.Proofs.YtaalajhmfdcalaaDoor.X
namespace Go.Proofs.YtaalajhmfdcalaaDoor.X
open Go.ChangeShapes Go.WideShapes Go.RowKit Go.Proofs.YtaalajhmfdcalaaDoorW.PrintWords
variable {H : Type} {enc : TypeId × Value → H}
theorem weightsAll_mem {P : Program} {e : TypeId} {n : Nat} : ∀ {l : List (DataW H)} {d : DataW H}, d ∈ l → n ∈ d.weights P e → n ∈ DataW.weightsAll P e l
 | x :: r, d, hd, hn => by
  simp only [DataW.weightsAll, List.mem_append]
  rcases List.mem_cons.1 hd with rfl | hd
  ·exact .inl hn
  ·exact .inr (weightsAll_mem hd hn)
abbrev lim : Nat := 140737488351232
abbrev limL : Nat := 281474976710656
set_option maxRecDepth 100000 in
theorem open_row {α : Type} [Inhabited α] (d : Kd α) {e t : TypeId} (ht : Tryd.prog.underlying t = some (.slice e)) (hsz : Tryd.prog.cellsOf e = d.sz) (Q : α → Prop) {W : World} {n : Nat} {v : Value} {y : DataW H × List MemPlace}
  (hel : ∀ n' cs (x : DataW H × List MemPlace), n' < n → DataW.trod enc Tryd.prog W 0 (fun _ => true) true n' e cs = some x → (∀ k ∈ x.1.weights Tryd.prog e, k ≤ lim) → cs.length = d.sz ∧ ∃ a : α, d.K W a cs ∧ Q a)
  (h : DataW.trod enc Tryd.prog W 0 (fun _ => true) true n t [v] = some y) (hw : ∀ k ∈ y.1.weights Tryd.prog t, k ≤ lim) :
  ∃ (A : Option Addr) (l : List α) (c : Nat), v = .slice A l.length c ∧ l.length ≤ c ∧ Kd.C d W A l.length l ∧ (∀ a ∈ l, Q a) ∧ l.length * Tryd.prog.bytesOf e ≤ lim := by
 rcases DataW.trod_slice ht h with ⟨hc, _⟩ | ⟨a, len, cap, elems, rest, m, rfl, hc, rfl, _, hl, hm, hel1, hx, _, _⟩
 ·obtain rfl : v = .slice none 0 0 := by simpa using hc
  exact ⟨none, [], 0, rfl, Nat.le_refl _, ⟨rfl, by simp, fun h => absurd h (by simp)⟩, (fun f hf => by cases hf), by rw [List.length_nil, Nat.zero_mul]; exact Nat.zero_le _⟩
 ·obtain rfl : v = .slice (some a) len cap := by simpa using hc
  have hwl : (elems.length + rest.length) * Tryd.prog.bytesOf e ≤ lim := by
   refine hw _ ?_
   simp only [DataW.weights, ht, List.length_map]
   exact List.mem_cons_self ..
  have each : ∀ i, i < len → ∃ q : α, ∃ cs, W.cells? 0 (a.add (i * d.sz)) d.sz = some cs ∧ cs.length = d.sz ∧ d.K W q cs ∧ Q q := by
   intro i hi
   have h1 := hx i hi
   rw [List.getElem?_eq_getElem (by omega), hsz] at h1
   obtain ⟨cs, h2, h3⟩ := Option.bind_eq_some_iff.1 h1
   obtain ⟨h4, q, h5, h6⟩ := hel m cs _ (Nat.lt_succ_self m) h3 (fun k hk => hw k (by
    simp only [DataW.weights, ht, List.mem_cons, List.mem_append]
    exact .inr (.inl (weightsAll_mem (List.mem_map.2 ⟨_, List.getElem_mem (by omega : i < elems.length), rfl⟩) hk))))
   exact ⟨q, cs, h2, h4, h5, h6⟩
  obtain ⟨q, hq⟩ := Go.Deep.choose_lt each
  have hlen : ((List.range len).map q).length = len := by simp
  refine ⟨some a, (List.range len).map q, cap, by rw [hlen], by rw [hlen]; exact hl, ⟨rfl, ?_, fun _ => ⟨a, rfl, ?_⟩⟩, ?_, ?_⟩
  ·rw [hlen]
   have : maxLen = 9223372036854775807 := rfl
   omega
  ·intro j p hj
   have hj' : j < len := by
    have := (List.getElem?_eq_some_iff.1 hj).1
    simpa using this
   have hp : p = q j := by
    simp [List.getElem?_map, List.getElem?_range hj'] at hj
    exact hj.symm
   subst hp
   obtain ⟨cs, h1, h2, h3, _⟩ := hq j hj'
   obtain ⟨_, h5, h6⟩ := World.cells?_some h1
   refine ⟨cs, h2, h3, fun i u hu => ?_⟩
   have hi : i < d.sz := by have := (List.getElem?_eq_some_iff.1 hu).1; omega
   have := h6 i hi
   rw [hu] at this
   rw [← this]
   rw [Addr.add_add]
  ·intro f hf
   obtain ⟨i, hi, rfl⟩ := List.mem_map.1 hf
   obtain ⟨cs, _, _, _, h4⟩ := hq i (List.mem_range.1 hi)
   exact h4
  ·rw [hlen]
   have hle : len ≤ elems.length + rest.length := by omega
   have hmul : len * Tryd.prog.bytesOf e ≤ (elems.length + rest.length) * Tryd.prog.bytesOf e := Nat.mul_le_mul_right _ hle
   exact Nat.le_trans hmul hwl
theorem open_str {W : World} {n : Nat} {cs : List Value} {x : DataW H × List MemPlace} (h : DataW.trod enc Tryd.prog W 0 (fun _ => true) true n 9 cs = some x) (hw : ∀ k ∈ x.1.weights Tryd.prog 9, k ≤ lim) : ∃ s : ByteArray, cs = [.string s] ∧ s.size ≤ lim := by
 obtain ⟨s, e, rfl, _⟩ := DataW.trod_string Tryd.underlying9 h
 refine ⟨s, e, ?_⟩
 have := hw s.data.toList.length (by simp [DataW.weights])
 rw [Array.length_toList] at this
 exact this
theorem open_strs {W : World} {n : Nat} {v : Value} {y : DataW H × List MemPlace} (h : DataW.trod enc Tryd.prog W 0 (fun _ => true) true n 22 [v] = some y) (hw : ∀ k ∈ y.1.weights Tryd.prog 22, k ≤ lim) :
  ∃ (A : Option Addr) (l : List ByteArray) (c : Nat), v = .slice A l.length c ∧ l.length ≤ c ∧ Kd.C Kd.string W A l.length l ∧ (∀ a ∈ l, a.size ≤ lim) ∧ l.length ≤ limL := by
 haveI : Inhabited ByteArray := ⟨⟨#[]⟩⟩
 obtain ⟨A, l, c, e1, h1, h2, h3, h4⟩ := open_row (H := H) (enc := enc) Kd.string Tryd.underlying22 (by kernel_rfl) (fun s => s.size ≤ lim) (fun n' cs x _ hx hk => by
  obtain ⟨s, rfl, hs⟩ := open_str hx hk
  exact ⟨rfl, s, rfl, hs⟩) h hw
 rw [show Tryd.prog.bytesOf 9 = 16 by kernel_rfl] at h4
 have h4' : l.length * 16 ≤ 140737488351232 := h4
 exact ⟨A, l, c, e1, h1, h2, h3, by show l.length ≤ 281474976710656; omega⟩
instance : Inhabited J := ⟨z25⟩
set_option maxRecDepth 100000 in
theorem open_cells {W : World} : ∀ (n : Nat) (cs : List Value) (x : DataW H × List MemPlace), DataW.trod enc Tryd.prog W 0 (fun _ => true) true n 25 cs = some x → (∀ k ∈ x.1.weights Tryd.prog 25, k ≤ lim) → cs.length = 4 ∧ ∃ v : J, k25.K W v cs ∧ Bd lim limL v := by
 intro n
 induction n using Nat.strongRecOn with
 | _ n ih =>
 intro cs x h hw
 obtain ⟨xs, m, rfl, rfl, hcl, hxl, hall⟩ := DataW.trod_struct Tryd.underlying25 h
 rw [show Tryd.prog.cellsOf 25 = 4 by kernel_rfl] at hcl
 obtain ⟨c0, c1, c2, c3, rfl⟩ : ∃ c0 c1 c2 c3, cs = [c0, c1, c2, c3] := by
  match cs, hcl with
  | [c0, c1, c2, c3], _ => exact ⟨c0, c1, c2, c3, rfl⟩
 obtain ⟨y0, y1, y2, y3, rfl⟩ : ∃ y0 y1 y2 y3, xs = [y0, y1, y2, y3] := by
  match xs, hxl with
  | [c0, c1, c2, c3], _ => exact ⟨c0, c1, c2, c3, rfl⟩
 have k1 : Tryd.prog.cellsOf 3 = 1 := by kernel_rfl
 have k2 : Tryd.prog.cellsOf 9 = 1 := by kernel_rfl
 have k3 : Tryd.prog.cellsOf 22 = 1 := by kernel_rfl
 have k4 : Tryd.prog.cellsOf 23 = 1 := by kernel_rfl
 have h0 : DataW.trod enc Tryd.prog W 0 (fun _ => true) true m 3 [c0] = some y0 := by have := hall 0 _ rfl; simpa [k1] using this
 have h1 : DataW.trod enc Tryd.prog W 0 (fun _ => true) true m 9 [c1] = some y1 := by have := hall 1 _ rfl; simpa [k2] using this
 have h2 : DataW.trod enc Tryd.prog W 0 (fun _ => true) true m 22 [c2] = some y2 := by have := hall 2 _ rfl; simpa [k3] using this
 have h3 : DataW.trod enc Tryd.prog W 0 (fun _ => true) true m 23 [c3] = some y3 := by have := hall 3 _ rfl; simpa [k4] using this
 simp only [DataW.weights, Tryd.underlying25, DataW.weightsEach, List.map_cons, List.map_nil, List.mem_append, List.mem_cons, List.not_mem_nil, or_false] at hw
 obtain ⟨i, e0, x0, _⟩ := DataW.trod_int Tryd.underlying3 h0
 obtain ⟨s, e1, w1⟩ := open_str h1 (fun k hk => hw k (.inr (.inl hk)))
 obtain ⟨A2, l2, q2, e2, g2, C2, S2, L2⟩ := open_strs h2 (fun k hk => hw k (.inr (.inr (.inl hk))))
 obtain ⟨A3, l3, q3, e3, g3, C3, S3, L3⟩ := open_row (H := H) (enc := enc) k25 Tryd.underlying23 (by kernel_rfl) (fun v => Bd lim limL v) (fun n' cs x hn' hx hk => ih n' (by omega) cs x hx hk) h3 (fun k hk => hw k (.inr (.inr (.inr hk))))
 rw [show Tryd.prog.bytesOf 25 = 72 by kernel_rfl] at L3
 simp only [List.cons.injEq, and_true] at e0 e1
 subst e0 e1 e2 e3
 exact ⟨rfl, ⟨i, s, l2, l3⟩, k25_mk W ⟨i, s, l2, l3⟩ g2 C2 g3 C3, .mk i s l2 l3 w1 S2 L2 (by have h4' : l3.length * 72 ≤ 140737488351232 := L3; show l3.length ≤ 281474976710656; omega) S3⟩
set_option maxRecDepth 100000 in
theorem open_json {W : World} {r : Reach} {b0 : Nat} {v : Value} {d : DataW H} {p : List MemPlace} (hv : Value.okWide Tryd.prog W r b0 25 v) (h : DataW.Trod enc Tryd.prog W 0 (fun _ => true) true 25 v d p)
  (hw : ∀ k ∈ d.weights Tryd.prog 25, k ≤ lim) :
  ∃ (j : J) (A2 A3 : Option Addr) (c2 c3 : Nat), v = .agg #[.int .i64 j.f0, .string j.f1, .slice A2 j.f2.length c2, .slice A3 j.f3.length c3] ∧ j.f2.length ≤ c2 ∧ Kd.C Kd.string W A2 j.f2.length j.f2 ∧ j.f3.length ≤ c3 ∧ Kd.C k25 W A3 j.f3.length j.f3 ∧ Bd lim limL j := by
 obtain ⟨cs, rfl, hsz⟩ := okWide_struct Tryd.underlying25 hv
 obtain ⟨fuel, hf⟩ := h
 obtain ⟨hcl, j, hK, hB⟩ := open_cells fuel _ _ hf hw
 obtain ⟨A2, c2, A3, c3, e, l2, g2, l3, g3⟩ := k25_open hK
 obtain rfl : cs = #[.int .i64 j.f0, .string j.f1, .slice A2 j.f2.length c2, .slice A3 j.f3.length c3] := Array.ext' e
 exact ⟨j, A2, A3, c2, c3, rfl, l2, g2, l3, g3, hB⟩
end Go.Proofs.YtaalajhmfdcalaaDoor.X
namespace Go.Proofs.YtaalajhmfdcalaaDoor.X
open Go.RowKit Go.Lib Go.Proofs.YtaalajhmfdcalaaDoorW.PrintWords
def atF (nm : ByteArray) (l : List (ByteArray × J)) : Nat := (l.takeWhile (fun y => Op.bytesLess y.1.toList nm.toList)).length
theorem ins_at (x : ByteArray × J) : ∀ l, insF x l = (l.take (atF x.1 l) ++ [x]) ++ l.drop (atF x.1 l)
 | [] => rfl
 | y :: l => by
  unfold insF atF
  rw [List.takeWhile_cons]
  by_cases h : Op.bytesLess y.1.toList x.1.toList = true
  ·rw [if_pos h, if_pos h, ins_at x l]
   simp [atF]
  ·rw [if_neg h, if_neg h]
   simp
theorem atF_cons (nm : ByteArray) (y : ByteArray × J) (l : List (ByteArray × J)) : atF nm (y :: l) = if Op.bytesLess y.1.toList nm.toList = true then atF nm l + 1 else 0 := by
 unfold atF
 rw [List.takeWhile_cons]
 split
 ·simp
 ·rfl
theorem atF_is (nm : ByteArray) : ∀ (l : List (ByteArray × J)) (a : Nat), a ≤ l.length → (∀ q, q < a → Op.bytesLess (nmAt (l.map Prod.fst) q).toList nm.toList = true) → (a = l.length ∨ Op.bytesLess (nmAt (l.map Prod.fst) a).toList nm.toList = false) → atF nm l = a
 | [], a, ha, _, _ => by
  obtain rfl : a = 0 := by simpa using ha
  rfl
 | y :: l, 0, ha, h1, h2 => by
  rcases h2 with h2 | h2
  ·simp at h2
  ·rw [nmAt_eq _ 0 (by simp)] at h2
   rw [atF_cons, if_neg]
   simp only [List.map_cons, List.getElem_cons_zero] at h2
   rw [h2]
   decide
 | y :: l, a + 1, ha, h1, h2 => by
  have ha' : a ≤ l.length := by simpa using ha
  have h0 := h1 0 (by omega)
  rw [nmAt_eq _ 0 (by simp)] at h0
  simp only [List.map_cons, List.getElem_cons_zero] at h0
  have e := atF_is nm l a ha' (fun q hq => by
   have := h1 (q + 1) (by omega)
   rw [nmAt_eq _ (q + 1) (by simp; omega)] at this
   rw [nmAt_eq _ q (by simp; omega)]
   simpa only [List.map_cons, List.getElem_cons_succ] using this) (by
   rcases h2 with h2 | h2
   ·exact .inl (by simpa using h2)
   ·by_cases hl : a = l.length
    ·exact .inl hl
    ·refine .inr ?_
     rw [nmAt_eq _ (a + 1) (by simp; omega)] at h2
     rw [nmAt_eq _ a (by simp; omega)]
     simpa only [List.map_cons, List.getElem_cons_succ] using h2)
  rw [atF_cons, if_pos h0, e]
def PF (ns : List ByteArray) (ys : List J) (i : Nat) : List (ByteArray × J) := ((ns.zip ys).take i).foldl (fun a x => insF x a) []
theorem PF_succ {ns : List ByteArray} {ys : List J} {i : Nat} (h1 : i < ns.length) (h2 : i < ys.length) : PF ns ys (i + 1) = insF (nmAt ns i, rd_T25 ys (i : Int)) (PF ns ys i) := by
 unfold PF
 rw [List.take_succ_eq_append_getElem (by rw [List.length_zip]; omega), List.foldl_append]
 simp only [List.foldl_cons, List.foldl_nil, List.getElem_zip]
 rw [nmAt_eq ns i h1]
 unfold rd_T25
 rw [show ((i : Int)).toNat = i from Int.toNat_natCast i, List.getD_eq_getElem?_getD, List.getElem?_eq_getElem h2]
 rfl
theorem PF_len {ns : List ByteArray} {ys : List J} {i : Nat} (h : ns.length = ys.length) (hi : i ≤ ys.length) : (PF ns ys i).length = i := by
 unfold PF
 rw [(sortF_perm' _ []).length_eq]
 simp
 omega
theorem PF_all {ns : List ByteArray} {ys : List J} (h : ns.length = ys.length) : PF ns ys ys.length = sortF (ns.zip ys) := by
 unfold PF sortF
 rw [List.take_of_length_le (by rw [List.length_zip]; omega)]
theorem PF_next {ns : List ByteArray} {ys : List J} {i : Nat} (f : J → J) (h1 : i < ns.length) (h2 : i < ys.length) {a : Nat} (ha : atF (nmAt ns i) (PF ns ys i) = a) :
  (((PF ns ys i).map Prod.fst).take a ++ [nmAt ns i]) ++ ((PF ns ys i).map Prod.fst).drop a = (PF ns ys (i + 1)).map Prod.fst ∧
   (((PF ns ys i).map (fun q => f q.2)).take a ++ [f (rd_T25 ys (i : Int))]) ++ ((PF ns ys i).map (fun q => f q.2)).drop a = (PF ns ys (i + 1)).map (fun q => f q.2) := by
 rw [PF_succ h1 h2, ins_at, ha]
 simp only [List.map_append, List.map_cons, List.map_nil, List.map_take, List.map_drop, and_self]
theorem take_at {α : Type} {l : List α} {i : Nat} {x : α} (h : l[i]? = some x) : l.take i ++ [x] = l.take (i + 1) := by
 obtain ⟨hi, e⟩ := List.getElem?_eq_some_iff.1 h
 rw [List.take_succ_eq_append_getElem hi, e]
end Go.Proofs.YtaalajhmfdcalaaDoor.X
namespace Go.Proofs.YtaalajhmfdcalaaDoor.X
open Go.RowKit Go.Lib Go.Proofs.YtaalajhmfdcalaaDoorW.PrintWords Go.Proofs.YtaalajhmfdcalaaDoorW.PrintLast Go.Proofs.YtaalajhmfdcalaaDoorW.PrintMore
structure TI (W : World) (f0 : Int) (f1 : ByteArray) (v2 v3 : Value) (sn sv : Value) (ln : List ByteArray) (li : List J) (w : World) : Prop where
 o : w.heap[W.heap.size]? = some (.cells #[.int .i64 f0, .string f1, v2, v3] 25 (0, 0))
 r : w.heap[W.heap.size + 1]? = some (.cells #[.int .i64 0, .string ⟨#[]⟩, .slice none 0 0, .slice none 0 0] 25 (0, 0))
 p : w.heap[W.heap.size + 1 + 1]? = some (.cells #[.int .i64 f0, .string f1, sn, sv] 25 (0, 0))
 names : Kd.string.R 9 w W.heap.size (fun k => W.heap.size + 1 + 1 + 1 ≤ k) sn ln
 items : k25.R 25 w W.heap.size (fun k => W.heap.size + 1 + 1 + 1 ≤ k ∧ some k ≠ sn.ownBlock) sv li
 bel : Below W.heap.size W w
section
variable {W w w' : World} {f0 : Int} {f1 : ByteArray} {v2 v3 sn sv : Value} {ln : List ByteArray} {li : List J}
theorem TI.below (h : TI W f0 f1 v2 v3 sn sv ln li w) (hb : Below w.heap.size w w') : TI W f0 f1 v2 v3 sn sv ln li w' :=
 ⟨(hb.block _ (lt_of_block h.o)).trans h.o, (hb.block _ (lt_of_block h.r)).trans h.r, (hb.block _ (lt_of_block h.p)).trans h.p, Kd.R_below h.names hb, Kd.R_below h.items hb, below_step h.bel hb⟩
theorem TI.ltB (h : TI W f0 f1 v2 v3 sn sv ln li w) : W.heap.size ≤ w.heap.size := h.bel.size
theorem TI.lt (h : TI W f0 f1 v2 v3 sn sv ln li w) : W.heap.size + 1 + 1 < w.heap.size := lt_of_block h.p
theorem TI.name {v1 : Value} {w6 : World} {nm : ByteArray} (h : TI W f0 f1 v2 v3 sn sv ln li w) (ho : Kd.string.R 9 w6 W.heap.size (fun k => W.heap.size + 1 + 1 + 1 ≤ k) v1 (ln ++ [nm])) (hb : Below W.heap.size W w6) (hg : w.grownBy w6 sn.ownBlock)
  (hat : v1.ownBlock = sn.ownBlock ∨ ∃ b, v1.ownBlock = some b ∧ w.heap.size ≤ b) : TI W f0 f1 v2 v3 v1 sv (ln ++ [nm]) li (w6.setCell ⟨W.heap.size + 1 + 1, 2, none⟩ v1) := by
 have key : ∀ {b : Nat} {c : Array Value} {t : TypeId}, w.heap[b]? = some (.cells c t (0, 0)) → 9 ≠ t → w6.heap[b]? = some (.cells c t (0, 0)) := fun hk ht => blk_grown hk hg (Kd.R_ne h.names hk ht)
 have far : ∀ {b : Nat} {o : Obj}, b ≠ W.heap.size + 1 + 1 → w6.heap[b]? = some o → (w6.setCell ⟨W.heap.size + 1 + 1, 2, none⟩ v1).heap[b]? = some o := fun hne hk => (Below.heap_setCell _ _ _ _ hne).trans hk
 exact ⟨far (by omega) (key h.o (by decide)), far (by omega) (key h.r (by decide)), (blk_set 2 v1 (key h.p (by decide))).trans rfl, Kd.R_far ho (fun k hk => by show k ≠ W.heap.size + 1 + 1; omega) _, Kd.R_far (Kd.R_after h.items hg hat) (fun k hk => by have := hk.1; show k ≠ W.heap.size + 1 + 1; omega) _, below_set hb (by omega)⟩
theorem TI.item {v1 : Value} {w6 : World} {y : J} (h : TI W f0 f1 v2 v3 sn sv ln li w) (ho : k25.R 25 w6 W.heap.size (fun k => W.heap.size + 1 + 1 + 1 ≤ k ∧ some k ≠ sn.ownBlock) v1 (li ++ [y])) (hb : Below W.heap.size W w6) (hg : w.grownBy w6 sv.ownBlock) :
  TI W f0 f1 v2 v3 sn v1 ln (li ++ [y]) (w6.setCell ⟨W.heap.size + 1 + 1, 3, none⟩ v1) := by
 have key : ∀ {b : Nat} {c : Array Value} {t : TypeId}, w.heap[b]? = some (.cells c t (0, 0)) → b < W.heap.size + 1 + 1 + 1 → w6.heap[b]? = some (.cells c t (0, 0)) := fun {b} {c} {t} hk hl => blk_grown hk hg (Kd.R_away (g := b) h.items (fun k hk => by have := hk.1; omega))
 have far : ∀ {b : Nat} {o : Obj}, b ≠ W.heap.size + 1 + 1 → w6.heap[b]? = some o → (w6.setCell ⟨W.heap.size + 1 + 1, 3, none⟩ v1).heap[b]? = some o := fun hne hk => (Below.heap_setCell _ _ _ _ hne).trans hk
 exact ⟨far (by omega) (key h.o (by omega)), far (by omega) (key h.r (by omega)), (blk_set 3 v1 (key h.p (by omega))).trans rfl, Kd.R_far (Kd.R_over' h.names (Kd.R_typed h.items) (by decide) hg) (fun k hk => by show k ≠ W.heap.size + 1 + 1; omega) _, Kd.R_far ho (fun k hk => by have := hk.1; show k ≠ W.heap.size + 1 + 1; omega) _, below_set hb (by omega)⟩
end
theorem TI.start (W : World) (f0 : Int) (f1 : ByteArray) (v2 v3 : Value) :
  TI W f0 f1 v2 v3 (.slice none 0 0) (.slice none 0 0) [] [] (((W.alloc (.cells #[.int .i64 f0, .string f1, v2, v3] 25)).alloc (.cells #[.int .i64 0, .string ⟨#[]⟩, .slice none 0 0, .slice none 0 0] 25)).alloc (.cells #[.int .i64 f0, .string f1, .slice none 0 0, .slice none 0 0] 25)) := by
 have e1 : (W.alloc (.cells #[.int .i64 f0, .string f1, v2, v3] 25)).heap.size = W.heap.size + 1 := by simp
 have e2 : ((W.alloc (.cells #[.int .i64 f0, .string f1, v2, v3] 25)).alloc (.cells #[.int .i64 0, .string ⟨#[]⟩, .slice none 0 0, .slice none 0 0] 25)).heap.size = W.heap.size + 1 + 1 := by simp
 refine ⟨Below.alloc_at (Below.alloc_at (heap_alloc_new _ _)), ?_, ?_, Kd.R_nil _ _ _ _ _, Kd.R_nil _ _ _ _ _, below_alloc (below_alloc (below_alloc (Below.refl _ _) _) _) _⟩
 ·have := heap_alloc_new (W.alloc (.cells #[.int .i64 f0, .string f1, v2, v3] 25)) (.cells #[.int .i64 0, .string ⟨#[]⟩, .slice none 0 0, .slice none 0 0] 25)
  rw [e1] at this
  exact Below.alloc_at this
 ·have := heap_alloc_new ((W.alloc (.cells #[.int .i64 f0, .string f1, v2, v3] 25)).alloc (.cells #[.int .i64 0, .string ⟨#[]⟩, .slice none 0 0, .slice none 0 0] 25)) (.cells #[.int .i64 f0, .string f1, .slice none 0 0, .slice none 0 0] 25)
  rw [e2] at this
  exact this
def TEnds (W : World) (v : J) (e : Ending) (W' : World) : Prop := ∃ u2 u3 : Value, e = .returned (.agg #[.int .i64 v.f0, .string v.f1, u2, u3]) ∧ Kd.string.R 9 W' W.heap.size (fun _ => True) u2 v.f2 ∧ k25.R 25 W' W.heap.size (fun k => some k ≠ u2.ownBlock) u3 v.f3 ∧ Below W.heap.size W W'
theorem TI.fin {W w : World} {f0 : Int} {f1 : ByteArray} {v2 v3 : Value} {An Ai : Option Addr} {cn ci : Nat} {ln : List ByteArray} {li : List J} (h : TI W f0 f1 v2 v3 (.slice An ln.length cn) (.slice Ai li.length ci) ln li w) :
  TEnds W ⟨f0, f1, ln, li⟩ (.returned (.agg #[.int .i64 f0, .string f1, .slice An ln.length cn, .slice Ai li.length ci])) ((((w.setCell ⟨W.heap.size + 1, 0, none⟩ (.int .i64 f0)).setCell ⟨W.heap.size + 1, 1, none⟩ (.string f1)).setCell ⟨W.heap.size + 1, 2, none⟩ (.slice An ln.length cn)).setCell ⟨W.heap.size + 1, 3, none⟩ (.slice Ai li.length ci)) := by
 refine ⟨_, _, rfl, Kd.R_mono (Kd.R_far (p := ⟨W.heap.size + 1, 3, none⟩) (Kd.R_far (p := ⟨W.heap.size + 1, 2, none⟩) (Kd.R_far (p := ⟨W.heap.size + 1, 1, none⟩) (Kd.R_far (p := ⟨W.heap.size + 1, 0, none⟩) h.names ?_ _) ?_ _) ?_ _) ?_ _) (fun _ _ => trivial), Kd.R_mono (Kd.R_far (p := ⟨W.heap.size + 1, 3, none⟩) (Kd.R_far (p := ⟨W.heap.size + 1, 2, none⟩) (Kd.R_far (p := ⟨W.heap.size + 1, 1, none⟩) (Kd.R_far (p := ⟨W.heap.size + 1, 0, none⟩) h.items ?_ _) ?_ _) ?_ _) ?_ _) (fun _ hk => hk.2), below_set (below_set (below_set (below_set h.bel (by omega)) (by omega)) (by omega)) (by omega)⟩
 all_goals (intro k hk; show k ≠ W.heap.size + 1; first | omega | (have := hk.1; omega))
end Go.Proofs.YtaalajhmfdcalaaDoor.X
namespace Go.Proofs.YtaalajhmfdcalaaDoor.X
open Go.RowKit Go.Lib Go.Proofs.YtaalajhmfdcalaaDoorW.PrintWords
theorem dN_bad {n b0 b1 b2 b3 : Nat} (h0 : 128 ≤ b0) (h256 : b0 < 256) (h : (b0 < 194 ∨ 244 < b0) ∨ (194 ≤ b0 ∧ b0 ≤ 223 ∧ (n ≤ 1 ∨ b1 < 128 ∨ (191 < b1 ∧ b1 < 256))) ∨ (224 ≤ b0 ∧ b0 ≤ 239 ∧ (n ≤ 2 ∨ (b1 < 256 ∧ (b1 < (if b0 = 224 then 160 else 128) ∨ (if b0 = 237 then 159 else 191) < b1)) ∨ (b2 < 256 ∧ (b2 < 128 ∨ 191 < b2)))) ∨ (240 ≤ b0 ∧ b0 ≤ 244 ∧ (n ≤ 3 ∨ (b1 < 256 ∧ (b1 < (if b0 = 240 then 144 else 128) ∨ (if b0 = 244 then 143 else 191) < b1)) ∨ (b2 < 256 ∧ (b2 < 128 ∨ 191 < b2)) ∨ (b3 < 256 ∧ (b3 < 128 ∨ 191 < b3))))) : decodeN n b0 b1 b2 b3 = (65533, 1) := by
 unfold decodeN
 (repeat' split) <;> first | rfl | (exfalso; (repeat' split at h) <;> omega)
theorem dN_two {n b0 b1 b2 b3 : Nat} (h0 : 194 ≤ b0) (h1 : b0 ≤ 223) (hn : 1 < n) (h2 : 128 ≤ b1) (h3 : b1 ≤ 191) : (decodeN n b0 b1 b2 b3).2 = 2 := by
 unfold decodeN
 (repeat' split) <;> first | rfl | (exfalso; omega)
theorem dN_three {n b0 b1 b2 b3 : Nat} (h0 : 224 ≤ b0) (h1 : b0 ≤ 239) (hn : 2 < n) (h2 : (if b0 = 224 then 160 else 128) ≤ b1) (h3 : b1 ≤ (if b0 = 237 then 159 else 191)) (h4 : 128 ≤ b2) (h5 : b2 ≤ 191) : (decodeN n b0 b1 b2 b3).2 = 3 := by
 unfold decodeN
 (repeat' split) <;> first | rfl | (exfalso; (repeat' split at h2) <;> (repeat' split at h3) <;> omega)
theorem dN_four {n b0 b1 b2 b3 : Nat} (h0 : 240 ≤ b0) (h1 : b0 ≤ 244) (hn : 3 < n) (h2 : (if b0 = 240 then 144 else 128) ≤ b1) (h3 : b1 ≤ (if b0 = 244 then 143 else 191)) (h4 : 128 ≤ b2) (h5 : b2 ≤ 191) (h6 : 128 ≤ b3) (h7 : b3 ≤ 191) : (decodeN n b0 b1 b2 b3).2 = 4 := by
 unfold decodeN
 (repeat' split) <;> first | rfl | (exfalso; (repeat' split at h2) <;> (repeat' split at h3) <;> omega)
theorem cont_cons0 (k : Nat) (x : UInt8) (r : List UInt8) (lo hi n : Int) : contZ (k + 1) (x :: r) lo hi n = if (x.toNat : Int) < lo ∨ hi < (x.toNat : Int) then 0 else contZ k r 128 191 n := rfl
theorem cont_zero0 (l : List UInt8) (lo hi n : Int) : contZ 0 l lo hi n = n := by cases l <;> rfl
def ChD (l : List UInt8) : Prop :=
 (charZ l = -1 ∧ decodeGo ⟨l.toArray⟩ = (65533, 1) ∧ fullF l = false) ∨ (charZ l = 0 ∧ decodeGo ⟨l.toArray⟩ = (65533, 1) ∧ fullF l = true) ∨
  ∃ n : Nat, charZ l = (n : Int) ∧ 2 ≤ n ∧ n ≤ 4 ∧ n ≤ l.length ∧ (decodeGo ⟨l.toArray⟩).2 = n
theorem full_1 {c : UInt8} {r : List UInt8} (h : c.toNat < 194 ∨ 244 < c.toNat) : fullF (c :: r) = true := by
 unfold fullF
 simp only [List.length_cons]
 rw [if_pos (by (repeat' split) <;> omega)]
theorem full_long {c : UInt8} {r : List UInt8} (n : Nat) (h : (194 ≤ c.toNat ∧ c.toNat ≤ 223 ∧ n = 2) ∨ (224 ≤ c.toNat ∧ c.toNat ≤ 239 ∧ n = 3) ∨ (240 ≤ c.toNat ∧ c.toNat ≤ 244 ∧ n = 4)) (hl : n ≤ r.length + 1) : fullF (c :: r) = true := by
 unfold fullF
 simp only [List.length_cons]
 rw [if_pos (by (repeat' split) <;> omega)]
theorem full_nil {c : UInt8} (h : 194 ≤ c.toNat ∧ c.toNat ≤ 244) : fullF [c] = false := by
 unfold fullF
 simp only [List.length_cons, List.length_nil]
 rw [if_neg (by (repeat' split) <;> omega)]
theorem loZ_eq (c : UInt8) : loZ (c.toNat : Int) = ((if c.toNat = 224 then 160 else if c.toNat = 240 then 144 else 128 : Nat) : Int) := by
 unfold loZ
 (repeat' split) <;> omega
theorem hiZ_eq (c : UInt8) : hiZ (c.toNat : Int) = ((if c.toNat = 237 then 159 else if c.toNat = 244 then 143 else 191 : Nat) : Int) := by
 unfold hiZ
 (repeat' split) <;> omega
def fullT : List UInt8 → Bool
 | [] => false
 | e :: _ => decide (e.toNat < 128 ∨ 191 < e.toNat)
theorem full_two {c d : UInt8} {r : List UInt8} (h : 224 ≤ c.toNat ∧ c.toNat ≤ 244) (hl : (224 ≤ c.toNat ∧ c.toNat ≤ 239 ∧ r.length = 0) ∨ (240 ≤ c.toNat ∧ r.length ≤ 1)) : fullF (c :: d :: r) = if (d.toNat : Int) < loZ c.toNat ∨ hiZ c.toNat < (d.toNat : Int) then true else fullT r := by
 rw [loZ_eq, hiZ_eq]
 unfold fullF
 simp only [List.length_cons]
 rw [if_neg (by (repeat' split) <;> omega)]
 by_cases hh : d.toNat < (if c.toNat = 224 then 160 else if c.toNat = 240 then 144 else 128) ∨ (if c.toNat = 237 then 159 else if c.toNat = 244 then 143 else 191) < d.toNat
 ·rw [if_pos hh, if_pos (by omega)]
 ·rw [if_neg hh, if_neg (by omega)]
  cases r <;> rfl
set_option maxHeartbeats 4000000 in
theorem char_dec (c : UInt8) (r : List UInt8) (hc : 128 ≤ c.toNat) : ChD (c :: r) := by
 have hb := c.toNat_lt
 have hg := decG_eq (c :: r) (by simp)
 simp only [List.getElem?_cons_zero, Option.getD_some, List.getElem?_cons_succ, List.length_cons] at hg
 unfold ChD
 rw [hg]
 have hch : charZ (c :: r) = if cntZ c.toNat ≤ 1 then (cntZ c.toNat : Int) else contZ (cntZ c.toNat - 1) r (loZ c.toNat) (hiZ c.toNat) (cntZ c.toNat) := rfl
 rcases (by omega : (c.toNat < 194 ∨ 244 < c.toNat) ∨ (194 ≤ c.toNat ∧ c.toNat ≤ 223) ∨ (224 ≤ c.toNat ∧ c.toNat ≤ 239) ∨ (240 ≤ c.toNat ∧ c.toNat ≤ 244)) with h | ⟨h1, h2⟩ | ⟨h1, h2⟩ | ⟨h1, h2⟩
 ·have e : cntZ (c.toNat : Int) = 0 := by unfold cntZ; (repeat' split) <;> omega
  rw [hch, e]
  exact .inr (.inl ⟨rfl, dN_bad hc hb (.inl h), full_1 h⟩)
 ·have e : cntZ (c.toNat : Int) = 2 := by unfold cntZ; (repeat' split) <;> omega
  have el : loZ (c.toNat : Int) = 128 := by unfold loZ; (repeat' split) <;> omega
  have eh : hiZ (c.toNat : Int) = 191 := by unfold hiZ; (repeat' split) <;> omega
  rw [hch, e, el, eh, if_neg (by decide), show (2 : Nat) - 1 = 0 + 1 from rfl]
  cases r with
  | nil => exact .inl ⟨rfl, dN_bad hc hb (.inr (.inl ⟨h1, h2, .inl (by simp)⟩)), full_nil ⟨h1, by omega⟩⟩
  | cons x r =>
   have hx := x.toNat_lt
   rw [cont_cons0, cont_zero0]
   simp only [List.getElem?_cons_zero, Option.getD_some, List.length_cons]
   by_cases hh : (x.toNat : Int) < 128 ∨ 191 < (x.toNat : Int)
   ·rw [if_pos hh]
    exact .inr (.inl ⟨rfl, dN_bad hc hb (.inr (.inl ⟨h1, h2, by omega⟩)), full_long 2 (.inl ⟨h1, h2, rfl⟩) (by simp)⟩)
   ·rw [if_neg hh]
    exact .inr (.inr ⟨2, rfl, by omega, by omega, by omega, dN_two h1 h2 (by omega) (by omega) (by omega)⟩)
 ·have e : cntZ (c.toNat : Int) = 3 := by unfold cntZ; (repeat' split) <;> omega
  have el := loZ_eq c
  have eh := hiZ_eq c
  rw [if_neg (show ¬ c.toNat = 240 by omega)] at el
  rw [if_neg (show ¬ c.toNat = 244 by omega)] at eh
  rw [hch, e, if_neg (by decide), show (3 : Nat) - 1 = 0 + 1 + 1 from rfl]
  cases r with
  | nil => exact .inl ⟨rfl, dN_bad hc hb (.inr (.inr (.inl ⟨h1, h2, .inl (by simp)⟩))), full_nil ⟨by omega, by omega⟩⟩
  | cons x r =>
   have hx := x.toNat_lt
   rw [cont_cons0]
   simp only [List.getElem?_cons_zero, Option.getD_some, List.length_cons, List.getElem?_cons_succ]
   by_cases hh : (x.toNat : Int) < loZ c.toNat ∨ hiZ c.toNat < (x.toNat : Int)
   ·rw [if_pos hh]
    refine .inr (.inl ⟨rfl, dN_bad hc hb (.inr (.inr (.inl ⟨h1, h2, .inr (.inl ⟨hx, ?_⟩)⟩))), ?_⟩)
    ·rw [el, eh] at hh; omega
    ·cases r with
     | nil => rw [full_two ⟨h1, by omega⟩ (.inl ⟨h1, h2, rfl⟩), if_pos hh]
     | cons y r => exact full_long 3 (.inr (.inl ⟨h1, h2, rfl⟩)) (by simp)
   ·rw [if_neg hh]
    have hh' := hh
    rw [el, eh] at hh'
    cases r with
    | nil =>
     refine .inl ⟨rfl, dN_bad hc hb (.inr (.inr (.inl ⟨h1, h2, .inl (by simp)⟩))), ?_⟩
     rw [full_two ⟨h1, by omega⟩ (.inl ⟨h1, h2, rfl⟩), if_neg hh]
     rfl
    | cons y r =>
     have hy := y.toNat_lt
     rw [cont_cons0, cont_zero0]
     simp only [List.getElem?_cons_zero, Option.getD_some, List.length_cons, List.getElem?_cons_succ]
     by_cases h3 : (y.toNat : Int) < 128 ∨ 191 < (y.toNat : Int)
     ·rw [if_pos h3]
      exact .inr (.inl ⟨rfl, dN_bad hc hb (.inr (.inr (.inl ⟨h1, h2, .inr (.inr ⟨hy, by omega⟩)⟩))), full_long 3 (.inr (.inl ⟨h1, h2, rfl⟩)) (by simp)⟩)
     ·rw [if_neg h3]
      exact .inr (.inr ⟨3, rfl, by omega, by omega, by omega, dN_three h1 h2 (by omega) (by omega) (by omega) (by omega) (by omega)⟩)
 ·have e : cntZ (c.toNat : Int) = 4 := by unfold cntZ; (repeat' split) <;> omega
  have el := loZ_eq c
  have eh := hiZ_eq c
  rw [if_neg (show ¬ c.toNat = 224 by omega)] at el
  rw [if_neg (show ¬ c.toNat = 237 by omega)] at eh
  rw [hch, e, if_neg (by decide), show (4 : Nat) - 1 = 0 + 1 + 1 + 1 from rfl]
  cases r with
  | nil => exact .inl ⟨rfl, dN_bad hc hb (.inr (.inr (.inr ⟨h1, h2, .inl (by simp)⟩))), full_nil ⟨by omega, by omega⟩⟩
  | cons x r =>
   have hx := x.toNat_lt
   rw [cont_cons0]
   simp only [List.getElem?_cons_zero, Option.getD_some, List.length_cons, List.getElem?_cons_succ]
   by_cases hh : (x.toNat : Int) < loZ c.toNat ∨ hiZ c.toNat < (x.toNat : Int)
   ·rw [if_pos hh]
    refine .inr (.inl ⟨rfl, dN_bad hc hb (.inr (.inr (.inr ⟨h1, h2, .inr (.inl ⟨hx, ?_⟩)⟩))), ?_⟩)
    ·rw [el, eh] at hh; omega
    ·by_cases hl : r.length ≤ 1
     ·rw [full_two ⟨by omega, by omega⟩ (.inr ⟨h1, hl⟩), if_pos hh]
     ·exact full_long 4 (.inr (.inr ⟨h1, h2, rfl⟩)) (by simp; omega)
   ·rw [if_neg hh]
    have hh' := hh
    rw [el, eh] at hh'
    cases r with
    | nil =>
     refine .inl ⟨rfl, dN_bad hc hb (.inr (.inr (.inr ⟨h1, h2, .inl (by simp)⟩))), ?_⟩
     rw [full_two ⟨by omega, by omega⟩ (.inr ⟨h1, by simp⟩), if_neg hh]
     rfl
    | cons y r =>
     have hy := y.toNat_lt
     rw [cont_cons0]
     simp only [List.getElem?_cons_zero, Option.getD_some, List.length_cons, List.getElem?_cons_succ]
     by_cases h3 : (y.toNat : Int) < 128 ∨ 191 < (y.toNat : Int)
     ·rw [if_pos h3]
      refine .inr (.inl ⟨rfl, dN_bad hc hb (.inr (.inr (.inr ⟨h1, h2, .inr (.inr (.inl ⟨hy, by omega⟩))⟩))), ?_⟩)
      cases r with
      | nil => rw [full_two ⟨by omega, by omega⟩ (.inr ⟨h1, by simp⟩), if_neg hh]; simp only [fullT, decide_eq_true_eq]; omega
      | cons z r => exact full_long 4 (.inr (.inr ⟨h1, h2, rfl⟩)) (by simp)
     ·rw [if_neg h3]
      cases r with
      | nil =>
       refine .inl ⟨rfl, dN_bad hc hb (.inr (.inr (.inr ⟨h1, h2, .inl (by simp)⟩))), ?_⟩
       rw [full_two ⟨by omega, by omega⟩ (.inr ⟨h1, by simp⟩), if_neg hh]
       simp only [fullT, decide_eq_false_iff_not]
       omega
      | cons z r =>
       have hz := z.toNat_lt
       rw [cont_cons0, cont_zero0]
       simp only [List.getElem?_cons_zero, Option.getD_some, List.length_cons]
       by_cases h4 : (z.toNat : Int) < 128 ∨ 191 < (z.toNat : Int)
       ·rw [if_pos h4]
        exact .inr (.inl ⟨rfl, dN_bad hc hb (.inr (.inr (.inr ⟨h1, h2, .inr (.inr (.inr ⟨hz, by omega⟩))⟩))), full_long 4 (.inr (.inr ⟨h1, h2, rfl⟩)) (by simp)⟩)
       ·rw [if_neg h4]
        exact .inr (.inr ⟨4, rfl, by omega, by omega, by omega, dN_four h1 h2 (by omega) (by omega) (by omega) (by omega) (by omega) (by omega) (by omega)⟩)
end Go.Proofs.YtaalajhmfdcalaaDoor.X
namespace Go.Proofs.YtaalajhmfdcalaaDoor.X
open Go.RowKit Go.Lib Go.Proofs.YtaalajhmfdcalaaDoorW.PrintWords Go.Proofs.YtaalajhmfdcalaaDoorW.PrintLast Go.Proofs.YtaalajhmfdcalaaDoorW.PrintMore
set_option maxRecDepth 1000000 in
set_option maxHeartbeats 16000000 in
theorem rdigit_calls (n : Nat) (hn : n < 16) (W : World) : Calls Tryd.prog 95 #[.int .i64 (n : Int)] W fun e W' => e = .returned (.string (bs [hexD n])) ∧ W' = W := by
 have h : n = 0 ∨ n = 1 ∨ n = 2 ∨ n = 3 ∨ n = 4 ∨ n = 5 ∨ n = 6 ∨ n = 7 ∨ n = 8 ∨ n = 9 ∨ n = 10 ∨ n = 11 ∨ n = 12 ∨ n = 13 ∨ n = 14 ∨ n = 15 := by omega
 clear hn
 rcases h with rfl | rfl | rfl | rfl | rfl | rfl | rfl | rfl | rfl | rfl | rfl | rfl | rfl | rfl | rfl | rfl
 all_goals go_enter Tryd.func95, Tryd.ntmps95
 all_goals go_wp2
 all_goals go_ret
 all_goals exact ⟨rfl, rfl⟩
set_option maxRecDepth 1000000 in
set_option maxHeartbeats 4000000 in
theorem runicode_calls (n : Nat) (hn : n ≤ 65535) (W : World) : Calls Tryd.prog 80 #[.int .i64 (n : Int)] W fun e W' => e = .returned (.string (bs (unitB n))) ∧ W' = W := by
 have D1 := am (show Calls Tryd.prog 95 #[.int .i64 ((n : Int) / 4096)] W (fun e W' => e = .returned (.string (bs [hexD (n / 4096)])) ∧ W' = W) from by
  have := rdigit_calls (n / 4096) (by omega) W; rwa [show ((n / 4096 : Nat) : Int) = (n : Int) / 4096 from by omega] at this)
 have D2 := am (show Calls Tryd.prog 95 #[.int .i64 ((n : Int) / 256 % 16)] W (fun e W' => e = .returned (.string (bs [hexD (n / 256)])) ∧ W' = W) from by
  have := rdigit_calls (n / 256 % 16) (by omega) W; rwa [show ((n / 256 % 16 : Nat) : Int) = (n : Int) / 256 % 16 from by omega, hexD_mod] at this)
 have D3 := am (show Calls Tryd.prog 95 #[.int .i64 ((n : Int) / 16 % 16)] W (fun e W' => e = .returned (.string (bs [hexD (n / 16)])) ∧ W' = W) from by
  have := rdigit_calls (n / 16 % 16) (by omega) W; rwa [show ((n / 16 % 16 : Nat) : Int) = (n : Int) / 16 % 16 from by omega, hexD_mod] at this)
 have D4 := am (show Calls Tryd.prog 95 #[.int .i64 ((n : Int) % 16)] W (fun e W' => e = .returned (.string (bs [hexD n])) ∧ W' = W) from by
  have := rdigit_calls (n % 16) (by omega) W; rwa [show ((n % 16 : Nat) : Int) = (n : Int) % 16 from by omega, hexD_mod] at this)
 have HF := am (show ((((⟨#[92, 117]⟩ : ByteArray) ++ bs [hexD (n / 4096)]) ++ bs [hexD (n / 256)]) ++ bs [hexD (n / 16)]) ++ bs [hexD n] = bs (unitB n) from bytes_ext (by simp [bs, unitB]))
 generalize bs (unitB n) = res at HF
 have z1 : (bs [hexD (n / 4096)]).size = 1 := rfl
 have z2 : (bs [hexD (n / 256)]).size = 1 := rfl
 have z3 : (bs [hexD (n / 16)]).size = 1 := rfl
 have z4 : (bs [hexD n]).size = 1 := rfl
 generalize bs [hexD (n / 4096)] = x1 at D1 HF z1
 generalize bs [hexD (n / 256)] = x2 at D2 HF z2
 generalize bs [hexD (n / 16)] = x3 at D3 HF z3
 generalize bs [hexD n] = x4 at D4 HF z4
 go_enter Tryd.func80, Tryd.ntmps80
 go_wp2_with (first | (go_at_call 95; (first | (with_reducible refine D1.out.mono ?_) | (with_reducible refine D2.out.mono ?_) | (with_reducible refine D3.out.mono ?_) | (with_reducible refine D4.out.mono ?_)); rintro e w5 ⟨rfl, rfl⟩))
 go_ret
 exact ⟨by first | exact congrArg (fun s => Ending.returned (.string s)) HF.out | (rw [← HF.out]; rfl), rfl⟩
def codeH (n c : Nat) : Nat := if n = 2 then c % 32 else if n = 3 then c % 16 else if n = 4 then c % 8 else c
def codeT : Nat → Nat → List UInt8 → Nat
 | 0, c, _ => c
 | _ + 1, c, [] => c
 | k + 1, c, u :: r => codeT k (64 * c + u.toNat % 64) r
def codeB : Nat → Nat
 | 0 => 0
 | 1 => 255
 | 2 => 16383
 | 3 => 1048575
 | _ => 67108863
theorem codeB_next {k c x : Nat} (h1 : 1 ≤ k) (h2 : k < 4) (hc : c ≤ codeB k) (hx : x < 64) : 64 * c + x ≤ codeB (k + 1) := by
 have h : k = 1 ∨ k = 2 ∨ k = 3 := by omega
 rcases h with rfl | rfl | rfl
 all_goals (simp only [codeB] at hc ⊢; omega)
theorem codeB_le (k : Nat) : codeB k ≤ 67108863 := by
 unfold codeB
 split <;> omega
theorem code_facts {k n p c S : Nat} {u : UInt8} (hk : k < n) (hn : n ≤ 4) (hp : p + n ≤ S) (hS : S ≤ 4611686018427387904) (hc : c ≤ codeB k) : c ≤ 67108863 ∧ wrap64 (64 * (c : Int)) = ((64 * c : Nat) : Int) ∧ wrap64 ((p : Int) + (k : Int)) = ((p + k : Nat) : Int) ∧ wrap64 (((64 * c : Nat) : Int) + ((u.toNat % 64 : Nat) : Int)) = ((64 * c + u.toNat % 64 : Nat) : Int) ∧ wrap64 ((k : Int) + 1) = ((k + 1 : Nat) : Int) := by
 have := codeB_le k
 have := u.toNat_lt
 refine ⟨by omega, ?_, ?_, ?_, ?_⟩ <;> (unfold wrap64; omega)
set_option maxRecDepth 1000000 in
set_option maxHeartbeats 8000000 in
theorem rcode_1 (s : ByteArray) (p : Nat) (u : UInt8) (W : World) (hs : s.size ≤ 4611686018427387904) (hp : p + 1 ≤ s.size) (hu : s.data.toList[p]? = some u) : Calls Tryd.prog 79 #[.string s, .int .i64 (p : Int), .int .i64 1] W fun e W' => e = .returned (.int .i64 (codeT 0 (codeH 1 u.toNat) (s.data.toList.drop (p + 1)) : Nat)) ∧ W' = W := by
 obtain ⟨u', e1, hx⟩ := drop_at s p (by omega)
 have eu : u' = u := by
  have : (s.data.toList.drop p)[0]? = some u := by rw [List.getElem?_drop]; exact hu
  rw [e1] at this
  exact Option.some.inj this
 subst eu
 have p1 : (0 ≤ (p : Int)) = True := eq_true (by omega)
 have p2 : ((p : Int) < (s.size : Int)) = True := eq_true (by omega)
 have hul := u'.toNat_lt
 have hwb : wrap64 (u'.toNat : Int) = (u'.toNat : Int) := by unfold wrap64; omega
 clear e1 hu
 obtain ⟨c1, hc1⟩ : ∃ c1 : Nat, c1 = codeH 1 u'.toNat := ⟨_, rfl⟩
 have HC := am (show ((u'.toNat : Int)) = (c1 : Int) by rw [hc1]; simp [codeH])
 have HB0 := am (show c1 ≤ codeB 1 by rw [hc1]; simp only [codeB, codeH]; simp; omega)
 rw [← hc1]
 clear hc1
 generalize hres : codeT 0 c1 (s.data.toList.drop (p + 1)) = res
 have HR0 := am hres
 clear hres
 go_enter Tryd.func79, Tryd.ntmps79
 go_wp2
 try rw [HC.out]
 go_loopg [7, 8] 6 (fun g v7 v8 wr => ∃ c k : Nat, v7 = .int .i64 (c : Int) ∧ v8 = .int .i64 (k : Int) ∧ 1 ≤ k ∧ k ≤ 1 ∧ 6 ≤ k + g ∧ wr = W ∧ Aside0 (c ≤ codeB k ∧ codeT (1 - k) c (s.data.toList.drop (p + k)) = res))
 case atStart => exact ⟨c1, 1, (by first | exact congrArg (Value.int .i64) HC.out | rfl), rfl, by omega, by omega, by omega, rfl, ⟨HB0.out, HR0.out⟩⟩
 case round =>
  obtain ⟨c, k, rfl, rfl, hk1, hk4, hg, rfl, HK⟩ := hrel
  clear hwb hx p1 p2
  by_cases hlt : k < 1
  ·omega
  ·have hke : k = 1 := by omega
   subst hke
   have HE := am (show c = res from HK.out.2)
   go_wp2
   go_ret
   exact ⟨by first | rfl | (rw [← HE.out]; rfl), rfl⟩
set_option maxRecDepth 1000000 in
set_option maxHeartbeats 8000000 in
theorem rcode_2 (s : ByteArray) (p : Nat) (u : UInt8) (W : World) (hs : s.size ≤ 4611686018427387904) (hp : p + 2 ≤ s.size) (hu : s.data.toList[p]? = some u) : Calls Tryd.prog 79 #[.string s, .int .i64 (p : Int), .int .i64 2] W fun e W' => e = .returned (.int .i64 (codeT 1 (codeH 2 u.toNat) (s.data.toList.drop (p + 1)) : Nat)) ∧ W' = W := by
 obtain ⟨u', e1, hx⟩ := drop_at s p (by omega)
 have eu : u' = u := by
  have : (s.data.toList.drop p)[0]? = some u := by rw [List.getElem?_drop]; exact hu
  rw [e1] at this
  exact Option.some.inj this
 subst eu
 have p1 : (0 ≤ (p : Int)) = True := eq_true (by omega)
 have p2 : ((p : Int) < (s.size : Int)) = True := eq_true (by omega)
 have hul := u'.toNat_lt
 have hwb : wrap64 (u'.toNat : Int) = (u'.toNat : Int) := by unfold wrap64; omega
 clear e1 hu
 obtain ⟨c1, hc1⟩ : ∃ c1 : Nat, c1 = codeH 2 u'.toNat := ⟨_, rfl⟩
 have HC := am (show ((u'.toNat : Int) % 32) = (c1 : Int) by rw [hc1]; simp [codeH])
 have HB0 := am (show c1 ≤ codeB 1 by rw [hc1]; simp only [codeB, codeH]; simp; omega)
 rw [← hc1]
 clear hc1
 generalize hres : codeT 1 c1 (s.data.toList.drop (p + 1)) = res
 have HR0 := am hres
 clear hres
 go_enter Tryd.func79, Tryd.ntmps79
 go_wp2
 try rw [HC.out]
 go_loopg [7, 8] 6 (fun g v7 v8 wr => ∃ c k : Nat, v7 = .int .i64 (c : Int) ∧ v8 = .int .i64 (k : Int) ∧ 1 ≤ k ∧ k ≤ 2 ∧ 6 ≤ k + g ∧ wr = W ∧ Aside0 (c ≤ codeB k ∧ codeT (2 - k) c (s.data.toList.drop (p + k)) = res))
 case atStart => exact ⟨c1, 1, (by first | exact congrArg (Value.int .i64) HC.out | rfl), rfl, by omega, by omega, by omega, rfl, ⟨HB0.out, HR0.out⟩⟩
 case round =>
  obtain ⟨c, k, rfl, rfl, hk1, hk4, hg, rfl, HK⟩ := hrel
  clear hwb hx p1 p2
  by_cases hlt : k < 2
  ·cases gk with
   | zero => omega
   | succ g =>
    obtain ⟨x, ex, hy⟩ := drop_at s (p + k) (by omega)
    have hxl := x.toNat_lt
    obtain ⟨f1, f2, f3, f4, f5⟩ := code_facts (u := x) (S := s.size) hlt (by decide) hp hs HK.out.1
    have F5 := am f5
    have F4 := am f4
    clear f2 f3 f4 f5
    have q1 : (0 ≤ ((p + k : Nat) : Int)) = True := eq_true (by omega)
    have q2 : (((p + k : Nat) : Int) < (s.size : Int)) = True := eq_true (by omega)
    have hwx : wrap64 (x.toNat : Int) = (x.toNat : Int) := by unfold wrap64; omega
    have HN := am (show 64 * c + x.toNat % 64 ≤ codeB (k + 1) ∧ codeT (2 - (k + 1)) (64 * c + x.toNat % 64) (s.data.toList.drop (p + (k + 1))) = res from ⟨codeB_next hk1 (by omega) HK.out.1 (by omega), by
     have := HK.out.2
     rw [show 2 - k = (2 - (k + 1)) + 1 by omega, ex] at this
     exact this⟩)
    clear ex
    go_wp2
    go_roundg g
    case measure => omega
    case rel => exact ⟨64 * c + x.toNat % 64, k + 1, (by first | exact congrArg (Value.int .i64) F4.out | rfl | exact congrArg (Value.int .i64) (show _ = ((64 * c + x.toNat % 64 : Nat) : Int) by omega)), (by first | exact congrArg (Value.int .i64) F5.out | exact congrArg (Value.int .i64) (show (k : Int) + 1 = ((k + 1 : Nat) : Int) by omega)), by omega, by omega, by omega, rfl, HN⟩
  ·have hke : k = 2 := by omega
   subst hke
   have HE := am (show c = res from HK.out.2)
   go_wp2
   go_ret
   exact ⟨by first | rfl | (rw [← HE.out]; rfl), rfl⟩
set_option maxRecDepth 1000000 in
set_option maxHeartbeats 8000000 in
theorem rcode_3 (s : ByteArray) (p : Nat) (u : UInt8) (W : World) (hs : s.size ≤ 4611686018427387904) (hp : p + 3 ≤ s.size) (hu : s.data.toList[p]? = some u) : Calls Tryd.prog 79 #[.string s, .int .i64 (p : Int), .int .i64 3] W fun e W' => e = .returned (.int .i64 (codeT 2 (codeH 3 u.toNat) (s.data.toList.drop (p + 1)) : Nat)) ∧ W' = W := by
 obtain ⟨u', e1, hx⟩ := drop_at s p (by omega)
 have eu : u' = u := by
  have : (s.data.toList.drop p)[0]? = some u := by rw [List.getElem?_drop]; exact hu
  rw [e1] at this
  exact Option.some.inj this
 subst eu
 have p1 : (0 ≤ (p : Int)) = True := eq_true (by omega)
 have p2 : ((p : Int) < (s.size : Int)) = True := eq_true (by omega)
 have hul := u'.toNat_lt
 have hwb : wrap64 (u'.toNat : Int) = (u'.toNat : Int) := by unfold wrap64; omega
 clear e1 hu
 obtain ⟨c1, hc1⟩ : ∃ c1 : Nat, c1 = codeH 3 u'.toNat := ⟨_, rfl⟩
 have HC := am (show ((u'.toNat : Int) % 16) = (c1 : Int) by rw [hc1]; simp [codeH])
 have HB0 := am (show c1 ≤ codeB 1 by rw [hc1]; simp only [codeB, codeH]; simp; omega)
 rw [← hc1]
 clear hc1
 generalize hres : codeT 2 c1 (s.data.toList.drop (p + 1)) = res
 have HR0 := am hres
 clear hres
 go_enter Tryd.func79, Tryd.ntmps79
 go_wp2
 try rw [HC.out]
 go_loopg [7, 8] 6 (fun g v7 v8 wr => ∃ c k : Nat, v7 = .int .i64 (c : Int) ∧ v8 = .int .i64 (k : Int) ∧ 1 ≤ k ∧ k ≤ 3 ∧ 6 ≤ k + g ∧ wr = W ∧ Aside0 (c ≤ codeB k ∧ codeT (3 - k) c (s.data.toList.drop (p + k)) = res))
 case atStart => exact ⟨c1, 1, (by first | exact congrArg (Value.int .i64) HC.out | rfl), rfl, by omega, by omega, by omega, rfl, ⟨HB0.out, HR0.out⟩⟩
 case round =>
  obtain ⟨c, k, rfl, rfl, hk1, hk4, hg, rfl, HK⟩ := hrel
  clear hwb hx p1 p2
  by_cases hlt : k < 3
  ·cases gk with
   | zero => omega
   | succ g =>
    obtain ⟨x, ex, hy⟩ := drop_at s (p + k) (by omega)
    have hxl := x.toNat_lt
    obtain ⟨f1, f2, f3, f4, f5⟩ := code_facts (u := x) (S := s.size) hlt (by decide) hp hs HK.out.1
    have F5 := am f5
    have F4 := am f4
    clear f2 f3 f4 f5
    have q1 : (0 ≤ ((p + k : Nat) : Int)) = True := eq_true (by omega)
    have q2 : (((p + k : Nat) : Int) < (s.size : Int)) = True := eq_true (by omega)
    have hwx : wrap64 (x.toNat : Int) = (x.toNat : Int) := by unfold wrap64; omega
    have HN := am (show 64 * c + x.toNat % 64 ≤ codeB (k + 1) ∧ codeT (3 - (k + 1)) (64 * c + x.toNat % 64) (s.data.toList.drop (p + (k + 1))) = res from ⟨codeB_next hk1 (by omega) HK.out.1 (by omega), by
     have := HK.out.2
     rw [show 3 - k = (3 - (k + 1)) + 1 by omega, ex] at this
     exact this⟩)
    clear ex
    go_wp2
    go_roundg g
    case measure => omega
    case rel => exact ⟨64 * c + x.toNat % 64, k + 1, (by first | exact congrArg (Value.int .i64) F4.out | rfl | exact congrArg (Value.int .i64) (show _ = ((64 * c + x.toNat % 64 : Nat) : Int) by omega)), (by first | exact congrArg (Value.int .i64) F5.out | exact congrArg (Value.int .i64) (show (k : Int) + 1 = ((k + 1 : Nat) : Int) by omega)), by omega, by omega, by omega, rfl, HN⟩
  ·have hke : k = 3 := by omega
   subst hke
   have HE := am (show c = res from HK.out.2)
   go_wp2
   go_ret
   exact ⟨by first | rfl | (rw [← HE.out]; rfl), rfl⟩
set_option maxRecDepth 1000000 in
set_option maxHeartbeats 8000000 in
theorem rcode_4 (s : ByteArray) (p : Nat) (u : UInt8) (W : World) (hs : s.size ≤ 4611686018427387904) (hp : p + 4 ≤ s.size) (hu : s.data.toList[p]? = some u) : Calls Tryd.prog 79 #[.string s, .int .i64 (p : Int), .int .i64 4] W fun e W' => e = .returned (.int .i64 (codeT 3 (codeH 4 u.toNat) (s.data.toList.drop (p + 1)) : Nat)) ∧ W' = W := by
 obtain ⟨u', e1, hx⟩ := drop_at s p (by omega)
 have eu : u' = u := by
  have : (s.data.toList.drop p)[0]? = some u := by rw [List.getElem?_drop]; exact hu
  rw [e1] at this
  exact Option.some.inj this
 subst eu
 have p1 : (0 ≤ (p : Int)) = True := eq_true (by omega)
 have p2 : ((p : Int) < (s.size : Int)) = True := eq_true (by omega)
 have hul := u'.toNat_lt
 have hwb : wrap64 (u'.toNat : Int) = (u'.toNat : Int) := by unfold wrap64; omega
 clear e1 hu
 obtain ⟨c1, hc1⟩ : ∃ c1 : Nat, c1 = codeH 4 u'.toNat := ⟨_, rfl⟩
 have HC := am (show ((u'.toNat : Int) % 8) = (c1 : Int) by rw [hc1]; simp [codeH])
 have HB0 := am (show c1 ≤ codeB 1 by rw [hc1]; simp only [codeB, codeH]; simp; omega)
 rw [← hc1]
 clear hc1
 generalize hres : codeT 3 c1 (s.data.toList.drop (p + 1)) = res
 have HR0 := am hres
 clear hres
 go_enter Tryd.func79, Tryd.ntmps79
 go_wp2
 try rw [HC.out]
 go_loopg [7, 8] 6 (fun g v7 v8 wr => ∃ c k : Nat, v7 = .int .i64 (c : Int) ∧ v8 = .int .i64 (k : Int) ∧ 1 ≤ k ∧ k ≤ 4 ∧ 6 ≤ k + g ∧ wr = W ∧ Aside0 (c ≤ codeB k ∧ codeT (4 - k) c (s.data.toList.drop (p + k)) = res))
 case atStart => exact ⟨c1, 1, (by first | exact congrArg (Value.int .i64) HC.out | rfl), rfl, by omega, by omega, by omega, rfl, ⟨HB0.out, HR0.out⟩⟩
 case round =>
  obtain ⟨c, k, rfl, rfl, hk1, hk4, hg, rfl, HK⟩ := hrel
  clear hwb hx p1 p2
  by_cases hlt : k < 4
  ·cases gk with
   | zero => omega
   | succ g =>
    obtain ⟨x, ex, hy⟩ := drop_at s (p + k) (by omega)
    have hxl := x.toNat_lt
    obtain ⟨f1, f2, f3, f4, f5⟩ := code_facts (u := x) (S := s.size) hlt (by decide) hp hs HK.out.1
    have F5 := am f5
    have F4 := am f4
    clear f2 f3 f4 f5
    have q1 : (0 ≤ ((p + k : Nat) : Int)) = True := eq_true (by omega)
    have q2 : (((p + k : Nat) : Int) < (s.size : Int)) = True := eq_true (by omega)
    have hwx : wrap64 (x.toNat : Int) = (x.toNat : Int) := by unfold wrap64; omega
    have HN := am (show 64 * c + x.toNat % 64 ≤ codeB (k + 1) ∧ codeT (4 - (k + 1)) (64 * c + x.toNat % 64) (s.data.toList.drop (p + (k + 1))) = res from ⟨codeB_next hk1 (by omega) HK.out.1 (by omega), by
     have := HK.out.2
     rw [show 4 - k = (4 - (k + 1)) + 1 by omega, ex] at this
     exact this⟩)
    clear ex
    go_wp2
    go_roundg g
    case measure => omega
    case rel => exact ⟨64 * c + x.toNat % 64, k + 1, (by first | exact congrArg (Value.int .i64) F4.out | rfl | exact congrArg (Value.int .i64) (show _ = ((64 * c + x.toNat % 64 : Nat) : Int) by omega)), (by first | exact congrArg (Value.int .i64) F5.out | exact congrArg (Value.int .i64) (show (k : Int) + 1 = ((k + 1 : Nat) : Int) by omega)), by omega, by omega, by omega, rfl, HN⟩
  ·have hke : k = 4 := by omega
   subst hke
   have HE := am (show c = res from HK.out.2)
   go_wp2
   go_ret
   exact ⟨by first | rfl | (rw [← HE.out]; rfl), rfl⟩
end Go.Proofs.YtaalajhmfdcalaaDoor.X
namespace Go.Proofs.YtaalajhmfdcalaaDoor.X
open Go.RowKit Go.Lib Go.Proofs.YtaalajhmfdcalaaDoorW.PrintWords
theorem dN_val2 {n b0 b1 b2 b3 : Nat} (h : (decodeN n b0 b1 b2 b3).2 = 2) : (decodeN n b0 b1 b2 b3).1 = b0 % 32 * 64 + b1 % 64 := by
 unfold decodeN at h ⊢
 (repeat' split at h) <;> simp_all <;> (rw [if_neg (by omega)])
theorem dN_val3 {n b0 b1 b2 b3 : Nat} (h : (decodeN n b0 b1 b2 b3).2 = 3) : (decodeN n b0 b1 b2 b3).1 = b0 % 16 * 4096 + b1 % 64 * 64 + b2 % 64 := by
 unfold decodeN at h ⊢
 (repeat' split at h) <;> simp_all <;> (rw [if_neg (by omega)])
theorem dN_val4 {n b0 b1 b2 b3 : Nat} (h : (decodeN n b0 b1 b2 b3).2 = 4) : (decodeN n b0 b1 b2 b3).1 = b0 % 8 * 262144 + b1 % 64 * 4096 + b2 % 64 * 64 + b3 % 64 := by
 unfold decodeN at h ⊢
 (repeat' split at h) <;> simp_all <;> (rw [if_neg (by omega)])
theorem code_dec {c : UInt8} {r : List UInt8} {n : Nat} (h2 : 2 ≤ n) (h4 : n ≤ 4) (hl : n ≤ r.length + 1) (h : (decodeGo ⟨(c :: r).toArray⟩).2 = n) : codeT (n - 1) (codeH n c.toNat) r = (decodeGo ⟨(c :: r).toArray⟩).1 := by
 rw [decG_eq (c :: r) (by simp)] at h ⊢
 simp only [List.getElem?_cons_zero, Option.getD_some, List.getElem?_cons_succ, List.length_cons] at h ⊢
 rcases (by omega : n = 2 ∨ n = 3 ∨ n = 4) with rfl | rfl | rfl
 ·rw [dN_val2 h]
  cases r with
  | nil => simp at hl
  | cons x r => simp [codeT, codeH]; omega
 ·rw [dN_val3 h]
  cases r with
  | nil => simp at hl
  | cons x r =>
   cases r with
   | nil => simp at hl
   | cons y r => simp [codeT, codeH]; omega
 ·rw [dN_val4 h]
  cases r with
  | nil => simp at hl
  | cons x r =>
   cases r with
   | nil => simp at hl
   | cons y r =>
    cases r with
    | nil => simp at hl
    | cons z r => simp [codeT, codeH]; omega
theorem get_drop (s : ByteArray) (p i : Nat) : s.get! (p + i) = ((s.data.toList.drop p)[i]?).getD 0 := by
 rw [List.getElem?_drop, Array.getElem?_toList]
 obtain ⟨a⟩ := s
 show a[p + i]! = _
 rw [getElem!_def]
 split <;> rename_i h <;> simp only [h] <;> rfl
theorem dec_drop (s : ByteArray) (p : Nat) (h : p < s.size) : Utf8.decode s p = decodeGo ⟨(s.data.toList.drop p).toArray⟩ := by
 rw [decG_eq _ (by rw [List.length_drop, size_data]; omega), Lib.decode_at, ← get_drop, ← get_drop, ← get_drop, ← get_drop, List.length_drop, size_data]
 rfl
theorem dec_ascii {s : ByteArray} {p : Nat} {c : UInt8} (hp : p < s.size) (hd : s.data.toList.drop p = c :: s.data.toList.drop (p + 1)) (h : c.toNat < 128) : Utf8.decode s p = (c.toNat, 1) := by
 rw [Lib.decode_at, show s.get! p = c by have := get_drop s p 0; rw [hd] at this; exact this]
 unfold decodeN
 rw [if_pos h]
theorem charZ_asc {c : UInt8} (r : List UInt8) (h : c.toNat < 128) : charZ (c :: r) = 1 := by
 have hch : charZ (c :: r) = if cntZ c.toNat ≤ 1 then (cntZ c.toNat : Int) else contZ (cntZ c.toNat - 1) r (loZ c.toNat) (hiZ c.toNat) (cntZ c.toNat) := rfl
 have e : cntZ (c.toNat : Int) = 1 := by unfold cntZ; rw [if_pos (by omega)]
 rw [hch, e]
 rfl
theorem dec_char {s : ByteArray} {p n : Nat} {c : UInt8} (hp : p < s.size) (hd : s.data.toList.drop p = c :: s.data.toList.drop (p + 1)) (hn : charZ (s.data.toList.drop p) = (n : Int)) (h2 : 2 ≤ n) : n ≤ 4 ∧ p + n ≤ s.size ∧ Utf8.decode s p = (codeT (n - 1) (codeH n c.toNat) (s.data.toList.drop (p + 1)), n) ∧ 128 ≤ (Utf8.decode s p).1 := by
 have h128 : 128 ≤ c.toNat := by
  refine Nat.le_of_not_lt fun h => ?_
  rw [hd, charZ_asc _ h] at hn
  omega
 have hl : (s.data.toList.drop (p + 1)).length = s.size - (p + 1) := by rw [List.length_drop, size_data]
 rcases char_dec c (s.data.toList.drop (p + 1)) h128 with ⟨e, _, _⟩ | ⟨e, _, _⟩ | ⟨m, e, m2, m4, ml, md⟩
 ·rw [hd] at hn; omega
 ·rw [hd] at hn; omega
 ·have : m = n := by rw [hd] at hn; omega
  subst this
  rw [List.length_cons, hl] at ml
  have h1 := code_dec m2 m4 (by rw [hl]; omega) md
  rw [dec_drop s p hp, hd]
  refine ⟨m4, by omega, Prod.ext h1.symm md, ?_⟩
  have hg := decG_eq (c :: s.data.toList.drop (p + 1)) (by simp)
  rw [hg] at md ⊢
  simp only [List.getElem?_cons_zero, Option.getD_some, List.getElem?_cons_succ, List.length_cons] at md ⊢
  have := c.toNat_lt
  revert md
  unfold decodeN
  rw [if_neg (by omega)]
  (repeat' split) <;> (intro md; simp only at md ⊢; omega)
def fromL : List UInt8 := [8, 9, 10, 12, 13, 34, 92]
def toL : List UInt8 := [98, 116, 110, 102, 114, 34, 92]
def shF (c : UInt8) : Nat → List UInt8
 | 0 => []
 | k + 1 => if c = fromL.getD k 0 then [92, toL.getD k 0] else shF c k
theorem sh_tab : ∀ i : Fin 128, (shF (UInt8.ofNat i.val) 7 ≠ [] → (runeB i.val).flatten = shF (UInt8.ofNat i.val) 7) ∧ (shF (UInt8.ofNat i.val) 7 = [] → 32 ≤ i.val → i.val ≤ 126 → (runeB i.val).flatten = [UInt8.ofNat i.val]) ∧ (shF (UInt8.ofNat i.val) 7 = [] → (i.val < 32 ∨ 126 < i.val) → (runeB i.val).flatten = unitB i.val) := by decide +kernel
theorem sh_of (c : UInt8) (h : c.toNat < 128) : (shF c 7 ≠ [] → (runeB c.toNat).flatten = shF c 7) ∧ (shF c 7 = [] → 32 ≤ c.toNat → c.toNat ≤ 126 → (runeB c.toNat).flatten = [c]) ∧ (shF c 7 = [] → (c.toNat < 32 ∨ 126 < c.toNat) → (runeB c.toNat).flatten = unitB c.toNat) := by
 have := sh_tab ⟨c.toNat, h⟩
 simpa only [UInt8.ofNat_toNat] using this
theorem rune_mid {c : Nat} (h : 128 ≤ c) (h2 : c ≤ 65535) : (runeB c).flatten = unitB c := by
 unfold runeB
 (repeat' rw [if_neg (by omega)])
 simp
theorem rune_big {c : Nat} (h2 : 65535 < c) : (runeB c).flatten = unitB (55296 + (c - 65536) / 1024) ++ unitB (56320 + (c - 65536) % 1024) := by
 unfold runeB
 rw [if_neg (by omega), if_neg (by omega), if_neg (by omega), if_neg (by omega), if_neg (by omega), if_neg (by omega), if_neg (by omega), if_pos h2]
 simp
theorem lens_flat (l : List (List UInt8)) : l.flatten.length = lensL l := by simp [lensL, List.length_flatten]
end Go.Proofs.YtaalajhmfdcalaaDoor.X
namespace Go.Proofs.YtaalajhmfdcalaaDoor.X
open Go.RowKit Go.Lib Go.Proofs.YtaalajhmfdcalaaDoorW.PrintWords Go.Proofs.YtaalajhmfdcalaaDoorW.PrintLast Go.Proofs.YtaalajhmfdcalaaDoorW.PrintMore
def qtF (s : ByteArray) (k p : Nat) : List UInt8 := (quoteL s k p).flatten
theorem qt_on (s : ByteArray) (k p : Nat) (h : p < s.size) : qtF s (k + 1) p = (runeB (Utf8.decode s p).1).flatten ++ qtF s k (p + (Utf8.decode s p).2) := by
 unfold qtF
 rw [quoteL_on s k p h, List.flatten_append]
theorem qt_end (s : ByteArray) (k p : Nat) (h : ¬ p < s.size) : qtF s k p = [] := by
 unfold qtF
 rw [quoteL_end s k p h]
 rfl
def quotF (s : ByteArray) : List UInt8 := (quoteB s).flatten
theorem quot_eq (s : ByteArray) : quotF s = [34] ++ qtF s (s.size + 1) 0 ++ [34] := by
 unfold quotF quoteB qtF
 simp
theorem at_dropP {s : List UInt8} {q : Nat} {u : UInt8} (h : s.drop q = u :: s.drop (q + 1)) : s[q]? = some u := by
 have : (s.drop q)[0]? = some u := by rw [h]; rfl
 rw [List.getElem?_drop] at this
 exact this
theorem asc_of {s : List UInt8} {p : Nat} {u : UInt8} (hu : s.drop p = u :: s.drop (p + 1)) (hn : charZ (s.drop p) = ((1 : Nat) : Int)) : u.toNat < 128 := by
 refine Nat.lt_of_not_le fun h => ?_
 rw [hu] at hn
 rcases char_dec u (s.drop (p + 1)) h with ⟨e, _, _⟩ | ⟨e, _, _⟩ | ⟨m, e, m2, _, _, _⟩ <;> omega
theorem at_dropQ {s : List UInt8} {q : Nat} {u : UInt8} (h : s[q]? = some u) : s.drop q = u :: s.drop (q + 1) := by
 obtain ⟨h1, h2⟩ := List.getElem?_eq_some_iff.1 h
 rw [List.drop_eq_getElem_cons h1, h2]
theorem app_size (a b : ByteArray) : (a ++ b).size = a.size + b.size := ByteArray.size_append
theorem uni_hi {m : Nat} (h : m ≤ 2031615) (W : World) : Calls Tryd.prog 80 #[.int .i64 (55296 + (m : Int) / 1024)] W fun e W' => e = .returned (.string (bs (unitB (55296 + m / 1024)))) ∧ W' = W := by
 have := runicode_calls (55296 + m / 1024) (by omega) W
 rwa [show ((55296 + m / 1024 : Nat) : Int) = 55296 + (m : Int) / 1024 from by omega] at this
theorem uni_lo (m : Nat) (W : World) : Calls Tryd.prog 80 #[.int .i64 (56320 + (m : Int) % 1024)] W fun e W' => e = .returned (.string (bs (unitB (56320 + m % 1024)))) ∧ W' = W := by
 have := runicode_calls (56320 + m % 1024) (by omega) W
 rwa [show ((56320 + m % 1024 : Nat) : Int) = 56320 + (m : Int) % 1024 from by omega] at this
theorem rcode_n (s : ByteArray) (p n : Nat) (u : UInt8) (W : World) (hs : s.size ≤ 4611686018427387904) (hp : p + n ≤ s.size) (hu : s.data.toList[p]? = some u) (h2 : 2 ≤ n) (h4 : n ≤ 4) :
  Calls Tryd.prog 79 #[.string s, .int .i64 (p : Int), .int .i64 (n : Int)] W fun e W' => e = .returned (.int .i64 (codeT (n - 1) (codeH n u.toNat) (s.data.toList.drop (p + 1)) : Nat)) ∧ W' = W := by
 rcases (by omega : n = 2 ∨ n = 3 ∨ n = 4) with rfl | rfl | rfl
 ·exact rcode_2 s p u W hs hp hu
 ·exact rcode_3 s p u W hs hp hu
 ·exact rcode_4 s p u W hs hp hu
theorem sh_len (c : UInt8) : ∀ k, (shF c k).length ≤ 2
 | 0 => Nat.zero_le _
 | k + 1 => by
  unfold shF
  split
  ·exact Nat.le_refl _
  ·exact sh_len c k
theorem ext_one {s : ByteArray} {p : Nat} {u : UInt8} (hu : s.data.toList.drop p = u :: s.data.toList.drop (p + 1)) : (s.extract p (p + 1)).size = 1 ∧ s.extract p (p + 1) = bs [u] := by
 have e : s.extract p (p + 1) = bs [u] := by
  rw [extract_bs, hu, show p + 1 - p = 1 by omega]
  rfl
 exact ⟨by rw [e]; rfl, e⟩
set_option maxRecDepth 1000000 in
set_option maxHeartbeats 4000000 in
theorem rquoted_calls (s : ByteArray) (hs : s.size ≤ 288230376151711743) (hv : validD s.data.toList = true) (W : World) :
  Calls Tryd.prog 57 #[.string s] W fun e W' => e = .returned (.string (bs (quotF s))) ∧ Drawn0 W W' := by
 rw [quot_eq]
 have HV0 := am (show validD (s.data.toList.drop 0) = true from by rw [List.drop_zero]; exact hv)
 obtain ⟨T, hT⟩ : ∃ T, [34] ++ qtF s (s.size + 1) 0 = T := ⟨_, rfl⟩
 have HT0 := am (show (⟨#[34]⟩ : ByteArray).data.toList ++ qtF s (s.size + 1) 0 = T from hT)
 rw [hT]
 clear hv hT
 go_enter Tryd.func57, Tryd.ntmps57
 go_wp2
 generalize hfs : (⟨#[8, 9, 10, 12, 13, 34, 92]⟩ : ByteArray) = fs
 generalize hts : (⟨#[98, 116, 110, 102, 114, 34, 92]⟩ : ByteArray) = ts
 have zf : fs.size = 7 := by rw [← hfs]; rfl
 have zt : ts.size = 7 := by rw [← hts]; rfl
 have HFS := am (show fs.data.toList = fromL by rw [← hfs]; rfl)
 have HTS := am (show ts.data.toList = toL by rw [← hts]; rfl)
 clear hfs hts
 go_loopg [5, 6] (s.size + 1) (fun g v5 v6 wr => ∃ (L : ByteArray) (p : Nat), v5 = .string L ∧ v6 = .int .i64 (p : Int) ∧ p ≤ s.size ∧ s.size + 1 ≤ p + g ∧ L.size ≤ 12 * p + 1 ∧ Drawn0 W wr ∧ Aside0 (validD (s.data.toList.drop p) = true) ∧ Aside0 (L.data.toList ++ qtF s g p = T))
 case atStart => exact ⟨⟨#[34]⟩, 0, rfl, rfl, Nat.zero_le _, by omega, by decide, Drawn0.refl _, HV0, HT0⟩
 case round =>
  obtain ⟨L, p, rfl, rfl, hp, hg, hL, hw, HV, HT⟩ := hrel
  have HW := am hw
  clear hw
  clear HV0 HT0
  by_cases hlt : p < s.size
  ·obtain ⟨u, hu, hx⟩ := drop_atP s p hlt
   have p1 : (0 ≤ (p : Int)) = True := eq_true (by omega)
   have p2 : ((p : Int) < (s.size : Int)) = True := eq_true (by omega)
   have HLT := am hlt
   have HSZ := am (show s.size ≤ 4611686018427387904 by omega)
   have HU := am (at_dropP hu)
   obtain ⟨g, rfl⟩ : ∃ g, gk = g + 1 := ⟨gk - 1, by omega⟩
   have HT1 := am (show L.data.toList ++ ((runeB (Utf8.decode s p).1).flatten ++ qtF s g (p + (Utf8.decode s p).2)) = T from by rw [← qt_on s g p hlt]; exact HT.out)
   clear HT
   rcases char_valid (s.data.toList.drop p) (by rw [hu]; simp) with ⟨_, hf⟩ | ⟨n, hn, hn1, hnl, hv⟩
   ·rw [HV.out] at hf; cases hf
   have HV2 := am (show validD (s.data.toList.drop (p + n)) = true from by rw [← List.drop_drop, ← hv]; exact HV.out)
   rw [List.length_drop, size_data] at hnl
   by_cases hn2 : n = 1
   ·subst hn2
    have h128 : u.toNat < 128 := asc_of hu hn
    have HD := am (dec_ascii hlt hu h128)
    have HSH := am (sh_of u h128)
    obtain ⟨p1n, hp1n⟩ : ∃ m : Nat, p + 1 = m := ⟨_, rfl⟩
    have w3p : (p : Int) + 1 = (p1n : Int) := by omega
    have HT2 := am (show L.data.toList ++ ((runeB u.toNat).flatten ++ qtF s g p1n) = T from by have := HT1.out; rw [HD.out] at this; rw [← hp1n]; exact this)
    have HV3 := am (show validD (s.data.toList.drop p1n) = true from by rw [← hp1n]; exact HV2.out)
    have HP1 := am hp1n
    have HCH := am (show charZ (s.data.toList.drop p) = 1 from hn)
    have HCO := am (show codeT 0 (codeH 1 u.toNat) (s.data.toList.drop (p + 1)) = u.toNat from by simp [codeT, codeH])
    have HN2 := am hnl
    have k1' : ((p : Int) ≤ (p1n : Int)) = True := eq_true (by omega)
    have k2' : ((p1n : Int) ≤ (s.size : Int)) = True := eq_true (by omega)
    have k3' : (p ≤ p1n) = True := eq_true (by omega)
    have k4' : (p1n ≤ s.size) = True := eq_true (by omega)
    have hul := u.toNat_lt
    clear hn hv hnl hn1 HT1 HV2 hu hp1n w3p
    go_wp2_with (first | (go_at_call 60; (with_reducible refine (char_calls s p _ HSZ.out HLT.out).mono ?_); rintro e w1 ⟨rfl, hw⟩; rw [hw]; clear hw w1; rw [HCH.out]) | (go_at_call 79; (with_reducible refine (rcode_1 s p u _ HSZ.out (by have := HN2.out; omega) HU.out).mono ?_); rintro e w1 ⟨rfl, hw⟩; rw [hw]; clear hw w1; rw [HCO.out]))
    go_loopg [9, 10] 8 (fun g2 v9 v10 w2 => ∃ k : Nat, v9 = .string (bs (shF u k)) ∧ v10 = .int .i64 (k : Int) ∧ k ≤ 7 ∧ 8 ≤ k + g2 ∧ Drawn0 W w2)
    case atStart => exact ⟨0, rfl, rfl, by omega, by omega, HW.out⟩
    case round =>
     obtain ⟨k, rfl, rfl, hk, hg2, hw⟩ := hrel
     have HW := am hw
     clear hw
     by_cases hk7 : k < 7
     ·obtain ⟨x, hxk, hxx⟩ := drop_atP fs k (by omega)
      obtain ⟨y, hyk, hyy⟩ := drop_atP ts k (by omega)
      obtain ⟨g2, rfl⟩ : ∃ g2', gk = g2' + 1 := ⟨gk - 1, by omega⟩
      have m1 : (0 ≤ (k : Int)) = True := eq_true (by omega)
      have m2 : ((k : Int) < (fs.size : Int)) = True := eq_true (by omega)
      have HX := am (show fromL.getD k 0 = x from by rw [← HFS.out, List.getD_eq_getElem?_getD, at_dropP hxk]; rfl)
      have HY := am (show toL.getD k 0 = y from by rw [← HTS.out, List.getD_eq_getElem?_getD, at_dropP hyk]; rfl)
      obtain ⟨k1n, hk1n⟩ : ∃ m : Nat, k + 1 = m := ⟨_, rfl⟩
      have HK1 := am (show (k : Int) + 1 = (k1n : Int) by omega)
      have HKL := am (show k1n ≤ 7 ∧ 8 ≤ k1n + g2 by omega)
      have HSN := am (show shF u k1n = if u = x then [92, y] else shF u k from by rw [← hk1n, shF, HX.out, HY.out])
      by_cases hm : u = x
      ·have b1 : ((u.toNat : Int) == (x.toNat : Int)) = true := beq_iff_eq.mpr (by rw [hm])
       have b2 : (u.toNat == x.toNat) = true := beq_iff_eq.mpr (by rw [hm])
       have HSN := am (show shF u k1n = [92, y] from by rw [HSN.out, if_pos hm])
       have z1 := ext_one hyk
       rw [hk1n] at z1
       have HE := am (show (⟨#[92]⟩ : ByteArray) ++ ts.extract k k1n = bs (shF u k1n) from by rw [HSN.out, z1.2]; rfl)
       have z2 := z1.1
       have w3k : (k : Int) + 1 = (k1n : Int) := HK1.out
       have t1 : ((k : Int) ≤ (k1n : Int)) = True := eq_true (by omega)
       have t2 : ((k1n : Int) ≤ (ts.size : Int)) = True := eq_true (by omega)
       have t3 : (k ≤ k1n) = True := eq_true (by omega)
       have t4 : (k1n ≤ ts.size) = True := eq_true (by omega)
       have t5 : ((k1n : Int) ≤ 7) = True := eq_true (by omega)
       have t6 : (k1n ≤ 7) = True := eq_true (by omega)
       clear hm hxk hyk z1 hk1n
       go_wp2
       go_quiet (fail)
       go_wp2
       rw [HE.out]
       clear w3k
       go_roundg g2
       case measure => omega
       case rel => exact ⟨k1n, rfl, rfl, HKL.out.1, HKL.out.2, HW.out.step _⟩
      ·have b1 : ((u.toNat : Int) == (x.toNat : Int)) = false := beq_eq_false_iff_ne.mpr (fun hh => hm (UInt8.toNat_inj.1 (by omega)))
       have HSN := am (show shF u k1n = shF u k from by rw [HSN.out, if_neg hm])
       clear hm hxk hyk
       go_wp2
       go_quiet (fail)
       go_wp2
       go_roundg g2
       case measure => omega
       case rel => exact ⟨k1n, congrArg (fun l => Value.string (bs l)) HSN.out.symm, congrArg (Value.int .i64) HK1.out, HKL.out.1, HKL.out.2, HW.out.step _⟩
     ·have hk8 : k = 7 := by omega
      subst hk8
      have HSH1 := HSH.out
      have HSL := am (sh_len u 7)
      clear hg2
      generalize shF u 7 = sh at *
      cases sh with
      | nil =>
       rw [show bs ([] : List UInt8) = (⟨#[]⟩ : ByteArray) from rfl]
       by_cases hc : 32 ≤ u.toNat ∧ u.toNat ≤ 126
       ·have z1 := ext_one (at_dropQ HU.out)
        rw [HP1.out] at z1
        have z2 := z1.1
        have HE := am (show (L ++ s.extract p p1n).data.toList ++ qtF s g p1n = T from by
         have := HT2.out
         rw [HSH1.2.1 rfl hc.1 hc.2, ← List.append_assoc] at this
         rw [z1.2, ← bs_eq L, bs_append]
         exact this)
        have HLS := am (show (L ++ s.extract p p1n).size ≤ 12 * p1n + 1 from by rw [app_size, z2]; have := HP1.out; omega)
        have c1 : decide ((32 : Int) ≤ (u.toNat : Int)) = true := decide_eq_true (by omega)
        have c2 : decide ((u.toNat : Int) ≤ 126) = true := decide_eq_true (by omega)
        have c3 : decide (32 ≤ u.toNat) = true := decide_eq_true hc.1
        have c4 : decide (u.toNat ≤ 126) = true := decide_eq_true hc.2
        have w3p : (p : Int) + 1 = (p1n : Int) := by have := HP1.out; omega
        have HPN := am (show p1n ≤ s.size ∧ s.size + 1 ≤ p1n + g from by have := HP1.out; have := HLT.out; omega)
        clear HSH1 HSH HT2 hc z1
        go_wp2
        clear w3p
        go_roundg g
        case measure => omega
        case rel => exact ⟨_, p1n, rfl, rfl, HPN.out.1, HPN.out.2, HLS.out, HW.out, HV3, HE⟩
       ·have HE := am (show (L ++ bs (unitB u.toNat)).data.toList ++ qtF s g p1n = T from by
         have := HT2.out
         rw [HSH1.2.2 rfl (by omega), ← List.append_assoc] at this
         rw [← bs_eq L, bs_append]
         exact this)
        have HUB := am (show u.toNat ≤ 65535 by omega)
        have z2 : (bs (unitB u.toNat)).size = 6 := rfl
        have HLS := am (show (L ++ bs (unitB u.toNat)).size ≤ 12 * p1n + 1 from by rw [app_size, z2]; have := HP1.out; omega)
        have w3p : (p : Int) + 1 = (p1n : Int) := by have := HP1.out; omega
        have HPN := am (show p1n ≤ s.size ∧ s.size + 1 ≤ p1n + g from by have := HP1.out; have := HLT.out; omega)
        have d1 : decide ((u.toNat : Int) < 65536) = true := decide_eq_true (by omega)
        have d2 : decide (u.toNat < 65536) = true := decide_eq_true (by omega)
        have HUN := am (fun W2 => runicode_calls u.toNat HUB.out W2)
        generalize bs (unitB u.toNat) = un at *
        by_cases h32 : 32 ≤ u.toNat
        ·have c1 : decide ((32 : Int) ≤ (u.toNat : Int)) = true := decide_eq_true (by omega)
         have c2 : decide ((u.toNat : Int) ≤ 126) = false := decide_eq_false (by omega)
         have c3 : decide (32 ≤ u.toNat) = true := decide_eq_true h32
         have c4 : decide (u.toNat ≤ 126) = false := decide_eq_false (by omega)
         clear HSH1 HSH HT2 hc h32
         go_wp2_with (go_at_call 80; (with_reducible refine (HUN.out _).mono ?_); rintro e w1 ⟨rfl, hw⟩; rw [hw]; clear hw w1)
         clear w3p
         go_roundg g
         case measure => omega
         case rel => exact ⟨_, p1n, rfl, rfl, HPN.out.1, HPN.out.2, HLS.out, HW.out, HV3, HE⟩
        ·have c1 : decide ((32 : Int) ≤ (u.toNat : Int)) = false := decide_eq_false (by omega)
         have c3 : decide (32 ≤ u.toNat) = false := decide_eq_false h32
         clear HSH1 HSH HT2 hc h32
         go_wp2_with (go_at_call 80; (with_reducible refine (HUN.out _).mono ?_); rintro e w1 ⟨rfl, hw⟩; rw [hw]; clear hw w1)
         clear w3p
         go_roundg g
         case measure => omega
         case rel => exact ⟨_, p1n, rfl, rfl, HPN.out.1, HPN.out.2, HLS.out, HW.out, HV3, HE⟩
      | cons a r =>
       have HE := am (show (L ++ bs (a :: r)).data.toList ++ qtF s g p1n = T from by
        have := HT2.out
        rw [HSH1.1 (by simp), ← List.append_assoc] at this
        rw [← bs_eq L, bs_append]
        exact this)
       have HLS := am (show (L ++ bs (a :: r)).size ≤ 12 * p1n + 1 from by rw [app_size, bs_size]; have := HP1.out; have := HSL.out; omega)
       have z2 : (bs (a :: r)).size ≤ 2 := by rw [bs_size]; exact HSL.out
       have n1 : ((bs (a :: r)).toList != (⟨#[]⟩ : ByteArray).toList) = true := by rw [toList_bs, toList_data]; rfl
       have n2 : ((bs (a :: r)).toList != []) = true := by rw [toList_bs]; rfl
       have n3 : ((bs (a :: r)).toList == []) = false := by rw [toList_bs]; rfl
       have w3p : (p : Int) + 1 = (p1n : Int) := by have := HP1.out; omega
       have HPN := am (show p1n ≤ s.size ∧ s.size + 1 ≤ p1n + g from by have := HP1.out; have := HLT.out; omega)
       clear HSH1 HSH HT2 HSL
       generalize bs (a :: r) = sh at *
       go_wp2
       clear w3p
       go_roundg g
       case measure => omega
       case rel => exact ⟨_, p1n, rfl, rfl, HPN.out.1, HPN.out.2, HLS.out, HW.out, HV3, HE⟩
   ·have h2 : 2 ≤ n := by omega
    obtain ⟨h4, hpn, hdec, h128⟩ := dec_char hlt hu hn h2
    have hmax := (dec_small s p).1
    have HCA := am (fun W2 => rcode_n s p n u W2 HSZ.out hpn HU.out h2 h4)
    rw [hdec] at HT1 h128 hmax
    generalize codeT (n - 1) (codeH n u.toNat) (s.data.toList.drop (p + 1)) = cc at *
    obtain ⟨pn, hpn2⟩ : ∃ m : Nat, p + n = m := ⟨_, rfl⟩
    have HT2 := am (show L.data.toList ++ ((runeB cc).flatten ++ qtF s g pn) = T from by rw [← hpn2]; exact HT1.out)
    have HV3 := am (show validD (s.data.toList.drop pn) = true from by rw [← hpn2]; exact HV2.out)
    have HPN := am (show pn ≤ s.size ∧ s.size + 1 ≤ pn + g ∧ p + 1 ≤ pn ∧ p + n = pn from by omega)
    have HCH := am hn
    have HMX := am (show cc ≤ 2097151 from hmax)
    have n1 : ((n : Int) == 1) = false := beq_eq_false_iff_ne.mpr (by omega)
    have n2 : (n == 1) = false := beq_eq_false_iff_ne.mpr (by omega)
    have n3 : decide ((n : Int) < 1) = false := decide_eq_false (by omega)
    have hn4 : n ≤ 4 := h4
    have hc0 : 128 ≤ cc := h128
    have hcm : cc ≤ 2097151 := hmax
    clear hn hv hnl hn1 HT1 HV2 hu hpn2 hn2 h2 hdec hmax h128 hpn h4
    go_wp2_with (first | (go_at_call 60; (with_reducible refine (char_calls s p _ HSZ.out HLT.out).mono ?_); rintro e w1 ⟨rfl, hw⟩; rw [hw]; clear hw w1; rw [HCH.out]) | (go_at_call 79; (with_reducible refine (HCA.out _).mono ?_); rintro e w1 ⟨rfl, hw⟩; rw [hw]; clear hw w1))
    go_loopg [9, 10] 8 (fun g2 v9 v10 w2 => ∃ k : Nat, v9 = .string (⟨#[]⟩ : ByteArray) ∧ v10 = .int .i64 (k : Int) ∧ k ≤ 7 ∧ 8 ≤ k + g2 ∧ Drawn0 W w2)
    case atStart => exact ⟨0, rfl, rfl, by omega, by omega, HW.out⟩
    case round =>
     obtain ⟨k, rfl, rfl, hk, hg2, hw⟩ := hrel
     have HW := am hw
     clear hw
     by_cases hk7 : k < 7
     ·obtain ⟨g2, rfl⟩ : ∃ g2', gk = g2' + 1 := ⟨gk - 1, by omega⟩
      obtain ⟨k1n, hk1n⟩ : ∃ m : Nat, k + 1 = m := ⟨_, rfl⟩
      have HK1 := am (show (k : Int) + 1 = (k1n : Int) by omega)
      have HKL := am (show k1n ≤ 7 ∧ 8 ≤ k1n + g2 by omega)
      clear hk1n
      go_wp2
      go_quiet (fail)
      go_wp2
      go_roundg g2
      case measure => omega
      case rel => exact ⟨k1n, rfl, congrArg (Value.int .i64) HK1.out, HKL.out.1, HKL.out.2, HW.out.step _⟩
     ·have hk8 : k = 7 := by omega
      subst hk8
      clear hg2
      have c1 : decide ((32 : Int) ≤ (cc : Int)) = true := decide_eq_true (by omega)
      have c2 : decide ((cc : Int) ≤ 126) = false := decide_eq_false (by omega)
      have c3 : decide (32 ≤ cc) = true := decide_eq_true (by omega)
      have c4 : decide (cc ≤ 126) = false := decide_eq_false (by omega)
      have w3p : (p : Int) + (n : Int) = (pn : Int) := by have := HPN.out.2.2.2; omega
      by_cases hb : cc ≤ 65535
      ·have HE := am (show (L ++ bs (unitB cc)).data.toList ++ qtF s g pn = T from by
        have := HT2.out
        rw [rune_mid hc0 hb, ← List.append_assoc] at this
        rw [← bs_eq L, bs_append]
        exact this)
       have z2 : (bs (unitB cc)).size = 6 := rfl
       have HLS := am (show (L ++ bs (unitB cc)).size ≤ 12 * pn + 1 from by rw [app_size, z2]; have := HPN.out.2.2.1; omega)
       have d1 : decide ((cc : Int) < 65536) = true := decide_eq_true (by omega)
       have d2 : decide (cc < 65536) = true := decide_eq_true (by omega)
       have HUN := am (fun W2 => runicode_calls cc hb W2)
       generalize bs (unitB cc) = un at *
       clear HT2 hb HMX
       go_wp2_with (go_at_call 80; (with_reducible refine (HUN.out _).mono ?_); rintro e w1 ⟨rfl, hw⟩; rw [hw]; clear hw w1)
       clear w3p
       go_roundg g
       case measure => omega
       case rel => exact ⟨_, pn, rfl, rfl, HPN.out.1, HPN.out.2.1, HLS.out, HW.out, HV3, HE⟩
      ·obtain ⟨m, hm⟩ : ∃ m : Nat, cc - 65536 = m := ⟨_, rfl⟩
       have HE := am (show ((L ++ bs (unitB (55296 + m / 1024))) ++ bs (unitB (56320 + m % 1024))).data.toList ++ qtF s g pn = T from by
        have := HT2.out
        rw [rune_big (by omega), hm, ← List.append_assoc, ← List.append_assoc] at this
        rw [← bs_eq L, bs_append, bs_append]
        exact this)
       have z2 : (bs (unitB (55296 + m / 1024))).size = 6 := rfl
       have z3 : (bs (unitB (56320 + m % 1024))).size = 6 := rfl
       have HLS := am (show ((L ++ bs (unitB (55296 + m / 1024))) ++ bs (unitB (56320 + m % 1024))).size ≤ 12 * pn + 1 from by rw [app_size, app_size, z2, z3]; have := HPN.out.2.2.1; omega)
       have d1 : decide ((cc : Int) < 65536) = false := decide_eq_false (by omega)
       have d2 : decide (cc < 65536) = false := decide_eq_false (by omega)
       have wm : (cc : Int) - 65536 = (m : Int) := by omega
       have hmm : m ≤ 2031615 := by omega
       have HU1 := am (uni_hi hmm)
       have HU2 := am (uni_lo m)
       generalize bs (unitB (55296 + m / 1024)) = un1 at *
       generalize bs (unitB (56320 + m % 1024)) = un2 at *
       clear HT2 hb HMX hm
       go_wp2_with (first | (go_at_call 80; (with_reducible refine (HU1.out _).mono ?_); rintro e w1 ⟨rfl, hw⟩; rw [hw]; clear hw w1) | (go_at_call 80; (with_reducible refine (HU2.out _).mono ?_); rintro e w1 ⟨rfl, hw⟩; rw [hw]; clear hw w1))
       clear w3p
       go_roundg g
       case measure => omega
       case rel => exact ⟨_, pn, rfl, rfl, HPN.out.1, HPN.out.2.1, HLS.out, HW.out, HV3, HE⟩
  ·have p2 : ((p : Int) < (s.size : Int)) = False := eq_false (by omega)
   have HO := am (show L ++ ⟨#[34]⟩ = bs (T ++ [34]) by
    have := HT.out
    rw [qt_end s gk p hlt, List.append_nil] at this
    rw [← this, ← bs_append, bs_eq]
    rfl)
   have hL2 : L.size ≤ 3458764513820540917 := by omega
   go_wp2
   go_ret
   exact ⟨congrArg (fun x => Ending.returned (.string x)) HO.out, HW.out⟩
def okP (sl : Value) (k : Nat) : Prop := some k ≠ sl.ownBlock
theorem F_pg {α : Type} {d : Kd α} {B n : Nat} {sl sl' : Value} {W W' : World} {A : Option Addr} {xs : List α} (h : Kd.F d W (okP sl) A n xs) (ho : PgOn B sl sl' W W') : Kd.F d W' (okP sl') A n xs :=
 Kd.F_mono (Kd.F_step (Kd.F_bound h) (fun k hk hlt => ho.kept k hlt hk.1)) (fun k hk => ho.ne hk.2 hk.1)
theorem nm_pg {B : Nat} {sl sl' : Value} {W W' : World} {ad : Addr} {ns : List ByteArray} (h : Kd.F Kd.string W (okP sl) (some ad) ns.length ns) (ho : PgOn B sl sl' W W') (k : Nat) (hk : k < ns.length) : W'.cell? (ad.add k) = some (.string (nmAt ns k)) := by
 obtain ⟨ad', e, q⟩ := name_at (F_pg h ho) k hk
 obtain rfl := Option.some.inj e
 exact q
theorem PEnds.here {B : Nat} {st tg : St} {sl : Value} {W : World} {o1 : Obj} (ho : Own B W sl st.out) (hl : st.out.length ≤ 16384) (hs : SmE st tg) :
  ((W.alloc o1).alloc (.cells #[sl, .int .i64 st.e] 63)).heap[W.heap.size + 1]? = some (.cells #[sl, .int .i64 st.e] 63 (0, 0)) ∧
   PEnds B sl W tg (.returned (.agg #[sl, .int .i64 st.e])) ((W.alloc o1).alloc (.cells #[sl, .int .i64 st.e] 63)) := by
 have hb : Below W.heap.size W ((W.alloc o1).alloc (.cells #[sl, .int .i64 st.e] 63)) := below_alloc (below_alloc (Below.refl _ _) _) _
 refine ⟨?_, st, sl, rfl, hs, ho.heap hb.size fun g hg => hb.block g (ho.lt g hg).2, hl, PgOn.of_below ho.2 hb⟩
 have := heap_alloc_new (W.alloc o1) (.cells #[sl, .int .i64 st.e] 63 (0, 0))
 rwa [World.size_alloc] at this
def nameW (st : St) (seen : List ByteArray) (nm : ByteArray) : St :=
 if st.e ≠ 0 then st else if validD nm.data.toList = false then failF st 47 else if nm.data.toList ∈ seen.map (fun b => b.data.toList) then failF st 45 else putF false (putsF false st (quoteB nm)) [58]
theorem nameW_bad {st : St} (seen : List ByteArray) (nm : ByteArray) (h : st.e ≠ 0) : nameW st seen nm = st := by unfold nameW; rw [if_pos h]
theorem seen_yes {ns : List ByteArray} {i m : Nat} (hi : i < ns.length) (hm : m < i) (he : (nmAt ns m).data.toList = (nmAt ns i).data.toList) : (nmAt ns i).data.toList ∈ (ns.take i).map (fun b => b.data.toList) := by
 rw [← he, nmAt_eq ns m (by omega)]
 refine List.mem_map.2 ⟨ns[m], ?_, rfl⟩
 have h1 : m < (ns.take i).length := by rw [List.length_take]; omega
 have h2 : (ns.take i)[m] = ns[m] := List.getElem_take
 rw [← h2]
 exact List.getElem_mem h1
theorem seen_no {ns : List ByteArray} {i : Nat} (hi : i < ns.length) (h : ∀ q, q < i → ¬ (nmAt ns q).data.toList = (nmAt ns i).data.toList) : ¬ (nmAt ns i).data.toList ∈ (ns.take i).map (fun b => b.data.toList) := by
 intro hh
 obtain ⟨s, hs, he⟩ := List.mem_map.1 hh
 obtain ⟨m, hm, rfl⟩ := List.getElem_of_mem hs
 rw [List.length_take] at hm
 refine h m (by omega) ?_
 rw [nmAt_eq ns m (by omega)]
 rw [List.getElem_take] at he
 exact he
theorem quot_size (s : ByteArray) : (bs (quotF s)).size ≤ 12 * s.size + 2 := by
 rw [bs_size]
 unfold quotF
 rw [lens_flat]
 exact quoteB_lens s
theorem wrapn (i n : Nat) (hi : i < n) (hn : n ≤ 9223372036854775807) : wrap64 ((i : Int) + 1) = ((i + 1 : Nat) : Int) := by unfold wrap64; omega
set_option maxRecDepth 1000000 in
set_option maxHeartbeats 8000000 in
theorem rname_calls (B : Nat) (st : St) (sl : Value) (ns : List ByteArray) (A2 : Option Addr) (c2 i : Nat) (hi : i < ns.length) (W : World) (hsz : ∀ s, s ∈ ns → s.size ≤ 288230376151711743) (hF : Kd.F Kd.string W (okP sl) A2 ns.length ns) (ho : Own B W sl st.out) (hl : st.out.length ≤ 16384) :
  Calls Tryd.prog 58 #[.agg #[sl, .int .i64 st.e], .slice A2 ns.length c2, .int .i64 (i : Int)] W (PEnds B sl W (nameW st (ns.take i) (nmAt ns i))) := by
 have HP0 := am (PgB.start st.e ho)
 obtain ⟨ad, e8, _⟩ := name_at hF i hi
 subst e8
 have hmax := Kd.F_max hF
 have hnz := hsz (nmAt ns i) (mem_nm ns i hi)
 obtain ⟨A0, c0, e0⟩ := ho.slice
 subst e0
 have HF := am hF
 have HL := am hl
 have HO := am ho
 clear hF hsz ho hl
 by_cases he : st.e = 0
 case neg =>
  have HR := am (PEnds.here (o1 := .cells #[.slice A0 st.out.length c0, .int .i64 st.e] 63) HO.out HL.out (SmE.refl st))
  rw [nameW_bad _ _ he]
  have e0 : ((st.e : Int) != 0) = true := bne_iff_ne.mpr (by omega)
  have e1 : (st.e != 0) = true := bne_iff_ne.mpr he
  clear he
  go_enter Tryd.func58, Tryd.ntmps58
  go_wp2
  refine bodyPost_ret (results_cell_row rfl _ _ (W.heap.size + 1) 63 _ (0, 0) _ rfl HR.out.1 Tryd.underlying63 rfl (by kernel_rfl)) rfl ?_
  exact HR.out.2
 obtain ⟨lo, eo⟩ := st
 dsimp at he
 subst he
 have ci := fun (w : World) (hw : PgOn B (.slice A0 lo.length c0) (.slice A0 lo.length c0) W w) => nm_pg HF.out hw i hi
 have cw := ci _ HP0.out.on
 rw [show ((0 : Nat) : Int) = 0 from rfl] at cw
 have p1 : (0 ≤ (i : Int)) = True := eq_true (by omega)
 have p2 : ((i : Int) < (ns.length : Int)) = True := eq_true (by omega)
 have hnz' : (nmAt ns i).size ≤ 4611686018427387904 := by omega
 by_cases hv : validD (nmAt ns i).data.toList = true
 case neg =>
  have hv' : validD (nmAt ns i).data.toList = false := Bool.eq_false_iff.2 hv
  have hW : nameW ⟨lo, 0⟩ (ns.take i) (nmAt ns i) = ⟨lo, 47⟩ := by
   unfold nameW
   rw [if_neg (by simp), if_pos hv']
   rfl
  rw [hW]
  clear hv hW ci
  go_enter Tryd.func58, Tryd.ntmps58
  go_wp2_with (go_at_call 38; (with_reducible refine (clean_calls (nmAt ns i) _ hnz').mono ?_); rintro e w2 ⟨rfl, hw⟩; have HP := am (show PgB B (W.heap.size + 1) none W w2 (.slice A0 lo.length c0) (.slice A0 lo.length c0) lo 0 from hw ▸ HP0.out); have HPE := am (HP.out.setE 47 47 rfl); have HR := am (PgB.ret (st := ⟨lo, 47⟩) HPE.out HL.out (SmE.refl _)); obtain ⟨z0, z1, z2, z3⟩ := pg_cells HP.out.box; obtain ⟨y0, y1, y2, y3⟩ := pg_cells HP.out.res; clear hw)
  refine bodyPost_ret (results_cell_row rfl _ _ (W.heap.size + 1) 63 _ (0, 0) _ rfl HR.out.1 Tryd.underlying63 rfl (by kernel_rfl)) rfl ?_
  exact HR.out.2
 have HV := am hv
 go_enter Tryd.func58, Tryd.ntmps58
 go_wp2_with (go_at_call 38; (with_reducible refine (clean_calls (nmAt ns i) _ hnz').mono ?_); rintro e w2 ⟨rfl, hw⟩; have HP1 := am (show PgB B (W.heap.size + 1) none W w2 (.slice A0 lo.length c0) (.slice A0 lo.length c0) lo 0 from hw ▸ HP0.out); clear hw)
 clear cw
 go_loopg [7] (i + 1) (fun g6 v6 wr => ∃ m : Nat, v6 = .int .i64 (m : Int) ∧ m ≤ i ∧ i + 1 ≤ m + g6 ∧ Aside0 (PgB B (W.heap.size + 1) none W wr (.slice A0 lo.length c0) (.slice A0 lo.length c0) lo 0) ∧ Aside0 (∀ q, q < m → ¬ (nmAt ns q).data.toList = (nmAt ns i).data.toList))
 case atStart => exact ⟨0, rfl, by omega, by omega, HP1, ⟨fun q hq => by omega⟩⟩
 case round =>
  obtain ⟨m, rfl, hm, hg2, HP, HD⟩ := hrel
  clear HP1 HP0
  by_cases hmi : m < i
  ·cases gk with
   | zero => omega
   | succ g2 =>
    have q1 : (0 ≤ (m : Int)) = True := eq_true (by omega)
    have q2 : ((m : Int) < (i : Int)) = True := eq_true (by omega)
    have q3 : ((m : Int) < (ns.length : Int)) = True := eq_true (by omega)
    have HWM := am (wrapn m i hmi (by omega))
    have cm := nm_pg HF.out HP.out.on m (by omega)
    have cw := ci _ HP.out.on
    by_cases he : (nmAt ns m).data.toList = (nmAt ns i).data.toList
    ·have h1 : ((nmAt ns m).toList == (nmAt ns i).toList) = true := by rw [toList_data, toList_data]; exact beq_iff_eq.mpr he
     have hW : nameW ⟨lo, 0⟩ (ns.take i) (nmAt ns i) = ⟨lo, 45⟩ := by
      unfold nameW
      rw [if_neg (by simp), if_neg (by rw [HV.out]; decide), if_pos (seen_yes hi hmi he)]
      rfl
     rw [hW] at *
     clear he hW ci
     go_wp2
     go_quiet (fail)
     rename_i nq _ _ _ _
     have HPQ := am (HP.out.below (show Below wr.heap.size wr (wr.drewN nq) from pw_below_drewN (Below.refl _ _) nq))
     generalize wr.drewN nq = wq at HPQ ⊢
     have HPE := am (HPQ.out.setE 45 45 rfl)
     have HR := am (PgB.ret (st := ⟨lo, 45⟩) HPE.out HL.out (SmE.refl _))
     obtain ⟨z0, z1, z2, z3⟩ := pg_cells HPQ.out.box
     obtain ⟨y0, y1, y2, y3⟩ := pg_cells HPQ.out.res
     go_wp2
     refine bodyPost_ret (results_cell_row rfl _ _ (W.heap.size + 1) 63 _ (0, 0) _ rfl HR.out.1 Tryd.underlying63 rfl (by kernel_rfl)) rfl ?_
     exact HR.out.2
    ·have h1 : ((nmAt ns m).toList == (nmAt ns i).toList) = false := by rw [toList_data, toList_data]; exact beq_eq_false_iff_ne.mpr he
     have HD2 := am (show ∀ q, q < m + 1 → ¬ (nmAt ns q).data.toList = (nmAt ns i).data.toList from fun q hq => by
      by_cases h : q < m
      ·exact HD.out q h
      ·obtain rfl : q = m := by omega
       exact he)
     clear he
     go_wp2
     go_quiet (fail)
     go_wp2
     go_roundg g2
     case measure => omega
     case rel => exact ⟨m + 1, (by first | exact congrArg (Value.int .i64) HWM.out | exact congrArg (Value.int .i64) (show (m : Int) + 1 = ((m + 1 : Nat) : Int) by omega)), by omega, by omega, ⟨HP.out.below (pw_below_drewN (Below.refl _ _) _)⟩, HD2⟩
  ·have q2 : ((m : Int) < (i : Int)) = False := eq_false (by omega)
   obtain rfl : m = i := by omega
   have HTG := am (show nameW ⟨lo, 0⟩ (ns.take m) (nmAt ns m) = putF false (putsF false ⟨lo, 0⟩ (quoteB (nmAt ns m))) [58] from by
    unfold nameW
    rw [if_neg (by simp), if_neg (by rw [HV.out]; decide), if_neg (seen_no hi HD.out)])
   have HCI := am (nm_pg HF.out HP.out.on m hi)
   have HSZ := am hnz
   go_wp2
   refine start_ (n := 9) (S := fun w' => w'.cell? ⟨W.heap.size, 0, none⟩ = some (.slice A0 lo.length c0) ∧ w'.cell? ⟨W.heap.size, 1, none⟩ = some (.int .i64 ((0 : Nat) : Int)) ∧ w'.cell? (ad.add m) = some (.string (nmAt ns m))) (ds := [8]) #[false, false, false, false, false, false, false, false, false] (by kernel_rfl) rfl rfl ⟨(blk_cell HP.out.box 0).trans rfl, (blk_cell HP.out.box 1).trans rfl, HCI.out⟩ (fun hHeld => ?_)
   have HP2 := am (HP.out.below (show Below wr.heap.size wr wr.drew from pw_below_drewN (Below.refl _ _) 1))
   clear HP HCI
   generalize wr.drew = w2 at HP2 hHeld ⊢
   refine pure_ (i := 1) (N := some 37) (v := ?_) (a' := ?_) #[false, true, false, false, false, false, false, false, false] rfl rfl (by kernel_rfl) (fun _ _ _ h => h) (Or.inl ⟨by rfl, ?_⟩) ?_ ?_
   rotate_left
   ·intro w'
    go_simp
    with_reducible rfl
   rotate_left
   ·simp only [Act.put, sAx, sZx, sSx, i64_w, i32_w]
    rfl
   refine pure_ (i := 2) (N := some 38) (v := ?_) (a' := ?_) #[false, true, true, false, false, false, false, false, false] rfl rfl (by kernel_rfl) (fun _ _ _ h => h) (Or.inl ⟨by rfl, ?_⟩) ?_ ?_
   rotate_left
   ·intro w'
    go_simp
    with_reducible rfl
   rotate_left
   ·simp only [Act.put, sAx, sZx, sSx, i64_w, i32_w]
    rfl
   refine pure_ (i := 3) (N := some 39) (v := ?_) (a' := ?_) #[false, true, true, true, false, false, false, false, false] rfl rfl (by kernel_rfl) (fun _ _ _ h => h) (Or.inl ⟨by rfl, ?_⟩) ?_ ?_
   rotate_left
   ·intro w'
    go_simp
    with_reducible rfl
   rotate_left
   ·simp only [Act.put, sAx, sZx, sSx, i64_w, i32_w]
    rfl
   refine take_ (i := 0) (N := some 36) (v := ?_) (a' := ?_) #[true, true, true, true, false, false, false, false, false] rfl rfl (by kernel_rfl) (fun _ _ _ h => h) (Or.inl ⟨by rfl, ?_⟩) hHeld ?_ ?_
   rotate_left
   ·rintro w' ⟨s0, s1, s2⟩
    go_simp
    with_reducible rfl
   rotate_left
   ·simp only [Act.put, sAx, sZx, sSx, i64_w, i32_w]
    rfl
   refine take_ (i := 4) (N := some 40) (v := ?_) (a' := ?_) #[true, true, true, true, true, false, false, false, false] rfl rfl (by kernel_rfl) (fun _ _ _ h => h) (Or.inl ⟨by rfl, ?_⟩) hHeld ?_ ?_
   rotate_left
   ·rintro w' ⟨s0, s1, s2⟩
    go_simp
    with_reducible rfl
   rotate_left
   ·simp only [Act.put, sAx, sZx, sSx, i64_w, i32_w]
    rfl
   refine one_ (i := 5) (N := some 41) #[true, true, true, true, true, true, false, false, false] rfl rfl (by kernel_rfl) (by decide) (fun K hK => ?_)
   refine goes_ Tryd.func57 (by kernel_rfl) rfl #[.string (nmAt ns m)] (by rfl) rfl rfl (by (try simp only [List.map_toArray, List.map_cons, List.map_nil]); first | done | rfl) ?_
   refine (rquoted_calls (nmAt ns m) HSZ.out HV.out _).mono ?_
   rintro e w3 ⟨rfl, hb⟩
   refine ⟨_, rfl, ?_⟩
   have HP3 := am (HP2.out.below (Drawn0.below hb))
   clear hb
   refine hK.out _ _ ⟨(blk_cell HP3.out.box 0).trans rfl, (blk_cell HP3.out.box 1).trans rfl, nm_pg HF.out HP3.out.on m hi⟩ (fun hHeld => ?_)
   clear hK K
   refine norm_ (a' := ?_) ?_ ?_
   rotate_left
   ·show Act.put _ (some 41) _ = _
    simp only [Act.put, sAx, sZx, sSx, i64_w, i32_w]
    rfl
   refine one_ (i := 6) (N := some 42) #[true, true, true, true, true, true, true, false, false] rfl rfl (by kernel_rfl) (by decide) (fun K hK => ?_)
   refine goes_ Tryd.func56 (by kernel_rfl) rfl #[.agg #[.slice A0 lo.length c0, .int .i64 ((0 : Nat) : Int)], .string (bs (quotF (nmAt ns m)))] (by rfl) rfl rfl (by (try simp only [List.map_toArray, List.map_cons, List.map_nil]); first | done | rfl) ?_
   refine (rput_calls B ⟨lo, 0⟩ (.slice A0 lo.length c0) (bs (quotF (nmAt ns m))) _ (by have := quot_size (nmAt ns m); omega) HP3.out.own HL.out).mono ?_
   rintro e w4 ⟨st4, sl4, rfl, hs4, ho4, hl4, hon4⟩
   refine ⟨_, rfl, ?_⟩
   have HS4 := am (hs4.trans (puts_once (quoteB (nmAt ns m)) ⟨lo, 0⟩ HL.out).symm)
   have HO4 := am ho4
   have HL4 := am hl4
   have HN4 := am hon4
   clear hs4 ho4 hl4 hon4
   refine hK.out _ _ ⟨(blk_cell (HP3.out.kept HN4.out (Nat.le_refl _) (Nat.le_succ _) HP3.out.box) 0).trans rfl, (blk_cell (HP3.out.kept HN4.out (Nat.le_refl _) (Nat.le_succ _) HP3.out.box) 1).trans rfl, nm_pg HF.out (HP3.out.on.trans HN4.out) m hi⟩ (fun hHeld => ?_)
   clear hK K
   refine norm_ (a' := ?_) ?_ ?_
   rotate_left
   ·show Act.put _ (some 42) _ = _
    simp only [Act.put, sAx, sZx, sSx, i64_w, i32_w]
    rfl
   refine one_ (i := 7) (N := some 43) #[true, true, true, true, true, true, true, true, false] rfl rfl (by kernel_rfl) (by decide) (fun K hK => ?_)
   refine goes_ Tryd.func56 (by kernel_rfl) rfl #[.agg #[sl4, .int .i64 st4.e], .string ⟨#[58]⟩] (by rfl) rfl rfl (by (try simp only [List.map_toArray, List.map_cons, List.map_nil]); first | done | rfl) ?_
   refine (rput_calls B st4 sl4 ⟨#[58]⟩ _ (by decide) HO4.out HL4.out).mono ?_
   rintro e w5 ⟨st5, sl5, rfl, hs5, ho5, hl5, hon5⟩
   obtain ⟨A5, c5, rfl⟩ := ho5.slice
   refine ⟨_, rfl, ?_⟩
   have HN5 := am (HN4.out.trans hon5)
   have HR := am (HP3.out.retP ho5 HN5.out hl5 (hs5.trans (HS4.out.put [58])))
   obtain ⟨x0, x1, x2, x3⟩ := pg_cells (HP3.out.kept HN5.out (Nat.le_succ _) (Nat.le_refl _) HP3.out.res)
   clear hs5 ho5 hl5 hon5
   refine hK.out _ _ ⟨(blk_cell (HP3.out.kept HN5.out (Nat.le_refl _) (Nat.le_succ _) HP3.out.box) 0).trans rfl, (blk_cell (HP3.out.kept HN5.out (Nat.le_refl _) (Nat.le_succ _) HP3.out.box) 1).trans rfl, nm_pg HF.out (HP3.out.on.trans HN5.out) m hi⟩ (fun hHeld => ?_)
   clear hK K
   refine norm_ (a' := ?_) ?_ ?_
   rotate_left
   ·show Act.put _ (some 43) _ = _
    simp only [Act.put, sAx, sZx, sSx, i64_w, i32_w]
    rfl
   refine last_ (i := 8) (N := none) #[true, true, true, true, true, true, true, true, true] rfl rfl (by kernel_rfl) (by decide) (fun K hK => ?_)
   refine skip_ (w1 := ?_) (by rfl) rfl ?_ ?_
   rotate_left
   ·go_simp
    rfl
   refine hK.out _ _ ?_
   clear hK K
   refine done_ (by kernel_rfl) ?_
   clear hHeld x0 x1 x2 x3
   go_wp2
   refine bodyPost_ret (results_cell_row rfl _ _ (W.heap.size + 1) 63 _ (0, 0) _ rfl HR.out.1 Tryd.underlying63 rfl (by kernel_rfl)) rfl ?_
   rw [HTG.out]
   exact HR.out.2
abbrev vBox (f0 : Int) (f1 : ByteArray) (A2 A3 : Option Addr) (n2 c2 n3 c3 : Nat) : Obj := .cells #[.int .i64 f0, .string f1, .slice A2 n2 c2, .slice A3 n3 c3] 25 (0, 0)
theorem PgB.start3 {B : Nat} {W : World} {sl : Value} {l : List UInt8} (e : Nat) (f0 : Int) (f1 : ByteArray) (A2 A3 : Option Addr) (n2 c2 n3 c3 : Nat) (h : Own B W sl l) : PgB B (W.heap.size + 2) (some (vBox f0 f1 A2 A3 n2 c2 n3 c3)) W (((W.alloc (.cells #[sl, .int .i64 e] 63)).alloc (.cells #[.int .i64 f0, .string f1, .slice A2 n2 c2, .slice A3 n3 c3] 25)).alloc (.cells #[.slice none 0 0, .int .i64 0] 63)) sl sl l e := by
 refine PgB.begin h (below_alloc (below_alloc (below_alloc (Below.refl _ _) _) _) _) (blk_alloc (blk_alloc (heap_alloc_new W _) _) _) ?_ (fun b h1 h2 => ?_) (by omega)
 ·have := heap_alloc_new ((W.alloc (.cells #[sl, .int .i64 e] 63)).alloc (.cells #[.int .i64 f0, .string f1, .slice A2 n2 c2, .slice A3 n3 c3] 25)) (.cells #[.slice none 0 0, .int .i64 0] 63 (0, 0))
  rwa [World.size_alloc, World.size_alloc] at this
 ·obtain rfl : b = W.heap.size + 1 := by omega
  have := heap_alloc_new (W.alloc (.cells #[sl, .int .i64 e] 63)) (vBox f0 f1 A2 A3 n2 c2 n3 c3)
  rw [World.size_alloc] at this
  exact blk_alloc this _
theorem PEnds.here3 {B : Nat} {st tg : St} {sl : Value} {W : World} {o1 o2 : Obj} (ho : Own B W sl st.out) (hl : st.out.length ≤ 16384) (hs : SmE st tg) :
  (((W.alloc o1).alloc o2).alloc (.cells #[sl, .int .i64 st.e] 63)).heap[W.heap.size + 2]? = some (.cells #[sl, .int .i64 st.e] 63 (0, 0)) ∧
   PEnds B sl W tg (.returned (.agg #[sl, .int .i64 st.e])) (((W.alloc o1).alloc o2).alloc (.cells #[sl, .int .i64 st.e] 63)) := by
 have hb : Below W.heap.size W (((W.alloc o1).alloc o2).alloc (.cells #[sl, .int .i64 st.e] 63)) := below_alloc (below_alloc (below_alloc (Below.refl _ _) _) _) _
 refine ⟨?_, st, sl, rfl, hs, ho.heap hb.size fun g hg => hb.block g (ho.lt g hg).2, hl, PgOn.of_below ho.2 hb⟩
 have := heap_alloc_new ((W.alloc o1).alloc o2) (.cells #[sl, .int .i64 st.e] 63 (0, 0))
 rwa [World.size_alloc, World.size_alloc] at this
theorem v_cells {w : World} {g : Nat} {d0 d1 d2 d3 : Value} (h : w.heap[g]? = some (.cells #[d0, d1, d2, d3] 25 (0, 0))) :
  w.cell? ⟨g, 0, none⟩ = some d0 ∧ w.cell? ⟨g, 1, none⟩ = some d1 ∧ w.cell? ⟨g, 2, none⟩ = some d2 ∧ w.cell? ⟨g, 3, none⟩ = some d3 :=
 ⟨(blk_cell h 0).trans rfl, (blk_cell h 1).trans rfl, (blk_cell h 2).trans rfl, (blk_cell h 3).trans rfl⟩
theorem PgB.vb {B : Nat} {W wr : World} {sl0 sl : Value} {l : List UInt8} {e : Nat} {o : Obj} (h : PgB B (W.heap.size + 2) (some o) W wr sl0 sl l e) : wr.heap[W.heap.size + 1]? = some o := h.mid _ (by omega) (by omega)
theorem rput0 (B : Nat) (lo : List UInt8) (sl : Value) (s : ByteArray) (W : World) (hs : s.size ≤ 4611686018427387904) (ho : Own B W sl lo) (hl : lo.length ≤ 16384) :
  Calls Tryd.prog 56 #[.agg #[sl, .int .i64 0], .string s] W (PEnds B sl W (putF false ⟨lo, 0⟩ s.data.toList)) := rput_calls B ⟨lo, 0⟩ sl s W hs ho hl
variable (B : Nat) (sl : Value) (d : Int) (f0 : Int) (f1 : ByteArray) (A2 A3 : Option Addr) (n2 c2 n3 c3 : Nat) (W : World)
set_option maxRecDepth 1000000 in
set_option maxHeartbeats 4000000 in
theorem write_bad (st : St) (ho : Own B W sl st.out) (hl : st.out.length ≤ 16384) (he : st.e ≠ 0) : Calls Tryd.prog 34 #[.agg #[sl, .int .i64 st.e], jVal f0 f1 A2 A3 n2 c2 n3 c3, .int .i64 d] W (PEnds B sl W st) := by
 have HR := am (PEnds.here3 (o1 := .cells #[sl, .int .i64 st.e] 63) (o2 := .cells #[.int .i64 f0, .string f1, .slice A2 n2 c2, .slice A3 n3 c3] 25) ho hl (SmE.refl st))
 obtain ⟨A0, c0, e0⟩ := ho.slice
 subst e0
 have e0 : ((st.e : Int) != 0) = true := bne_iff_ne.mpr (by omega)
 have e1 : (st.e != 0) = true := bne_iff_ne.mpr he
 clear he ho hl
 go_enter Tryd.func34, Tryd.ntmps34
 go_wp2
 refine bodyPost_ret (results_cell_row rfl _ _ (W.heap.size + 2) 63 _ (0, 0) _ rfl HR.out.1 Tryd.underlying63 rfl (by kernel_rfl)) rfl ?_
 exact HR.out.2
set_option maxRecDepth 1000000 in
set_option maxHeartbeats 4000000 in
theorem write_unfit46 (lo : List UInt8) (ho : Own B W sl lo) (hl : lo.length ≤ 16384) (hz : f1.size ≤ 288230376151711743) (hf : fitZ d f0 f1 n2 n3 = 46) : Calls Tryd.prog 34 #[.agg #[sl, .int .i64 ((0 : Nat) : Int)], jVal f0 f1 A2 A3 n2 c2 n3 c3, .int .i64 d] W (PEnds B sl W ⟨lo, 46⟩) := by
 have HP0 := am (PgB.start3 0 f0 f1 A2 A3 n2 c2 n3 c3 ho)
 obtain ⟨A0, c0, e0⟩ := ho.slice
 subst e0
 have HZ := am (show f1.size ≤ 4611686018427387904 by omega)
 have HFT := am hf
 have HL := am hl
 clear hf ho hl
 go_enter Tryd.func34, Tryd.ntmps34
 go_wp2_with (go_at_call 37; (with_reducible refine (fit_calls f0 f1 A2 A3 n2 c2 n3 c3 d _ HZ.out).mono ?_); rintro e w1 ⟨rfl, hb⟩; rw [HFT.out]; have HP1 := am (HP0.out.below hb); obtain ⟨z0, z1, z2, z3⟩ := pg_cells HP1.out.box; obtain ⟨y0, y1, y2, y3⟩ := pg_cells HP1.out.res; obtain ⟨v0, v1, v2, v3⟩ := v_cells HP1.out.vb; have HPE := am (HP1.out.setE 46 46 rfl); clear hb; have HR := am (PgB.ret (st := ⟨lo, 46⟩) HPE.out HL.out (SmE.refl _)))
 refine bodyPost_ret (results_cell_row rfl _ _ (W.heap.size + 2) 63 _ (0, 0) _ rfl HR.out.1 Tryd.underlying63 rfl (by kernel_rfl)) rfl ?_
 exact HR.out.2
set_option maxRecDepth 1000000 in
set_option maxHeartbeats 4000000 in
theorem write_unfit47 (lo : List UInt8) (ho : Own B W sl lo) (hl : lo.length ≤ 16384) (hz : f1.size ≤ 288230376151711743) (hf : fitZ d f0 f1 n2 n3 = 47) : Calls Tryd.prog 34 #[.agg #[sl, .int .i64 ((0 : Nat) : Int)], jVal f0 f1 A2 A3 n2 c2 n3 c3, .int .i64 d] W (PEnds B sl W ⟨lo, 47⟩) := by
 have HP0 := am (PgB.start3 0 f0 f1 A2 A3 n2 c2 n3 c3 ho)
 obtain ⟨A0, c0, e0⟩ := ho.slice
 subst e0
 have HZ := am (show f1.size ≤ 4611686018427387904 by omega)
 have HFT := am hf
 have HL := am hl
 clear hf ho hl
 go_enter Tryd.func34, Tryd.ntmps34
 go_wp2_with (go_at_call 37; (with_reducible refine (fit_calls f0 f1 A2 A3 n2 c2 n3 c3 d _ HZ.out).mono ?_); rintro e w1 ⟨rfl, hb⟩; rw [HFT.out]; have HP1 := am (HP0.out.below hb); obtain ⟨z0, z1, z2, z3⟩ := pg_cells HP1.out.box; obtain ⟨y0, y1, y2, y3⟩ := pg_cells HP1.out.res; obtain ⟨v0, v1, v2, v3⟩ := v_cells HP1.out.vb; have HPE := am (HP1.out.setE 47 47 rfl); clear hb; have HR := am (PgB.ret (st := ⟨lo, 47⟩) HPE.out HL.out (SmE.refl _)))
 refine bodyPost_ret (results_cell_row rfl _ _ (W.heap.size + 2) 63 _ (0, 0) _ rfl HR.out.1 Tryd.underlying63 rfl (by kernel_rfl)) rfl ?_
 exact HR.out.2
set_option maxRecDepth 1000000 in
set_option maxHeartbeats 4000000 in
theorem write_word0 (lo : List UInt8) (ho : Own B W sl lo) (hl : lo.length ≤ 16384) (hz : f1.size ≤ 288230376151711743) (hf : fitZ d 0 f1 n2 n3 = 0) : Calls Tryd.prog 34 #[.agg #[sl, .int .i64 ((0 : Nat) : Int)], jVal 0 f1 A2 A3 n2 c2 n3 c3, .int .i64 d] W (PEnds B sl W (putF false ⟨lo, 0⟩ (wordB 0).data.toList)) := by
 have HP0 := am (PgB.start3 0 0 f1 A2 A3 n2 c2 n3 c3 ho)
 obtain ⟨A0, c0, e0⟩ := ho.slice
 subst e0
 have HZ := am (show f1.size ≤ 4611686018427387904 by omega)
 have HFT := am hf
 have HL := am hl
 clear hf ho hl
 go_enter Tryd.func34, Tryd.ntmps34
 go_wp2_with (first | (go_at_call 37; (with_reducible refine (fit_calls 0 f1 A2 A3 n2 c2 n3 c3 d _ HZ.out).mono ?_); rintro e w1 ⟨rfl, hb⟩; rw [HFT.out]; have HP1 := am (HP0.out.below hb); obtain ⟨z0, z1, z2, z3⟩ := pg_cells HP1.out.box; obtain ⟨y0, y1, y2, y3⟩ := pg_cells HP1.out.res; obtain ⟨v0, v1, v2, v3⟩ := v_cells HP1.out.vb; have HPE := am (HP1.out.setE 0 0 rfl); clear hb) | (go_at_call 56; (with_reducible refine (rput0 B lo (.slice A0 lo.length c0) ⟨#[110, 117, 108, 108]⟩ _ (by decide) HPE.out.own HL.out).mono ?_); rintro e w5 ⟨st5, sl5, rfl, hs5, ho5, hl5, hon5⟩; obtain ⟨A5, c5, rfl⟩ := ho5.slice; have HR := am (HPE.out.retP ho5 hon5 hl5 hs5); obtain ⟨x0, x1, x2, x3⟩ := pg_cells (HPE.out.kept hon5 (by omega) (Nat.le_refl _) HPE.out.res); clear hs5 ho5 hl5 hon5))
 refine bodyPost_ret (results_cell_row rfl _ _ (W.heap.size + 2) 63 _ (0, 0) _ rfl HR.out.1 Tryd.underlying63 rfl (by kernel_rfl)) rfl ?_
 exact HR.out.2
set_option maxRecDepth 1000000 in
set_option maxHeartbeats 4000000 in
theorem write_word1 (lo : List UInt8) (ho : Own B W sl lo) (hl : lo.length ≤ 16384) (hz : f1.size ≤ 288230376151711743) (hf : fitZ d 1 f1 n2 n3 = 0) : Calls Tryd.prog 34 #[.agg #[sl, .int .i64 ((0 : Nat) : Int)], jVal 1 f1 A2 A3 n2 c2 n3 c3, .int .i64 d] W (PEnds B sl W (putF false ⟨lo, 0⟩ (wordB 1).data.toList)) := by
 have HP0 := am (PgB.start3 0 1 f1 A2 A3 n2 c2 n3 c3 ho)
 obtain ⟨A0, c0, e0⟩ := ho.slice
 subst e0
 have HZ := am (show f1.size ≤ 4611686018427387904 by omega)
 have HFT := am hf
 have HL := am hl
 clear hf ho hl
 go_enter Tryd.func34, Tryd.ntmps34
 go_wp2_with (first | (go_at_call 37; (with_reducible refine (fit_calls 1 f1 A2 A3 n2 c2 n3 c3 d _ HZ.out).mono ?_); rintro e w1 ⟨rfl, hb⟩; rw [HFT.out]; have HP1 := am (HP0.out.below hb); obtain ⟨z0, z1, z2, z3⟩ := pg_cells HP1.out.box; obtain ⟨y0, y1, y2, y3⟩ := pg_cells HP1.out.res; obtain ⟨v0, v1, v2, v3⟩ := v_cells HP1.out.vb; have HPE := am (HP1.out.setE 0 0 rfl); clear hb) | (go_at_call 56; (with_reducible refine (rput0 B lo (.slice A0 lo.length c0) ⟨#[102, 97, 108, 115, 101]⟩ _ (by decide) HPE.out.own HL.out).mono ?_); rintro e w5 ⟨st5, sl5, rfl, hs5, ho5, hl5, hon5⟩; obtain ⟨A5, c5, rfl⟩ := ho5.slice; have HR := am (HPE.out.retP ho5 hon5 hl5 hs5); obtain ⟨x0, x1, x2, x3⟩ := pg_cells (HPE.out.kept hon5 (by omega) (Nat.le_refl _) HPE.out.res); clear hs5 ho5 hl5 hon5))
 refine bodyPost_ret (results_cell_row rfl _ _ (W.heap.size + 2) 63 _ (0, 0) _ rfl HR.out.1 Tryd.underlying63 rfl (by kernel_rfl)) rfl ?_
 exact HR.out.2
set_option maxRecDepth 1000000 in
set_option maxHeartbeats 4000000 in
theorem write_word2 (lo : List UInt8) (ho : Own B W sl lo) (hl : lo.length ≤ 16384) (hz : f1.size ≤ 288230376151711743) (hf : fitZ d 2 f1 n2 n3 = 0) : Calls Tryd.prog 34 #[.agg #[sl, .int .i64 ((0 : Nat) : Int)], jVal 2 f1 A2 A3 n2 c2 n3 c3, .int .i64 d] W (PEnds B sl W (putF false ⟨lo, 0⟩ (wordB 2).data.toList)) := by
 have HP0 := am (PgB.start3 0 2 f1 A2 A3 n2 c2 n3 c3 ho)
 obtain ⟨A0, c0, e0⟩ := ho.slice
 subst e0
 have HZ := am (show f1.size ≤ 4611686018427387904 by omega)
 have HFT := am hf
 have HL := am hl
 clear hf ho hl
 go_enter Tryd.func34, Tryd.ntmps34
 go_wp2_with (first | (go_at_call 37; (with_reducible refine (fit_calls 2 f1 A2 A3 n2 c2 n3 c3 d _ HZ.out).mono ?_); rintro e w1 ⟨rfl, hb⟩; rw [HFT.out]; have HP1 := am (HP0.out.below hb); obtain ⟨z0, z1, z2, z3⟩ := pg_cells HP1.out.box; obtain ⟨y0, y1, y2, y3⟩ := pg_cells HP1.out.res; obtain ⟨v0, v1, v2, v3⟩ := v_cells HP1.out.vb; have HPE := am (HP1.out.setE 0 0 rfl); clear hb) | (go_at_call 56; (with_reducible refine (rput0 B lo (.slice A0 lo.length c0) ⟨#[116, 114, 117, 101]⟩ _ (by decide) HPE.out.own HL.out).mono ?_); rintro e w5 ⟨st5, sl5, rfl, hs5, ho5, hl5, hon5⟩; obtain ⟨A5, c5, rfl⟩ := ho5.slice; have HR := am (HPE.out.retP ho5 hon5 hl5 hs5); obtain ⟨x0, x1, x2, x3⟩ := pg_cells (HPE.out.kept hon5 (by omega) (Nat.le_refl _) HPE.out.res); clear hs5 ho5 hl5 hon5))
 refine bodyPost_ret (results_cell_row rfl _ _ (W.heap.size + 2) 63 _ (0, 0) _ rfl HR.out.1 Tryd.underlying63 rfl (by kernel_rfl)) rfl ?_
 exact HR.out.2
set_option maxRecDepth 1000000 in
set_option maxHeartbeats 4000000 in
theorem write_num (lo : List UInt8) (ho : Own B W sl lo) (hl : lo.length ≤ 16384) (hz : f1.size ≤ 288230376151711743) (hf : fitZ d 3 f1 n2 n3 = 0) : Calls Tryd.prog 34 #[.agg #[sl, .int .i64 ((0 : Nat) : Int)], jVal 3 f1 A2 A3 n2 c2 n3 c3, .int .i64 d] W (PEnds B sl W (putF false ⟨lo, 0⟩ f1.data.toList)) := by
 have HP0 := am (PgB.start3 0 3 f1 A2 A3 n2 c2 n3 c3 ho)
 obtain ⟨A0, c0, e0⟩ := ho.slice
 subst e0
 have HZ := am (show f1.size ≤ 4611686018427387904 by omega)
 have HFT := am hf
 have HL := am hl
 clear hf ho hl
 go_enter Tryd.func34, Tryd.ntmps34
 go_wp2_with (first | (go_at_call 37; (with_reducible refine (fit_calls 3 f1 A2 A3 n2 c2 n3 c3 d _ HZ.out).mono ?_); rintro e w1 ⟨rfl, hb⟩; rw [HFT.out]; have HP1 := am (HP0.out.below hb); obtain ⟨z0, z1, z2, z3⟩ := pg_cells HP1.out.box; obtain ⟨y0, y1, y2, y3⟩ := pg_cells HP1.out.res; obtain ⟨v0, v1, v2, v3⟩ := v_cells HP1.out.vb; have HPE := am (HP1.out.setE 0 0 rfl); clear hb) | (go_at_call 56; (with_reducible refine (rput0 B lo (.slice A0 lo.length c0) f1 _ HZ.out HPE.out.own HL.out).mono ?_); rintro e w5 ⟨st5, sl5, rfl, hs5, ho5, hl5, hon5⟩; obtain ⟨A5, c5, rfl⟩ := ho5.slice; have HR := am (HPE.out.retP ho5 hon5 hl5 hs5); obtain ⟨x0, x1, x2, x3⟩ := pg_cells (HPE.out.kept hon5 (by omega) (Nat.le_refl _) HPE.out.res); clear hs5 ho5 hl5 hon5))
 refine bodyPost_ret (results_cell_row rfl _ _ (W.heap.size + 2) 63 _ (0, 0) _ rfl HR.out.1 Tryd.underlying63 rfl (by kernel_rfl)) rfl ?_
 exact HR.out.2
set_option maxRecDepth 1000000 in
set_option maxHeartbeats 4000000 in
theorem write_text (lo : List UInt8) (ho : Own B W sl lo) (hl : lo.length ≤ 16384) (hz : f1.size ≤ 288230376151711743) (hv : validD f1.data.toList = true) (hf : fitZ d 4 f1 n2 n3 = 0) : Calls Tryd.prog 34 #[.agg #[sl, .int .i64 ((0 : Nat) : Int)], jVal 4 f1 A2 A3 n2 c2 n3 c3, .int .i64 d] W (PEnds B sl W (putsF false ⟨lo, 0⟩ (quoteB f1))) := by
 have HP0 := am (PgB.start3 0 4 f1 A2 A3 n2 c2 n3 c3 ho)
 obtain ⟨A0, c0, e0⟩ := ho.slice
 subst e0
 have HZ := am (show f1.size ≤ 4611686018427387904 by omega)
 have HFT := am hf
 have HL := am hl
 clear hf ho hl
 have HZ2 := am hz
 have HV := am hv
 clear hv
 go_enter Tryd.func34, Tryd.ntmps34
 go_wp2_with (first | (go_at_call 37; (with_reducible refine (fit_calls 4 f1 A2 A3 n2 c2 n3 c3 d _ HZ.out).mono ?_); rintro e w1 ⟨rfl, hb⟩; rw [HFT.out]; have HP1 := am (HP0.out.below hb); obtain ⟨z0, z1, z2, z3⟩ := pg_cells HP1.out.box; obtain ⟨y0, y1, y2, y3⟩ := pg_cells HP1.out.res; obtain ⟨v0, v1, v2, v3⟩ := v_cells HP1.out.vb; have HPE := am (HP1.out.setE 0 0 rfl); clear hb))
 generalize w1.setCell _ _ = w2 at HPE ⊢
 refine start_ (n := 6) (S := fun w' => w'.cell? ⟨W.heap.size, 0, none⟩ = some (.slice A0 lo.length c0) ∧ w'.cell? ⟨W.heap.size, 1, none⟩ = some (.int .i64 ((0 : Nat) : Int)) ∧ w'.cell? ⟨W.heap.size + 1, 1, none⟩ = some (.string f1)) (ds := [5]) #[false, false, false, false, false, false] (by kernel_rfl) rfl rfl ⟨(blk_cell HPE.out.box 0).trans rfl, (blk_cell HPE.out.box 1).trans rfl, (blk_cell HPE.out.vb 1).trans rfl⟩ (fun hHeld => ?_)
 have HP2 := am (HPE.out.below (show Below w2.heap.size w2 w2.drew from pw_below_drewN (Below.refl _ _) 1))
 clear HPE HP1 HP0 z0 z1 z2 z3 y0 y1 y2 y3 v0 v1 v2 v3
 generalize w2.drew = w3 at HP2 hHeld ⊢
 refine pure_ (i := 1) (N := some 43) (v := ?_) (a' := ?_) #[false, true, false, false, false, false] rfl rfl (by kernel_rfl) (fun _ _ _ h => h) (Or.inl ⟨by rfl, ?_⟩) ?_ ?_
 rotate_left
 ·intro w'
  go_simp
  with_reducible rfl
 rotate_left
 ·simp only [Act.put, sAx, sZx, sSx, i64_w, i32_w]
  rfl
 refine take_ (i := 0) (N := some 42) (v := ?_) (a' := ?_) #[true, true, false, false, false, false] rfl rfl (by kernel_rfl) (fun _ _ _ h => h) (Or.inl ⟨by rfl, ?_⟩) hHeld ?_ ?_
 rotate_left
 ·rintro w' ⟨s0, s1, s2⟩
  go_simp
  with_reducible rfl
 rotate_left
 ·simp only [Act.put, sAx, sZx, sSx, i64_w, i32_w]
  rfl
 refine take_ (i := 2) (N := some 44) (v := ?_) (a' := ?_) #[true, true, true, false, false, false] rfl rfl (by kernel_rfl) (fun _ _ _ h => h) (Or.inl ⟨by rfl, ?_⟩) hHeld ?_ ?_
 rotate_left
 ·rintro w' ⟨s0, s1, s2⟩
  go_simp
  with_reducible rfl
 rotate_left
 ·simp only [Act.put, sAx, sZx, sSx, i64_w, i32_w]
  rfl
 refine one_ (i := 3) (N := some 45) #[true, true, true, true, false, false] rfl rfl (by kernel_rfl) (by decide) (fun K hK => ?_)
 refine goes_ Tryd.func57 (by kernel_rfl) rfl #[.string f1] (by rfl) rfl rfl (by (try simp only [List.map_toArray, List.map_cons, List.map_nil]); first | done | rfl) ?_
 refine (rquoted_calls f1 HZ2.out HV.out _).mono ?_
 rintro e w4 ⟨rfl, hb⟩
 refine ⟨_, rfl, ?_⟩
 have HP3 := am (HP2.out.below (Drawn0.below hb))
 clear hb
 refine hK.out _ _ ⟨(blk_cell HP3.out.box 0).trans rfl, (blk_cell HP3.out.box 1).trans rfl, (blk_cell HP3.out.vb 1).trans rfl⟩ (fun hHeld => ?_)
 clear hK K
 refine norm_ (a' := ?_) ?_ ?_
 rotate_left
 ·show Act.put _ (some 45) _ = _
  simp only [Act.put, sAx, sZx, sSx, i64_w, i32_w]
  rfl
 refine one_ (i := 4) (N := some 46) #[true, true, true, true, true, false] rfl rfl (by kernel_rfl) (by decide) (fun K hK => ?_)
 refine goes_ Tryd.func56 (by kernel_rfl) rfl #[.agg #[.slice A0 lo.length c0, .int .i64 ((0 : Nat) : Int)], .string (bs (quotF f1))] (by rfl) rfl rfl (by (try simp only [List.map_toArray, List.map_cons, List.map_nil]); first | done | rfl) ?_
 refine (rput_calls B ⟨lo, 0⟩ (.slice A0 lo.length c0) (bs (quotF f1)) _ (by have := quot_size f1; have := HZ2.out; omega) HP3.out.own HL.out).mono ?_
 rintro e w5 ⟨st5, sl5, rfl, hs5, ho5, hl5, hon5⟩
 obtain ⟨A5, c5, rfl⟩ := ho5.slice
 refine ⟨_, rfl, ?_⟩
 have HN5 := am hon5
 have HR := am (HP3.out.retP ho5 hon5 hl5 (hs5.trans (puts_once (quoteB f1) ⟨lo, 0⟩ HL.out).symm))
 obtain ⟨x0, x1, x2, x3⟩ := pg_cells (HP3.out.kept hon5 (by omega) (Nat.le_refl _) HP3.out.res)
 clear hs5 ho5 hl5 hon5
 refine hK.out _ _ ⟨(blk_cell (HP3.out.kept HN5.out (Nat.le_refl _) (by omega) HP3.out.box) 0).trans rfl, (blk_cell (HP3.out.kept HN5.out (Nat.le_refl _) (by omega) HP3.out.box) 1).trans rfl, (blk_cell (HP3.out.kept HN5.out (Nat.le_succ _) (by omega) HP3.out.vb) 1).trans rfl⟩ (fun hHeld => ?_)
 clear hK K
 refine norm_ (a' := ?_) ?_ ?_
 rotate_left
 ·show Act.put _ (some 46) _ = _
  simp only [Act.put, sAx, sZx, sSx, i64_w, i32_w]
  rfl
 refine last_ (i := 5) (N := none) #[true, true, true, true, true, true] rfl rfl (by kernel_rfl) (by decide) (fun K hK => ?_)
 refine skip_ (w1 := ?_) (by rfl) rfl ?_ ?_
 rotate_left
 ·go_simp
  rfl
 refine hK.out _ _ ?_
 clear hK K
 refine done_ (by kernel_rfl) ?_
 clear hHeld x0 x1 x2 x3
 go_wp2
 refine bodyPost_ret (results_cell_row rfl _ _ (W.heap.size + 2) 63 _ (0, 0) _ rfl HR.out.1 Tryd.underlying63 rfl (by kernel_rfl)) rfl ?_
 exact HR.out.2
end Go.Proofs.YtaalajhmfdcalaaDoor.X
namespace Go.Proofs.YtaalajhmfdcalaaDoor.X
open Go.RowKit Go.Lib Go.Proofs.YtaalajhmfdcalaaDoorW.PrintWords Go.Proofs.YtaalajhmfdcalaaDoorW.PrintLast Go.Proofs.YtaalajhmfdcalaaDoorW.PrintMore
theorem rr_take {α : Type} {R : α → List Value → Prop} {sz : Nat} {w : World} {A : Option Addr} {xs : List α} {m : Nat} (h : ReadsRow R sz w A xs.length xs) (hm : m ≤ xs.length) : ReadsRow R sz w A m (xs.take m) := by
 refine ⟨by rw [List.length_take]; omega, by have := h.2.1; omega, fun hp => ?_⟩
 obtain ⟨ad, e, hc⟩ := h.2.2 (by omega)
 refine ⟨ad, e, fun j p hj => hc j p ?_⟩
 rw [List.getElem?_take] at hj
 split at hj
 ·exact hj
 ·cases hj
theorem rr_drop {α : Type} {R : α → List Value → Prop} {sz : Nat} {w : World} {A : Option Addr} {xs : List α} {m c : Nat} (h : ReadsRow R sz w A xs.length xs) (hm : m ≤ xs.length) (hc : xs.length ≤ c) : ReadsRow R sz w (if c = m then A else A.map (·.add (m * sz))) (xs.length - m) (xs.drop m) := by
 refine ⟨by rw [List.length_drop], by have := h.2.1; omega, fun hp => ?_⟩
 obtain ⟨ad, rfl, hcell⟩ := h.2.2 (by omega)
 rw [if_neg (by omega)]
 refine ⟨ad.add (m * sz), rfl, fun j p hj => ?_⟩
 rw [List.getElem?_drop] at hj
 obtain ⟨cs, h1, h2, h3⟩ := hcell (m + j) p hj
 refine ⟨cs, h1, h2, fun i u hu => ?_⟩
 rw [add_add, show m * sz + (j * sz + i) = (m + j) * sz + i by rw [Nat.add_mul]; omega]
 exact h3 i u hu
theorem below_grownN {N : Nat} {wa w w1 : World} {o : Option Nat} (hb : Below N wa w) (hN : N ≤ w.heap.size) (hg : w.grownBy w1 o) (ho : ∀ b, o = some b → N ≤ b) : Below N wa w1 :=
 hb.trans ⟨hg.os, hg.tape, hg.output, hg.size, fun k hk => hg.block k (by omega) (fun hh => by have := ho k hh.symm; omega)⟩
theorem fresh_at {N : Nat} {w : World} {v v1 : Value} (hv : ∀ b, v.ownBlock = some b → N ≤ b) (hN : N ≤ w.heap.size) (hat : v1.ownBlock = v.ownBlock ∨ ∃ b, v1.ownBlock = some b ∧ w.heap.size ≤ b) : ∀ b, v1.ownBlock = some b → N ≤ b := by
 intro b hb
 rcases hat with h | ⟨c, h, hc⟩
 ·exact hv b (h ▸ hb)
 ·rw [h] at hb
  injection hb with hb
  omega
section
variable {W w wr w1 w2 wa : World} {f0 : Int} {f1 : ByteArray} {v2 v3 sn sv v1 : Value} {ln ln' : List ByteArray} {li li' : List J} {Ai : Option Addr} {n ci : Nat}
theorem TI.rows (h : TI W f0 f1 v2 v3 sn (.slice Ai n ci) ln li w) : n = li.length ∧ li.length ≤ ci ∧ ReadsRow (fun x cs => k25.M w W.heap.size (fun k => (W.heap.size + 1 + 1 + 1 ≤ k ∧ some k ≠ sn.ownBlock) ∧ k < w.heap.size) x cs) 4 w Ai li.length li := by
 obtain ⟨A, c, e, hl, hr⟩ := OwnRow.reads (Kd.R_bound h.items).2
 injection e with e1 e2 e3
 subst e1 e2 e3
 exact ⟨rfl, hl, hr.imp_ (Below.refl _ _) (fun _ _ hp => k25.M_mono (fun k hk => ⟨hk.1.1, hk.1.2.2.1⟩) hp)⟩
theorem TI.rowsA (h : TI W f0 f1 v2 v3 sn (.slice Ai n ci) ln li wa) (hb : Below wa.heap.size wa w) : ReadsRow (fun x cs => k25.M w W.heap.size (fun k => (W.heap.size + 1 + 1 + 1 ≤ k ∧ some k ≠ sn.ownBlock) ∧ k < wa.heap.size) x cs) 4 w Ai li.length li :=
 h.rows.2.2.imp_ hb (fun _ _ hp => Kd.M_below hp hb)
theorem TI.items' (h : TI W f0 f1 v2 v3 sn sv ln li w) (hb : Below w.heap.size w w2) (ho : k25.R 25 w2 W.heap.size (fun k => W.heap.size + 1 + 1 + 1 ≤ k ∧ some k ≠ sn.ownBlock) v1 li') : TI W f0 f1 v2 v3 sn v1 ln li' (w2.setCell ⟨W.heap.size + 1 + 1, 3, none⟩ v1) := by
 have h2 := h.below hb
 have far : ∀ {b : Nat} {o : Obj}, b ≠ W.heap.size + 1 + 1 → w2.heap[b]? = some o → (w2.setCell ⟨W.heap.size + 1 + 1, 3, none⟩ v1).heap[b]? = some o := fun hne hk => (Below.heap_setCell _ _ _ _ hne).trans hk
 exact ⟨far (by omega) h2.o, far (by omega) h2.r, (blk_set 3 v1 h2.p).trans rfl, Kd.R_far h2.names (fun k hk => by show k ≠ W.heap.size + 1 + 1; omega) _, Kd.R_far ho (fun k hk => by have := hk.1; show k ≠ W.heap.size + 1 + 1; omega) _, below_set h2.bel (by omega)⟩
theorem TI.names' (h : TI W f0 f1 v2 v3 sn sv ln li w) (hb : Below w.heap.size w w2) (ho : Kd.string.R 9 w2 W.heap.size (fun k => W.heap.size + 1 + 1 + 1 ≤ k) v1 ln') (hn : ∀ b, v1.ownBlock = some b → w.heap.size ≤ b) : TI W f0 f1 v2 v3 v1 sv ln' li (w2.setCell ⟨W.heap.size + 1 + 1, 2, none⟩ v1) := by
 have h2 := h.below hb
 have far : ∀ {b : Nat} {o : Obj}, b ≠ W.heap.size + 1 + 1 → w2.heap[b]? = some o → (w2.setCell ⟨W.heap.size + 1 + 1, 2, none⟩ v1).heap[b]? = some o := fun hne hk => (Below.heap_setCell _ _ _ _ hne).trans hk
 refine ⟨far (by omega) h2.o, far (by omega) h2.r, (blk_set 2 v1 h2.p).trans rfl, Kd.R_far ho (fun k hk => by show k ≠ W.heap.size + 1 + 1; omega) _, ?_, below_set h2.bel (by omega)⟩
 refine Kd.R_far (Kd.R_mono (Kd.R_move (Kd.R_bound h.items) (fun k hk => hb.block k hk.2.2.1)) (fun k hk => ⟨hk.1.1, fun hh => ?_⟩)) (fun k hk => by have := hk.1; show k ≠ W.heap.size + 1 + 1; omega) _
 have := hn k hh.symm
 have := hk.2.2.1
 omega
theorem it_pack {x : J} {X2 X3 : Option Addr} {k2 k3 : Nat} (h : TI W f0 f1 v2 v3 sn sv ln li wr) (hb : Below wr.heap.size wr w1) (g2 : Kd.string.R 9 w1 wr.heap.size (fun _ => True) (.slice X2 x.f2.length k2) x.f2) (g3 : k25.R 25 w1 wr.heap.size (fun k => some k ≠ (Value.slice X2 x.f2.length k2).ownBlock) (.slice X3 x.f3.length k3) x.f3)
  (hb2 : Below (w1.alloc (.cells #[.int .i64 x.f0, .string x.f1, .slice X2 x.f2.length k2, .slice X3 x.f3.length k3] 25)).heap.size (w1.alloc (.cells #[.int .i64 x.f0, .string x.f1, .slice X2 x.f2.length k2, .slice X3 x.f3.length k3] 25)) w2) (hn : ∃ b, v1.ownBlock = some b ∧ (w1.alloc (.cells #[.int .i64 x.f0, .string x.f1, .slice X2 x.f2.length k2, .slice X3 x.f3.length k3] 25)).heap.size ≤ b)
  (hr : k25.R 25 w2 (w1.alloc (.cells #[.int .i64 x.f0, .string x.f1, .slice X2 x.f2.length k2, .slice X3 x.f3.length k3] 25)).heap.size (fun _ => True) v1 []) :
  ∃ wa, TI W f0 f1 v2 v3 sn sv ln li wa ∧ wa.heap[w1.heap.size]? = some (.cells #[.int .i64 x.f0, .string x.f1, .slice X2 x.f2.length k2, .slice X3 x.f3.length k3] 25 (0, 0)) ∧ k25.M wa W.heap.size (fun k => (W.heap.size + 1 + 1 + 1 ≤ k ∧ some k ≠ sn.ownBlock) ∧ k < wa.heap.size) x [.int .i64 x.f0, .string x.f1, .slice X2 x.f2.length k2, .slice X3 x.f3.length k3] ∧ Below wa.heap.size wa w2 ∧ (∀ b, v1.ownBlock = some b → wa.heap.size ≤ b) ∧ k25.R 25 w2 W.heap.size (fun k => W.heap.size + 1 + 1 + 1 ≤ k ∧ some k ≠ sn.ownBlock) v1 [] ∧ w1.heap.size < wa.heap.size := by
 have h1 := h.below hb
 have h2 := h1.below (below_alloc (Below.refl _ _) (.cells #[.int .i64 x.f0, .string x.f1, .slice X2 x.f2.length k2, .slice X3 x.f3.length k3] 25))
 have hlt := h.lt
 have hle := hb.size
 have hsn : ∀ k, wr.heap.size ≤ k → some k ≠ sn.ownBlock := fun k hk hh => by have := Kd.R_lt h.names k hh.symm; omega
 refine ⟨_, h2, heap_alloc_new w1 _, ?_, hb2, ?_, ?_, by rw [World.size_alloc]; omega⟩
 ·have hm := jV_M (B' := W.heap.size) (N := wr.heap.size) g2 g3 h.ltB (Nat.le_refl _)
  refine k25.M_mono (fun k hk => ?_) (k25.M_bound (Kd.M_below hm (below_alloc (Below.refl _ _) (.cells #[.int .i64 x.f0, .string x.f1, .slice X2 x.f2.length k2, .slice X3 x.f3.length k3] 25))))
  exact ⟨⟨by have := hk.1; omega, hsn k hk.1⟩, hk.2.2.1⟩
 ·intro b hh
  obtain ⟨c, hc, h3⟩ := hn
  rw [hc] at hh
  injection hh with hh
  omega
 ·refine Kd.R_lower (Kd.R_mono (Kd.R_bound hr) (fun k hk => ?_)) (by rw [World.size_alloc]; have := h.ltB; omega)
  have := hk.2.1
  rw [World.size_alloc] at this
  exact ⟨by omega, hsn k (by omega)⟩
end
theorem v_thaw {w : World} {g : Nat} {d0 d1 d2 d3 : Value} (h : w.heap[g]? = some (.cells #[d0, d1, d2, d3] 25 (0, 0))) :
  w.frozen? ⟨g, 0, none⟩ = false ∧ w.frozen? ⟨g, 1, none⟩ = false ∧ w.frozen? ⟨g, 2, none⟩ = false ∧ w.frozen? ⟨g, 3, none⟩ = false := ⟨blk_frozen h 0, blk_frozen h 1, blk_frozen h 2, blk_frozen h 3⟩
theorem take_ins (f : J → J) {ys : List J} {i : Nat} (h : i < ys.length) : ((ys.map f).take i).take i ++ [f (rd_T25 ys (i : Int))] ++ ((ys.map f).take i).drop i = (ys.map f).take (i + 1) := by
 have e : (ys.map f)[i]? = some (f (rd_T25 ys (i : Int))) := by
  rw [List.getElem?_map, rd_nat ys i h, List.getElem?_eq_getElem h]
  rfl
 rw [List.take_of_length_le (by rw [List.length_take]; omega), List.drop_eq_nil_of_le (by rw [List.length_take]; omega), List.append_nil]
 exact take_at e
def RSOK (r : Nat) : Prop := ∀ (v : J) (A2 A3 : Option Addr) (c2 c3 : Nat) (W : World), OKJ r v → (∃ B, Bd B 10000 v) → Kd.string.C W A2 v.f2.length v.f2 → v.f2.length ≤ c2 → k25.C W A3 v.f3.length v.f3 → v.f3.length ≤ c3 →
 Calls Tryd.prog 35 #[jVal v.f0 v.f1 A2 A3 v.f2.length c2 v.f3.length c3] W (TEnds W (sJ r v))
set_option maxRecDepth 1000000 in
set_option maxHeartbeats 8000000 in
theorem sorted_list (r : Nat) (f0 : Int) (h6 : ¬ f0 = 6) (f1 : ByteArray) (ys : List J) (A2 A3 : Option Addr) (c2 c3 : Nat) (W : World) (hsz : ys.length ≤ 10000) (hC3 : k25.C W A3 ys.length ys) (hc3 : ys.length ≤ c3) (hok : ∀ y, y ∈ ys → OKJ r y ∧ ∃ B, Bd B 10000 y) (IH : 0 < ys.length → RSOK r) :
  Calls Tryd.prog 35 #[jVal f0 f1 A2 A3 0 c2 ys.length c3] W (TEnds W ⟨f0, f1, [], ys.map (sJ r)⟩) := by
 have HST := am (TI.start W f0 f1 (.slice A2 0 c2) (.slice A3 ys.length c3))
 have HF3 := am (Kd.C_F heap25 hC3)
 have HOK := am hok
 unfold RSOK at IH
 have HIH := am IH
 have k6 : (f0 == 6) = false := beq_eq_false_iff_ne.mpr h6
 clear hC3 hok IH h6
 go_enter Tryd.func35, Tryd.ntmps35
 go_wp2
 go_loopg [4] (ys.length + 1) (fun g v4 wr => ∃ (i : Nat) (sv : Value), v4 = .int .i64 (i : Int) ∧ i ≤ ys.length ∧ ys.length + 1 ≤ i + g ∧ Aside0 (TI W f0 f1 (.slice A2 0 c2) (.slice A3 ys.length c3) (.slice none 0 0) sv [] ((ys.map (sJ r)).take i) wr))
 case atStart => exact ⟨0, _, rfl, by omega, by omega, by rw [List.take_zero]; exact HST⟩
 case round =>
  obtain ⟨i, sv, rfl, hi, hg, HS⟩ := hrel
  clear HST
  obtain ⟨Ai, ci, ei⟩ := Kd.R_slice HS.out.items
  subst ei
  have wb0 := (blk_cell HS.out.p 3).trans rfl
  have wo0 := (blk_cell HS.out.o 3).trans rfl
  have wz0 := (blk_cell HS.out.o 0).trans rfl
  by_cases hlt : i < ys.length
  ·cases gk with
   | zero => omega
   | succ g =>
    have p1 : (0 ≤ (i : Int)) = True := eq_true (by omega)
    have p2 : ((i : Int) < (ys.length : Int)) = True := eq_true (by omega)
    have HIH := am (HIH.out (by omega))
    have HWN := am (wrap_next i ys.length hlt (by omega))
    obtain ⟨ad3, B2, k2, B3, k3, e9, q0, q1, q2, q3, m2, g2, m3, g3⟩ := F_elem (Kd.F_old HF3.out HS.out.bel) i hlt
    subst e9
    have HG2 := am (Kd.F_now g2)
    have HG3 := am (Kd.F_now g3)
    have HM2 := am m2
    have HM3 := am m3
    have HOY := am (HOK.out (rd_T25 ys i) (rd_mem ys i hlt))
    have HLI := am (show ((ys.map (sJ r)).take i).take i ++ [sJ r (rd_T25 ys i)] ++ ((ys.map (sJ r)).take i).drop i = (ys.map (sJ r)).take (i + 1) from take_ins (sJ r) hlt)
    have hli : i ≤ ((ys.map (sJ r)).take i).length ∧ ((ys.map (sJ r)).take i).length ≤ 10000 := by rw [List.length_take, List.length_map]; omega
    clear g2 g3 m2 m3
    generalize (ys.map (sJ r)).take i = li at HS HLI hli wb0
    generalize rd_T25 ys (i : Int) = y at *
    have hcm := HS.out.rows.2.1
    have HCM := am hcm
    have hl1 := hli.1
    have hl2 := hli.2
    have HLL := am hli
    clear hli
    go_wp2_with (first | (go_at_call 35; (with_reducible refine (HIH.out y B2 B3 k2 k3 _ HOY.out.1 HOY.out.2 HG2.out HM2.out HG3.out HM3.out).mono ?_); rintro e w1 ⟨u2, u3, rfl, g2, g3, hb⟩; obtain ⟨X2, x2, rfl⟩ := Kd.R_slice g2; obtain ⟨X3, x3, rfl⟩ := Kd.R_slice g3; have HG2' := am g2; have HG3' := am g3; have HB1 := am hb; have HS1 := am (HS.out.below hb); have wb1 := fun (ob : Obj) => (blk_cell (HS1.out.below (below_alloc (Below.refl _ _) ob)).p 3).trans rfl; have wo1 := fun (ob : Obj) => (blk_cell (HS1.out.below (below_alloc (Below.refl _ _) ob)).o 3).trans rfl; clear g2 g3 hb) | ((with_reducible refine gate_dst (N := 51) rfl ?_); (try (refine gate_guard (by rfl) ?_; dsimp only)); refine Kd.R_lit k25 _ 25 ?hg (N := 51) ?hd (xs := ([] : List J)) (inner := []) (ok := fun _ => True) (okp := fun _ => True) ?hr ?hp (fun _ hk => hk) trivial (Below.refl _ _) (Nat.le_refl _) (by simp) ?_; (case hd => rfl); (case hg => rfl); (case hr => first | (go_simp; done) | (go_simp; rfl)); (case hp => exact (Reps.none _ _)); intro z1 w2 ho2 hb2 hg_ hn2; obtain ⟨wa, hsa, hxb, hmx, hb2', hn2', ho2', hwa⟩ := it_pack HS.out HB1.out HG2'.out HG3'.out hb2 hn2 ho2; have HSA := am hsa; have HXB := am hxb; have HMX := am hmx; have HB2 := am hb2'; have HN2 := am hn2'; have HO2 := am ho2'; have HS2 := am (HSA.out.below HB2.out); clear hsa hxb hmx hb2' hn2' ho2' hwa hg_ ho2 hb2 hn2; have wb2 := (blk_cell HS2.out.p 3).trans rfl; have wo2 := (blk_cell HS2.out.o 3).trans rfl; have wz2 := (blk_cell HS2.out.o 0).trans rfl; have wf2 := blk_frozen HS2.out.p 3) | ((with_reducible refine gate_builtin (b := .append) (xs := #[.tmp 51, .tmp 55]) rfl ?_); (try (refine gate_guard (by rfl) ?_; dsimp only)); at_builtin; refine Kd.R_append_rows k25 (w0 := W) W.heap.size rfl (.tmp 51) (.tmp 55) 23 25 (.agg #[(.int .i64 0), (.string ⟨#[]⟩), (.slice none 0 0), (.slice none 0 0)]) 72 rfl Tryd.underlying23 info25 rfl (by decide) (by omega) (z1) ([] : List J) (li.take i) Ai i ci (fun k_ => W.heap.size + 1 + 1 + 1 ≤ k_ ∧ some k_ ≠ (Value.slice none 0 0).ownBlock) (fun k_ => (W.heap.size + 1 + 1 + 1 ≤ k_ ∧ some k_ ≠ (Value.slice none 0 0).ownBlock) ∧ k_ < wa.heap.size) rfl rfl ?aO2 ?aR2 (fun _ _ h => h) ?aK2 ?aF2 ?aB2 ?aS2 ?aL2 ?_; (case aO2 => exact HO2.out); (case aR2 => exact rr_take (TI.rowsA HSA.out HB2.out) HLL.out.1); (case aK2 => exact (fun k_ hk => ⟨hk.1, fun hh => by have := HN2.out k_ hh.symm; have := hk.2; omega⟩)); (case aF2 => exact (fun k_ hk => ⟨by have := HS2.out.lt; omega, fun hh => by have := Kd.R_lt HS2.out.names k_ hh.symm; omega⟩)); (case aB2 => exact HS2.out.bel); (case aS2 => exact HS2.out.ltB); (case aL2 => simp only [List.length_append, List.length_take, List.length_singleton, List.length_nil, List.length_drop]; omega); intro z3 w3 ho hb hg hat; have HB3 := am (below_grownN HB2.out HB2.out.size hg HN2.out); have HN3 := am (fresh_at HN2.out HB2.out.size hat); have HO3 := am ho; have HS3 := am (HSA.out.below HB3.out); obtain ⟨Z3, cz3, ez⟩ := Kd.R_slice ho; rw [show (([] : List J) ++ (li.take i)).length = i from by (simp only [List.length_append, List.length_take, List.length_singleton, List.length_nil, List.length_drop]; omega)] at ez; subst ez; clear ho hb hg hat; have wb3 := (blk_cell HS3.out.p 3).trans rfl; have wo3 := (blk_cell HS3.out.o 3).trans rfl; have wz3 := (blk_cell HS3.out.o 0).trans rfl; have wf3 := blk_frozen HS3.out.p 3; have HX3 := am ((HB3.out.block _ (lt_of_block HXB.out)).trans HXB.out); obtain ⟨xc30, xc31, xc32, xc33⟩ := v_cells HX3.out) | ((with_reducible refine gate_builtin (b := .append) (xs := #[.tmp 57, .tmp 59]) rfl ?_); (try (refine gate_guard (by rfl) ?_; dsimp only)); at_builtin; refine Kd.R_append k25 (w0 := W) W.heap.size rfl (.tmp 57) (.tmp 59) 23 25 (.agg #[(.int .i64 0), (.string ⟨#[]⟩), (.slice none 0 0), (.slice none 0 0)]) 72 rfl Tryd.underlying23 info25 rfl (by decide) (by decide) (.slice Z3 i cz3) (([] : List J) ++ li.take i) (sJ r y) [.int .i64 (sJ r y).f0, .string (sJ r y).f1, .slice X2 (sJ r y).f2.length x2, .slice X3 (sJ r y).f3.length x3] (fun k_ => W.heap.size + 1 + 1 + 1 ≤ k_ ∧ some k_ ≠ (Value.slice none 0 0).ownBlock) (fun k_ => (W.heap.size + 1 + 1 + 1 ≤ k_ ∧ some k_ ≠ (Value.slice none 0 0).ownBlock) ∧ k_ < wa.heap.size) rfl rfl ?aM3 ?aK3 ?aF3 ?aO3 ?aB3 ?aS3 ?aL3 ?_; (case aM3 => exact Kd.M_below HMX.out HB3.out); (case aK3 => exact (fun k_ hk => ⟨hk.1, fun hh => by have := HN3.out k_ hh.symm; have := hk.2; omega⟩)); (case aF3 => exact (fun k_ hk => ⟨by have := HS3.out.lt; omega, fun hh => by have := Kd.R_lt HS3.out.names k_ hh.symm; omega⟩)); (case aO3 => exact HO3.out); (case aB3 => exact HS3.out.bel); (case aS3 => exact HS3.out.ltB); (case aL3 => simp only [List.length_append, List.length_take, List.length_nil]; omega); intro z4 w4 ho hb hg hat; have HB4 := am (below_grownN HB3.out HB3.out.size hg HN3.out); have HN4 := am (fresh_at HN3.out HB3.out.size hat); have HO4 := am ho; have HS4 := am (HSA.out.below HB4.out); obtain ⟨Z4, cz4, ez⟩ := Kd.R_slice ho; rw [show ((([] : List J) ++ li.take i) ++ [sJ r y]).length = i + 1 from by (simp only [List.length_append, List.length_take, List.length_singleton, List.length_nil]; omega)] at ez; subst ez; clear ho hb hg hat; have wb4 := (blk_cell HS4.out.p 3).trans rfl; have wo4 := (blk_cell HS4.out.o 3).trans rfl; have wz4 := (blk_cell HS4.out.o 0).trans rfl; have wf4 := blk_frozen HS4.out.p 3; have HX4 := am ((HB4.out.block _ (lt_of_block HXB.out)).trans HXB.out); obtain ⟨xc40, xc41, xc42, xc43⟩ := v_cells HX4.out) | ((with_reducible refine gate_builtin (b := .append) (xs := #[.tmp 61, .tmp 65]) rfl ?_); (try (refine gate_guard (by rfl) ?_; dsimp only)); at_builtin; refine Kd.R_append_rows k25 (w0 := W) W.heap.size rfl (.tmp 61) (.tmp 65) 23 25 (.agg #[(.int .i64 0), (.string ⟨#[]⟩), (.slice none 0 0), (.slice none 0 0)]) 72 rfl Tryd.underlying23 info25 rfl (by decide) (by omega) (.slice Z4 (i + 1) cz4) ((([] : List J) ++ li.take i) ++ [sJ r y]) (li.drop i) _ _ _ (fun k_ => W.heap.size + 1 + 1 + 1 ≤ k_ ∧ some k_ ≠ (Value.slice none 0 0).ownBlock) (fun k_ => (W.heap.size + 1 + 1 + 1 ≤ k_ ∧ some k_ ≠ (Value.slice none 0 0).ownBlock) ∧ k_ < wa.heap.size) rfl rfl ?aO4 ?aR4 (fun _ _ h => h) ?aK4 ?aF4 ?aB4 ?aS4 ?aL4 ?_; (case aO4 => exact HO4.out); (case aR4 => exact rr_drop (TI.rowsA HSA.out HB4.out) HLL.out.1 HCM.out); (case aK4 => exact (fun k_ hk => ⟨hk.1, fun hh => by have := HN4.out k_ hh.symm; have := hk.2; omega⟩)); (case aF4 => exact (fun k_ hk => ⟨by have := HS4.out.lt; omega, fun hh => by have := Kd.R_lt HS4.out.names k_ hh.symm; omega⟩)); (case aB4 => exact HS4.out.bel); (case aS4 => exact HS4.out.ltB); (case aL4 => simp only [List.length_append, List.length_take, List.length_singleton, List.length_nil, List.length_drop]; omega); intro z5 w5 ho hb hg hat; have HB5 := am (below_grownN HB4.out HB4.out.size hg HN4.out); have HN5 := am (fresh_at HN4.out HB4.out.size hat); have HO5 := am ho; have HS5 := am (HSA.out.below HB5.out); obtain ⟨Z5, cz5, ez⟩ := Kd.R_slice ho; rw [show (((([] : List J) ++ li.take i) ++ [sJ r y]) ++ (li.drop i)).length = li.length + 1 from by (simp only [List.length_append, List.length_take, List.length_singleton, List.length_nil, List.length_drop]; omega)] at ez; subst ez; clear ho hb hg hat; have wb5 := (blk_cell HS5.out.p 3).trans rfl; have wo5 := (blk_cell HS5.out.o 3).trans rfl; have wz5 := (blk_cell HS5.out.o 0).trans rfl; have wf5 := blk_frozen HS5.out.p 3; have HX5 := am ((HB5.out.block _ (lt_of_block HXB.out)).trans HXB.out); obtain ⟨xc50, xc51, xc52, xc53⟩ := v_cells HX5.out))
    all_goals (
     have HS9 := am (show TI W f0 f1 (.slice A2 0 c2) (.slice (some ad3) ys.length c3) (.slice none 0 0) (.slice Z5 (li.length + 1) cz5) [] ((ys.map (sJ r)).take (i + 1)) (w5.setCell ⟨W.heap.size + 1 + 1, 3, none⟩ (.slice Z5 (li.length + 1) cz5)) from by
      have := HSA.out.items' HB5.out HO5.out
      rw [List.nil_append, HLI.out] at this
      exact this)
     go_roundg g
     case measure => omega
     case rel => exact ⟨i + 1, _, (by first | exact congrArg (Value.int .i64) HWN.out | exact congrArg (Value.int .i64) (show (i : Int) + 1 = ((i + 1 : Nat) : Int) by omega)), by omega, by omega, HS9⟩)
  ·have p2 : ((i : Int) < (ys.length : Int)) = False := eq_false (by omega)
   have e1 : (ys.map (sJ r)).take i = ys.map (sJ r) := List.take_of_length_le (by rw [List.length_map]; omega)
   rw [e1] at HS wb0
   clear e1
   obtain ⟨li, hli⟩ : ∃ x, x = ys.map (sJ r) := ⟨_, rfl⟩
   rw [← hli] at HS wb0
   have HGO := am (show ∀ e w', TEnds W ⟨f0, f1, [], li⟩ e w' → TEnds W ⟨f0, f1, [], ys.map (sJ r)⟩ e w' from fun _ _ h => by rw [← hli]; exact h)
   clear hli
   obtain ⟨t0, t1, t2, t3⟩ := v_cells HS.out.p
   obtain ⟨r0, r1, r2, r3⟩ := v_cells HS.out.r
   obtain ⟨s0, s1, s2, s3⟩ := v_thaw HS.out.r
   have HE := am (show TEnds W ⟨f0, f1, [], li⟩ _ _ from HS.out.fin)
   have HR4 := am (blk4 HS.out.r (.int .i64 f0) (.string f1) (.slice none 0 0) (.slice Ai li.length ci))
   go_wp2
   refine bodyPost_ret (results_cell_row rfl _ _ (W.heap.size + 1) 25 #[.int .i64 f0, .string f1, .slice none 0 0, .slice Ai li.length ci] (0, 0) _ rfl HR4.out Tryd.underlying25 rfl (by kernel_rfl)) rfl ?_
   exact HGO.out _ _ HE.out
end Go.Proofs.YtaalajhmfdcalaaDoor.X
namespace Go.Proofs.YtaalajhmfdcalaaDoor.X
open Go.RowKit Go.Lib Go.Proofs.YtaalajhmfdcalaaDoorW.PrintWords Go.Proofs.YtaalajhmfdcalaaDoorW.PrintLast Go.Proofs.YtaalajhmfdcalaaDoorW.PrintMore
theorem rr_drop1 {α : Type} {R : α → List Value → Prop} {w : World} {A : Option Addr} {xs : List α} {m c : Nat} (h : ReadsRow R 1 w A xs.length xs) (hm : m ≤ xs.length) (hc : xs.length ≤ c) : ReadsRow R 1 w (if c = m then A else A.map (·.add m)) (xs.length - m) (xs.drop m) := by
 have := rr_drop h hm hc
 rwa [Nat.mul_one] at this
theorem nm_pack {W wr w2 : World} {f0 : Int} {f1 : ByteArray} {v2 v3 sn sv v1 : Value} {ln : List ByteArray} {li : List J} (h : TI W f0 f1 v2 v3 sn sv ln li wr) (hb2 : Below wr.heap.size wr w2) (hn : ∃ b, v1.ownBlock = some b ∧ wr.heap.size ≤ b) (hr : Kd.string.R 9 w2 wr.heap.size (fun _ => True) v1 []) :
  ∃ wn, TI W f0 f1 v2 v3 sn sv ln li wn ∧ Below wn.heap.size wn w2 ∧ (∀ b, v1.ownBlock = some b → wn.heap.size ≤ b) ∧ Kd.string.R 9 w2 W.heap.size (fun k => W.heap.size + 1 + 1 + 1 ≤ k) v1 [] := by
 refine ⟨wr, h, hb2, ?_, Kd.R_lower (Kd.R_mono (Kd.R_bound hr) (fun k hk => ?_)) h.ltB⟩
 ·intro b hh
  obtain ⟨c, hc, h3⟩ := hn
  rw [hc] at hh
  injection hh with hh
  omega
 ·have := hk.2.1
  have := h.lt
  omega
set_option maxRecDepth 1000000 in
set_option maxHeartbeats 8000000 in
theorem sorted_obj (r : Nat) (f1 : ByteArray) (ns : List ByteArray) (ys : List J) (A2 A3 : Option Addr) (c2 c3 : Nat) (W : World) (hl : ns.length = ys.length) (hsz : ys.length ≤ 10000) (hC2 : Kd.string.C W A2 ns.length ns) (hc2 : ns.length ≤ c2) (hC3 : k25.C W A3 ys.length ys) (hc3 : ys.length ≤ c3) (hok : ∀ y, y ∈ ys → OKJ r y ∧ ∃ B, Bd B 10000 y) (IH : RSOK r) :
  Calls Tryd.prog 35 #[jVal 6 f1 A2 A3 ns.length c2 ys.length c3] W (TEnds W ⟨6, f1, namesOf true ns ys, (itemsOf true ns ys).map (sJ r)⟩) := by
 have HST := am (TI.start W 6 f1 (.slice A2 ns.length c2) (.slice A3 ys.length c3))
 have HF2 := am (Kd.C_F Kd.heap_string hC2)
 have HF3 := am (Kd.C_F heap25 hC3)
 have HOK := am hok
 have HNY := am hl
 unfold RSOK at IH
 have HIH := am IH
 clear hC2 hC3 hok IH hl
 go_enter Tryd.func35, Tryd.ntmps35
 go_wp2
 go_loopg [4] (ys.length + 1) (fun g v4 wr => ∃ (i : Nat) (sn sv : Value), v4 = .int .i64 (i : Int) ∧ i ≤ ys.length ∧ ys.length + 1 ≤ i + g ∧ Aside0 (TI W 6 f1 (.slice A2 ns.length c2) (.slice A3 ys.length c3) sn sv ((PF ns ys i).map Prod.fst) ((PF ns ys i).map (fun q => sJ r q.2)) wr))
 case atStart => exact ⟨0, _, _, rfl, by omega, by omega, HST⟩
 case round =>
  obtain ⟨i, sn, sv, rfl, hi, hg, HS⟩ := hrel
  clear HST
  obtain ⟨An, cn, en⟩ := Kd.R_slice HS.out.names
  subst en
  obtain ⟨Ai, ci, ei⟩ := Kd.R_slice HS.out.items
  subst ei
  have wo0 := (blk_cell HS.out.o 3).trans rfl
  have wz0 := (blk_cell HS.out.o 0).trans rfl
  by_cases hlt : i < ys.length
  ·cases gk with
   | zero => omega
   | succ g =>
    have p1 : (0 ≤ (i : Int)) = True := eq_true (by omega)
    have p2 : ((i : Int) < (ys.length : Int)) = True := eq_true (by omega)
    have hlt2 : i < ns.length := by have := HNY.out; omega
    have p3 : ((i : Int) < (ns.length : Int)) = True := eq_true (by omega)
    have HWN := am (wrap_next i ys.length hlt (by omega))
    obtain ⟨ad2, e8, hnk⟩ := name_at HF2.out i hlt2
    subst e8
    have HNK := am hnk
    clear hnk
    have hpl := PF_len HNY.out (Nat.le_of_lt hlt)
    have HPN := am (fun a (ha : atF (nmAt ns i) (PF ns ys i) = a) => PF_next (sJ r) hlt2 hlt ha)
    have HAT := am (fun a => atF_is (nmAt ns i) (PF ns ys i) a)
    have hlln : ((PF ns ys i).map Prod.fst).length = i := by rw [List.length_map]; exact hpl
    have hlli : ((PF ns ys i).map (fun q => sJ r q.2)).length = i := by rw [List.length_map]; exact hpl
    rw [hpl] at HAT
    clear hpl
    generalize (PF ns ys i).map Prod.fst = ln at *
    generalize (PF ns ys i).map (fun q => sJ r q.2) = li at *
    have HLN := am hlln
    have HLI := am hlli
    have hl10 : ln.length ≤ 10000 ∧ li.length ≤ 10000 := by omega
    have h10 := hl10.1
    have h11 := hl10.2
    clear hlln hlli hl10
    go_upto_block 2 with fail
    go_cut [5] (fun v5 wc => ∃ a : Nat, v5 = .int .i64 (a : Int) ∧ a ≤ ln.length ∧ Aside0 (TI W 6 f1 (.slice (some ad2) ns.length c2) (.slice A3 ys.length c3) (.slice An ln.length cn) (.slice Ai li.length ci) ln li wc) ∧ Aside0 (((ln.take a ++ [nmAt ns i]) ++ ln.drop a = (PF ns ys (i + 1)).map Prod.fst) ∧ ((li.take a ++ [sJ r (rd_T25 ys (i : Int))]) ++ li.drop a = (PF ns ys (i + 1)).map (fun q => sJ r q.2))))
    case first =>
     go_wp2_with fail
     go_loopg [5] (ln.length + 1) (fun g5 v5 wr2 => ∃ a : Nat, v5 = .int .i64 (a : Int) ∧ a ≤ ln.length ∧ ln.length + 1 ≤ a + g5 ∧ Aside0 (TI W 6 f1 (.slice (some ad2) ns.length c2) (.slice A3 ys.length c3) (.slice An ln.length cn) (.slice Ai li.length ci) ln li wr2) ∧ Aside0 (∀ q, q < a → Op.bytesLess (nmAt ln q).toList (nmAt ns i).toList = true))
     case atStart => exact ⟨0, rfl, by omega, by omega, HS, ⟨fun q hq => by omega⟩⟩
     case round =>
      obtain ⟨a, rfl, ha, hg5, HS2, HQ⟩ := hrel
      clear HS wo0 wz0
      have uo := (blk_cell HS2.out.o 2).trans rfl
      have up := (blk_cell HS2.out.p 2).trans rfl
      have un := CellOf.at HNK.out HS2.out.bel
      have a1 : (0 ≤ (a : Int)) = True := eq_true (by omega)
      have HSQ := am (fun (n : Nat) => HS2.out.below (pw_below_drewN (Below.refl wr.heap.size wr) n))
      by_cases hal : a < ln.length
      ·have a2 : ((a : Int) < (ln.length : Int)) = True := eq_true (by omega)
       obtain ⟨adn, e7, ua'⟩ := name_at (Kd.R_F HS2.out.names) a hal
       subst e7
       have ua : wr.cell? (adn.add a) = some (.string (nmAt ln a)) := ua'
       clear ua'
       by_cases hb : Op.bytesLess (nmAt ln a).toList (nmAt ns i).toList = true
       ·cases gk with
        | zero => omega
        | succ g5 =>
         have HQ2 := am (show ∀ q, q < a + 1 → Op.bytesLess (nmAt ln q).toList (nmAt ns i).toList = true from fun q hq => by
          by_cases h : q < a
          ·exact HQ.out q h
          ·obtain rfl : q = a := by omega
           exact hb)
         have HWA := am (wrap_next a ln.length hal (by omega))
         go_wp2
         go_quiet (fail)
         go_wp2
         go_roundg g5
         case measure => omega
         case rel => exact ⟨a + 1, (by first | exact congrArg (Value.int .i64) HWA.out | exact congrArg (Value.int .i64) (show (a : Int) + 1 = ((a + 1 : Nat) : Int) by omega)), by omega, by omega, ⟨HSQ.out _⟩, HQ2⟩
       ·have hb' : Op.bytesLess (nmAt ln a).toList (nmAt ns i).toList = false := Bool.eq_false_iff.2 hb
        have HA := am (HPN.out a (HAT.out a (by have := HLN.out; omega) HQ.out (.inr hb')))
        clear hb
        go_wp2
        go_quiet (fail)
        go_wp2_with fail
        go_meet
        case rel => exact ⟨a, rfl, ha, ⟨HSQ.out _⟩, HA⟩
      ·have a2 : ((a : Int) < (ln.length : Int)) = False := eq_false (by omega)
       have HA := am (HPN.out a (HAT.out a (by have := HLN.out; omega) HQ.out (.inl (by have := HLN.out; omega))))
       go_wp2
       go_quiet (fail)
       go_wp2_with fail
       go_meet
       case rel => exact ⟨a, rfl, ha, ⟨HSQ.out _⟩, HA⟩
    case rest =>
     obtain ⟨a, rfl, ha, HS2, HA⟩ := hcut
     clear HS wo0 wz0
     have HLA := am (show a ≤ li.length by have := HLN.out; have := HLI.out; omega)
     have HLA2 := am ha
     have hla := HLA.out
     obtain ⟨ad3, B2, k2, B3, k3, e9, q0, q1, q2, q3, m2, g2, m3, g3⟩ := F_elem (Kd.F_old HF3.out HS2.out.bel) i hlt
     subst e9
     have HG2 := am (Kd.F_now g2)
     have HG3 := am (Kd.F_now g3)
     have HM2 := am m2
     have HM3 := am m3
     have HOY := am (HOK.out (rd_T25 ys i) (rd_mem ys i hlt))
     clear g2 g3 m2 m3
     generalize rd_T25 ys (i : Int) = y at *
     have wo0 := (blk_cell HS2.out.o 3).trans rfl
     have HS := HS2
     clear HS2
     have hcm := HS.out.rows.2.1
     have hcn := (Kd.R_reads' HS.out.names).2.1
     have HCM := am hcm
     have HCN := am hcn
     have a1 : (0 ≤ (a : Int)) = True := eq_true (by omega)
     go_wp2_with (first | (go_at_call 35; (with_reducible refine (HIH.out y B2 B3 k2 k3 _ HOY.out.1 HOY.out.2 HG2.out HM2.out HG3.out HM3.out).mono ?_); rintro e w1 ⟨u2, u3, rfl, g2, g3, hb⟩; obtain ⟨X2, x2, rfl⟩ := Kd.R_slice g2; obtain ⟨X3, x3, rfl⟩ := Kd.R_slice g3; have HG2' := am g2; have HG3' := am g3; have HB1 := am hb; have HS1 := am (HS.out.below hb); have wb1 := fun (ob : Obj) => (blk_cell (HS1.out.below (below_alloc (Below.refl _ _) ob)).p 3).trans rfl; have wo1 := fun (ob : Obj) => (blk_cell (HS1.out.below (below_alloc (Below.refl _ _) ob)).o 3).trans rfl; clear g2 g3 hb) | ((with_reducible refine gate_dst (N := 51) rfl ?_); (try (refine gate_guard (by rfl) ?_; dsimp only)); refine Kd.R_lit k25 _ 25 ?hg (N := 51) ?hd (xs := ([] : List J)) (inner := []) (ok := fun _ => True) (okp := fun _ => True) ?hr ?hp (fun _ hk => hk) trivial (Below.refl _ _) (Nat.le_refl _) (by simp) ?_; (case hd => rfl); (case hg => rfl); (case hr => first | (go_simp; done) | (go_simp; rfl)); (case hp => exact (Reps.none _ _)); intro z1 w2 ho2 hb2 hg_ hn2; obtain ⟨wa, hsa, hxb, hmx, hb2', hn2', ho2', hwa⟩ := it_pack HS.out HB1.out HG2'.out HG3'.out hb2 hn2 ho2; have HSA := am hsa; have HXB := am hxb; have HMX := am hmx; have HB2 := am hb2'; have HN2 := am hn2'; have HO2 := am ho2'; have HS2 := am (HSA.out.below HB2.out); clear hsa hxb hmx hb2' hn2' ho2' hwa hg_ ho2 hb2 hn2; have wb2 := (blk_cell HS2.out.p 3).trans rfl; have wo2 := (blk_cell HS2.out.o 3).trans rfl; have wz2 := (blk_cell HS2.out.o 0).trans rfl; have wf2 := blk_frozen HS2.out.p 3) | ((with_reducible refine gate_builtin (b := .append) (xs := #[.tmp 51, .tmp 55]) rfl ?_); (try (refine gate_guard (by rfl) ?_; dsimp only)); at_builtin; refine Kd.R_append_rows k25 (w0 := W) W.heap.size rfl (.tmp 51) (.tmp 55) 23 25 (.agg #[(.int .i64 0), (.string ⟨#[]⟩), (.slice none 0 0), (.slice none 0 0)]) 72 rfl Tryd.underlying23 info25 rfl (by decide) (by omega) (z1) ([] : List J) (li.take a) Ai a ci (fun k_ => W.heap.size + 1 + 1 + 1 ≤ k_ ∧ some k_ ≠ (Value.slice An ln.length cn).ownBlock) (fun k_ => (W.heap.size + 1 + 1 + 1 ≤ k_ ∧ some k_ ≠ (Value.slice An ln.length cn).ownBlock) ∧ k_ < wa.heap.size) rfl rfl ?aO2 ?aR2 (fun _ _ h => h) ?aK2 ?aF2 ?aB2 ?aS2 ?aL2 ?_; (case aO2 => exact HO2.out); (case aR2 => exact rr_take (TI.rowsA HSA.out HB2.out) HLA.out); (case aK2 => exact (fun k_ hk => ⟨hk.1, fun hh => by have := HN2.out k_ hh.symm; have := hk.2; omega⟩)); (case aF2 => exact (fun k_ hk => ⟨by have := HS2.out.lt; omega, fun hh => by have := Kd.R_lt HS2.out.names k_ hh.symm; omega⟩)); (case aB2 => exact HS2.out.bel); (case aS2 => exact HS2.out.ltB); (case aL2 => simp only [List.length_append, List.length_take, List.length_singleton, List.length_nil, List.length_drop]; omega); intro z3 w3 ho hb hg hat; have HB3 := am (below_grownN HB2.out HB2.out.size hg HN2.out); have HN3 := am (fresh_at HN2.out HB2.out.size hat); have HO3 := am ho; have HS3 := am (HSA.out.below HB3.out); obtain ⟨Z3, cz3, ez⟩ := Kd.R_slice ho; rw [show (([] : List J) ++ (li.take a)).length = a from by (simp only [List.length_append, List.length_take, List.length_singleton, List.length_nil, List.length_drop]; omega)] at ez; subst ez; clear ho hb hg hat; have wb3 := (blk_cell HS3.out.p 3).trans rfl; have wo3 := (blk_cell HS3.out.o 3).trans rfl; have wz3 := (blk_cell HS3.out.o 0).trans rfl; have wf3 := blk_frozen HS3.out.p 3; have HX3 := am ((HB3.out.block _ (lt_of_block HXB.out)).trans HXB.out); obtain ⟨xc30, xc31, xc32, xc33⟩ := v_cells HX3.out) | ((with_reducible refine gate_builtin (b := .append) (xs := #[.tmp 57, .tmp 59]) rfl ?_); (try (refine gate_guard (by rfl) ?_; dsimp only)); at_builtin; refine Kd.R_append k25 (w0 := W) W.heap.size rfl (.tmp 57) (.tmp 59) 23 25 (.agg #[(.int .i64 0), (.string ⟨#[]⟩), (.slice none 0 0), (.slice none 0 0)]) 72 rfl Tryd.underlying23 info25 rfl (by decide) (by decide) (.slice Z3 a cz3) (([] : List J) ++ li.take a) (sJ r y) [.int .i64 (sJ r y).f0, .string (sJ r y).f1, .slice X2 (sJ r y).f2.length x2, .slice X3 (sJ r y).f3.length x3] (fun k_ => W.heap.size + 1 + 1 + 1 ≤ k_ ∧ some k_ ≠ (Value.slice An ln.length cn).ownBlock) (fun k_ => (W.heap.size + 1 + 1 + 1 ≤ k_ ∧ some k_ ≠ (Value.slice An ln.length cn).ownBlock) ∧ k_ < wa.heap.size) rfl rfl ?aM3 ?aK3 ?aF3 ?aO3 ?aB3 ?aS3 ?aL3 ?_; (case aM3 => exact Kd.M_below HMX.out HB3.out); (case aK3 => exact (fun k_ hk => ⟨hk.1, fun hh => by have := HN3.out k_ hh.symm; have := hk.2; omega⟩)); (case aF3 => exact (fun k_ hk => ⟨by have := HS3.out.lt; omega, fun hh => by have := Kd.R_lt HS3.out.names k_ hh.symm; omega⟩)); (case aO3 => exact HO3.out); (case aB3 => exact HS3.out.bel); (case aS3 => exact HS3.out.ltB); (case aL3 => simp only [List.length_append, List.length_take, List.length_nil]; omega); intro z4 w4 ho hb hg hat; have HB4 := am (below_grownN HB3.out HB3.out.size hg HN3.out); have HN4 := am (fresh_at HN3.out HB3.out.size hat); have HO4 := am ho; have HS4 := am (HSA.out.below HB4.out); obtain ⟨Z4, cz4, ez⟩ := Kd.R_slice ho; rw [show ((([] : List J) ++ li.take a) ++ [sJ r y]).length = a + 1 from by (simp only [List.length_append, List.length_take, List.length_singleton, List.length_nil]; omega)] at ez; subst ez; clear ho hb hg hat; have wb4 := (blk_cell HS4.out.p 3).trans rfl; have wo4 := (blk_cell HS4.out.o 3).trans rfl; have wz4 := (blk_cell HS4.out.o 0).trans rfl; have wf4 := blk_frozen HS4.out.p 3; have HX4 := am ((HB4.out.block _ (lt_of_block HXB.out)).trans HXB.out); obtain ⟨xc40, xc41, xc42, xc43⟩ := v_cells HX4.out) | ((with_reducible refine gate_builtin (b := .append) (xs := #[.tmp 61, .tmp 65]) rfl ?_); (try (refine gate_guard (by rfl) ?_; dsimp only)); at_builtin; refine Kd.R_append_rows k25 (w0 := W) W.heap.size rfl (.tmp 61) (.tmp 65) 23 25 (.agg #[(.int .i64 0), (.string ⟨#[]⟩), (.slice none 0 0), (.slice none 0 0)]) 72 rfl Tryd.underlying23 info25 rfl (by decide) (by omega) (.slice Z4 (a + 1) cz4) ((([] : List J) ++ li.take a) ++ [sJ r y]) (li.drop a) _ _ _ (fun k_ => W.heap.size + 1 + 1 + 1 ≤ k_ ∧ some k_ ≠ (Value.slice An ln.length cn).ownBlock) (fun k_ => (W.heap.size + 1 + 1 + 1 ≤ k_ ∧ some k_ ≠ (Value.slice An ln.length cn).ownBlock) ∧ k_ < wa.heap.size) rfl rfl ?aO4 ?aR4 (fun _ _ h => h) ?aK4 ?aF4 ?aB4 ?aS4 ?aL4 ?_; (case aO4 => exact HO4.out); (case aR4 => exact rr_drop (TI.rowsA HSA.out HB4.out) HLA.out HCM.out); (case aK4 => exact (fun k_ hk => ⟨hk.1, fun hh => by have := HN4.out k_ hh.symm; have := hk.2; omega⟩)); (case aF4 => exact (fun k_ hk => ⟨by have := HS4.out.lt; omega, fun hh => by have := Kd.R_lt HS4.out.names k_ hh.symm; omega⟩)); (case aB4 => exact HS4.out.bel); (case aS4 => exact HS4.out.ltB); (case aL4 => simp only [List.length_append, List.length_take, List.length_singleton, List.length_nil, List.length_drop]; omega); intro z5 w5 ho hb hg hat; have HB5 := am (below_grownN HB4.out HB4.out.size hg HN4.out); have HN5 := am (fresh_at HN4.out HB4.out.size hat); have HO5 := am ho; have HS5 := am (HSA.out.below HB5.out); obtain ⟨Z5, cz5, ez⟩ := Kd.R_slice ho; rw [show (((([] : List J) ++ li.take a) ++ [sJ r y]) ++ (li.drop a)).length = li.length + 1 from by (simp only [List.length_append, List.length_take, List.length_singleton, List.length_nil, List.length_drop]; omega)] at ez; subst ez; clear ho hb hg hat; have wb5 := (blk_cell HS5.out.p 3).trans rfl; have wo5 := (blk_cell HS5.out.o 3).trans rfl; have wz5 := (blk_cell HS5.out.o 0).trans rfl; have wf5 := blk_frozen HS5.out.p 3; have HX5 := am ((HB5.out.block _ (lt_of_block HXB.out)).trans HXB.out); obtain ⟨xc50, xc51, xc52, xc53⟩ := v_cells HX5.out; have HS9 := am (HSA.out.items' HB5.out HO5.out); have vb9 := (blk_cell HS9.out.p 2).trans rfl; have vo9 := (blk_cell HS9.out.o 2).trans rfl; have vz9 := (blk_cell HS9.out.o 0).trans rfl) | ((with_reducible refine gate_dst (N := 72) rfl ?_); (try (refine gate_guard (by rfl) ?_; dsimp only)); refine Kd.R_lit Kd.string _ 9 ?hg (N := 72) ?hd (xs := ([] : List ByteArray)) (inner := []) (ok := fun _ => True) (okp := fun _ => True) ?hr ?hp (fun _ hk => hk) trivial (Below.refl _ _) (Nat.le_refl _) (by simp) ?_; (case hd => rfl); (case hg => rfl); (case hr => first | (go_simp; done) | (go_simp; rfl)); (case hp => exact (Reps.none _ _)); intro z1 w12 ho hb hg_ hn; obtain ⟨wn, hsn, hbn, hnn, hon⟩ := nm_pack HS9.out hb hn ho; have HSN := am hsn; have HB12 := am hbn; have HN12 := am hnn; have HO12 := am hon; have HS12 := am (HSN.out.below HB12.out); clear hsn hbn hnn hon ho hb hg_ hn; have vb12 := (blk_cell HS12.out.p 2).trans rfl; have vo12 := (blk_cell HS12.out.o 2).trans rfl; have vz12 := (blk_cell HS12.out.o 0).trans rfl; have vf12 := blk_frozen HS12.out.p 2; have vn12 := CellOf.at HNK.out HS12.out.bel) | ((with_reducible refine gate_builtin (b := .append) (xs := #[.tmp 72, .tmp 76]) rfl ?_); (try (refine gate_guard (by rfl) ?_; dsimp only)); at_builtin; refine Kd.R_append_rows Kd.string (w0 := W) W.heap.size rfl (.tmp 72) (.tmp 76) 22 9 (.string ⟨#[]⟩) 16 rfl Tryd.underlying22 info9 rfl (by decide) (by omega) (z1) ([] : List ByteArray) (ln.take a) An a cn (fun k_ => W.heap.size + 1 + 1 + 1 ≤ k_) (fun _ => False) rfl rfl ?aO12 ?aR12 (fun _ _ h => h) (fun _ h => h.elim) ?aF12 ?aB12 ?aS12 ?aL12 ?_; (case aO12 => exact HO12.out); (case aR12 => exact rr_take (Kd.R_reads' HS12.out.names).2.2 HLA2.out); (case aF12 => exact (fun k_ hk => by have := HS12.out.lt; omega)); (case aB12 => exact HS12.out.bel); (case aS12 => exact HS12.out.ltB); (case aL12 => simp only [List.length_append, List.length_take, List.length_singleton, List.length_nil, List.length_drop]; omega); intro z13 w13 ho hb hg hat; have HB13 := am (below_grownN HB12.out HB12.out.size hg HN12.out); have HN13 := am (fresh_at HN12.out HB12.out.size hat); have HO13 := am ho; have HS13 := am (HSN.out.below HB13.out); obtain ⟨Z13, cz13, ez⟩ := Kd.R_slice ho; rw [show (([] : List ByteArray) ++ (ln.take a)).length = a from by (simp only [List.length_append, List.length_take, List.length_singleton, List.length_nil, List.length_drop]; omega)] at ez; subst ez; clear ho hb hg hat; have vb13 := (blk_cell HS13.out.p 2).trans rfl; have vo13 := (blk_cell HS13.out.o 2).trans rfl; have vz13 := (blk_cell HS13.out.o 0).trans rfl; have vf13 := blk_frozen HS13.out.p 2; have vn13 := CellOf.at HNK.out HS13.out.bel) | ((with_reducible refine gate_builtin (b := .append) (xs := #[.tmp 78, .tmp 84]) rfl ?_); (try (refine gate_guard (by rfl) ?_; dsimp only)); at_builtin; refine Kd.R_append Kd.string (w0 := W) W.heap.size rfl (.tmp 78) (.tmp 84) 22 9 (.string ⟨#[]⟩) 16 rfl Tryd.underlying22 info9 rfl (by decide) (by omega) (.slice Z13 a cz13) (([] : List ByteArray) ++ ln.take a) (nmAt ns i) [.string (nmAt ns i)] (fun k_ => W.heap.size + 1 + 1 + 1 ≤ k_) (fun _ => False) rfl rfl ?aP13 (fun _ hk => hk.elim) ?aF13 ?aO13 ?aB13 ?aS13 ?aL13 ?_; (case aP13 => exact rfl); (case aF13 => exact (fun k_ hk => by have := HS13.out.lt; omega)); (case aO13 => exact HO13.out); (case aB13 => exact HS13.out.bel); (case aS13 => exact HS13.out.ltB); (case aL13 => simp only [List.length_append, List.length_take, List.length_nil]; omega); intro z14 w14 ho hb hg hat; have HB14 := am (below_grownN HB13.out HB13.out.size hg HN13.out); have HN14 := am (fresh_at HN13.out HB13.out.size hat); have HO14 := am ho; have HS14 := am (HSN.out.below HB14.out); obtain ⟨Z14, cz14, ez⟩ := Kd.R_slice ho; rw [show ((([] : List ByteArray) ++ ln.take a) ++ [nmAt ns i]).length = a + 1 from by (simp only [List.length_append, List.length_take, List.length_singleton, List.length_nil]; omega)] at ez; subst ez; clear ho hb hg hat; have vb14 := (blk_cell HS14.out.p 2).trans rfl; have vo14 := (blk_cell HS14.out.o 2).trans rfl; have vz14 := (blk_cell HS14.out.o 0).trans rfl; have vf14 := blk_frozen HS14.out.p 2; have vn14 := CellOf.at HNK.out HS14.out.bel) | ((with_reducible refine gate_builtin (b := .append) (xs := #[.tmp 86, .tmp 90]) rfl ?_); (try (refine gate_guard (by rfl) ?_; dsimp only)); at_builtin; refine Kd.R_append_rows Kd.string (w0 := W) W.heap.size rfl (.tmp 86) (.tmp 90) 22 9 (.string ⟨#[]⟩) 16 rfl Tryd.underlying22 info9 rfl (by decide) (by omega) (.slice Z14 (a + 1) cz14) ((([] : List ByteArray) ++ ln.take a) ++ [nmAt ns i]) (ln.drop a) _ _ _ (fun k_ => W.heap.size + 1 + 1 + 1 ≤ k_) (fun _ => False) rfl rfl ?aO14 ?aR14 (fun _ _ h => h) (fun _ h => h.elim) ?aF14 ?aB14 ?aS14 ?aL14 ?_; (case aO14 => exact HO14.out); (case aR14 => exact rr_drop1 (Kd.R_reads' HS14.out.names).2.2 HLA2.out HCN.out); (case aF14 => exact (fun k_ hk => by have := HS14.out.lt; omega)); (case aB14 => exact HS14.out.bel); (case aS14 => exact HS14.out.ltB); (case aL14 => simp only [List.length_append, List.length_take, List.length_singleton, List.length_nil, List.length_drop]; omega); intro z15 w15 ho hb hg hat; have HB15 := am (below_grownN HB14.out HB14.out.size hg HN14.out); have HN15 := am (fresh_at HN14.out HB14.out.size hat); have HO15 := am ho; have HS15 := am (HSN.out.below HB15.out); obtain ⟨Z15, cz15, ez⟩ := Kd.R_slice ho; rw [show (((([] : List ByteArray) ++ ln.take a) ++ [nmAt ns i]) ++ (ln.drop a)).length = ln.length + 1 from by (simp only [List.length_append, List.length_take, List.length_singleton, List.length_nil, List.length_drop]; omega)] at ez; subst ez; clear ho hb hg hat; have vb15 := (blk_cell HS15.out.p 2).trans rfl; have vo15 := (blk_cell HS15.out.o 2).trans rfl; have vz15 := (blk_cell HS15.out.o 0).trans rfl; have vf15 := blk_frozen HS15.out.p 2; have vn15 := CellOf.at HNK.out HS15.out.bel))
     all_goals (
      have HSF := am (show TI W 6 f1 (.slice (some ad2) ns.length c2) (.slice (some ad3) ys.length c3) (.slice Z15 (ln.length + 1) cz15) (.slice Z5 (li.length + 1) cz5) ((PF ns ys (i + 1)).map Prod.fst) ((PF ns ys (i + 1)).map (fun q => sJ r q.2)) (w15.setCell ⟨W.heap.size + 1 + 1, 2, none⟩ (.slice Z15 (ln.length + 1) cz15)) from by
       have := HSN.out.names' HB15.out HO15.out HN15.out
       rw [List.nil_append, List.nil_append, HA.out.1, HA.out.2] at this
       exact this)
      go_roundg g
      case measure => omega
      case rel => exact ⟨i + 1, _, _, (by first | exact congrArg (Value.int .i64) HWN.out | exact congrArg (Value.int .i64) (show (i : Int) + 1 = ((i + 1 : Nat) : Int) by omega)), by omega, by omega, HSF⟩)
  ·have p2 : ((i : Int) < (ys.length : Int)) = False := eq_false (by omega)
   obtain rfl : i = ys.length := by omega
   have HGO := am (show ∀ e w', TEnds W ⟨6, f1, (PF ns ys ys.length).map Prod.fst, (PF ns ys ys.length).map (fun q => sJ r q.2)⟩ e w' → TEnds W ⟨6, f1, namesOf true ns ys, (itemsOf true ns ys).map (sJ r)⟩ e w' from fun e w' h => by
    rw [PF_all HNY.out] at h
    have e1 : namesOf true ns ys = (sortF (ns.zip ys)).map Prod.fst := rfl
    have e2 : (itemsOf true ns ys).map (sJ r) = (sortF (ns.zip ys)).map (fun q => sJ r q.2) := by
     show ((sortF (ns.zip ys)).map Prod.snd).map (sJ r) = _
     rw [List.map_map]
     rfl
    rw [e1, e2]
    exact h)
   generalize (PF ns ys ys.length).map Prod.fst = ln at *
   generalize (PF ns ys ys.length).map (fun q => sJ r q.2) = li at *
   obtain ⟨t0, t1, t2, t3⟩ := v_cells HS.out.p
   obtain ⟨r0, r1, r2, r3⟩ := v_cells HS.out.r
   obtain ⟨s0, s1, s2, s3⟩ := v_thaw HS.out.r
   have HE := am HS.out.fin
   have HR4 := am (blk4 HS.out.r (.int .i64 6) (.string f1) (.slice An ln.length cn) (.slice Ai li.length ci))
   go_wp2
   refine bodyPost_ret (results_cell_row rfl _ _ (W.heap.size + 1) 25 #[.int .i64 6, .string f1, .slice An ln.length cn, .slice Ai li.length ci] (0, 0) _ rfl HR4.out Tryd.underlying25 rfl (by kernel_rfl)) rfl ?_
   exact HGO.out _ _ HE.out
theorem rsorted_ok : ∀ r, RSOK r
 | 0 => by
  intro v A2 A3 c2 c3 W hok hB hC2 hc2 hC3 hc3
  obtain ⟨hn, h5, h6⟩ := hok
  obtain ⟨_, _, e2, e3⟩ := leaf_wt (r := 0) hn h5 h6
  obtain ⟨f0, f1, l2, l3⟩ := v
  simp only at hn h5 h6 e2 e3 hC2 hc2 hC3 hc3 ⊢
  subst e2 e3
  exact sorted_list 0 f0 h6 f1 [] A2 A3 c2 c3 W (by decide) hC3 hc3 (fun y hy => by cases hy) (fun h => by simp at h)
 | r + 1 => by
  have IH := rsorted_ok r
  intro v A2 A3 c2 c3 W hok hB hC2 hc2 hC3 hc3
  obtain ⟨hn, hi, hm⟩ := hok
  obtain ⟨B, hB⟩ := hB
  have hlen : v.f3.length ≤ 10000 ∧ ∀ y, y ∈ v.f3 → Bd B 10000 y := by
   cases hB
   exact ⟨by assumption, by assumption⟩
  by_cases h6 : v.f0 = 6
  ·have hl : v.f2.length = v.f3.length := by rw [h6] at hn; exact node6_len hn
   rw [sJ_6 h6 hl]
   obtain ⟨f0, f1, l2, l3⟩ := v
   simp only at h6 hl hlen hi hC2 hc2 hC3 hc3 ⊢
   subst h6
   exact sorted_obj r f1 l2 l3 A2 A3 c2 c3 W hl hlen.1 hC2 hc2 hC3 hc3 (fun y hy => ⟨hi (.inr rfl) y hy, B, hlen.2 y hy⟩) IH
  ·by_cases h5 : v.f0 = 5
   ·have h2 : v.f2 = [] := by rw [h5] at hn; exact List.length_eq_zero_iff.1 (node5_ hn).2
    rw [sJ_5 h5]
    obtain ⟨f0, f1, l2, l3⟩ := v
    simp only at h5 h2 hlen hi hC2 hc2 hC3 hc3 ⊢
    subst h5 h2
    exact sorted_list r 5 (by decide) f1 l3 A2 A3 c2 c3 W hlen.1 hC3 hc3 (fun y hy => ⟨hi (.inl rfl) y hy, B, hlen.2 y hy⟩) (fun _ => IH)
   ·obtain ⟨_, _, e2, e3⟩ := leaf_wt (r := 0) hn h5 h6
    rw [sJ_x h5 (fun h => h6 h.1)]
    obtain ⟨f0, f1, l2, l3⟩ := v
    simp only at h6 e2 e3 hC2 hc2 hC3 hc3 ⊢
    subst e2 e3
    exact sorted_list r f0 h6 f1 [] A2 A3 c2 c3 W (by decide) hC3 hc3 (fun y hy => by cases hy) (fun h => by simp at h)
end Go.Proofs.YtaalajhmfdcalaaDoor.X
