/- The library's functions that package http calls, and 'all' with each function that it is called with: what each gives as a plain function of bytes, and its contract. -/
import Derived.Test.YtmfkgjnlobiobaaGreatDoorE0
import Derived.Test.YtmfkgjnlobiobaaGreatDoorE1a
import Derived.Test.YtmfkgjnlobiobaaGreatDoorSh
import Derived.Shelf.Strings.SlTrimAscii
import Derived.Lib.IndexMore
namespace Go.Proofs.YtmfkgjnlobiobaaGreatDoor.X
open Go.RowKit Go.Shelf Go.Proofs.YtmfkgjnlobiobaaGreatDoorW.PrintWords Go.Sort
theorem below_grow (w : World) (os : Array Obj) : Below w.heap.size w (grow w os) :=
  ⟨rfl, rfl, rfl, by simp [grow], fun k hk => heap_grow_old w os hk⟩
theorem below_grow_n (w : World) (k : Nat) (os : Array Obj) : Below w.heap.size w (grow (w.drewN k) os) :=
  (below_drewN (Below.refl w.heap.size w) k).trans ((below_grow (w.drewN k) os).mono (below_drewN (Below.refl w.heap.size w) k).size)
def bs (l : List UInt8) : ByteArray := ⟨l.toArray⟩
/-! ### strings.Cut, Trim, Contains, HasPrefix, HasSuffix -/
def strings_Cut.f (a0 a1 : ByteArray) : Option (ByteArray × ByteArray × Bool) :=
  if a0.size < 4294967281 then some (bs (Lib.cut a0.data.toList a1.data.toList).1, bs (Lib.cut a0.data.toList a1.data.toList).2.1, (Lib.cut a0.data.toList a1.data.toList).2.2) else none
theorem strings_Cut.calls (a0 a1 : ByteArray) (r1 r2 : ByteArray) (r3 : Bool) (w : World) (hG : GL w) (h : strings_Cut.f a0 a1 = some (r1, r2, r3)) :
    Calls Tryz.prog 34 #[.string a0, .string a1] w fun e w' => e = .returned (.tuple #[.string r1, .string r2, .bool r3]) ∧ Below w.heap.size w w' := by
  obtain ⟨m, hm⟩ := hG.max
  unfold strings_Cut.f at h
  split at h
  · rename_i hs
    simp only [Option.some.injEq, Prod.mk.injEq] at h
    obtain ⟨rfl, rfl, rfl⟩ := h
    refine (Tryz.strings_Cut a0 a1 m w hs hm).mono ?_
    rintro e w' ⟨rfl, n, rfl⟩
    exact ⟨rfl, below_drewN (Below.refl _ _) n⟩
  · cases h
def strings_Contains.f (a0 a1 : ByteArray) : Option Bool := if a0.size < 4294967281 then some (Lib.contains a0.data.toList a1.data.toList) else none
theorem strings_Contains.calls (a0 a1 : ByteArray) (r : Bool) (w : World) (hG : GL w) (h : strings_Contains.f a0 a1 = some r) :
    Calls Tryz.prog 86 #[.string a0, .string a1] w fun e w' => e = .returned (.bool r) ∧ Below w.heap.size w w' := by
  obtain ⟨m, hm⟩ := hG.max
  unfold strings_Contains.f at h
  split at h
  · rename_i hs
    simp only [Option.some.injEq] at h
    subst h
    refine (Tryz.strings_Contains a0 a1 m w hs hm).mono ?_
    rintro e w' ⟨rfl, rfl⟩
    exact ⟨rfl, Below.refl _ _⟩
  · cases h
def strings_Index.f (a0 a1 : ByteArray) : Option Int := if a0.size < 4294967281 then some (Lib.index a0.data.toList a1.data.toList) else none
theorem strings_Index.calls (a0 a1 : ByteArray) (r : Int) (w : World) (hG : GL w) (h : strings_Index.f a0 a1 = some r) :
    Calls Tryz.prog 84 #[.string a0, .string a1] w fun e w' => e = .returned (.int .i64 r) ∧ w' = w := by
  obtain ⟨m, hm⟩ := hG.max
  unfold strings_Index.f at h
  split at h
  · rename_i hs
    simp only [Option.some.injEq] at h
    subst h
    exact Tryz.strings_Index a0 a1 m w hs hm
  · cases h
def strings_Trim.f (a0 a1 : ByteArray) : Option ByteArray :=
  if a0.size ≤ 9223372036854775807 ∧ a1.size < 4294967281 ∧ a1.data.toList.all (fun b => decide (b.toNat < 128)) = true then some (bs (Lib.trimS a0.data.toList a1.data.toList)) else none
theorem strings_Trim.calls (a0 a1 : ByteArray) (r : ByteArray) (w : World) (h : strings_Trim.f a0 a1 = some r) :
    Calls Tryz.prog 51 #[.string a0, .string a1] w fun e w' => e = .returned (.string r) ∧ Below w.heap.size w w' := by
  unfold strings_Trim.f at h
  split at h
  · rename_i hs
    simp only [Option.some.injEq] at h
    subst h
    exact Any.strings_Trim_laid Tryz.lays160 (by kernel_rfl) a0 a1 w hs.1 hs.2.1 (ascii_of_all hs.2.2)
  · cases h
def strings_HasPrefix.f (a0 a1 : ByteArray) : Option Bool := some (Lib.hasPrefix a0.data.toList a1.data.toList)
theorem strings_HasPrefix.calls (a0 a1 : ByteArray) (r : Bool) (w : World) (h : strings_HasPrefix.f a0 a1 = some r) :
    Calls Tryz.prog 38 #[.string a0, .string a1] w fun e w' => e = .returned (.bool r) ∧ Drawn0 w w' := by
  simp only [strings_HasPrefix.f, Option.some.injEq] at h
  subst h
  refine (Tryz.strings_HasPrefix a0 a1 w).mono ?_
  rintro e w' ⟨rfl, rfl⟩
  exact ⟨rfl, Drawn0.refl _⟩
def strings_HasSuffix.f (a0 a1 : ByteArray) : Option Bool := if a0.size ≤ 9223372036854775807 then some (Lib.hasSuffix a0.data.toList a1.data.toList) else none
theorem strings_HasSuffix.calls (a0 a1 : ByteArray) (r : Bool) (w : World) (h : strings_HasSuffix.f a0 a1 = some r) :
    Calls Tryz.prog 90 #[.string a0, .string a1] w fun e w' => e = .returned (.bool r) ∧ Drawn0 w w' := by
  unfold strings_HasSuffix.f at h
  split at h
  · rename_i hs
    simp only [Option.some.injEq] at h
    subst h
    refine (Tryz.strings_HasSuffix a0 a1 w hs).mono ?_
    rintro e w' ⟨rfl, rfl⟩
    exact ⟨rfl, Drawn0.refl _⟩
  · cases h
/-! ### strconv.Itoa, Atoi -/
def strconv_Itoa.f (a0 : Int) : Option ByteArray := if -9223372036854775808 ≤ a0 ∧ a0 ≤ 9223372036854775807 then some (bs (Lib.itoa a0)) else none
theorem strconv_Itoa.calls (a0 : Int) (r : ByteArray) (w : World) (hG : GL w) (h : strconv_Itoa.f a0 = some r) :
    Calls Tryz.prog 45 #[.int .i64 a0] w fun e w' => e = .returned (.string r) ∧ Below w.heap.size w w' := by
  unfold strconv_Itoa.f at h
  split at h
  · rename_i hs
    simp only [Option.some.injEq] at h
    subst h
    refine (Tryz.strconv_Itoa a0 hs.1 hs.2 w hG.tab).mono ?_
    rintro e w' ⟨rfl, k, os, rfl⟩
    exact ⟨rfl, below_grow_n w k os⟩
  · cases h
def strconv_Atoi.f (a0 : ByteArray) : Option (Int × Option Int) := if a0.size ≤ 9223372036854775806 then (match Lib.atoiAll a0.data.toList with | .ok v => some (v, none) | _ => none) else none
theorem below_bytes (w : World) (e : TypeId) (s : ByteArray) : Below w.heap.size w (Lib.bytesWorld w e s) := bytes_below (Below.refl _ w) (Nat.le_refl _) e s
theorem atoi_calls (a0 : ByteArray) (v : Int) (w : World) (h : strconv_Atoi.f a0 = some (v, none)) :
    Calls Tryz.prog 55 #[.string a0] w fun e w' => e = .returned (.tuple #[.int .i64 v, .nilIface]) ∧ Below w.heap.size w w' := by
  unfold strconv_Atoi.f at h
  split at h
  · rename_i hs
    split at h
    · rename_i v' hv
      simp only [Option.some.injEq, Prod.mk.injEq, and_true] at h
      subst h
      refine (Tryz.strconv_Atoi_ok a0 hs _ hv w).mono ?_
      rintro e w' ⟨rfl, rfl | ⟨t, rfl⟩⟩
      · exact ⟨rfl, Below.refl _ _⟩
      · exact ⟨rfl, below_bytes _ _ _⟩
    · cases h
  · cases h
/-! ### all(s, ok), for each ok -/
def pUp (c : UInt8) : Bool := decide (65 ≤ c.toNat ∧ c.toNat ≤ 90)
theorem C_isMethod_1 (c : UInt8) : C.http_isMethod_1.f (c.toNat : Int) = some (pUp c) := by
  unfold C.http_isMethod_1.f pUp
  repeat' split
  all_goals (simp only [Option.some.injEq]; first | (rw [decide_eq_decide]; omega) | (symm; rw [decide_eq_true_eq]; omega) | (symm; rw [decide_eq_false_iff_not]; omega) | (rw [Bool.eq_iff_iff, beq_iff_eq, decide_eq_true_eq]; omega))
def http_all_isMethod_1.f (a0 : ByteArray) : Option Bool := if a0.size ≤ 9223372036854775807 then some (a0.data.toList.all pUp) else none
theorem http_all_isMethod_1.calls (a0 : ByteArray) (r : Bool) (w : World) (h : http_all_isMethod_1.f a0 = some r) :
    Calls Tryz.prog 53 #[.string a0, .func (.func 58) #[] #[]] w fun e w' => e = .returned (.bool r) ∧ Drawn0 w w' := by
  unfold http_all_isMethod_1.f at h
  split at h
  · rename_i hs
    simp only [Option.some.injEq] at h
    subst h
    exact all_any 58 (enters_of Tryz.func58 (by kernel_rfl) rfl) pUp (fun c W => C.http_isMethod_1.calls _ _ W (C_isMethod_1 c)) a0 hs w
  · cases h
def pVis (c : UInt8) : Bool := decide (33 ≤ c.toNat ∧ c.toNat ≤ 126)
theorem C_visible (c : UInt8) : C.http_visible.f (c.toNat : Int) = some (pVis c) := by
  unfold C.http_visible.f pVis
  repeat' split
  all_goals (simp only [Option.some.injEq]; first | (rw [decide_eq_decide]; omega) | (symm; rw [decide_eq_true_eq]; omega) | (symm; rw [decide_eq_false_iff_not]; omega) | (rw [Bool.eq_iff_iff, beq_iff_eq, decide_eq_true_eq]; omega))
def http_all_visible.f (a0 : ByteArray) : Option Bool := if a0.size ≤ 9223372036854775807 then some (a0.data.toList.all pVis) else none
theorem http_all_visible.calls (a0 : ByteArray) (r : Bool) (w : World) (h : http_all_visible.f a0 = some r) :
    Calls Tryz.prog 53 #[.string a0, .func (.func 36) #[] #[]] w fun e w' => e = .returned (.bool r) ∧ Drawn0 w w' := by
  unfold http_all_visible.f at h
  split at h
  · rename_i hs
    simp only [Option.some.injEq] at h
    subst h
    exact all_any 36 (enters_of Tryz.func36 (by kernel_rfl) rfl) pVis (fun c W => C.http_visible.calls _ _ W (C_visible c)) a0 hs w
  · cases h
def pName (c : UInt8) : Bool := decide ((65 ≤ c.toNat ∧ c.toNat ≤ 90) ∨ (97 ≤ c.toNat ∧ c.toNat ≤ 122) ∨ (48 ≤ c.toNat ∧ c.toNat ≤ 57) ∨ c.toNat = 45)
theorem C_isName_1 (c : UInt8) : C.http_isName_1.f (c.toNat : Int) = some (pName c) := by
  unfold C.http_isName_1.f pName
  repeat' split
  all_goals (simp only [Option.some.injEq]; first | (rw [decide_eq_decide]; omega) | (symm; rw [decide_eq_true_eq]; omega) | (symm; rw [decide_eq_false_iff_not]; omega) | (rw [Bool.eq_iff_iff, beq_iff_eq, decide_eq_true_eq]; omega))
def http_all_isName_1.f (a0 : ByteArray) : Option Bool := if a0.size ≤ 9223372036854775807 then some (a0.data.toList.all pName) else none
theorem http_all_isName_1.calls (a0 : ByteArray) (r : Bool) (w : World) (h : http_all_isName_1.f a0 = some r) :
    Calls Tryz.prog 53 #[.string a0, .func (.func 89) #[] #[]] w fun e w' => e = .returned (.bool r) ∧ Drawn0 w w' := by
  unfold http_all_isName_1.f at h
  split at h
  · rename_i hs
    simp only [Option.some.injEq] at h
    subst h
    exact all_any 89 (enters_of Tryz.func89 (by kernel_rfl) rfl) pName (fun c W => C.http_isName_1.calls _ _ W (C_isName_1 c)) a0 hs w
  · cases h
def pVal (c : UInt8) : Bool := decide (32 ≤ c.toNat ∧ c.toNat ≤ 126)
theorem C_isValue_1 (c : UInt8) : C.http_isValue_1.f (c.toNat : Int) = some (pVal c) := by
  unfold C.http_isValue_1.f pVal
  repeat' split
  all_goals (simp only [Option.some.injEq]; first | (rw [decide_eq_decide]; omega) | (symm; rw [decide_eq_true_eq]; omega) | (symm; rw [decide_eq_false_iff_not]; omega) | (rw [Bool.eq_iff_iff, beq_iff_eq, decide_eq_true_eq]; omega))
def http_all_isValue_1.f (a0 : ByteArray) : Option Bool := if a0.size ≤ 9223372036854775807 then some (a0.data.toList.all pVal) else none
theorem http_all_isValue_1.calls (a0 : ByteArray) (r : Bool) (w : World) (h : http_all_isValue_1.f a0 = some r) :
    Calls Tryz.prog 53 #[.string a0, .func (.func 91) #[] #[]] w fun e w' => e = .returned (.bool r) ∧ Drawn0 w w' := by
  unfold http_all_isValue_1.f at h
  split at h
  · rename_i hs
    simp only [Option.some.injEq] at h
    subst h
    exact all_any 91 (enters_of Tryz.func91 (by kernel_rfl) rfl) pVal (fun c W => C.http_isValue_1.calls _ _ W (C_isValue_1 c)) a0 hs w
  · cases h
def pField (c : UInt8) : Bool := decide ((32 ≤ c.toNat ∧ c.toNat ≤ 126) ∨ c.toNat = 9)
theorem C_parseField_1 (c : UInt8) : C.http_parseField_1.f (c.toNat : Int) = some (pField c) := by
  unfold C.http_parseField_1.f pField
  repeat' split
  all_goals (simp only [Option.some.injEq]; first | (rw [decide_eq_decide]; omega) | (symm; rw [decide_eq_true_eq]; omega) | (symm; rw [decide_eq_false_iff_not]; omega) | (rw [Bool.eq_iff_iff, beq_iff_eq, decide_eq_true_eq]; omega))
def http_all_parseField_1.f (a0 : ByteArray) : Option Bool := if a0.size ≤ 9223372036854775807 then some (a0.data.toList.all pField) else none
theorem http_all_parseField_1.calls (a0 : ByteArray) (r : Bool) (w : World) (h : http_all_parseField_1.f a0 = some r) :
    Calls Tryz.prog 53 #[.string a0, .func (.func 85) #[] #[]] w fun e w' => e = .returned (.bool r) ∧ Drawn0 w w' := by
  unfold http_all_parseField_1.f at h
  split at h
  · rename_i hs
    simp only [Option.some.injEq] at h
    subst h
    exact all_any 85 (enters_of Tryz.func85 (by kernel_rfl) rfl) pField (fun c W => C.http_parseField_1.calls _ _ W (C_parseField_1 c)) a0 hs w
  · cases h
def pDig (c : UInt8) : Bool := decide (48 ≤ c.toNat ∧ c.toNat ≤ 57)
theorem C_ParseResponse_1 (c : UInt8) : C.http_ParseResponse_1.f (c.toNat : Int) = some (pDig c) := by
  unfold C.http_ParseResponse_1.f pDig
  repeat' split
  all_goals (simp only [Option.some.injEq]; first | (rw [decide_eq_decide]; omega) | (symm; rw [decide_eq_true_eq]; omega) | (symm; rw [decide_eq_false_iff_not]; omega) | (rw [Bool.eq_iff_iff, beq_iff_eq, decide_eq_true_eq]; omega))
def http_all_ParseResponse_1.f (a0 : ByteArray) : Option Bool := if a0.size ≤ 9223372036854775807 then some (a0.data.toList.all pDig) else none
theorem http_all_ParseResponse_1.calls (a0 : ByteArray) (r : Bool) (w : World) (h : http_all_ParseResponse_1.f a0 = some r) :
    Calls Tryz.prog 53 #[.string a0, .func (.func 54) #[] #[]] w fun e w' => e = .returned (.bool r) ∧ Drawn0 w w' := by
  unfold http_all_ParseResponse_1.f at h
  split at h
  · rename_i hs
    simp only [Option.some.injEq] at h
    subst h
    exact all_any 54 (enters_of Tryz.func54 (by kernel_rfl) rfl) pDig (fun c W => C.http_ParseResponse_1.calls _ _ W (C_ParseResponse_1 c)) a0 hs w
  · cases h
theorem C_parseHead_1 (c : UInt8) : C.http_parseHead_1.f (c.toNat : Int) = some (pDig c) := by
  unfold C.http_parseHead_1.f pDig
  repeat' split
  all_goals (simp only [Option.some.injEq]; first | (rw [decide_eq_decide]; omega) | (symm; rw [decide_eq_true_eq]; omega) | (symm; rw [decide_eq_false_iff_not]; omega) | (rw [Bool.eq_iff_iff, beq_iff_eq, decide_eq_true_eq]; omega))
def http_all_parseHead_1.f (a0 : ByteArray) : Option Bool := if a0.size ≤ 9223372036854775807 then some (a0.data.toList.all pDig) else none
theorem http_all_parseHead_1.calls (a0 : ByteArray) (r : Bool) (w : World) (h : http_all_parseHead_1.f a0 = some r) :
    Calls Tryz.prog 53 #[.string a0, .func (.func 62) #[] #[]] w fun e w' => e = .returned (.bool r) ∧ Drawn0 w w' := by
  unfold http_all_parseHead_1.f at h
  split at h
  · rename_i hs
    simp only [Option.some.injEq] at h
    subst h
    exact all_any 62 (enters_of Tryz.func62 (by kernel_rfl) rfl) pDig (fun c W => C.http_parseHead_1.calls _ _ W (C_parseHead_1 c)) a0 hs w
  · cases h
end Go.Proofs.YtmfkgjnlobiobaaGreatDoor.X
