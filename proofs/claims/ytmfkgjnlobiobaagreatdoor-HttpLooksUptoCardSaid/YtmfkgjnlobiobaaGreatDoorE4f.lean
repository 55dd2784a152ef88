/- 'parseHead(raw, from)' of package http and strconv.Atoi, as contracts in the printed form. -/
import Derived.Test.YtmfkgjnlobiobaaGreatDoorE4
import Derived.Test.YtmfkgjnlobiobaaGreatDoorX0
namespace Go.Proofs.YtmfkgjnlobiobaaGreatDoor.X
open Go.RowKit Go.Shelf Go.Proofs.YtmfkgjnlobiobaaGreatDoorW.PrintWords
theorem strconv_Atoi.calls (a0 : ByteArray) (r1 : Int) (r2 : Option Int) (w : World) (h : strconv_Atoi.f a0 = some (r1, r2)) :
    Calls Tryz.prog 55 #[.string a0] w fun e w' => e = .returned (.tuple #[.int .i64 r1, errW r2]) ∧ Below w.heap.size w w' := by
  have h2 : r2 = none := by
    unfold strconv_Atoi.f at h
    split at h
    · split at h
      · simp only [Option.some.injEq, Prod.mk.injEq] at h
        exact h.2.symm
      · cases h
    · cases h
  subst h2
  exact atoi_calls a0 r1 w h
def pairOf (f : List UInt8 × List UInt8) : S80 := ⟨bs f.1, bs f.2⟩
def http_parseHead.f (a0 : ByteArray) (a1 : Int) : Option (List S80 × Int × Int × Int × Int) :=
  if a0.size ≤ 32768 ∧ 0 ≤ a1 ∧ a1 ≤ a0.size then
    some ((parseHeadF a0.data.toList a1.toNat).1.map pairOf, (parseHeadF a0.data.toList a1.toNat).2.1, (parseHeadF a0.data.toList a1.toNat).2.2.1, (parseHeadF a0.data.toList a1.toNat).2.2.2.1, (parseHeadF a0.data.toList a1.toNat).2.2.2.2) else none
theorem reps_pairs (w : World) (base : Nat) (ok : Nat → Prop) : ∀ (l : List (List UInt8 × List UInt8)), Reps (k80.M w base ok) 2 (l.map pairOf) (cellsP l)
  | [] => Reps.none _ _
  | f :: r => by
    have h1 : Reps (k80.M w base ok) 2 [pairOf f] [.string (bs f.1), .string (bs f.2)] := by
      refine ⟨rfl, fun j p h => ?_⟩
      match j, h with
      | 0, h =>
        simp only [List.getElem?_cons_zero, Option.some.injEq] at h
        subst h
        exact k80_mkM w base ok (pairOf f)
      | j + 1, h => simp at h
    exact Kd.reps_append h1 (reps_pairs w base ok r)
theorem R_pairs {w : World} {base : Nat} {v : Value} (l : List (List UInt8 × List UInt8)) (h : w.ownsRow base 80 2 v l.length (cellsP l)) : Kd.R k80 80 w base (fun _ => True) v (l.map pairOf) :=
  ⟨fun _ _ => trivial, cellsP l, by rw [List.length_map]; exact h, reps_pairs _ _ _ l⟩
theorem http_parseHead.calls (a0 : ByteArray) (a1 : Int) (r1 : List S80) (r2 r3 r4 r5 : Int) (w : World) (hG : GL w) (h : http_parseHead.f a0 a1 = some (r1, r2, r3, r4, r5)) :
    Calls Tryz.prog 39 #[.string a0, .int .i64 a1] w fun e w' => ∃ v0_ : Value, e = .returned (.tuple #[.agg #[v0_, .int .i64 r2, .int .i64 r3], .int .i64 r4, .int .i64 r5]) ∧ Kd.R k80 80 w' w.heap.size (fun _ => True) v0_ r1 ∧ Below w.heap.size w w' := by
  unfold http_parseHead.f at h
  split at h
  · rename_i hs
    simp only [Option.some.injEq, Prod.mk.injEq] at h
    obtain ⟨rfl, rfl, rfl, rfl, rfl⟩ := h
    obtain ⟨n, rfl⟩ := Int.eq_ofNat_of_zero_le hs.2.1
    refine (parseHead_calls a0 hs.1 n (by omega) w hG).mono ?_
    rintro e w' ⟨v0, rfl, ho, hb⟩
    exact ⟨v0, rfl, R_pairs _ ho, hb⟩
  · cases h
end Go.Proofs.YtmfkgjnlobiobaaGreatDoor.X
