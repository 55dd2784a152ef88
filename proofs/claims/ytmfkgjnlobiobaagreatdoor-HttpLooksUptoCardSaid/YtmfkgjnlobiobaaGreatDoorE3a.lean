/- A strings.Builder of the call's own: what it holds, kept by what leaves older memory alone, and its writing, length and text. -/
import Derived.Test.YtmfkgjnlobiobaaGreatDoorE2
import Derived.Test.YtmfkgjnlobiobaaGreatDoorSb
import Derived.Lib.OthersKept
namespace Go.Proofs.YtmfkgjnlobiobaaGreatDoor.X
open Go.RowKit Go.Shelf Go.Proofs.YtmfkgjnlobiobaaGreatDoorW.PrintWords
structure Bld (w wr : World) (acc : List UInt8) : Prop where
  is : Lib.IsBuilderF 102 5 w.heap.size w.heap.size (Lib.byteCells acc) wr
  below : Below w.heap.size w wr
theorem Bld.start (w : World) : Bld w (w.alloc (.cells #[.pointer none, .slice none 0 0] 102)) [] :=
  ⟨Lib.IsBuilderF.of (Lib.fresh_isBuilder _ _ w), (Below.refl _ w).alloc (Nat.le_refl _) _⟩
theorem builder_keep {T e : TypeId} {B b : Nat} {p : Value} {cs : List Value} {w w1 : World} (h : Lib.BuilderAtF T e B b p cs w) (hb : Below w.heap.size w w1) : Lib.BuilderAtF T e B b p cs w1 := by
  have hlt := h.lt
  obtain ⟨hB, v, hc, hown, hne⟩ := h
  exact ⟨hB, v, (hb.block b hlt).trans hc, hown.kept (grown_of_below hb none) (by cases v.ownBlock <;> simp), hne⟩
theorem Bld.keep {w wr w1 : World} {acc : List UInt8} (h : Bld w wr acc) (hb : Below wr.heap.size wr w1) : Bld w w1 acc :=
  ⟨h.is.imp (fun x => builder_keep x hb) (fun x => builder_keep x hb), h.below.trans (hb.mono h.below.size)⟩
theorem Bld.alloc {w wr : World} {acc : List UInt8} (h : Bld w wr acc) (o : Obj) : Bld w (wr.alloc o) acc := h.keep ((Below.refl _ _).alloc (Nat.le_refl _) o)
theorem Bld.drew {w wr : World} {acc : List UInt8} (h : Bld w wr acc) : Bld w wr.drew acc := h.keep (Below.refl _ _).drew
theorem Bld.lt {w wr : World} {acc : List UInt8} (h : Bld w wr acc) : w.heap.size < wr.heap.size := by
  rcases h.is with h | h
  · exact h.lt
  · exact h.lt
theorem write_calls {w wr : World} {acc : List UInt8} (h : Bld w wr acc) (s : ByteArray) (hl : acc.length + s.size ≤ 140737488355328) :
    Calls Tryz.prog 64 #[.pointer (some ⟨w.heap.size, 0, none⟩), .string s] wr fun e w' => e = .returned (.tuple #[.int .i64 s.size, .nilIface]) ∧ Bld w w' (acc ++ s.data.toList) ∧ Lib.OthersKept 5 (some w.heap.size) wr w' := by
  refine (Tryz.Builder_WriteString_k _ _ _ s wr h.is (by rw [Lib.byteCells_length]; exact hl) h.below.size).mono ?_
  rintro e w' ⟨rfl, hb, hB, ho⟩
  refine ⟨rfl, ⟨.inr ?_, h.below.trans hB⟩, ho⟩
  have he : Lib.byteCells acc ++ Lib.strCells s = Lib.byteCells (acc ++ s.data.toList) := by simp [Lib.byteCells, Lib.strCells]
  rw [← he]
  exact hb
theorem len_calls {w wr : World} {acc : List UInt8} (h : Bld w wr acc) :
    Calls Tryz.prog 67 #[.pointer (some ⟨w.heap.size, 0, none⟩)] wr fun e w' => e = .returned (.int .i64 acc.length) ∧ w' = wr := by
  refine (Tryz.Builder_Len_f _ _ _ wr h.is).mono ?_
  rintro e w' ⟨rfl, rfl⟩
  exact ⟨by rw [Lib.byteCells_length], rfl⟩
theorem string_calls {w wr : World} {acc : List UInt8} (h : Bld w wr acc) :
    Calls Tryz.prog 68 #[.pointer (some ⟨w.heap.size, 0, none⟩)] wr fun e w' => e = .returned (.string (bs acc)) ∧ Below w.heap.size w w' := by
  refine (Tryz.Builder_String_any_f _ _ acc wr h.is h.below.size).mono ?_
  rintro e w' ⟨rfl, _, hB⟩
  exact ⟨rfl, h.below.trans hB⟩
/-- A block of the call's own of another type stays as it is while the builder is written. -/
theorem others_blk {w wr w1 : World} {b : Nat} {cs : Array Value} {t : TypeId} {fz : Nat × Nat} (h : Lib.OthersKept 5 (some w.heap.size) wr w1) (hb : wr.heap[b]? = some (.cells cs t fz)) (hne : b ≠ w.heap.size) (ht : t ≠ 5) : w1.heap[b]? = some (.cells cs t fz) :=
  h b _ hb (by simpa using hne) (fun c fz' e => by injection e with _ e; exact ht e)
end Go.Proofs.YtmfkgjnlobiobaaGreatDoor.X
