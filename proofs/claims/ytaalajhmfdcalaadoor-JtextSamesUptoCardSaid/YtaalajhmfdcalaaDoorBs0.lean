/- The texts of this work, put together: K60, K35, K36, K37, K61, K62, K63, M1, M2, N60, K64, K38, K39, K41, So, K42, K43, K45, K44, M6. -/
import Derived.Test.YtaalajhmfdcalaaDoorBp0
import Derived.Test.YtaalajhmfdcalaaDoorBp1
import Derived.Lib.ValidLaws
import Derived.Shelf.GgSortFunc.Whole
import Derived.Shelf.GgSortFunc.Tiny
import Derived.Test.YtaalajhmfdcalaaDoorProg
import Derived.Test.YtaalajhmfdcalaaDoorWb
import Derived.Test.YtaalajhmfdcalaaDoorWc
set_option linter.unusedVariables false
set_option linter.unusedSimpArgs false
namespace Go.Proofs.YtaalajhmfdcalaaDoor.X
open Go.RowKit Go.Lib Go.Proofs.YtaalajhmfdcalaaDoorW.PrintWords Go.Proofs.YtaalajhmfdcalaaDoorW.PrintLast Go.Proofs.YtaalajhmfdcalaaDoorW.PrintMore
theorem k25_mk (w : World) (x : S25) {A2 : Option Addr} {c2 : Nat} (l2 : x.f2.length ≤ c2) (g2 : Kd.string.C w A2 x.f2.length x.f2) {A3 : Option Addr} {c3 : Nat} (l3 : x.f3.length ≤ c3) (g3 : k25.C w A3 x.f3.length x.f3) : k25.K w x [.int .i64 x.f0, .string x.f1, .slice A2 x.f2.length c2, .slice A3 x.f3.length c3] := by
 obtain ⟨n3, q3⟩ := Kd.fix_C_back mono25 g3
 have r3 := Kd.upto_C_le mono25 sz25 (show n3 ≤ n3 by omega) q3
 exact ⟨n3 + 1, ⟨[.int .i64 x.f0], [.string x.f1, .slice A2 x.f2.length c2, .slice A3 x.f3.length c3], rfl, rfl, ⟨[.string x.f1], [.slice A2 x.f2.length c2, .slice A3 x.f3.length c3], rfl, rfl, ⟨[.slice A2 x.f2.length c2], [.slice A3 x.f3.length c3], rfl, ⟨A2, c2, rfl, l2, g2⟩, ⟨A3, c3, rfl, l3, r3⟩⟩⟩⟩⟩
theorem putsF_cons (free : Bool) (st : St) (a : List UInt8) (l : List (List UInt8)) : putsF free st (a :: l) = putsF free (putF free st a) l := rfl
def stepZ (s c : Int) : Int :=
 if s = 0 ∧ c = 45 then 1 else if s ≤ 1 ∧ c = 48 then 2 else if (s ≤ 1 ∧ 48 ≤ c ∧ c ≤ 57) ∨ (s = 3 ∧ 48 ≤ c ∧ c ≤ 57) then 3
 else if (s = 2 ∨ s = 3) ∧ c = 46 then 4 else if (s = 4 ∨ s = 5) ∧ 48 ≤ c ∧ c ≤ 57 then 5 else if (s = 2 ∨ s = 3 ∨ s = 5) ∧ (c = 101 ∨ c = 69) then 6
 else if s = 6 ∧ (c = 43 ∨ c = 45) then 7 else if 6 ≤ s ∧ 48 ≤ c ∧ c ≤ 57 then 8 else -1
set_option maxRecDepth 1000000 in
set_option maxHeartbeats 4000000 in
theorem step_calls (s c : Int) (w : World) (hs : s = 0 ∨ s = 1 ∨ s = 2 ∨ s = 3 ∨ s = 4 ∨ s = 5 ∨ s = 6 ∨ s = 7 ∨ s = 8)
  (hc : c = 43 ∨ c = 45 ∨ c = 46 ∨ c = 48 ∨ c = 69 ∨ c = 101 ∨ (48 < c ∧ c ≤ 57) ∨ (c < 48 ∧ c ≠ 43 ∧ c ≠ 45 ∧ c ≠ 46) ∨ (57 < c ∧ c ≠ 69 ∧ c ≠ 101)) :
  Calls Tryd.prog 71 #[.int .i64 s, .int .u8 c] w fun e w' => e = .returned (.int .i64 (stepZ s c)) ∧ w' = w := by
 rcases hs with rfl | rfl | rfl | rfl | rfl | rfl | rfl | rfl | rfl <;>
 (rcases hc with rfl | rfl | rfl | rfl | rfl | rfl | ⟨h1, h2⟩ | ⟨h1, h2, h3, h4⟩ | ⟨h1, h2, h3⟩)
 all_goals (
  try have b43 : (c == 43) = false := beq_eq_false_iff_ne.mpr (by omega)
  try have b45 : (c == 45) = false := beq_eq_false_iff_ne.mpr (by omega)
  try have b46 : (c == 46) = false := beq_eq_false_iff_ne.mpr (by omega)
  try have b48 : (c == 48) = false := beq_eq_false_iff_ne.mpr (by omega)
  try have b69 : (c == 69) = false := beq_eq_false_iff_ne.mpr (by omega)
  try have b101 : (c == 101) = false := beq_eq_false_iff_ne.mpr (by omega)
  try have d1 : decide (48 ≤ c) = true := decide_eq_true (by omega)
  try have d2 : decide (48 ≤ c) = false := decide_eq_false (by omega)
  try have d3 : decide (c ≤ 57) = true := decide_eq_true (by omega)
  try have d4 : decide (c ≤ 57) = false := decide_eq_false (by omega)
  go_enter Tryd.func71, Tryd.ntmps71
  go_wp2
  go_ret
  first
  | exact ⟨rfl, rfl⟩
  | (refine ⟨?_, rfl⟩; unfold stepZ; (repeat' split) <;> first | rfl | (exfalso; omega)))
end Go.Proofs.YtaalajhmfdcalaaDoor.X
namespace Go.Proofs.YtaalajhmfdcalaaDoor.X
open Go.RowKit Go.Lib Go.Proofs.YtaalajhmfdcalaaDoorW.PrintWords Go.Proofs.YtaalajhmfdcalaaDoorW.PrintLast Go.Proofs.YtaalajhmfdcalaaDoorW.PrintMore
def insF (x : ByteArray × J) : List (ByteArray × J) → List (ByteArray × J)
 | [] => [x]
 | y :: l => if Op.bytesLess y.1.toList x.1.toList = true then y :: insF x l else x :: y :: l
def sortF (l : List (ByteArray × J)) : List (ByteArray × J) := l.foldl (fun a x => insF x a) []
def itemsW (free : Bool) (one : J → St → St) : Nat → List J → St → St
 | _, [], st => st
 | i, y :: l, st => itemsW free one (i + 1) l (one y (if i = 0 then st else putF free st [44]))
def membersW (free : Bool) (one : J → St → St) : List ByteArray → Nat → List ByteArray → List J → St → St
 | seen, i, nm :: ns, y :: ys, st =>
  let st1 := if i = 0 then st else putF free st [44]
  if st1.e ≠ 0 then st1
  else if validD nm.data.toList = false then failF st1 47
  else if nm.data.toList ∈ seen.map (fun b => b.data.toList) then failF st1 45
  else membersW free one (seen ++ [nm]) (i + 1) ns ys (one y (putF free (putsF free st1 (quoteB nm)) [58]))
 | _, _, _, _, st => st
def namesOf (canon : Bool) (ns : List ByteArray) (ys : List J) : List ByteArray := if canon then (sortF (ns.zip ys)).map Prod.fst else ns
def itemsOf (canon : Bool) (ns : List ByteArray) (ys : List J) : List J := if canon then (sortF (ns.zip ys)).map Prod.snd else ys
def valW (free canon : Bool) : Nat → J → St → St
 | 0, v, st =>
  if st.e ≠ 0 then st
  else if v.f0 = 5 ∨ v.f0 = 6 then ⟨st.out, 46⟩
  else if nodeOK v.f0 v.f1 v.f2.length v.f3.length = false then ⟨st.out, 47⟩
  else if v.f0 = 3 then putF free st v.f1.data.toList
  else if v.f0 = 4 then putsF free st (quoteB v.f1)
  else putF free st (wordB v.f0.toNat).data.toList
 | r + 1, v, st =>
  if st.e ≠ 0 then st
  else if nodeOK v.f0 v.f1 v.f2.length v.f3.length = false then ⟨st.out, 47⟩
  else if v.f0 = 5 then putF free (itemsW free (valW free canon r) 0 v.f3 (putF free st [91])) [93]
  else if v.f0 = 6 then putF free (membersW free (valW free canon r) [] 0 (namesOf canon v.f2 v.f3) (itemsOf canon v.f2 v.f3) (putF free st [123])) [125]
  else if v.f0 = 3 then putF free st v.f1.data.toList
  else if v.f0 = 4 then putsF free st (quoteB v.f1)
  else putF free st (wordB v.f0.toNat).data.toList
def wtJ : Nat → J → Nat
 | 0, v => 12 * v.f1.size + 16
 | r + 1, v => 12 * v.f1.size + 16 + (v.f2.map (fun s => 12 * s.size + 16)).sum + (v.f3.map (fun y => wtJ r y + 1)).sum
def SmJ : Nat → J → Prop
 | 0, v => v.f1.size ≤ 288230376151711743
 | r + 1, v => v.f1.size ≤ 288230376151711743 ∧ (∀ s, s ∈ v.f2 → s.size ≤ 288230376151711743) ∧ ∀ y, y ∈ v.f3 → SmJ r y
def LnJ : Nat → J → Prop
 | 0, _ => True
 | r + 1, v => v.f3.length ≤ 1000000 ∧ ∀ y, y ∈ v.f3 → LnJ r y
theorem SmJ.text {r : Nat} {v : J} (h : SmJ r v) : v.f1.size ≤ 288230376151711743 := by
 cases r with
 | zero => exact h
 | succ r => exact h.1
theorem wtJ_text (r : Nat) (v : J) : 12 * v.f1.size + 16 ≤ wtJ r v := by
 cases r with
 | zero => exact Nat.le_refl _
 | succ r => unfold wtJ; omega
structure Fit (free : Bool) (st : St) (n : Nat) : Prop where
 fre : free = true → st.out.length + n ≤ 140737488355328
 bnd : free = false → st.out.length ≤ 16384
theorem Fit.room {free : Bool} {st : St} {n m : Nat} (h : Fit free st n) (hm : m ≤ n) (hb : m ≤ 4611686018427371520) : Room free st m := by
 refine ⟨?_, fun hf => by have := h.fre hf; omega, h.bnd⟩
 cases free with
 | true => have := h.fre rfl; omega
 | false => have := h.bnd rfl; omega
theorem Fit.less {free : Bool} {st : St} {n m : Nat} (h : Fit free st n) (hm : m ≤ n) : Fit free st m := ⟨fun hf => by have := h.fre hf; omega, h.bnd⟩
theorem Fit.put {free : Bool} {st : St} {n m : Nat} (s : List UInt8) (h : Fit free st m) (hm : s.length + n ≤ m) : Fit free (putF free st s) n := by
 have h1 := putF_len free st s
 refine ⟨fun hf => by have := h.fre hf; omega, fun hf => ?_⟩
 have h2 := h.bnd hf
 unfold putF
 repeat' split
 ·exact h2
 ·exact h2
 ·rename_i h3 h4
  show (st.out ++ s).length ≤ _
  rw [List.length_append]
  have : ¬ 16384 < st.out.length + s.length := fun hh => h4 ⟨hf, hh⟩
  omega
def lensL (l : List (List UInt8)) : Nat := (l.map List.length).sum
theorem Fit.puts {free : Bool} {n : Nat} : ∀ (l : List (List UInt8)) {st : St} {m : Nat}, Fit free st m → lensL l + n ≤ m → Fit free (putsF free st l) n
 | [], st, m, h, hm => h.less (by omega)
 | a :: l, st, m, h, hm => Fit.puts l (h.put (n := lensL l + n) a (by simp only [lensL, List.map_cons, List.sum_cons] at hm ⊢; omega)) (Nat.le_refl _)
theorem runeB_lens (c : Nat) : lensL (runeB c) ≤ 12 := by
 unfold runeB
 repeat' split
 all_goals simp [lensL, unitB]
theorem quoteL_lens (s : ByteArray) : ∀ (k pos : Nat), lensL (quoteL s k pos) ≤ 12 * (s.size - pos)
 | 0, pos => by simp [quoteL, lensL]
 | k + 1, pos => by
  by_cases h : pos < s.size
  ·rw [quoteL_on s k pos h]
   have h1 := runeB_lens (Utf8.decode s pos).1
   have h2 := quoteL_lens s k (pos + (Utf8.decode s pos).2)
   have h3 := (dec_small s pos).2
   have e : lensL (runeB (Utf8.decode s pos).1 ++ quoteL s k (pos + (Utf8.decode s pos).2)) = lensL (runeB (Utf8.decode s pos).1) + lensL (quoteL s k (pos + (Utf8.decode s pos).2)) := by simp [lensL]
   omega
  ·rw [quoteL_end s (k + 1) pos h]
   simp [lensL]
theorem quoteB_lens (s : ByteArray) : lensL (quoteB s) ≤ 12 * s.size + 2 := by
 have h := quoteL_lens s (s.size + 1) 0
 have e : lensL (quoteB s) = 1 + (lensL (quoteL s (s.size + 1) 0) + 1) := by simp [lensL, quoteB]
 omega
theorem Fit.quote {free : Bool} {st : St} {n m : Nat} (s : ByteArray) (h : Fit free st m) (hm : 12 * s.size + 2 + n ≤ m) : Fit free (putsF free st (quoteB s)) n :=
 h.puts (quoteB s) (by have := quoteB_lens s; omega)
theorem Fit.failF {free : Bool} {st : St} {n : Nat} (e : Nat) (h : Fit free st n) : Fit free (failF st e) n := by
 unfold X.failF
 split
 ·exact ⟨h.fre, h.bnd⟩
 ·exact h
theorem Fit.err {free : Bool} {st : St} {n : Nat} (e : Nat) (h : Fit free st n) : Fit free ⟨st.out, e⟩ n := ⟨h.fre, h.bnd⟩
def Sm (canon : Bool) (a b : St) : Prop := a = b ∨ (canon = true ∧ a.e ≠ 0 ∧ b.e ≠ 0)
theorem Sm.refl (canon : Bool) (a : St) : Sm canon a a := .inl rfl
theorem Sm.trans {canon : Bool} {a b c : St} (h : Sm canon a b) (h' : Sm canon b c) : Sm canon a c := by
 rcases h with rfl | ⟨h1, h2, h3⟩
 ·exact h'
 ·rcases h' with rfl | ⟨_, h5, h6⟩
  ·exact .inr ⟨h1, h2, h3⟩
  ·exact .inr ⟨h1, h2, h6⟩
theorem Sm.eq {a b : St} (h : Sm false a b) : a = b := by
 rcases h with h | ⟨h, _⟩
 ·exact h
 ·cases h
theorem putF_bad (free : Bool) (st : St) (s : List UInt8) (h : st.e ≠ 0) : putF free st s = st := by unfold putF; rw [if_pos h]
theorem failF_e (st : St) (e : Nat) (h : e ≠ 0) : (failF st e).e ≠ 0 := by
 unfold failF
 split
 ·exact h
 ·rename_i h1; exact h1
theorem valW_bad (free canon : Bool) (r : Nat) (v : J) (st : St) (h : st.e ≠ 0) : valW free canon r v st = st := by
 cases r with
 | zero => unfold valW; rw [if_pos h]
 | succ r => unfold valW; rw [if_pos h]
def Quits (one : J → St → St) : Prop := ∀ y st, st.e ≠ 0 → one y st = st
theorem comma_bad (free : Bool) (i : Nat) (st : St) (h : st.e ≠ 0) : (if i = 0 then st else putF free st [44]) = st := by
 split
 ·rfl
 ·exact putF_bad _ _ _ h
theorem itemsW_bad (free : Bool) {one : J → St → St} (ho : Quits one) : ∀ (l : List J) (i : Nat) (st : St), st.e ≠ 0 → itemsW free one i l st = st
 | [], i, st, h => rfl
 | y :: l, i, st, h => by unfold itemsW; rw [comma_bad free i st h, ho y st h]; exact itemsW_bad free ho l (i + 1) st h
theorem membersW_bad (free : Bool) {one : J → St → St} (seen : List ByteArray) (i : Nat) (ns : List ByteArray) (ys : List J) (st : St) (h : st.e ≠ 0) : membersW free one seen i ns ys st = st := by
 cases ns with
 | nil => unfold membersW; rfl
 | cons nm ns =>
  cases ys with
  | nil => unfold membersW; rfl
  | cons y ys => unfold membersW; rw [comma_bad free i st h]; simp only [if_pos h]
theorem Sm.put {canon : Bool} {a b : St} (free : Bool) (s : List UInt8) (h : Sm canon a b) : Sm canon (putF free a s) (putF free b s) := by
 rcases h with rfl | ⟨h1, h2, h3⟩
 ·exact .inl rfl
 ·rw [putF_bad _ _ _ h2, putF_bad _ _ _ h3]; exact .inr ⟨h1, h2, h3⟩
theorem Sm.items {canon : Bool} {a b : St} (free : Bool) {one : J → St → St} (ho : Quits one) (i : Nat) (l : List J) (h : Sm canon a b) : Sm canon (itemsW free one i l a) (itemsW free one i l b) := by
 rcases h with rfl | ⟨h1, h2, h3⟩
 ·exact .inl rfl
 ·rw [itemsW_bad free ho _ _ _ h2, itemsW_bad free ho _ _ _ h3]; exact .inr ⟨h1, h2, h3⟩
theorem Sm.members {canon : Bool} {a b : St} (free : Bool) {one : J → St → St} (seen : List ByteArray) (i : Nat) (ns : List ByteArray) (ys : List J) (h : Sm canon a b) : Sm canon (membersW free one seen i ns ys a) (membersW free one seen i ns ys b) := by
 rcases h with rfl | ⟨h1, h2, h3⟩
 ·exact .inl rfl
 ·rw [membersW_bad _ _ _ _ _ _ h2, membersW_bad _ _ _ _ _ _ h3]; exact .inr ⟨h1, h2, h3⟩
theorem membersW_twice (free : Bool) {one : J → St → St} (ho : Quits one) : ∀ (ns : List ByteArray) (ys : List J) (seen : List ByteArray) (i : Nat) (st : St), ns.length = ys.length → seen.Nodup → ¬ (seen ++ ns).Nodup → (membersW free one seen i ns ys st).e ≠ 0
 | [], ys, seen, i, st, hl, hs, hn => by rw [List.append_nil] at hn; exact absurd hs hn
 | nm :: ns, [], seen, i, st, hl, hs, hn => by simp at hl
 | nm :: ns, y :: ys, seen, i, st, hl, hs, hn => by
  unfold membersW
  by_cases h1 : (if i = 0 then st else putF free st [44]).e ≠ 0
  ·simp only [if_pos h1]; exact h1
  ·simp only [if_neg h1]
   by_cases h2 : validD nm.data.toList = false
   ·rw [if_pos h2]; exact failF_e _ _ (by decide)
   ·rw [if_neg h2]
    by_cases h3 : nm.data.toList ∈ seen.map (fun b => b.data.toList)
    ·rw [if_pos h3]; exact failF_e _ _ (by decide)
    ·rw [if_neg h3]
     have hnm : nm ∉ seen := fun hh => h3 (List.mem_map.2 ⟨nm, hh, rfl⟩)
     refine membersW_twice free ho ns ys (seen ++ [nm]) (i + 1) _ (by simpa using hl) ?_ ?_
     ·rw [List.nodup_append]
      exact ⟨hs, by simp, fun a ha b hb => by rw [List.mem_singleton.1 hb]; rintro rfl; exact hnm ha⟩
     ·rw [List.append_assoc]; exact hn
end Go.Proofs.YtaalajhmfdcalaaDoor.X
namespace Go.Proofs.YtaalajhmfdcalaaDoor.X
open Go.RowKit Go.Lib Go.Proofs.YtaalajhmfdcalaaDoorW.PrintWords Go.Proofs.YtaalajhmfdcalaaDoorW.PrintLast Go.Proofs.YtaalajhmfdcalaaDoorW.PrintMore
def Gl (Wd : Nat) (W : World) : Prop := ∀ W', Below Wd W W' → GLw W' ∧ Tabs W'
theorem Gl.on {Wd : Nat} {sl sl' : Value} {W W' : World} (h : Gl Wd W) (ho : WrOn Wd sl sl' W W') : Gl Wd W' := fun W2 h2 => h W2 (ho.low.trans h2)
theorem Gl.below {Wd : Nat} {W W' : World} (h : Gl Wd W) (hb : Below W.heap.size W W') (hW : Wd ≤ W.heap.size) : Gl Wd W' := fun W2 h2 => h W2 ((hb.mono hW).trans h2)
theorem Gl.words {Wd : Nat} {W : World} (h : Gl Wd W) : GLw W := (h W (Below.refl _ _)).1
theorem Gl.tabs {Wd : Nat} {W : World} (h : Gl Wd W) : Tabs W := (h W (Below.refl _ _)).2
def okW (Wd : Nat) (sl : Value) (k : Nat) : Prop := k ≠ Wd ∧ some k ≠ sl.ownBlock
theorem F_on {α : Type} {d : Kd α} {Wd n : Nat} {sl sl' : Value} {W W' : World} {A : Option Addr} {xs : List α} (h : Kd.F d W (okW Wd sl) A n xs) (ho : WrOn Wd sl sl' W W') : Kd.F d W' (okW Wd sl') A n xs :=
 Kd.F_mono (Kd.F_step (Kd.F_bound h) (fun k hk hlt => ho.kept k hlt hk.1.1 hk.1.2)) (fun k hk => ⟨hk.1.1, ho.ne hk.2 hk.1.2⟩)
def VEnds (Wd : Nat) (free canon : Bool) (st : St) (sl : Value) (W : World) (wt : Nat) (tg : St) (x : Ending) (W' : World) : Prop :=
 x = .returned (.tuple #[]) ∧ ∃ st' sl', Sm canon st' tg ∧ (∀ n, Fit free st (wt + n) → Fit free st' n) ∧ Wr Wd free st' sl' W' ∧ WrOn Wd sl sl' W W'
theorem VEnds.of {Wd : Nat} {free canon : Bool} {st st' tg : St} {sl sl' : Value} {W w0 w1 : World} {wt : Nat} (hb : Below W.heap.size W w0) (hW : Wd ≤ W.heap.size) (ho : WrOn Wd sl sl' w0 w1) (hw : Wr Wd free st' sl' w1) (hs : Sm canon st' tg) (hf : ∀ n, Fit free st (wt + n) → Fit free st' n) :
  VEnds Wd free canon st sl W wt tg (.returned (.tuple #[])) w1 :=
 ⟨rfl, st', sl', hs, hf, hw, (WrOn.of_below hW hb).trans ho⟩
theorem node_no (f0 : Int) (f1 : ByteArray) (A2 A3 : Option Addr) (n2 c2 n3 c3 : Nat) (W : World) (hz : f1.size ≤ 9223372036854775806) (hG : GLw W) (hT : Tabs W) (hok : nodeOK f0 f1 n2 n3 = false) :
  Calls Tryd.prog 51 #[jVal f0 f1 A2 A3 n2 c2 n3 c3] W fun x W' => (∃ nv, x = .returned (.tuple #[nv, .bool false])) ∧ Below W.heap.size W W' := by
 by_cases h0 : f0 = 0
 ·subst h0; refine (node0 f1 A2 A3 n2 c2 n3 c3 W hG).mono ?_; rintro e w' ⟨rfl, hb⟩; rw [hok]; exact ⟨⟨_, rfl⟩, hb⟩
 by_cases h1 : f0 = 1
 ·subst h1; refine (node1 f1 A2 A3 n2 c2 n3 c3 W hG).mono ?_; rintro e w' ⟨rfl, hb⟩; rw [hok]; exact ⟨⟨_, rfl⟩, hb⟩
 by_cases h2 : f0 = 2
 ·subst h2; refine (node2 f1 A2 A3 n2 c2 n3 c3 W hG).mono ?_; rintro e w' ⟨rfl, hb⟩; rw [hok]; exact ⟨⟨_, rfl⟩, hb⟩
 by_cases h3 : f0 = 3
 ·subst h3; refine (node3 f1 A2 A3 n2 c2 n3 c3 W hz).mono ?_; rintro e w' ⟨rfl, hb⟩; rw [hok]; exact ⟨⟨_, rfl⟩, hb⟩
 by_cases h4 : f0 = 4
 ·subst h4; refine (node4 f1 A2 A3 n2 c2 n3 c3 W hz hT).mono ?_; rintro e w' ⟨rfl, hb⟩; rw [hok]; exact ⟨⟨_, rfl⟩, hb⟩
 by_cases h5 : f0 = 5
 ·subst h5; refine (node5 f1 A2 A3 n2 c2 n3 c3 W).mono ?_; rintro e w' ⟨rfl, hb⟩; rw [hok]; exact ⟨⟨_, rfl⟩, hb⟩
 by_cases h6 : f0 = 6
 ·subst h6; refine (node6 f1 A2 A3 n2 c2 n3 c3 W).mono ?_; rintro e w' ⟨rfl, hb⟩; rw [hok]; exact ⟨⟨_, rfl⟩, hb⟩
 refine (nodeX f0 h0 h1 h2 h3 h4 h5 h6 f1 A2 A3 n2 c2 n3 c3 W).mono ?_; rintro e w' ⟨rfl, hb⟩; rw [hok]; exact ⟨⟨_, rfl⟩, hb⟩
theorem node_yes0 (f1 : ByteArray) (A2 A3 : Option Addr) (n2 c2 n3 c3 : Nat) (W : World) (hG : GLw W) (hok : nodeOK 0 f1 n2 n3 = true) :
  Calls Tryd.prog 51 #[jVal 0 f1 A2 A3 n2 c2 n3 c3] W fun x W' => x = .returned (.tuple #[.iface 78 (.agg #[.string (wordB 0)]), .bool true]) ∧ Below W.heap.size W W' := by
 refine (node0 f1 A2 A3 n2 c2 n3 c3 W hG).mono ?_
 rintro e w' ⟨rfl, hb⟩
 rw [hok]
 exact ⟨rfl, hb⟩
theorem node_yes1 (f1 : ByteArray) (A2 A3 : Option Addr) (n2 c2 n3 c3 : Nat) (W : World) (hG : GLw W) (hok : nodeOK 1 f1 n2 n3 = true) :
  Calls Tryd.prog 51 #[jVal 1 f1 A2 A3 n2 c2 n3 c3] W fun x W' => x = .returned (.tuple #[.iface 78 (.agg #[.string (wordB 1)]), .bool true]) ∧ Below W.heap.size W W' := by
 refine (node1 f1 A2 A3 n2 c2 n3 c3 W hG).mono ?_
 rintro e w' ⟨rfl, hb⟩
 rw [hok]
 exact ⟨rfl, hb⟩
theorem node_yes2 (f1 : ByteArray) (A2 A3 : Option Addr) (n2 c2 n3 c3 : Nat) (W : World) (hG : GLw W) (hok : nodeOK 2 f1 n2 n3 = true) :
  Calls Tryd.prog 51 #[jVal 2 f1 A2 A3 n2 c2 n3 c3] W fun x W' => x = .returned (.tuple #[.iface 78 (.agg #[.string (wordB 2)]), .bool true]) ∧ Below W.heap.size W W' := by
 refine (node2 f1 A2 A3 n2 c2 n3 c3 W hG).mono ?_
 rintro e w' ⟨rfl, hb⟩
 rw [hok]
 exact ⟨rfl, hb⟩
theorem node_yes3 (f1 : ByteArray) (A2 A3 : Option Addr) (n2 c2 n3 c3 : Nat) (W : World) (hz : f1.size ≤ 9223372036854775806) (hok : nodeOK 3 f1 n2 n3 = true) :
  Calls Tryd.prog 51 #[jVal 3 f1 A2 A3 n2 c2 n3 c3] W fun x W' => x = .returned (.tuple #[.iface 78 (.agg #[.string f1]), .bool true]) ∧ Below W.heap.size W W' := by
 refine (node3 f1 A2 A3 n2 c2 n3 c3 W hz).mono ?_
 rintro e w' ⟨rfl, hb⟩
 rw [hok]
 exact ⟨rfl, hb⟩
theorem node_yes4 (f1 : ByteArray) (A2 A3 : Option Addr) (n2 c2 n3 c3 : Nat) (W : World) (hz : f1.size ≤ 9223372036854775806) (hT : Tabs W) (hok : nodeOK 4 f1 n2 n3 = true) :
  Calls Tryd.prog 51 #[jVal 4 f1 A2 A3 n2 c2 n3 c3] W fun x W' => x = .returned (.tuple #[.iface 80 (.agg #[.string f1]), .bool true]) ∧ Below W.heap.size W W' := by
 refine (node4 f1 A2 A3 n2 c2 n3 c3 W hz hT).mono ?_
 rintro e w' ⟨rfl, hb⟩
 rw [hok]
 exact ⟨rfl, hb⟩
theorem node_yes5 (f1 : ByteArray) (A2 A3 : Option Addr) (n2 c2 n3 c3 : Nat) (W : World) (hok : nodeOK 5 f1 n2 n3 = true) :
  Calls Tryd.prog 51 #[jVal 5 f1 A2 A3 n2 c2 n3 c3] W fun x W' => x = .returned (.tuple #[.iface 82 (.agg #[.slice A3 n3 c3]), .bool true]) ∧ Below W.heap.size W W' := by
 refine (node5 f1 A2 A3 n2 c2 n3 c3 W).mono ?_
 rintro e w' ⟨rfl, hb⟩
 rw [hok]
 exact ⟨rfl, hb⟩
theorem node_yes6 (f1 : ByteArray) (A2 A3 : Option Addr) (n2 c2 n3 c3 : Nat) (W : World) (hok : nodeOK 6 f1 n2 n3 = true) :
  Calls Tryd.prog 51 #[jVal 6 f1 A2 A3 n2 c2 n3 c3] W fun x W' => x = .returned (.tuple #[.iface 84 (.agg #[.slice A2 n2 c2, .slice A3 n3 c3]), .bool true]) ∧ Below W.heap.size W W' := by
 refine (node6 f1 A2 A3 n2 c2 n3 c3 W).mono ?_
 rintro e w' ⟨rfl, hb⟩
 rw [hok]
 exact ⟨rfl, hb⟩
theorem is_78 (v : Value) (w : World) : (Instr.typeAssert (.iface 78 v) 74 78 true).run Tryd.prog w = .ok (.tuple #[v, .bool true]) w := by kernel_rfl
theorem is_80 (v : Value) (w : World) : (Instr.typeAssert (.iface 80 v) 74 80 true).run Tryd.prog w = .ok (.tuple #[v, .bool true]) w := by kernel_rfl
theorem no_80_78 (v : Value) (w : World) : (Instr.typeAssert (.iface 80 v) 74 78 true).run Tryd.prog w = .ok (.tuple #[.agg #[.string ⟨#[]⟩], .bool false]) w := by kernel_rfl
theorem is_82 (v : Value) (w : World) : (Instr.typeAssert (.iface 82 v) 74 82 true).run Tryd.prog w = .ok (.tuple #[v, .bool true]) w := by kernel_rfl
theorem no_82_78 (v : Value) (w : World) : (Instr.typeAssert (.iface 82 v) 74 78 true).run Tryd.prog w = .ok (.tuple #[.agg #[.string ⟨#[]⟩], .bool false]) w := by kernel_rfl
theorem no_82_80 (v : Value) (w : World) : (Instr.typeAssert (.iface 82 v) 74 80 true).run Tryd.prog w = .ok (.tuple #[.agg #[.string ⟨#[]⟩], .bool false]) w := by kernel_rfl
theorem is_84 (v : Value) (w : World) : (Instr.typeAssert (.iface 84 v) 74 84 true).run Tryd.prog w = .ok (.tuple #[v, .bool true]) w := by kernel_rfl
theorem no_84_78 (v : Value) (w : World) : (Instr.typeAssert (.iface 84 v) 74 78 true).run Tryd.prog w = .ok (.tuple #[.agg #[.string ⟨#[]⟩], .bool false]) w := by kernel_rfl
theorem no_84_80 (v : Value) (w : World) : (Instr.typeAssert (.iface 84 v) 74 80 true).run Tryd.prog w = .ok (.tuple #[.agg #[.string ⟨#[]⟩], .bool false]) w := by kernel_rfl
theorem no_84_82 (v : Value) (w : World) : (Instr.typeAssert (.iface 84 v) 74 82 true).run Tryd.prog w = .ok (.tuple #[.agg #[.slice none 0 0], .bool false]) w := by kernel_rfl
set_option maxRecDepth 1000000 in
set_option maxHeartbeats 4000000 in
theorem value_bad (Wd : Nat) (free canon : Bool) (st : St) (sl : Value) (d : Int) (f0 : Int) (f1 : ByteArray) (A2 A3 : Option Addr) (n2 c2 n3 c3 : Nat) (W : World) (wt : Nat) (h : Wr Wd free st sl W) (he : st.e ≠ 0) :
  Calls Tryd.prog 33 #[ptr Wd, jVal f0 f1 A2 A3 n2 c2 n3 c3, .int .i64 d, .bool canon] W (VEnds Wd free canon st sl W wt (st)) := by
 have H := Aside0.mk h
 have HL := Aside0.mk (Nat.le_of_lt h.lt)
 have cw2 : ∀ o : Obj, (W.alloc o).cell? ⟨Wd, 2, none⟩ = some (.int .i64 st.e) := fun o => (World.cell?_of_block (Below.block (below_alloc (Below.refl _ _) o) _ h.lt)).trans ((blk_cell h.blk 2).trans rfl)
 clear h
 have e0 : ((st.e : Int) != 0) = true := by
  have : ¬ (st.e : Int) = 0 := by omega
  simp only [bne_iff_ne, ne_eq]
  exact this
 go_enter Tryd.func33, Tryd.ntmps33
 go_wp2
 (try simp only [Exit.inBlock, Exit.then])
 refine ⟨rfl, .tuple #[], results_none rfl _ _ _, ?_⟩
 exact VEnds.of (by repeat (first | exact Below.refl _ _ | apply below_drewN | apply below_drew1 | apply below_alloc)) HL.out (WrOn.refl _ _ _) (H.out.below (by repeat (first | exact Below.refl _ _ | apply below_drewN | apply below_drew1 | apply below_alloc))) (Sm.refl _ _) (fun n hn => hn.less (by omega))
set_option maxRecDepth 1000000 in
set_option maxHeartbeats 4000000 in
theorem value_deep5 (Wd : Nat) (free canon : Bool) (st : St) (sl : Value) (d : Int) (f1 : ByteArray) (A2 A3 : Option Addr) (n2 c2 n3 c3 : Nat) (W : World) (wt : Nat) (h : Wr Wd free st sl W) (he : st.e = 0) (h1 : ¬ (32 : Int) < d) (h2 : (32 : Int) ≤ d) :
  Calls Tryd.prog 33 #[ptr Wd, jVal 5 f1 A2 A3 n2 c2 n3 c3, .int .i64 d, .bool canon] W (VEnds Wd free canon st sl W wt (⟨st.out, 46⟩)) := by
 have H := Aside0.mk h
 have HL := Aside0.mk (Nat.le_of_lt h.lt)
 have cw2 : ∀ o : Obj, (W.alloc o).cell? ⟨Wd, 2, none⟩ = some (.int .i64 st.e) := fun o => (World.cell?_of_block (Below.block (below_alloc (Below.refl _ _) o) _ h.lt)).trans ((blk_cell h.blk 2).trans rfl)
 clear h
 have e0 : ((st.e : Int) != 0) = false := by rw [he]; rfl
 have b1 : decide ((32 : Int) < d) = false := decide_eq_false h1
 have b2 : decide ((32 : Int) ≤ d) = true := decide_eq_true h2
 have HN := Aside0.mk (show (46 : Int) = ((46 : Nat) : Int) from rfl)
 have HF := Aside0.mk (show failF st 46 = ⟨st.out, 46⟩ by unfold failF; rw [if_pos he])
 clear he
 go_enter Tryd.func33, Tryd.ntmps33
 go_wp2_with (go_at_call 50; (with_reducible refine (wfail_calls Wd free st sl 46 46 HN.out _ ?wr).mono ?_); (case wr => exact H.out.below (by repeat (first | exact Below.refl _ _ | apply below_drewN | apply below_drew1 | apply below_alloc))); rintro e w9 ⟨rfl, hw, ho⟩; have HW9 := Aside0.mk hw; have HO9 := Aside0.mk ho; clear hw ho)
 (try simp only [Exit.inBlock, Exit.then])
 refine ⟨rfl, .tuple #[], results_none rfl _ _ _, ?_⟩
 exact VEnds.of (by repeat (first | exact Below.refl _ _ | apply below_drewN | apply below_drew1 | apply below_alloc)) HL.out HO9.out HW9.out (.inl HF.out) (fun n hn => (hn.less (by omega)).failF 46)
set_option maxRecDepth 1000000 in
set_option maxHeartbeats 4000000 in
theorem value_deep6 (Wd : Nat) (free canon : Bool) (st : St) (sl : Value) (d : Int) (f1 : ByteArray) (A2 A3 : Option Addr) (n2 c2 n3 c3 : Nat) (W : World) (wt : Nat) (h : Wr Wd free st sl W) (he : st.e = 0) (h1 : ¬ (32 : Int) < d) (h2 : (32 : Int) ≤ d) :
  Calls Tryd.prog 33 #[ptr Wd, jVal 6 f1 A2 A3 n2 c2 n3 c3, .int .i64 d, .bool canon] W (VEnds Wd free canon st sl W wt (⟨st.out, 46⟩)) := by
 have H := Aside0.mk h
 have HL := Aside0.mk (Nat.le_of_lt h.lt)
 have cw2 : ∀ o : Obj, (W.alloc o).cell? ⟨Wd, 2, none⟩ = some (.int .i64 st.e) := fun o => (World.cell?_of_block (Below.block (below_alloc (Below.refl _ _) o) _ h.lt)).trans ((blk_cell h.blk 2).trans rfl)
 clear h
 have e0 : ((st.e : Int) != 0) = false := by rw [he]; rfl
 have b1 : decide ((32 : Int) < d) = false := decide_eq_false h1
 have b2 : decide ((32 : Int) ≤ d) = true := decide_eq_true h2
 have HN := Aside0.mk (show (46 : Int) = ((46 : Nat) : Int) from rfl)
 have HF := Aside0.mk (show failF st 46 = ⟨st.out, 46⟩ by unfold failF; rw [if_pos he])
 clear he
 go_enter Tryd.func33, Tryd.ntmps33
 go_wp2_with (go_at_call 50; (with_reducible refine (wfail_calls Wd free st sl 46 46 HN.out _ ?wr).mono ?_); (case wr => exact H.out.below (by repeat (first | exact Below.refl _ _ | apply below_drewN | apply below_drew1 | apply below_alloc))); rintro e w9 ⟨rfl, hw, ho⟩; have HW9 := Aside0.mk hw; have HO9 := Aside0.mk ho; clear hw ho)
 (try simp only [Exit.inBlock, Exit.then])
 refine ⟨rfl, .tuple #[], results_none rfl _ _ _, ?_⟩
 exact VEnds.of (by repeat (first | exact Below.refl _ _ | apply below_drewN | apply below_drew1 | apply below_alloc)) HL.out HO9.out HW9.out (.inl HF.out) (fun n hn => (hn.less (by omega)).failF 46)
set_option maxRecDepth 1000000 in
set_option maxHeartbeats 4000000 in
theorem value_node5 (Wd : Nat) (free canon : Bool) (st : St) (sl : Value) (d : Int) (f1 : ByteArray) (A2 A3 : Option Addr) (n2 c2 n3 c3 : Nat) (W : World) (wt : Nat) (h : Wr Wd free st sl W) (he : st.e = 0) (h1 : ¬ (32 : Int) < d) (h2 : ¬ (32 : Int) ≤ d) (hz : f1.size ≤ 9223372036854775806) (hok : nodeOK 5 f1 n2 n3 = false) (hG : Gl Wd W) :
  Calls Tryd.prog 33 #[ptr Wd, jVal 5 f1 A2 A3 n2 c2 n3 c3, .int .i64 d, .bool canon] W (VEnds Wd free canon st sl W wt (⟨st.out, 47⟩)) := by
 have H := Aside0.mk h
 have HL := Aside0.mk (Nat.le_of_lt h.lt)
 have cw2 : ∀ o : Obj, (W.alloc o).cell? ⟨Wd, 2, none⟩ = some (.int .i64 st.e) := fun o => (World.cell?_of_block (Below.block (below_alloc (Below.refl _ _) o) _ h.lt)).trans ((blk_cell h.blk 2).trans rfl)
 clear h
 have e0 : ((st.e : Int) != 0) = false := by rw [he]; rfl
 have b1 : decide ((32 : Int) < d) = false := decide_eq_false h1
 have b2 : decide ((32 : Int) ≤ d) = false := decide_eq_false h2
 have HN := Aside0.mk (show (47 : Int) = ((47 : Nat) : Int) from rfl)
 have HOK := Aside0.mk hok
 have HG := Aside0.mk hG
 have HF := Aside0.mk (show failF st 47 = ⟨st.out, 47⟩ by unfold failF; rw [if_pos he])
 clear he hok hG
 go_enter Tryd.func33, Tryd.ntmps33
 go_wp2_with (first | (go_at_call 51; (with_reducible refine (node_no 5 f1 A2 A3 n2 c2 n3 c3 _ hz ?gl ?tb HOK.out).mono ?_); (case gl => exact (HG.out.below (by repeat (first | exact Below.refl _ _ | apply below_drewN | apply below_drew1 | apply below_alloc)) HL.out).words); (case tb => exact (HG.out.below (by repeat (first | exact Below.refl _ _ | apply below_drewN | apply below_drew1 | apply below_alloc)) HL.out).tabs); rintro e w1 ⟨⟨nv, rfl⟩, hb⟩; have HB1 := Aside0.mk (show Below W.heap.size W w1 from below_step (by repeat (first | exact Below.refl _ _ | apply below_drewN | apply below_drew1 | apply below_alloc)) hb); clear hb) | (go_at_call 50; (with_reducible refine (wfail_calls Wd free st sl 47 47 HN.out _ ?wr).mono ?_); (case wr => exact H.out.below HB1.out); rintro e w9 ⟨rfl, hw, ho⟩; have HW9 := Aside0.mk hw; have HO9 := Aside0.mk ho; clear hw ho))
 (try simp only [Exit.inBlock, Exit.then])
 refine ⟨rfl, .tuple #[], results_none rfl _ _ _, ?_⟩
 exact VEnds.of HB1.out HL.out HO9.out HW9.out (.inl HF.out) (fun n hn => (hn.less (by omega)).failF 47)
set_option maxRecDepth 1000000 in
set_option maxHeartbeats 4000000 in
theorem value_node6 (Wd : Nat) (free canon : Bool) (st : St) (sl : Value) (d : Int) (f1 : ByteArray) (A2 A3 : Option Addr) (n2 c2 n3 c3 : Nat) (W : World) (wt : Nat) (h : Wr Wd free st sl W) (he : st.e = 0) (h1 : ¬ (32 : Int) < d) (h2 : ¬ (32 : Int) ≤ d) (hz : f1.size ≤ 9223372036854775806) (hok : nodeOK 6 f1 n2 n3 = false) (hG : Gl Wd W) :
  Calls Tryd.prog 33 #[ptr Wd, jVal 6 f1 A2 A3 n2 c2 n3 c3, .int .i64 d, .bool canon] W (VEnds Wd free canon st sl W wt (⟨st.out, 47⟩)) := by
 have H := Aside0.mk h
 have HL := Aside0.mk (Nat.le_of_lt h.lt)
 have cw2 : ∀ o : Obj, (W.alloc o).cell? ⟨Wd, 2, none⟩ = some (.int .i64 st.e) := fun o => (World.cell?_of_block (Below.block (below_alloc (Below.refl _ _) o) _ h.lt)).trans ((blk_cell h.blk 2).trans rfl)
 clear h
 have e0 : ((st.e : Int) != 0) = false := by rw [he]; rfl
 have b1 : decide ((32 : Int) < d) = false := decide_eq_false h1
 have b2 : decide ((32 : Int) ≤ d) = false := decide_eq_false h2
 have HN := Aside0.mk (show (47 : Int) = ((47 : Nat) : Int) from rfl)
 have HOK := Aside0.mk hok
 have HG := Aside0.mk hG
 have HF := Aside0.mk (show failF st 47 = ⟨st.out, 47⟩ by unfold failF; rw [if_pos he])
 clear he hok hG
 go_enter Tryd.func33, Tryd.ntmps33
 go_wp2_with (first | (go_at_call 51; (with_reducible refine (node_no 6 f1 A2 A3 n2 c2 n3 c3 _ hz ?gl ?tb HOK.out).mono ?_); (case gl => exact (HG.out.below (by repeat (first | exact Below.refl _ _ | apply below_drewN | apply below_drew1 | apply below_alloc)) HL.out).words); (case tb => exact (HG.out.below (by repeat (first | exact Below.refl _ _ | apply below_drewN | apply below_drew1 | apply below_alloc)) HL.out).tabs); rintro e w1 ⟨⟨nv, rfl⟩, hb⟩; have HB1 := Aside0.mk (show Below W.heap.size W w1 from below_step (by repeat (first | exact Below.refl _ _ | apply below_drewN | apply below_drew1 | apply below_alloc)) hb); clear hb) | (go_at_call 50; (with_reducible refine (wfail_calls Wd free st sl 47 47 HN.out _ ?wr).mono ?_); (case wr => exact H.out.below HB1.out); rintro e w9 ⟨rfl, hw, ho⟩; have HW9 := Aside0.mk hw; have HO9 := Aside0.mk ho; clear hw ho))
 (try simp only [Exit.inBlock, Exit.then])
 refine ⟨rfl, .tuple #[], results_none rfl _ _ _, ?_⟩
 exact VEnds.of HB1.out HL.out HO9.out HW9.out (.inl HF.out) (fun n hn => (hn.less (by omega)).failF 47)
set_option maxRecDepth 1000000 in
set_option maxHeartbeats 4000000 in
theorem value_nodeX (Wd : Nat) (free canon : Bool) (st : St) (sl : Value) (d : Int) (f0 : Int) (f1 : ByteArray) (A2 A3 : Option Addr) (n2 c2 n3 c3 : Nat) (W : World) (wt : Nat) (h : Wr Wd free st sl W) (he : st.e = 0) (h1 : ¬ (32 : Int) < d) (h5 : ¬ f0 = 5) (h6 : ¬ f0 = 6) (hz : f1.size ≤ 9223372036854775806) (hok : nodeOK f0 f1 n2 n3 = false) (hG : Gl Wd W) :
  Calls Tryd.prog 33 #[ptr Wd, jVal f0 f1 A2 A3 n2 c2 n3 c3, .int .i64 d, .bool canon] W (VEnds Wd free canon st sl W wt (⟨st.out, 47⟩)) := by
 have H := Aside0.mk h
 have HL := Aside0.mk (Nat.le_of_lt h.lt)
 have cw2 : ∀ o : Obj, (W.alloc o).cell? ⟨Wd, 2, none⟩ = some (.int .i64 st.e) := fun o => (World.cell?_of_block (Below.block (below_alloc (Below.refl _ _) o) _ h.lt)).trans ((blk_cell h.blk 2).trans rfl)
 clear h
 have e0 : ((st.e : Int) != 0) = false := by rw [he]; rfl
 have b1 : decide ((32 : Int) < d) = false := decide_eq_false h1
 have e5 : (f0 == 5) = false := by simp [h5]
 have e6 : (f0 == 6) = false := by simp [h6]
 have HN := Aside0.mk (show (47 : Int) = ((47 : Nat) : Int) from rfl)
 have HOK := Aside0.mk hok
 have HG := Aside0.mk hG
 have HF := Aside0.mk (show failF st 47 = ⟨st.out, 47⟩ by unfold failF; rw [if_pos he])
 clear he hok hG
 go_enter Tryd.func33, Tryd.ntmps33
 go_wp2_with (first | (go_at_call 51; (with_reducible refine (node_no f0 f1 A2 A3 n2 c2 n3 c3 _ hz ?gl ?tb HOK.out).mono ?_); (case gl => exact (HG.out.below (by repeat (first | exact Below.refl _ _ | apply below_drewN | apply below_drew1 | apply below_alloc)) HL.out).words); (case tb => exact (HG.out.below (by repeat (first | exact Below.refl _ _ | apply below_drewN | apply below_drew1 | apply below_alloc)) HL.out).tabs); rintro e w1 ⟨⟨nv, rfl⟩, hb⟩; have HB1 := Aside0.mk (show Below W.heap.size W w1 from below_step (by repeat (first | exact Below.refl _ _ | apply below_drewN | apply below_drew1 | apply below_alloc)) hb); clear hb) | (go_at_call 50; (with_reducible refine (wfail_calls Wd free st sl 47 47 HN.out _ ?wr).mono ?_); (case wr => exact H.out.below HB1.out); rintro e w9 ⟨rfl, hw, ho⟩; have HW9 := Aside0.mk hw; have HO9 := Aside0.mk ho; clear hw ho))
 (try simp only [Exit.inBlock, Exit.then])
 refine ⟨rfl, .tuple #[], results_none rfl _ _ _, ?_⟩
 exact VEnds.of HB1.out HL.out HO9.out HW9.out (.inl HF.out) (fun n hn => (hn.less (by omega)).failF 47)
set_option maxRecDepth 1000000 in
set_option maxHeartbeats 4000000 in
theorem value_word0 (Wd : Nat) (free canon : Bool) (st : St) (sl : Value) (d : Int) (f1 : ByteArray) (A2 A3 : Option Addr) (n2 c2 n3 c3 : Nat) (W : World) (wt : Nat) (h : Wr Wd free st sl W) (he : st.e = 0) (h1 : ¬ (32 : Int) < d) (hok : nodeOK 0 f1 n2 n3 = true) (hG : Gl Wd W) (hrm : Room free st (wordB 0).size) (hwt : (wordB 0).size ≤ wt) :
  Calls Tryd.prog 33 #[ptr Wd, jVal 0 f1 A2 A3 n2 c2 n3 c3, .int .i64 d, .bool canon] W (VEnds Wd free canon st sl W wt (putF free st (wordB 0).data.toList)) := by
 have H := Aside0.mk h
 have HL := Aside0.mk (Nat.le_of_lt h.lt)
 have cw2 : ∀ o : Obj, (W.alloc o).cell? ⟨Wd, 2, none⟩ = some (.int .i64 st.e) := fun o => (World.cell?_of_block (Below.block (below_alloc (Below.refl _ _) o) _ h.lt)).trans ((blk_cell h.blk 2).trans rfl)
 clear h
 have e0 : ((st.e : Int) != 0) = false := by rw [he]; rfl
 have b1 : decide ((32 : Int) < d) = false := decide_eq_false h1
 have HOK := Aside0.mk hok
 have HG := Aside0.mk hG
 have HRM := Aside0.mk hrm
 clear he hok hG hrm
 have ta := is_78
 go_enter Tryd.func33, Tryd.ntmps33
 go_wp2_with (first | (go_at_call 51; (with_reducible refine (node_yes0 f1 A2 A3 n2 c2 n3 c3 _ ?gl HOK.out).mono ?_); (case gl => exact (HG.out.below (by repeat (first | exact Below.refl _ _ | apply below_drewN | apply below_drew1 | apply below_alloc)) HL.out).words); rintro e w1 ⟨rfl, hb⟩; have HB1 := Aside0.mk (show Below W.heap.size W w1 from below_step (by repeat (first | exact Below.refl _ _ | apply below_drewN | apply below_drew1 | apply below_alloc)) hb); clear hb) | (go_at_call 52; (with_reducible refine (put_calls Wd free st sl (wordB 0) _ ?rm9 ?wr9).mono ?_); (case rm9 => exact HRM.out); (case wr9 => exact H.out.below (by repeat (first | exact HB1.out | exact Below.refl _ _ | apply below_drewN | apply below_drew1 | apply below_alloc | refine below_set ?_ HB1.out.size))); rintro e w9 ⟨rfl, sl9, hw, ho⟩; have HW9 := Aside0.mk hw; have HO9 := Aside0.mk ho; clear hw ho))
 (try simp only [Exit.inBlock, Exit.then])
 refine ⟨rfl, .tuple #[], results_none rfl _ _ _, ?_⟩
 exact VEnds.of (by repeat (first | exact HB1.out | exact Below.refl _ _ | apply below_drewN | apply below_drew1 | apply below_alloc | refine below_set ?_ HB1.out.size)) HL.out HO9.out HW9.out (.inl rfl) (fun n hn => hn.put _ (by rw [size_data]; omega))
set_option maxRecDepth 1000000 in
set_option maxHeartbeats 4000000 in
theorem value_word1 (Wd : Nat) (free canon : Bool) (st : St) (sl : Value) (d : Int) (f1 : ByteArray) (A2 A3 : Option Addr) (n2 c2 n3 c3 : Nat) (W : World) (wt : Nat) (h : Wr Wd free st sl W) (he : st.e = 0) (h1 : ¬ (32 : Int) < d) (hok : nodeOK 1 f1 n2 n3 = true) (hG : Gl Wd W) (hrm : Room free st (wordB 1).size) (hwt : (wordB 1).size ≤ wt) :
  Calls Tryd.prog 33 #[ptr Wd, jVal 1 f1 A2 A3 n2 c2 n3 c3, .int .i64 d, .bool canon] W (VEnds Wd free canon st sl W wt (putF free st (wordB 1).data.toList)) := by
 have H := Aside0.mk h
 have HL := Aside0.mk (Nat.le_of_lt h.lt)
 have cw2 : ∀ o : Obj, (W.alloc o).cell? ⟨Wd, 2, none⟩ = some (.int .i64 st.e) := fun o => (World.cell?_of_block (Below.block (below_alloc (Below.refl _ _) o) _ h.lt)).trans ((blk_cell h.blk 2).trans rfl)
 clear h
 have e0 : ((st.e : Int) != 0) = false := by rw [he]; rfl
 have b1 : decide ((32 : Int) < d) = false := decide_eq_false h1
 have HOK := Aside0.mk hok
 have HG := Aside0.mk hG
 have HRM := Aside0.mk hrm
 clear he hok hG hrm
 have ta := is_78
 go_enter Tryd.func33, Tryd.ntmps33
 go_wp2_with (first | (go_at_call 51; (with_reducible refine (node_yes1 f1 A2 A3 n2 c2 n3 c3 _ ?gl HOK.out).mono ?_); (case gl => exact (HG.out.below (by repeat (first | exact Below.refl _ _ | apply below_drewN | apply below_drew1 | apply below_alloc)) HL.out).words); rintro e w1 ⟨rfl, hb⟩; have HB1 := Aside0.mk (show Below W.heap.size W w1 from below_step (by repeat (first | exact Below.refl _ _ | apply below_drewN | apply below_drew1 | apply below_alloc)) hb); clear hb) | (go_at_call 52; (with_reducible refine (put_calls Wd free st sl (wordB 1) _ ?rm9 ?wr9).mono ?_); (case rm9 => exact HRM.out); (case wr9 => exact H.out.below (by repeat (first | exact HB1.out | exact Below.refl _ _ | apply below_drewN | apply below_drew1 | apply below_alloc | refine below_set ?_ HB1.out.size))); rintro e w9 ⟨rfl, sl9, hw, ho⟩; have HW9 := Aside0.mk hw; have HO9 := Aside0.mk ho; clear hw ho))
 (try simp only [Exit.inBlock, Exit.then])
 refine ⟨rfl, .tuple #[], results_none rfl _ _ _, ?_⟩
 exact VEnds.of (by repeat (first | exact HB1.out | exact Below.refl _ _ | apply below_drewN | apply below_drew1 | apply below_alloc | refine below_set ?_ HB1.out.size)) HL.out HO9.out HW9.out (.inl rfl) (fun n hn => hn.put _ (by rw [size_data]; omega))
set_option maxRecDepth 1000000 in
set_option maxHeartbeats 4000000 in
theorem value_word2 (Wd : Nat) (free canon : Bool) (st : St) (sl : Value) (d : Int) (f1 : ByteArray) (A2 A3 : Option Addr) (n2 c2 n3 c3 : Nat) (W : World) (wt : Nat) (h : Wr Wd free st sl W) (he : st.e = 0) (h1 : ¬ (32 : Int) < d) (hok : nodeOK 2 f1 n2 n3 = true) (hG : Gl Wd W) (hrm : Room free st (wordB 2).size) (hwt : (wordB 2).size ≤ wt) :
  Calls Tryd.prog 33 #[ptr Wd, jVal 2 f1 A2 A3 n2 c2 n3 c3, .int .i64 d, .bool canon] W (VEnds Wd free canon st sl W wt (putF free st (wordB 2).data.toList)) := by
 have H := Aside0.mk h
 have HL := Aside0.mk (Nat.le_of_lt h.lt)
 have cw2 : ∀ o : Obj, (W.alloc o).cell? ⟨Wd, 2, none⟩ = some (.int .i64 st.e) := fun o => (World.cell?_of_block (Below.block (below_alloc (Below.refl _ _) o) _ h.lt)).trans ((blk_cell h.blk 2).trans rfl)
 clear h
 have e0 : ((st.e : Int) != 0) = false := by rw [he]; rfl
 have b1 : decide ((32 : Int) < d) = false := decide_eq_false h1
 have HOK := Aside0.mk hok
 have HG := Aside0.mk hG
 have HRM := Aside0.mk hrm
 clear he hok hG hrm
 have ta := is_78
 go_enter Tryd.func33, Tryd.ntmps33
 go_wp2_with (first | (go_at_call 51; (with_reducible refine (node_yes2 f1 A2 A3 n2 c2 n3 c3 _ ?gl HOK.out).mono ?_); (case gl => exact (HG.out.below (by repeat (first | exact Below.refl _ _ | apply below_drewN | apply below_drew1 | apply below_alloc)) HL.out).words); rintro e w1 ⟨rfl, hb⟩; have HB1 := Aside0.mk (show Below W.heap.size W w1 from below_step (by repeat (first | exact Below.refl _ _ | apply below_drewN | apply below_drew1 | apply below_alloc)) hb); clear hb) | (go_at_call 52; (with_reducible refine (put_calls Wd free st sl (wordB 2) _ ?rm9 ?wr9).mono ?_); (case rm9 => exact HRM.out); (case wr9 => exact H.out.below (by repeat (first | exact HB1.out | exact Below.refl _ _ | apply below_drewN | apply below_drew1 | apply below_alloc | refine below_set ?_ HB1.out.size))); rintro e w9 ⟨rfl, sl9, hw, ho⟩; have HW9 := Aside0.mk hw; have HO9 := Aside0.mk ho; clear hw ho))
 (try simp only [Exit.inBlock, Exit.then])
 refine ⟨rfl, .tuple #[], results_none rfl _ _ _, ?_⟩
 exact VEnds.of (by repeat (first | exact HB1.out | exact Below.refl _ _ | apply below_drewN | apply below_drew1 | apply below_alloc | refine below_set ?_ HB1.out.size)) HL.out HO9.out HW9.out (.inl rfl) (fun n hn => hn.put _ (by rw [size_data]; omega))
set_option maxRecDepth 1000000 in
set_option maxHeartbeats 4000000 in
theorem value_word3 (Wd : Nat) (free canon : Bool) (st : St) (sl : Value) (d : Int) (f1 : ByteArray) (A2 A3 : Option Addr) (n2 c2 n3 c3 : Nat) (W : World) (wt : Nat) (h : Wr Wd free st sl W) (he : st.e = 0) (h1 : ¬ (32 : Int) < d) (hz : f1.size ≤ 9223372036854775806) (hok : nodeOK 3 f1 n2 n3 = true) (hG : Gl Wd W) (hrm : Room free st f1.size) (hwt : f1.size ≤ wt) :
  Calls Tryd.prog 33 #[ptr Wd, jVal 3 f1 A2 A3 n2 c2 n3 c3, .int .i64 d, .bool canon] W (VEnds Wd free canon st sl W wt (putF free st f1.data.toList)) := by
 have H := Aside0.mk h
 have HL := Aside0.mk (Nat.le_of_lt h.lt)
 have cw2 : ∀ o : Obj, (W.alloc o).cell? ⟨Wd, 2, none⟩ = some (.int .i64 st.e) := fun o => (World.cell?_of_block (Below.block (below_alloc (Below.refl _ _) o) _ h.lt)).trans ((blk_cell h.blk 2).trans rfl)
 clear h
 have e0 : ((st.e : Int) != 0) = false := by rw [he]; rfl
 have b1 : decide ((32 : Int) < d) = false := decide_eq_false h1
 have HOK := Aside0.mk hok
 have HG := Aside0.mk hG
 have HRM := Aside0.mk hrm
 clear he hok hG hrm
 have ta := is_78
 go_enter Tryd.func33, Tryd.ntmps33
 go_wp2_with (first | (go_at_call 51; (with_reducible refine (node_yes3 f1 A2 A3 n2 c2 n3 c3 _ hz HOK.out).mono ?_); rintro e w1 ⟨rfl, hb⟩; have HB1 := Aside0.mk (show Below W.heap.size W w1 from below_step (by repeat (first | exact Below.refl _ _ | apply below_drewN | apply below_drew1 | apply below_alloc)) hb); clear hb) | (go_at_call 52; (with_reducible refine (put_calls Wd free st sl f1 _ ?rm9 ?wr9).mono ?_); (case rm9 => exact HRM.out); (case wr9 => exact H.out.below (by repeat (first | exact HB1.out | exact Below.refl _ _ | apply below_drewN | apply below_drew1 | apply below_alloc | refine below_set ?_ HB1.out.size))); rintro e w9 ⟨rfl, sl9, hw, ho⟩; have HW9 := Aside0.mk hw; have HO9 := Aside0.mk ho; clear hw ho))
 (try simp only [Exit.inBlock, Exit.then])
 refine ⟨rfl, .tuple #[], results_none rfl _ _ _, ?_⟩
 exact VEnds.of (by repeat (first | exact HB1.out | exact Below.refl _ _ | apply below_drewN | apply below_drew1 | apply below_alloc | refine below_set ?_ HB1.out.size)) HL.out HO9.out HW9.out (.inl rfl) (fun n hn => hn.put _ (by rw [size_data]; omega))
set_option maxRecDepth 1000000 in
set_option maxHeartbeats 4000000 in
theorem value_text (Wd : Nat) (free canon : Bool) (st : St) (sl : Value) (d : Int) (f1 : ByteArray) (A2 A3 : Option Addr) (n2 c2 n3 c3 : Nat) (W : World) (wt : Nat) (h : Wr Wd free st sl W) (he : st.e = 0) (h1 : ¬ (32 : Int) < d) (hz : f1.size ≤ 9223372036854775806) (hok : nodeOK 4 f1 n2 n3 = true) (hG : Gl Wd W) (hs : f1.size ≤ 288230376151711743) (hrm : Room free st (12 * f1.size + 14)) (hwt : 12 * f1.size + 14 ≤ wt) :
  Calls Tryd.prog 33 #[ptr Wd, jVal 4 f1 A2 A3 n2 c2 n3 c3, .int .i64 d, .bool canon] W (VEnds Wd free canon st sl W wt (putsF free st (quoteB f1))) := by
 have H := Aside0.mk h
 have HL := Aside0.mk (Nat.le_of_lt h.lt)
 have cw2 : ∀ o : Obj, (W.alloc o).cell? ⟨Wd, 2, none⟩ = some (.int .i64 st.e) := fun o => (World.cell?_of_block (Below.block (below_alloc (Below.refl _ _) o) _ h.lt)).trans ((blk_cell h.blk 2).trans rfl)
 clear h
 have e0 : ((st.e : Int) != 0) = false := by rw [he]; rfl
 have b1 : decide ((32 : Int) < d) = false := decide_eq_false h1
 have HOK := Aside0.mk hok
 have HG := Aside0.mk hG
 have HRM := Aside0.mk hrm
 clear he hok hG hrm
 have ta := is_80
 have tb := no_80_78
 go_enter Tryd.func33, Tryd.ntmps33
 go_wp2_with (first | (go_at_call 51; (with_reducible refine (node_yes4 f1 A2 A3 n2 c2 n3 c3 _ hz ?tb HOK.out).mono ?_); (case tb => exact (HG.out.below (by repeat (first | exact Below.refl _ _ | apply below_drewN | apply below_drew1 | apply below_alloc)) HL.out).tabs); rintro e w1 ⟨rfl, hb⟩; have HB1 := Aside0.mk (show Below W.heap.size W w1 from below_step (by repeat (first | exact Below.refl _ _ | apply below_drewN | apply below_drew1 | apply below_alloc)) hb); clear hb) | (go_at_call 53; (with_reducible refine (quote_calls Wd free st sl f1 _ hs ?rm9 ?wr9).mono ?_); (case rm9 => exact HRM.out); (case wr9 => exact H.out.below (by repeat (first | exact HB1.out | exact Below.refl _ _ | apply below_drewN | apply below_drew1 | apply below_alloc | refine below_set ?_ HB1.out.size))); rintro e w9 ⟨rfl, sl9, hw, ho⟩; have HW9 := Aside0.mk hw; have HO9 := Aside0.mk ho; clear hw ho))
 (try simp only [Exit.inBlock, Exit.then])
 refine ⟨rfl, .tuple #[], results_none rfl _ _ _, ?_⟩
 exact VEnds.of (by repeat (first | exact HB1.out | exact Below.refl _ _ | apply below_drewN | apply below_drew1 | apply below_alloc | refine below_set ?_ HB1.out.size)) HL.out HO9.out HW9.out (.inl rfl) (fun n hn => hn.quote _ (by omega))
end Go.Proofs.YtaalajhmfdcalaaDoor.X
namespace Go.Proofs.YtaalajhmfdcalaaDoor.X
open Go.RowKit Go.Lib Go.Proofs.YtaalajhmfdcalaaDoorW.PrintWords Go.Proofs.YtaalajhmfdcalaaDoorW.PrintLast Go.Proofs.YtaalajhmfdcalaaDoorW.PrintMore
def WOK (free canon : Bool) (r : Nat) (d : Int) : Prop :=
 ∀ (Wd : Nat) (st : St) (sl : Value) (W : World) (v : J) (A2 A3 : Option Addr) (c2 c3 : Nat), Wr Wd free st sl W → Fit free st (wtJ r v) → SmJ r v → (canon = true → LnJ r v) → Kd.F Kd.string W (okW Wd sl) A2 v.f2.length v.f2 → v.f2.length ≤ c2 → Kd.F k25 W (okW Wd sl) A3 v.f3.length v.f3 → v.f3.length ≤ c3 → Gl Wd W →
  Calls Tryd.prog 33 #[ptr Wd, jVal v.f0 v.f1 A2 A3 v.f2.length c2 v.f3.length c3, .int .i64 d, .bool canon] W (VEnds Wd free canon st sl W (wtJ r v) (valW free canon r v st))
theorem F_elem {W : World} {ok : Nat → Prop} {A : Option Addr} {xs : List J} (h : Kd.F k25 W ok A xs.length xs) (i : Nat) (hi : i < xs.length) :
  ∃ ad A2 c2 A3 c3, A = some ad ∧ W.cell? (ad.add (i * 4)) = some (.int .i64 (rd_T25 xs i).f0) ∧ W.cell? ⟨(ad.add (i * 4)).block, (ad.add (i * 4)).off + 1, none⟩ = some (.string (rd_T25 xs i).f1) ∧ W.cell? ⟨(ad.add (i * 4)).block, (ad.add (i * 4)).off + 2, none⟩ = some (.slice A2 (rd_T25 xs i).f2.length c2) ∧ W.cell? ⟨(ad.add (i * 4)).block, (ad.add (i * 4)).off + 3, none⟩ = some (.slice A3 (rd_T25 xs i).f3.length c3) ∧
   (rd_T25 xs i).f2.length ≤ c2 ∧ Kd.F Kd.string W ok A2 (rd_T25 xs i).f2.length (rd_T25 xs i).f2 ∧ (rd_T25 xs i).f3.length ≤ c3 ∧ Kd.F k25 W ok A3 (rd_T25 xs i).f3.length (rd_T25 xs i).f3 := by
 obtain ⟨ad, c, e, _, hK, hc0, _⟩ := Kd.F_get h z25 (i : Int) (by omega) (by omega)
 have hc : ∀ j u, c[j]? = some u → W.cell? (ad.add (i * 4 + j)) = some u := hc0
 obtain ⟨A2, c2, A3, c3, rfl, l2, g2, l3, g3⟩ := k25_openF hK
 exact ⟨ad, A2, c2, A3, c3, e, hc 0 _ rfl, by rw [← add_field _ _ 1 (by omega)]; exact hc 1 _ rfl, by rw [← add_field _ _ 2 (by omega)]; exact hc 2 _ rfl, by rw [← add_field _ _ 3 (by omega)]; exact hc 3 _ rfl, l2, g2, l3, g3⟩
theorem Wr.newblk {Wd b : Nat} {free : Bool} {st : St} {sl sl' : Value} {W w0 w1 : World} {o : Obj} (h : Wr Wd free st sl W) (hb : W.heap.size ≤ b) (ho : WrOn Wd sl sl' w0 w1) (hk : w0.heap[b]? = some o) : w1.heap[b]? = some o :=
 (ho.kept b (lt_of_block hk) (by have := h.lt; omega) (fun hh => by have := (h.own.lt b hh.symm).2; omega)).trans hk
def wtI (r : Nat) (l : List J) : Nat := (l.map (fun y => wtJ r y + 1)).sum
theorem rd_mem (xs : List J) (i : Nat) (hi : i < xs.length) : rd_T25 xs i ∈ xs := by
 unfold rd_T25
 rw [show ((i : Int)).toNat = i from Int.toNat_natCast i, List.getD_eq_getElem?_getD, List.getElem?_eq_getElem hi]
 exact List.getElem_mem hi
theorem wtI_cons (r : Nat) (y : J) (l : List J) : wtI r (y :: l) = wtJ r y + 1 + wtI r l := by simp [wtI]
theorem itemsW_cons (free : Bool) (one : J → St → St) (i : Nat) (y : J) (l : List J) (st : St) : itemsW free one i (y :: l) st = itemsW free one (i + 1) l (one y (if i = 0 then st else putF free st [44])) := by
 rw [itemsW]
theorem wrap_next (i n : Nat) (hi : i < n) (hn : n ≤ 9223372036854775807) : wrap64 ((i : Int) + 1) = ((i + 1 : Nat) : Int) := by unfold wrap64; omega
theorem drop_rd (xs : List J) (i : Nat) (hi : i < xs.length) : xs.drop i = rd_T25 xs i :: xs.drop (i + 1) := by
 rw [List.drop_eq_getElem_cons hi]
 unfold rd_T25
 rw [show ((i : Int)).toNat = i from Int.toNat_natCast i, List.getD_eq_getElem?_getD, List.getElem?_eq_getElem hi]
 rfl
set_option maxRecDepth 1000000 in
set_option maxHeartbeats 4000000 in
theorem value_list (Wd : Nat) (free canon : Bool) (st : St) (sl : Value) (d : Int) (f1 : ByteArray) (A2 A3 : Option Addr) (n2 c2 n3 c3 : Nat) (W : World) (wt : Nat) (h : Wr Wd free st sl W) (l3 : List J) (hn : n3 = l3.length) (r : Nat) (he : st.e = 0) (h1 : ¬ (32 : Int) < d) (h2 : ¬ (32 : Int) ≤ d) (hok : nodeOK 5 f1 n2 n3 = true) (hG : Gl Wd W) (hwt : wtI r l3 + 2 ≤ wt) (hfit : Fit free st wt) (hsm : ∀ y, y ∈ l3 → SmJ r y) (hln : canon = true → ∀ y, y ∈ l3 → LnJ r y) (hF3 : Kd.F k25 W (okW Wd sl) A3 n3 l3) (hc3 : n3 ≤ c3) (IH : WOK free canon r (wrap64 (d + 1))) :
  Calls Tryd.prog 33 #[ptr Wd, jVal 5 f1 A2 A3 n2 c2 n3 c3, .int .i64 d, .bool canon] W (VEnds Wd free canon st sl W wt (putF free (itemsW free (valW free canon r) 0 l3 (putF free st [91])) [93])) := by
 have H := Aside0.mk h
 have HL := Aside0.mk (Nat.le_of_lt h.lt)
 have cw2 : ∀ o : Obj, (W.alloc o).cell? ⟨Wd, 2, none⟩ = some (.int .i64 st.e) := fun o => (World.cell?_of_block (Below.block (below_alloc (Below.refl _ _) o) _ h.lt)).trans ((blk_cell h.blk 2).trans rfl)
 clear h
 have e0 : ((st.e : Int) != 0) = false := by rw [he]; rfl
 subst hn
 have b1 : decide ((32 : Int) < d) = false := decide_eq_false h1
 have b2 : decide ((32 : Int) ≤ d) = false := decide_eq_false h2
 have HOK := Aside0.mk hok
 have HG := Aside0.mk hG
 have HF := Aside0.mk hfit
 have HS := Aside0.mk hsm
 have HLN := Aside0.mk hln
 have HX := Aside0.mk hF3
 unfold WOK at IH
 have HI := Aside0.mk IH
 have hmax := Kd.F_max hF3
 clear he hok hG hfit hsm hln hF3 IH
 have ta := is_82
 have tb := no_82_78
 have tc := no_82_80
 go_enter Tryd.func33, Tryd.ntmps33
 go_wp2_with (first | (go_at_call 51; (with_reducible refine (node_yes5 f1 A2 A3 n2 c2 l3.length c3 _ HOK.out).mono ?_); rintro e w1 ⟨rfl, hb⟩; have HB1 := Aside0.mk (show Below W.heap.size W w1 from below_step (by repeat (first | exact Below.refl _ _ | apply below_drewN | apply below_drew1 | apply below_alloc)) hb); clear hb) | (go_at_call 52; (with_reducible refine (put_calls Wd free st sl ⟨#[91]⟩ _ ?rm2 ?wr2).mono ?_); (case rm2 => exact HF.out.room (m := 1) (by omega) (by omega)); (case wr2 => exact H.out.below (by repeat (first | exact HB1.out | exact Below.refl _ _ | apply below_drewN | apply below_drew1 | apply below_alloc | refine below_set ?_ HB1.out.size))); rintro e w2 ⟨rfl, sl2, hw, ho⟩; have HW2 := Aside0.mk hw; have HO2 := Aside0.mk ho; clear hw ho; have x0 : w2.cell? ⟨w1.heap.size, 0, none⟩ = some (.slice A3 l3.length c3) := (blk_cell (H.out.newblk (o := .cells #[.slice A3 l3.length c3] 82 (0, 0)) HB1.out.size HO2.out (heap_alloc_new w1 _)) 0).trans rfl))
 have HE1 := Aside0.mk (show WrOn Wd sl sl2 W w2 from (WrOn.of_below HL.out (by repeat (first | exact HB1.out | exact Below.refl _ _ | apply below_drewN | apply below_drew1 | apply below_alloc | refine below_set ?_ HB1.out.size))).trans HO2.out)
 have HFe := Aside0.mk (show ∀ n, Fit free st (wt + n) → Fit free (putF free st [91]) (wtI r (l3.drop 0) + 1 + n) from fun n hn => hn.put [91] (by rw [List.drop_zero, List.length_singleton]; omega))
 clear x0 HB1 HOK
 go_loopg [73] (l3.length + 1) (fun g v73 wr => ∃ (i : Nat) (st2 : St) (sl2 : Value), v73 = .int .i64 (i : Int) ∧ i ≤ l3.length ∧ l3.length + 1 ≤ i + g ∧ Aside0 (Wr Wd free st2 sl2 wr) ∧ Aside0 (WrOn Wd sl sl2 W wr) ∧ Aside0 (∀ n, Fit free st (wt + n) → Fit free st2 (wtI r (l3.drop i) + 1 + n)) ∧ Aside0 (Sm canon (itemsW free (valW free canon r) i (l3.drop i) st2) (itemsW free (valW free canon r) 0 l3 (putF free st [91]))))
 case atStart => exact ⟨0, putF free st [91], sl2, rfl, by omega, by omega, HW2, HE1, HFe, ⟨Sm.refl _ _⟩⟩
 case round =>
  obtain ⟨i, st2, sl3, rfl, hi, hg, HW3, HO3, HF3, HX3⟩ := hrel
  clear HW2 HO2 HE1 HFe
  by_cases hlt : i < l3.length
  ·cases gk with
   | zero => omega
   | succ g =>
    have HX4 := Aside0.mk (F_on HX.out HO3.out)
    obtain ⟨ad, B2, k2, B3, k3, e9, q0, q1, q2, q3, m2, g2, m3, g3⟩ := F_elem HX4.out i hlt
    subst e9
    have HM2 := Aside0.mk m2
    have HM3 := Aside0.mk m3
    have HG2 := Aside0.mk g2
    have HG3 := Aside0.mk g3
    have HDR := Aside0.mk (drop_rd l3 i hlt)
    have HSY := Aside0.mk (HS.out (rd_T25 l3 i) (rd_mem l3 i hlt))
    have HLY := Aside0.mk (fun hc => HLN.out hc (rd_T25 l3 i) (rd_mem l3 i hlt))
    clear m2 m3 g2 g3
    have p1 : (0 ≤ (i : Int)) = True := eq_true (by omega)
    have p2 : ((i : Int) < (l3.length : Int)) = True := eq_true (by omega)
    have hwn := wrap_next i l3.length hlt hmax
    have HWN := Aside0.mk hwn
    have HIT := Aside0.mk (itemsW_cons free (valW free canon r) i (rd_T25 l3 i) (l3.drop (i + 1)) st2)
    have HWT := Aside0.mk (wtI_cons r (rd_T25 l3 i) (l3.drop (i + 1)))
    have HX5 := Aside0.mk (show Sm canon (itemsW free (valW free canon r) i (rd_T25 l3 i :: l3.drop (i + 1)) st2) (itemsW free (valW free canon r) 0 l3 (putF free st [91])) from drop_rd l3 i hlt ▸ HX3.out)
    have HF5 := Aside0.mk (show ∀ n, Fit free st (wt + n) → Fit free st2 (wtI r (rd_T25 l3 i :: l3.drop (i + 1)) + 1 + n) from drop_rd l3 i hlt ▸ HF3.out)
    have HL3 := Aside0.mk (Nat.le_of_lt HW3.out.lt)
    clear HX3 HF3 HDR HX4
    generalize rd_T25 l3 (i : Int) = y at *
    by_cases hi0 : i = 0
    ·have c0 : decide ((0 : Int) < (i : Int)) = false := decide_eq_false (by omega)
     have c1 : ((0 : Int) < (i : Int)) = False := eq_false (by omega)
     have c2' : (0 < i) = False := eq_false (by omega)
     have c3' : decide (0 < i) = false := decide_eq_false (by omega)
     have HF6 := Aside0.mk (show ∀ n, Fit free st (wt + n) → Fit free st2 (wtJ r y + (wtI r (l3.drop (i + 1)) + 1 + n)) from fun n hn => (HF5.out n hn).less (by rw [HWT.out]; omega))
     have HX6 := Aside0.mk (show Sm canon (itemsW free (valW free canon r) (i + 1) (l3.drop (i + 1)) (valW free canon r y st2)) (itemsW free (valW free canon r) 0 l3 (putF free st [91])) from by have := HX5.out; rw [HIT.out, if_pos hi0] at this; exact this)
     clear HX5 HIT HF5 hi0
     go_wp2_with (go_at_call 33; (with_reducible refine (HI.out Wd st2 sl3 _ y B2 B3 k2 k3 ?w6 ?f6 HSY.out HLY.out ?s62 HM2.out ?s63 HM3.out ?g6).mono ?_); (case w6 => exact HW3.out.below (by repeat (first | exact Below.refl _ _ | apply below_drewN | apply below_drew1 | apply below_alloc))); (case f6 => exact (HF6.out 0 HF.out).less (by omega)); (case s62 => exact Kd.F_below HG2.out (by repeat (first | exact Below.refl _ _ | apply below_drewN | apply below_drew1 | apply below_alloc))); (case s63 => exact Kd.F_below HG3.out (by repeat (first | exact Below.refl _ _ | apply below_drewN | apply below_drew1 | apply below_alloc))); (case g6 => exact (HG.out.on HO3.out).below (by repeat (first | exact Below.refl _ _ | apply below_drewN | apply below_drew1 | apply below_alloc)) HL3.out); rintro e w6 ⟨rfl, st6, sl6, hs, hf, hw, ho⟩; have HS6 := Aside0.mk hs; have HV6 := Aside0.mk hf; have HW6 := Aside0.mk hw; have HO6 := Aside0.mk ho; clear hs hf hw ho)
     go_roundg g
     case measure => omega
     case rel => exact ⟨i + 1, st6, sl6, (by first | exact congrArg (Value.int .i64) HWN.out | exact congrArg (Value.int .i64) (show (i : Int) + 1 = ((i + 1 : Nat) : Int) by omega)), by omega, by omega, HW6, ⟨HO3.out.trans ((WrOn.of_below HL3.out (by repeat (first | exact Below.refl _ _ | apply below_drewN | apply below_drew1 | apply below_alloc))).trans HO6.out)⟩, ⟨fun n hn => HV6.out _ (HF6.out n hn)⟩, ⟨(HS6.out.items free (fun y st h => valW_bad free canon r y st h) _ _).trans HX6.out⟩⟩
    ·have c0 : decide ((0 : Int) < (i : Int)) = true := decide_eq_true (by omega)
     have HF6 := Aside0.mk (show ∀ n, Fit free st (wt + n) → Fit free (putF free st2 [44]) (wtJ r y + (wtI r (l3.drop (i + 1)) + 1 + n)) from fun n hn => (HF5.out n hn).put [44] (by rw [HWT.out, List.length_singleton]; omega))
     have HX6 := Aside0.mk (show Sm canon (itemsW free (valW free canon r) (i + 1) (l3.drop (i + 1)) (valW free canon r y (putF free st2 [44]))) (itemsW free (valW free canon r) 0 l3 (putF free st [91])) from by have := HX5.out; rw [HIT.out, if_neg hi0] at this; exact this)
     have HR5 := Aside0.mk ((HF5.out 0 HF.out).room (m := 1) (by omega) (by omega))
     clear HX5 HIT HF5
     go_wp2_with (first | (go_at_call 52; (with_reducible refine (put_calls Wd free st2 sl3 ⟨#[44]⟩ _ ?rm5 ?wr5).mono ?_); (case rm5 => exact HR5.out); (case wr5 => exact HW3.out.below (by repeat (first | exact Below.refl _ _ | apply below_drewN | apply below_drew1 | apply below_alloc))); rintro e w5 ⟨rfl, sl5, hw, ho⟩; have HW5 := Aside0.mk hw; have HO5 := Aside0.mk ho; clear hw ho; have x0 : w5.cell? ⟨wr.heap.size, 0, none⟩ = some (.int .i64 y.f0) := (blk_cell (HW3.out.newblk (o := .cells #[.int .i64 y.f0, .string y.f1, .slice B2 y.f2.length k2, .slice B3 y.f3.length k3] 25 (0, 0)) (Nat.le_refl _) HO5.out (heap_alloc_new wr _)) 0).trans rfl; have x1 : w5.cell? ⟨wr.heap.size, 1, none⟩ = some (.string y.f1) := (blk_cell (HW3.out.newblk (o := .cells #[.int .i64 y.f0, .string y.f1, .slice B2 y.f2.length k2, .slice B3 y.f3.length k3] 25 (0, 0)) (Nat.le_refl _) HO5.out (heap_alloc_new wr _)) 1).trans rfl; have x2 : w5.cell? ⟨wr.heap.size, 2, none⟩ = some (.slice B2 y.f2.length k2) := (blk_cell (HW3.out.newblk (o := .cells #[.int .i64 y.f0, .string y.f1, .slice B2 y.f2.length k2, .slice B3 y.f3.length k3] 25 (0, 0)) (Nat.le_refl _) HO5.out (heap_alloc_new wr _)) 2).trans rfl; have x3 : w5.cell? ⟨wr.heap.size, 3, none⟩ = some (.slice B3 y.f3.length k3) := (blk_cell (HW3.out.newblk (o := .cells #[.int .i64 y.f0, .string y.f1, .slice B2 y.f2.length k2, .slice B3 y.f3.length k3] 25 (0, 0)) (Nat.le_refl _) HO5.out (heap_alloc_new wr _)) 3).trans rfl) | (go_at_call 33; (with_reducible refine (HI.out Wd (putF free st2 [44]) sl5 _ y B2 B3 k2 k3 ?w6 ?f6 HSY.out HLY.out ?s62 HM2.out ?s63 HM3.out ?g6).mono ?_); (case w6 => exact HW5.out); (case f6 => exact (HF6.out 0 HF.out).less (by omega)); (case s62 => exact F_on (Kd.F_below HG2.out (by repeat (first | exact Below.refl _ _ | apply below_drewN | apply below_drew1 | apply below_alloc))) HO5.out); (case s63 => exact F_on (Kd.F_below HG3.out (by repeat (first | exact Below.refl _ _ | apply below_drewN | apply below_drew1 | apply below_alloc))) HO5.out); (case g6 => exact ((HG.out.on HO3.out).below (by repeat (first | exact Below.refl _ _ | apply below_drewN | apply below_drew1 | apply below_alloc)) HL3.out).on HO5.out); rintro e w6 ⟨rfl, st6, sl6, hs, hf, hw, ho⟩; have HS6 := Aside0.mk hs; have HV6 := Aside0.mk hf; have HW6 := Aside0.mk hw; have HO6 := Aside0.mk ho; clear hs hf hw ho))
     go_roundg g
     case measure => omega
     case rel => exact ⟨i + 1, st6, sl6, (by first | exact congrArg (Value.int .i64) HWN.out | exact congrArg (Value.int .i64) (show (i : Int) + 1 = ((i + 1 : Nat) : Int) by omega)), by omega, by omega, HW6, ⟨HO3.out.trans ((WrOn.of_below HL3.out (by repeat (first | exact Below.refl _ _ | apply below_drewN | apply below_drew1 | apply below_alloc))).trans (HO5.out.trans HO6.out))⟩, ⟨fun n hn => HV6.out _ (HF6.out n hn)⟩, ⟨(HS6.out.items free (fun y st h => valW_bad free canon r y st h) _ _).trans HX6.out⟩⟩
  ·have p2 : ((i : Int) < (l3.length : Int)) = False := eq_false (by omega)
   have hie : l3.drop i = [] := List.drop_eq_nil_of_le (by omega)
   have HX5 := Aside0.mk (show Sm canon st2 (itemsW free (valW free canon r) 0 l3 (putF free st [91])) from by have := HX3.out; rw [hie] at this; exact this)
   have HF5 := Aside0.mk (show ∀ n, Fit free st (wt + n) → Fit free st2 (1 + n) from fun n hn => (HF3.out n hn).less (by omega))
   clear hie HX3 HF3
   go_wp2_with (go_at_call 52; (with_reducible refine (put_calls Wd free st2 sl3 ⟨#[93]⟩ _ ?rm9 ?wr9).mono ?_); (case rm9 => exact (HF5.out 0 HF.out).room (m := 1) (by omega) (by omega)); (case wr9 => exact HW3.out); rintro e w9 ⟨rfl, sl9, hw, ho⟩; have HW9 := Aside0.mk hw; have HO9 := Aside0.mk ho; clear hw ho)
   (try simp only [Exit.inBlock, Exit.then])
   refine ⟨rfl, .tuple #[], results_none rfl _ _ _, ?_⟩
   exact VEnds.of (Below.refl _ _) HL.out (HO3.out.trans HO9.out) HW9.out (HX5.out.put free [93]) (fun n hn => (HF5.out n hn).put [93] (by rw [List.length_singleton]; omega))
end Go.Proofs.YtaalajhmfdcalaaDoor.X
namespace Go.Proofs.YtaalajhmfdcalaaDoor.X
open Go.RowKit Go.Lib Go.Proofs.YtaalajhmfdcalaaDoorW.PrintWords Go.Proofs.YtaalajhmfdcalaaDoorW.PrintLast Go.Proofs.YtaalajhmfdcalaaDoorW.PrintMore
abbrev Sts (s : Int) : Prop := s = 0 ∨ s = 1 ∨ s = 2 ∨ s = 3 ∨ s = 4 ∨ s = 5 ∨ s = 6 ∨ s = 7 ∨ s = 8
def doneZ (s : Int) : Bool := s == 2 || (s == 3 || (s == 5 || s == 8))
def litR : List UInt8 → Int → Bool
 | [], s => doneZ s
 | c :: l, s => if stepZ s c.toNat < 0 then false else litR l (stepZ s c.toNat)
theorem class_of (c : Int) : c = 43 ∨ c = 45 ∨ c = 46 ∨ c = 48 ∨ c = 69 ∨ c = 101 ∨ (48 < c ∧ c ≤ 57) ∨ (c < 48 ∧ c ≠ 43 ∧ c ≠ 45 ∧ c ≠ 46) ∨ (57 < c ∧ c ≠ 69 ∧ c ≠ 101) := by omega
theorem stepZ_range (s c : Int) : stepZ s c = -1 ∨ (1 ≤ stepZ s c ∧ stepZ s c ≤ 8) := by
 unfold stepZ
 (repeat' split) <;> omega
theorem sts_step (s c : Int) (h : ¬ stepZ s c < 0) : Sts (stepZ s c) := by
 have := stepZ_range s c
 omega
theorem drop_at (s : ByteArray) (i : Nat) (h : i < s.size) : ∃ u : UInt8, s.data.toList.drop i = u :: s.data.toList.drop (i + 1) ∧ ∀ h : i < s.size, s[i]'h = u := by
 have hl : i < s.data.toList.length := by rw [size_data]; exact h
 exact ⟨s.data.toList[i], List.drop_eq_getElem_cons hl, fun _ => rfl⟩
theorem done_calls (s : Int) (w : World) (hs : Sts s) : Calls Tryd.prog 72 #[.int .i64 s] w fun e w' => e = .returned (.bool (doneZ s)) ∧ w' = w := by
 rcases hs with rfl | rfl | rfl | rfl | rfl | rfl | rfl | rfl | rfl
 all_goals (
  go_enter Tryd.func72, Tryd.ntmps72
  go_wp2
  go_ret
  exact ⟨rfl, rfl⟩)
set_option maxRecDepth 1000000 in
set_option maxHeartbeats 4000000 in
theorem lit_calls (s : ByteArray) (w : World) (hsz : s.size ≤ 4611686018427387904) : Calls Tryd.prog 59 #[.string s] w fun e w' => e = .returned (.bool (litR s.data.toList 0)) ∧ w' = w := by
 go_enter Tryd.func59, Tryd.ntmps59
 go_wp2
 go_loopg [3, 4] (s.size + 1) (fun g v3 v4 wr => ∃ (i : Nat) (st : Int), v3 = .int .i64 st ∧ v4 = .int .i64 (i : Int) ∧ i ≤ s.size ∧ s.size + 1 ≤ i + g ∧ wr = w ∧ Aside0 (Sts st) ∧ Aside0 (litR s.data.toList 0 = litR (s.data.toList.drop i) st))
 case atStart => exact ⟨0, 0, rfl, rfl, by omega, by omega, rfl, ⟨.inl rfl⟩, ⟨by rw [List.drop_zero]⟩⟩
 case round =>
  obtain ⟨i, st, rfl, rfl, hi, hg, rfl, HST, HL⟩ := hrel
  by_cases hlt : i < s.size
  ·cases gk with
   | zero => omega
   | succ g =>
    have p1 : (0 ≤ (i : Int)) = True := eq_true (by omega)
    have p2 : ((i : Int) < (s.size : Int)) = True := eq_true (by omega)
    obtain ⟨u, hu, hx⟩ := drop_at s i hlt
    have hwn := wrap_next i s.size hlt (by omega)
    have HWN := Aside0.mk hwn
    clear hwn
    have HCL := Aside0.mk (class_of (u.toNat : Int))
    have HD := Aside0.mk hu
    clear hu
    by_cases hn : stepZ st (u.toNat : Int) < 0
    ·have hn1 : decide (stepZ st (u.toNat : Int) < 0) = true := decide_eq_true hn
     have HF := Aside0.mk (show litR s.data.toList 0 = false by rw [HL.out, HD.out, litR, if_pos hn])
     go_wp2_with (go_at_call 71; (with_reducible refine (step_calls st (u.toNat : Int) _ HST.out HCL.out).mono ?_); rintro e w1 ⟨rfl, rfl⟩)
     go_ret
     exact ⟨by rw [HF.out]; rfl, rfl⟩
    ·have hn1 : decide (stepZ st (u.toNat : Int) < 0) = false := decide_eq_false hn
     have HF := Aside0.mk (show litR s.data.toList 0 = litR (s.data.toList.drop (i + 1)) (stepZ st (u.toNat : Int)) by rw [HL.out, HD.out, litR, if_neg hn])
     have HS2 := Aside0.mk (sts_step _ _ hn)
     go_wp2_with (go_at_call 71; (with_reducible refine (step_calls st (u.toNat : Int) _ HST.out HCL.out).mono ?_); rintro e w1 ⟨rfl, rfl⟩)
     go_roundg g
     case measure => omega
     case rel => exact ⟨i + 1, _, rfl, (by first | exact congrArg (Value.int .i64) HWN.out | exact congrArg (Value.int .i64) (show (i : Int) + 1 = ((i + 1 : Nat) : Int) by omega)), by omega, by omega, rfl, HS2, HF⟩
  ·have p2 : ((i : Int) < (s.size : Int)) = False := eq_false (by omega)
   have HF := Aside0.mk (show litR s.data.toList 0 = doneZ st by rw [HL.out, List.drop_eq_nil_of_le (by rw [size_data]; omega), litR])
   go_wp2_with (go_at_call 72; (with_reducible refine (done_calls st _ HST.out).mono ?_); rintro e w1 ⟨rfl, rfl⟩)
   go_ret
   exact ⟨by rw [HF.out]; rfl, rfl⟩
end Go.Proofs.YtaalajhmfdcalaaDoor.X
namespace Go.Proofs.YtaalajhmfdcalaaDoor.X
open Go.RowKit Go.Lib Go.Proofs.YtaalajhmfdcalaaDoorW.PrintWords Go.Proofs.YtaalajhmfdcalaaDoorW.PrintLast Go.Proofs.YtaalajhmfdcalaaDoorW.PrintMore
def contZ : Nat → List UInt8 → Int → Int → Int → Int
 | 0, _, _, _, n => n
 | _ + 1, [], _, _, _ => -1
 | k + 1, x :: r, lo, hi, n => if (x.toNat : Int) < lo ∨ hi < (x.toNat : Int) then 0 else contZ k r 128 191 n
def cntZ (c : Int) : Nat := if c < 128 then 1 else if 194 ≤ c ∧ c ≤ 223 then 2 else if 224 ≤ c ∧ c ≤ 239 then 3 else if 240 ≤ c ∧ c ≤ 244 then 4 else 0
def loZ (c : Int) : Int := if c = 224 then 160 else if c = 240 then 144 else 128
def hiZ (c : Int) : Int := if c = 237 then 159 else if c = 244 then 143 else 191
def charZ : List UInt8 → Int
 | [] => 0
 | c :: r => if cntZ c.toNat ≤ 1 then cntZ c.toNat else contZ (cntZ c.toNat - 1) r (loZ c.toNat) (hiZ c.toNat) (cntZ c.toNat)
theorem wrap_byte (x : Int) (h0 : 0 ≤ x) (h1 : x ≤ 255) : wrap64 x = x := by unfold wrap64; omega
theorem wrap_sum (p k n : Nat) (h : p < n) (hn : n ≤ 4611686018427387904) (hk : k ≤ 4) : wrap64 ((p : Int) + (k : Int)) = ((p + k : Nat) : Int) := by unfold wrap64; omega
set_option maxRecDepth 1000000 in
set_option maxHeartbeats 8000000 in
theorem char_calls (s : ByteArray) (p : Nat) (w : World) (hsz : s.size ≤ 4611686018427387904) (hp : p < s.size) : Calls Tryd.prog 60 #[.string s, .int .i64 (p : Int)] w fun e w' => e = .returned (.int .i64 (charZ (s.data.toList.drop p))) ∧ w' = w := by
 obtain ⟨u, e1, hx⟩ := drop_at s p hp
 rw [e1]
 have p1 : (0 ≤ (p : Int)) = True := eq_true (by omega)
 have p2 : ((p : Int) < (s.size : Int)) = True := eq_true (by omega)
 have hu := u.toNat_lt
 clear e1
 obtain ⟨c, hc⟩ : ∃ c : Int, c = (u.toNat : Int) := ⟨_, rfl⟩
 have hb : 0 ≤ c ∧ c ≤ 255 := by omega
 have hcu := hc.symm
 have hwb := wrap_byte _ hb.1 hb.2
 have HV := Aside0.mk (show charZ (u :: s.data.toList.drop (p + 1)) = if cntZ c ≤ 1 then (cntZ c : Int) else contZ (cntZ c - 1) (s.data.toList.drop (p + 1)) (loZ c) (hiZ c) (cntZ c) by rw [charZ, ← hc])
 clear hc hu
 have HB := Aside0.mk hb
 clear hb
 generalize charZ (u :: s.data.toList.drop (p + 1)) = res at *
 go_enter Tryd.func60, Tryd.ntmps60
 go_upto_block 0 with (fail)
 go_cut [6] (fun v6 wc => v6 = .int .i64 (cntZ c : Int) ∧ Aside0 (2 ≤ cntZ c) ∧ w = wc)
 case first =>
  rcases (by have := HB.out; omega : c < 128 ∨ (128 ≤ c ∧ c < 194) ∨ 244 < c ∨ (194 ≤ c ∧ c ≤ 223) ∨ (224 ≤ c ∧ c ≤ 239) ∨ (240 ≤ c ∧ c ≤ 244)) with h | h | h | h | h | h
  ·have HN := Aside0.mk (show cntZ c = 1 by unfold cntZ; repeat (first | rw [if_pos (by omega)] | rw [if_neg (by omega)]))
   have a0 : decide (c < 128) = true := decide_eq_true (by omega)
   have a1 : decide (194 ≤ c) = false := decide_eq_false (by omega)
   have a2 : decide (c ≤ 223) = true := decide_eq_true (by omega)
   have a3 : decide (224 ≤ c) = false := decide_eq_false (by omega)
   have a4 : decide (c ≤ 239) = true := decide_eq_true (by omega)
   have a5 : decide (240 ≤ c) = false := decide_eq_false (by omega)
   have a6 : decide (c ≤ 244) = true := decide_eq_true (by omega)
   have HV2 := Aside0.mk HV.out
   clear h
   go_wp2
   go_ret
   exact ⟨by rw [HV.out, if_pos (by rw [HN.out]; decide), HN.out]; rfl, rfl⟩
  ·have HN := Aside0.mk (show cntZ c = 0 by unfold cntZ; repeat (first | rw [if_pos (by omega)] | rw [if_neg (by omega)]))
   have a0 : decide (c < 128) = false := decide_eq_false (by omega)
   have a1 : decide (194 ≤ c) = false := decide_eq_false (by omega)
   have a2 : decide (c ≤ 223) = true := decide_eq_true (by omega)
   have a3 : decide (224 ≤ c) = false := decide_eq_false (by omega)
   have a4 : decide (c ≤ 239) = true := decide_eq_true (by omega)
   have a5 : decide (240 ≤ c) = false := decide_eq_false (by omega)
   have a6 : decide (c ≤ 244) = true := decide_eq_true (by omega)
   have HV2 := Aside0.mk HV.out
   clear h
   go_wp2
   go_ret
   exact ⟨by rw [HV.out, if_pos (by rw [HN.out]; decide), HN.out]; rfl, rfl⟩
  ·have HN := Aside0.mk (show cntZ c = 0 by unfold cntZ; repeat (first | rw [if_pos (by omega)] | rw [if_neg (by omega)]))
   have a0 : decide (c < 128) = false := decide_eq_false (by omega)
   have a1 : decide (194 ≤ c) = true := decide_eq_true (by omega)
   have a2 : decide (c ≤ 223) = false := decide_eq_false (by omega)
   have a3 : decide (224 ≤ c) = true := decide_eq_true (by omega)
   have a4 : decide (c ≤ 239) = false := decide_eq_false (by omega)
   have a5 : decide (240 ≤ c) = true := decide_eq_true (by omega)
   have a6 : decide (c ≤ 244) = false := decide_eq_false (by omega)
   have HV2 := Aside0.mk HV.out
   clear h
   go_wp2
   go_ret
   exact ⟨by rw [HV.out, if_pos (by rw [HN.out]; decide), HN.out]; rfl, rfl⟩
  ·have HN := Aside0.mk (show cntZ c = 2 by unfold cntZ; repeat (first | rw [if_pos (by omega)] | rw [if_neg (by omega)]))
   have a0 : decide (c < 128) = false := decide_eq_false (by omega)
   have a1 : decide (194 ≤ c) = true := decide_eq_true (by omega)
   have a2 : decide (c ≤ 223) = true := decide_eq_true (by omega)
   have a3 : decide (224 ≤ c) = false := decide_eq_false (by omega)
   have a4 : decide (c ≤ 239) = true := decide_eq_true (by omega)
   have a5 : decide (240 ≤ c) = false := decide_eq_false (by omega)
   have a6 : decide (c ≤ 244) = true := decide_eq_true (by omega)
   have HV2 := Aside0.mk HV.out
   clear h
   go_wp2
   go_meet
   case rel => exact ⟨by rw [HN.out]; rfl, ⟨by rw [HN.out]; decide⟩, rfl⟩
  ·have HN := Aside0.mk (show cntZ c = 3 by unfold cntZ; repeat (first | rw [if_pos (by omega)] | rw [if_neg (by omega)]))
   have a0 : decide (c < 128) = false := decide_eq_false (by omega)
   have a1 : decide (194 ≤ c) = true := decide_eq_true (by omega)
   have a2 : decide (c ≤ 223) = false := decide_eq_false (by omega)
   have a3 : decide (224 ≤ c) = true := decide_eq_true (by omega)
   have a4 : decide (c ≤ 239) = true := decide_eq_true (by omega)
   have a5 : decide (240 ≤ c) = false := decide_eq_false (by omega)
   have a6 : decide (c ≤ 244) = true := decide_eq_true (by omega)
   have HV2 := Aside0.mk HV.out
   clear h
   go_wp2
   go_meet
   case rel => exact ⟨by rw [HN.out]; rfl, ⟨by rw [HN.out]; decide⟩, rfl⟩
  ·have HN := Aside0.mk (show cntZ c = 4 by unfold cntZ; repeat (first | rw [if_pos (by omega)] | rw [if_neg (by omega)]))
   have a0 : decide (c < 128) = false := decide_eq_false (by omega)
   have a1 : decide (194 ≤ c) = true := decide_eq_true (by omega)
   have a2 : decide (c ≤ 223) = false := decide_eq_false (by omega)
   have a3 : decide (224 ≤ c) = true := decide_eq_true (by omega)
   have a4 : decide (c ≤ 239) = false := decide_eq_false (by omega)
   have a5 : decide (240 ≤ c) = true := decide_eq_true (by omega)
   have a6 : decide (c ≤ 244) = true := decide_eq_true (by omega)
   have HV2 := Aside0.mk HV.out
   clear h
   go_wp2
   go_meet
   case rel => exact ⟨by rw [HN.out]; rfl, ⟨by rw [HN.out]; decide⟩, rfl⟩
 case rest =>
  obtain ⟨rfl, HN, rfl⟩ := hcut
  go_upto_block 1 with (fail)
  go_cut [7, 8] (fun v7 v8 wc => v7 = .int .i64 (loZ c) ∧ v8 = .int .i64 (hiZ c) ∧ w = wc)
  case first =>
   rcases (by omega : c = 224 ∨ c = 237 ∨ c = 240 ∨ c = 244 ∨ (c ≠ 224 ∧ c ≠ 237 ∧ c ≠ 240 ∧ c ≠ 244)) with h | h | h | h | h
   ·have HLO := Aside0.mk (show loZ c = 160 by unfold loZ; repeat (first | rw [if_pos (by omega)] | rw [if_neg (by omega)]))
    have HHI := Aside0.mk (show hiZ c = 191 by unfold hiZ; repeat (first | rw [if_pos (by omega)] | rw [if_neg (by omega)]))
    have b224 : (c == 224) = true := beq_iff_eq.mpr h
    have b237 : (c == 237) = false := beq_eq_false_iff_ne.mpr (by omega)
    have b240 : (c == 240) = false := beq_eq_false_iff_ne.mpr (by omega)
    have b244 : (c == 244) = false := beq_eq_false_iff_ne.mpr (by omega)
    clear h
    go_wp2
    go_meet
    case rel => exact ⟨by rw [HLO.out], by rw [HHI.out], rfl⟩
   ·have HLO := Aside0.mk (show loZ c = 128 by unfold loZ; repeat (first | rw [if_pos (by omega)] | rw [if_neg (by omega)]))
    have HHI := Aside0.mk (show hiZ c = 159 by unfold hiZ; repeat (first | rw [if_pos (by omega)] | rw [if_neg (by omega)]))
    have b224 : (c == 224) = false := beq_eq_false_iff_ne.mpr (by omega)
    have b237 : (c == 237) = true := beq_iff_eq.mpr h
    have b240 : (c == 240) = false := beq_eq_false_iff_ne.mpr (by omega)
    have b244 : (c == 244) = false := beq_eq_false_iff_ne.mpr (by omega)
    clear h
    go_wp2
    go_meet
    case rel => exact ⟨by rw [HLO.out], by rw [HHI.out], rfl⟩
   ·have HLO := Aside0.mk (show loZ c = 144 by unfold loZ; repeat (first | rw [if_pos (by omega)] | rw [if_neg (by omega)]))
    have HHI := Aside0.mk (show hiZ c = 191 by unfold hiZ; repeat (first | rw [if_pos (by omega)] | rw [if_neg (by omega)]))
    have b224 : (c == 224) = false := beq_eq_false_iff_ne.mpr (by omega)
    have b237 : (c == 237) = false := beq_eq_false_iff_ne.mpr (by omega)
    have b240 : (c == 240) = true := beq_iff_eq.mpr h
    have b244 : (c == 244) = false := beq_eq_false_iff_ne.mpr (by omega)
    clear h
    go_wp2
    go_meet
    case rel => exact ⟨by rw [HLO.out], by rw [HHI.out], rfl⟩
   ·have HLO := Aside0.mk (show loZ c = 128 by unfold loZ; repeat (first | rw [if_pos (by omega)] | rw [if_neg (by omega)]))
    have HHI := Aside0.mk (show hiZ c = 143 by unfold hiZ; repeat (first | rw [if_pos (by omega)] | rw [if_neg (by omega)]))
    have b224 : (c == 224) = false := beq_eq_false_iff_ne.mpr (by omega)
    have b237 : (c == 237) = false := beq_eq_false_iff_ne.mpr (by omega)
    have b240 : (c == 240) = false := beq_eq_false_iff_ne.mpr (by omega)
    have b244 : (c == 244) = true := beq_iff_eq.mpr h
    clear h
    go_wp2
    go_meet
    case rel => exact ⟨by rw [HLO.out], by rw [HHI.out], rfl⟩
   ·have HLO := Aside0.mk (show loZ c = 128 by unfold loZ; repeat (first | rw [if_pos (by omega)] | rw [if_neg (by omega)]))
    have HHI := Aside0.mk (show hiZ c = 191 by unfold hiZ; repeat (first | rw [if_pos (by omega)] | rw [if_neg (by omega)]))
    have b224 : (c == 224) = false := beq_eq_false_iff_ne.mpr (by omega)
    have b237 : (c == 237) = false := beq_eq_false_iff_ne.mpr (by omega)
    have b240 : (c == 240) = false := beq_eq_false_iff_ne.mpr (by omega)
    have b244 : (c == 244) = false := beq_eq_false_iff_ne.mpr (by omega)
    clear h
    go_wp2
    go_meet
    case rel => exact ⟨by rw [HLO.out], by rw [HHI.out], rfl⟩
  case rest =>
   obtain ⟨rfl, rfl, rfl⟩ := hcut
   clear hcu p1 p2 hx hwb
   have HRES := Aside0.mk (show res = contZ (cntZ c - 1) (s.data.toList.drop (p + 1)) (loZ c) (hiZ c) (cntZ c) by have := HV.out; rw [if_neg (by have := HN.out; omega)] at this; exact this)
   clear HV
   have hn4 : cntZ c ≤ 4 := by unfold cntZ; (repeat' split) <;> omega
   have hn2 := HN.out
   generalize cntZ c = n at *
   generalize loZ c = lo0 at *
   generalize hiZ c = hi0 at *
   go_wp2
   go_loopg [7, 8, 9] (n + 1) (fun g v7 v8 v9 wr => ∃ (k : Nat) (lo hi : Int), v7 = .int .i64 lo ∧ v8 = .int .i64 hi ∧ v9 = .int .i64 (k : Int) ∧ 1 ≤ k ∧ k ≤ n ∧ n + 1 ≤ k + g ∧ w = wr ∧ Aside0 (res = contZ (n - k) (s.data.toList.drop (p + k)) lo hi n))
   case atStart => exact ⟨1, _, _, rfl, rfl, rfl, by omega, by omega, by omega, rfl, HRES⟩
   case round =>
    obtain ⟨k, lo, hi, rfl, rfl, rfl, hk1, hk, hg, rfl, HR⟩ := hrel
    clear HRES
    by_cases hlt : k < n
    ·cases gk with
     | zero => omega
     | succ g =>
      have q0 : ((k : Int) < (n : Int)) = True := eq_true (by omega)
      have hws := wrap_sum p k s.size hp hsz (by omega)
      have hwk : wrap64 ((k : Int) + 1) = ((k + 1 : Nat) : Int) := by unfold wrap64; omega
      have HWK := Aside0.mk hwk
      clear hwk
      have HC1 := Aside0.mk (show n - k = (n - (k + 1)) + 1 by omega)
      by_cases hps : p + k < s.size
      ·obtain ⟨x, hxu, hx⟩ := drop_at s (p + k) hps
       have q1 : ((s.size : Int) ≤ ((p + k : Nat) : Int)) = False := eq_false (by omega)
       have q2 : (0 ≤ ((p + k : Nat) : Int)) = True := eq_true (by omega)
       have q3 : (((p + k : Nat) : Int) < (s.size : Int)) = True := eq_true (by omega)
       have hxr := x.toNat_lt
       have hwx := wrap_byte (x.toNat : Int) (by omega) (by omega)
       have HX := Aside0.mk (show res = if (x.toNat : Int) < lo ∨ hi < (x.toNat : Int) then 0 else contZ (n - (k + 1)) (s.data.toList.drop (p + (k + 1))) 128 191 n by rw [HR.out, HC1.out, hxu, contZ]; rfl)
       clear hxu hxr
       by_cases c1 : (x.toNat : Int) < lo
       ·have d1 : decide ((x.toNat : Int) < lo) = true := decide_eq_true c1
        have HF := Aside0.mk (show res = 0 by rw [HX.out, if_pos (.inl c1)])
        go_wp2
        go_ret
        exact ⟨by rw [HF.out]; rfl, rfl⟩
       ·have d1 : decide ((x.toNat : Int) < lo) = false := decide_eq_false c1
        by_cases c2 : hi < (x.toNat : Int)
        ·have d2 : decide (hi < (x.toNat : Int)) = true := decide_eq_true c2
         have HF := Aside0.mk (show res = 0 by rw [HX.out, if_pos (.inr c2)])
         go_wp2
         go_ret
         exact ⟨by rw [HF.out]; rfl, rfl⟩
        ·have d2 : decide (hi < (x.toNat : Int)) = false := decide_eq_false c2
         have HF := Aside0.mk (show res = contZ (n - (k + 1)) (s.data.toList.drop (p + (k + 1))) 128 191 n by rw [HX.out, if_neg (fun h => h.elim c1 c2)])
         go_wp2
         go_roundg g
         case measure => omega
         case rel => exact ⟨k + 1, 128, 191, rfl, rfl, (by first | exact congrArg (Value.int .i64) HWK.out | exact congrArg (Value.int .i64) (show (k : Int) + 1 = ((k + 1 : Nat) : Int) by omega)), by omega, by omega, by omega, rfl, HF⟩
      ·have q1 : ((s.size : Int) ≤ ((p + k : Nat) : Int)) = True := eq_true (by omega)
       have HF := Aside0.mk (show res = -1 by rw [HR.out, HC1.out, List.drop_eq_nil_of_le (by rw [size_data]; omega), contZ])
       go_wp2
       go_ret
       exact ⟨by rw [HF.out]; rfl, rfl⟩
    ·have q0 : ((k : Int) < (n : Int)) = False := eq_false (by omega)
     obtain rfl : k = n := by omega
     have HF := Aside0.mk (show res = (k : Int) by rw [HR.out, Nat.sub_self, contZ])
     go_wp2
     go_ret
     exact ⟨by rw [HF.out]; rfl, rfl⟩
end Go.Proofs.YtaalajhmfdcalaaDoor.X
namespace Go.Proofs.YtaalajhmfdcalaaDoor.X
open Go.RowKit Go.Lib Go.Proofs.YtaalajhmfdcalaaDoorW.PrintWords Go.Proofs.YtaalajhmfdcalaaDoorW.PrintLast Go.Proofs.YtaalajhmfdcalaaDoorW.PrintMore
theorem tab_of : ∀ c : Fin 256, 128 ≤ c.val → (2 ≤ cntZ c.val → firstT c.val % 8 = cntZ c.val ∧ (accLo (firstT c.val / 16) : Int) = loZ c.val ∧ (accHi (firstT c.val / 16) : Int) = hiZ c.val) ∧ (cntZ c.val < 2 → cntZ c.val = 0 ∧ ¬ (firstT c.val % 8 = 2 ∨ firstT c.val % 8 = 3 ∨ firstT c.val % 8 = 4)) := by decide +kernel
theorem cont_cons (k : Nat) (x : UInt8) (r : List UInt8) (lo hi n : Int) : contZ (k + 1) (x :: r) lo hi n = if (x.toNat : Int) < lo ∨ hi < (x.toNat : Int) then 0 else contZ k r 128 191 n := rfl
theorem cont_zero (l : List UInt8) (lo hi n : Int) : contZ 0 l lo hi n = n := by cases l <;> rfl
theorem cont_check (r : List UInt8) (lo hi sz : Nat) (hsz : sz = 2 ∨ sz = 3 ∨ sz = 4) :
  (checkN (r.length + 1) (r.getD 0 0).toNat (r.getD 1 0).toNat (r.getD 2 0).toNat sz lo hi = none ∧ contZ (sz - 1) r lo hi sz < 1) ∨ (checkN (r.length + 1) (r.getD 0 0).toNat (r.getD 1 0).toNat (r.getD 2 0).toNat sz lo hi = some sz ∧ contZ (sz - 1) r lo hi sz = sz ∧ sz ≤ r.length + 1) := by
 rcases hsz with rfl | rfl | rfl
 ·cases r with
  | nil => left; simp [checkN, contZ]
  | cons x r =>
   simp only [checkN, contZ, List.getD_cons_zero, List.length_cons, show (2 : Nat) - 1 = 1 from rfl, if_true]
   by_cases h : x.toNat < lo ∨ hi < x.toNat
   ·left; rw [if_pos (by omega), if_pos (by omega)]; exact ⟨rfl, by decide⟩
   ·right; rw [if_neg (by omega), if_neg (by omega)]; exact ⟨rfl, rfl, by omega⟩
 ·cases r with
  | nil => left; simp [checkN, contZ]
  | cons x r =>
   cases r with
   | nil =>
    left
    refine ⟨by unfold checkN; rw [if_neg (by decide), if_pos rfl, if_pos (.inl (by simp))], ?_⟩
    show (if (x.toNat : Int) < lo ∨ hi < (x.toNat : Int) then (0 : Int) else -1) < 1
    split <;> decide
   | cons y r =>
    unfold checkN
    simp only [List.getD_cons_zero, List.getD_cons_succ, List.length_cons]
    rw [show (3 : Nat) - 1 = 0 + 1 + 1 from rfl, cont_cons, cont_cons, cont_zero]
    by_cases h : x.toNat < lo ∨ hi < x.toNat
    ·left; rw [if_neg (by decide), if_pos (by decide), if_pos (by omega), if_pos (by omega)]; exact ⟨rfl, by decide⟩
    ·by_cases h2 : y.toNat < 128 ∨ 191 < y.toNat
     ·left; rw [if_neg (by decide), if_pos (by decide), if_pos (by omega), if_neg (by omega), if_pos (by omega)]; exact ⟨rfl, by decide⟩
     ·right; rw [if_neg (by decide), if_pos (by decide), if_neg (by omega), if_neg (by omega), if_neg (by omega)]; exact ⟨rfl, rfl, by omega⟩
 ·cases r with
  | nil => left; simp [checkN, contZ]
  | cons x r =>
   cases r with
   | nil =>
    left
    refine ⟨by unfold checkN; rw [if_neg (by decide), if_neg (by decide), if_pos rfl, if_pos (.inl (by simp))], ?_⟩
    show (if (x.toNat : Int) < lo ∨ hi < (x.toNat : Int) then (0 : Int) else -1) < 1
    split <;> decide
   | cons y r =>
    cases r with
    | nil =>
     left
     refine ⟨by unfold checkN; rw [if_neg (by decide), if_neg (by decide), if_pos rfl, if_pos (.inl (by simp))], ?_⟩
     show (if (x.toNat : Int) < lo ∨ hi < (x.toNat : Int) then (0 : Int) else if (y.toNat : Int) < 128 ∨ 191 < (y.toNat : Int) then 0 else -1) < 1
     (repeat' split) <;> decide
    | cons z r =>
     unfold checkN
     simp only [List.getD_cons_zero, List.getD_cons_succ, List.length_cons]
     rw [show (4 : Nat) - 1 = 0 + 1 + 1 + 1 from rfl, cont_cons, cont_cons, cont_cons, cont_zero]
     by_cases h : x.toNat < lo ∨ hi < x.toNat
     ·left; rw [if_neg (by decide), if_neg (by decide), if_pos (by decide), if_pos (by omega), if_pos (by omega)]; exact ⟨rfl, by decide⟩
     ·by_cases h2 : y.toNat < 128 ∨ 191 < y.toNat
      ·left; rw [if_neg (by decide), if_neg (by decide), if_pos (by decide), if_pos (by omega), if_neg (by omega), if_pos (by omega)]; exact ⟨rfl, by decide⟩
      ·by_cases h3 : z.toNat < 128 ∨ 191 < z.toNat
       ·left; rw [if_neg (by decide), if_neg (by decide), if_pos (by decide), if_pos (by omega), if_neg (by omega), if_neg (by omega), if_pos (by omega)]; exact ⟨rfl, by decide⟩
       ·right; rw [if_neg (by decide), if_neg (by decide), if_pos (by decide), if_neg (by omega), if_neg (by omega), if_neg (by omega), if_neg (by omega)]; exact ⟨rfl, rfl, by omega⟩
theorem char_valid (l : List UInt8) (hne : l ≠ []) : (charZ l < 1 ∧ validD l = false) ∨ ∃ n : Nat, charZ l = n ∧ 1 ≤ n ∧ n ≤ l.length ∧ validD l = validD (l.drop n) := by
 cases l with
 | nil => exact absurd rfl hne
 | cons c r =>
  have hc := c.toNat_lt
  by_cases h : c.toNat < 128
  ·right
   refine ⟨1, ?_, by omega, by simp, by rw [validD_cons c r h]; rfl⟩
   have : cntZ c.toNat = 1 := by unfold cntZ; rw [if_pos (by omega)]
   rw [charZ, this]; rfl
  ·obtain ⟨t1, t2⟩ := tab_of ⟨c.toNat, hc⟩ (by show 128 ≤ c.toNat; omega)
   simp only at t1 t2
   have hv := validD_lead (c :: r) hne (by rw [List.getD_cons_zero]; omega)
   rw [List.getD_cons_zero, List.getD_cons_succ, List.getD_cons_succ, List.getD_cons_succ, List.length_cons] at hv
   by_cases h2 : 2 ≤ cntZ c.toNat
   ·obtain ⟨e1, e2, e3⟩ := t1 h2
    have h4 : cntZ c.toNat ≤ 4 := by unfold cntZ; (repeat' split) <;> omega
    have hz : charZ (c :: r) = contZ (cntZ c.toNat - 1) r (loZ c.toNat) (hiZ c.toNat) (cntZ c.toNat) := by rw [charZ, if_neg (by omega)]
    rw [e1] at hv
    rw [hz, ← e2, ← e3]
    rcases cont_check r (accLo (firstT c.toNat / 16)) (accHi (firstT c.toNat / 16)) (cntZ c.toNat) (by omega) with ⟨g1, g2⟩ | ⟨g1, g2, g3⟩
    ·left; rw [g1] at hv; exact ⟨g2, hv⟩
    ·right; rw [g1] at hv; exact ⟨_, g2, by omega, by rw [List.length_cons]; exact g3, hv⟩
   ·obtain ⟨e1, e2⟩ := t2 (by omega)
    left
    refine ⟨by rw [charZ, e1, if_pos (by decide)]; decide, ?_⟩
    rw [hv]
    have : checkN (r.length + 1) (r.getD 0 0).toNat (r.getD 1 0).toNat (r.getD 2 0).toNat (firstT c.toNat % 8) (accLo (firstT c.toNat / 16)) (accHi (firstT c.toNat / 16)) = none := by
     unfold checkN
     rw [if_neg (fun h => e2 (.inl h)), if_neg (fun h => e2 (.inr (.inl h))), if_neg (fun h => e2 (.inr (.inr h)))]
    rw [this]
set_option maxRecDepth 1000000 in
set_option maxHeartbeats 4000000 in
theorem clean_calls (s : ByteArray) (w : World) (hsz : s.size ≤ 4611686018427387904) : Calls Tryd.prog 38 #[.string s] w fun e w' => e = .returned (.bool (validD s.data.toList)) ∧ w' = w := by
 go_enter Tryd.func38, Tryd.ntmps38
 go_wp2
 go_loopg [3] (s.size + 1) (fun g v3 wr => ∃ p : Nat, v3 = .int .i64 (p : Int) ∧ p ≤ s.size ∧ s.size + 1 ≤ p + g ∧ w = wr ∧ Aside0 (validD s.data.toList = validD (s.data.toList.drop p)))
 case atStart => exact ⟨0, rfl, by omega, by omega, rfl, ⟨by rw [List.drop_zero]⟩⟩
 case round =>
  obtain ⟨p, rfl, hp, hg, rfl, HL⟩ := hrel
  by_cases hlt : p < s.size
  ·cases gk with
   | zero => omega
   | succ g =>
    have p2 : ((p : Int) < (s.size : Int)) = True := eq_true (by omega)
    have hne : s.data.toList.drop p ≠ [] := fun h0 => by
     have := congrArg List.length h0
     rw [List.length_drop, size_data, List.length_nil] at this
     omega
    rcases char_valid _ hne with ⟨h1, h2⟩ | ⟨n, h1, h2, h3, h4⟩
    ·have d1 : decide (charZ (s.data.toList.drop p) < 1) = true := decide_eq_true h1
     have HF := Aside0.mk (show validD s.data.toList = false by rw [HL.out, h2])
     clear hne h1 h2
     go_wp2_with (go_at_call 60; (with_reducible refine (char_calls s p _ hsz hlt).mono ?_); rintro e w1 ⟨rfl, rfl⟩)
     go_ret
     exact ⟨by rw [HF.out]; rfl, rfl⟩
    ·have d1 : decide ((n : Int) < 1) = false := decide_eq_false (by omega)
     have HN := Aside0.mk h1
     have HF := Aside0.mk (show validD s.data.toList = validD (s.data.toList.drop (p + n)) by rw [HL.out, h4, List.drop_drop])
     have h5 : p + n ≤ s.size := by rw [List.length_drop, size_data] at h3; omega
     have hws : wrap64 ((p : Int) + (n : Int)) = ((p + n : Nat) : Int) := by unfold wrap64; omega
     have HWS := Aside0.mk hws
     clear hne h1 h3 h4 hws
     go_wp2_with (go_at_call 60; (with_reducible refine (char_calls s p _ hsz hlt).mono ?_); rintro e w1 ⟨rfl, rfl⟩; rw [HN.out])
     go_roundg g
     case measure => omega
     case rel => exact ⟨p + n, (by first | exact congrArg (Value.int .i64) HWS.out | exact congrArg (Value.int .i64) (show (p : Int) + (n : Int) = ((p + n : Nat) : Int) by omega)), by omega, by omega, rfl, HF⟩
  ·have p2 : ((p : Int) < (s.size : Int)) = False := eq_false (by omega)
   have HF := Aside0.mk (show validD s.data.toList = true by rw [HL.out, List.drop_eq_nil_of_le (by rw [size_data]; omega)]; rfl)
   go_wp2
   go_ret
   exact ⟨by rw [HF.out]; rfl, rfl⟩
end Go.Proofs.YtaalajhmfdcalaaDoor.X
namespace Go.Proofs.YtaalajhmfdcalaaDoor.X
open Go.RowKit Go.Lib Go.Proofs.YtaalajhmfdcalaaDoorW.PrintWords
theorem textF_step1 (s : List UInt8) : ∀ (k : Nat) (out : List UInt8) (p : Nat) (o : Out (List UInt8)), textF s k out p = some o → textF s (k + 1) out p = some o
 | 0, out, p, o, h => by simp [textF] at h
 | k + 1, out, p, o, h => by
  cases hc : s[p]? with
  | none => rw [textF_short _ _ _ _ hc] at h ⊢; exact h
  | some c =>
   by_cases h34 : c = 34
   ·rw [textF_end _ _ _ _ _ hc h34] at h ⊢; exact h
   ·by_cases h32 : c.toNat < 32
    ·rw [textF_low _ _ _ _ _ hc h32] at h ⊢; exact h
    ·by_cases h92 : c = 92
     ·rw [textF_esc _ _ _ _ _ hc h92] at h ⊢
      cases hes : escF s p with
      | err e q1 => rw [hes] at h; exact h
      | val r q1 => rw [hes] at h; exact textF_step1 s k _ _ _ h
     ·by_cases h128 : c.toNat < 128
      ·rw [textF_ascii _ _ _ _ _ hc h34 h32 h92 h128] at h ⊢
       exact textF_step1 s k _ _ _ h
      ·rw [textF_rune _ _ _ _ _ hc h128] at h ⊢
       split at h
       ·rename_i hd; rw [if_pos hd]; exact h
       ·rename_i hd; rw [if_neg hd]; exact textF_step1 s k _ _ _ h
theorem textF_mono (s : List UInt8) {k k' : Nat} (hk : k ≤ k') (out : List UInt8) (p : Nat) (o : Out (List UInt8)) (h : textF s k out p = some o) : textF s k' out p = some o := by
 obtain ⟨d, rfl⟩ := Nat.le.dest hk
 induction d with
 | zero => exact h
 | succ d ih => exact textF_step1 s (k + d) _ _ _ (ih (by omega))
theorem textF_total (s : List UInt8) : ∀ (k : Nat) (out : List UInt8) (p : Nat), p ≤ s.length → s.length < p + k → ∃ o, textF s k out p = some o
 | 0, out, p, h1, h2 => by omega
 | k + 1, out, p, h1, h2 => by
  cases hc : s[p]? with
  | none => exact ⟨_, textF_short _ _ _ _ hc⟩
  | some c =>
   have hlt := (List.getElem?_eq_some_iff.1 hc).1
   by_cases h34 : c = 34
   ·exact ⟨_, textF_end _ _ _ _ _ hc h34⟩
   ·by_cases h32 : c.toNat < 32
    ·exact ⟨_, textF_low _ _ _ _ _ hc h32⟩
    ·by_cases h92 : c = 92
     ·rw [textF_esc _ _ _ _ _ hc h92]
      cases hes : escF s p with
      | err e q1 => exact ⟨_, rfl⟩
      | val r q1 =>
       obtain ⟨g1, g2, _⟩ := escF_val _ _ _ _ hes
       exact textF_total s k _ _ g2 (by omega)
     ·by_cases h128 : c.toNat < 128
      ·rw [textF_ascii _ _ _ _ _ hc h34 h32 h92 h128]
       exact textF_total s k _ _ (by omega) (by omega)
      ·rw [textF_rune _ _ _ _ _ hc h128]
       have hw := dec_width ⟨(s.drop p).toArray⟩ (by show 0 < (s.drop p).toArray.size; simp; omega)
       have hsz : (ByteArray.mk (s.drop p).toArray).size = s.length - p := by show (s.drop p).toArray.size = _; simp
       split
       ·split <;> exact ⟨_, rfl⟩
       ·exact textF_total s k _ _ (by omega) (by omega)
section
variable {α : Type}
end
end Go.Proofs.YtaalajhmfdcalaaDoor.X
namespace Go.Proofs.YtaalajhmfdcalaaDoor.X
open Go.RowKit Go.Lib Go.Proofs.YtaalajhmfdcalaaDoorW.PrintWords
structure Ag (s t : List UInt8) (q : Nat) : Prop where
 len : q ≤ s.length
 at_ : ∀ i, i < q → t[i]? = s[i]?
 end_ : t[q]? = none ∨ t[q]? = s[q]? ∨ ∃ z : UInt8, z ∈ ([0, 44, 93, 125] : List UInt8) ∧ t[q]? = some z
theorem Ag.le {s t : List UInt8} {q q' : Nat} (h : Ag s t q) (hq : q' ≤ q) : Ag s t q' := by
 refine ⟨Nat.le_trans hq h.len, fun i hi => h.at_ i (by omega), ?_⟩
 by_cases hh : q' = q
 ·subst hh; exact h.end_
 ·exact .inr (.inl (h.at_ q' (by omega)))
theorem Ag.take (s : List UInt8) (n q : Nat) (hn : n ≤ s.length) (hq : q ≤ n) : Ag s (s.take n) q := by
 refine ⟨by omega, fun i hi => by rw [List.getElem?_take_of_lt (by omega)], ?_⟩
 by_cases h : q < n
 ·exact .inr (.inl (by rw [List.getElem?_take_of_lt h]))
 ·exact .inl (by rw [List.getElem?_eq_none_iff, List.length_take]; omega)
theorem Ag.drop {s t : List UInt8} {p m : Nat} (h : Ag s t (p + m)) : Ag (s.drop p) (t.drop p) m := by
 refine ⟨by rw [List.length_drop]; have := h.len; omega, fun i hi => by rw [List.getElem?_drop, List.getElem?_drop]; exact h.at_ _ (by omega), ?_⟩
 rw [List.getElem?_drop, List.getElem?_drop]
 exact h.end_
theorem Ag.not {s t : List UInt8} {q : Nat} (h : Ag s t q) (P : UInt8 → Prop) (h0 : ∀ z : UInt8, z ∈ ([0, 44, 93, 125] : List UInt8) → ¬ P z) (hs : ¬ ∃ c, s[q]? = some c ∧ P c) : ¬ ∃ c, t[q]? = some c ∧ P c := by
 rintro ⟨c, hc, hp⟩
 rcases h.end_ with h1 | h1 | ⟨z, hz, h1⟩
 ·rw [h1] at hc; cases hc
 ·exact hs ⟨c, h1 ▸ hc, hp⟩
 ·rw [h1] at hc; injection hc with hc; subst hc; exact h0 _ hz hp
theorem Ag.ne {s t : List UInt8} {q : Nat} (h : Ag s t q) (c : UInt8) (h0 : c ∉ ([0, 44, 93, 125] : List UInt8)) (hs : ¬ s[q]? = some c) : ¬ t[q]? = some c := fun hh =>
 h.not (fun d => d = c) (fun z hz e => h0 (e ▸ hz)) (by rintro ⟨d, hd, rfl⟩; exact hs hd) ⟨c, hh, rfl⟩
theorem digs_ag {l l' : List UInt8} : ∀ (n i : Nat), digsF (l.drop i) = n → Ag l l' (i + n) → digsF (l'.drop i) = n
 | 0, i, h, ha => by
  refine digs_stop l' i fun c hc => ?_
  cases hb : isDg c with
  | false => rfl
  | true =>
   exfalso
   refine ha.not (fun d => isDg d = true) (by decide) ?_ ⟨c, hc, hb⟩
   rintro ⟨d, hd, hd2⟩
   have := digs_step l i d hd hd2
   omega
 | n + 1, i, h, ha => by
  cases hc : l[i]? with
  | none =>
   have := digs_stop l i (fun c h => by rw [hc] at h; cases h)
   omega
  | some c =>
   cases hb : isDg c with
   | false =>
    have := digs_stop l i (fun d h => by rw [hc] at h; injection h with h; rw [← h]; exact hb)
    omega
   | true =>
    have h1 := digs_step l i c hc hb
    rw [digs_step l' i c (by rw [ha.at_ i (by omega)]; exact hc) hb, digs_ag (l := l) n (i + 1) (by omega) (by rw [show i + 1 + n = i + (n + 1) by omega]; exact ha)]
theorem litX_ag {l l' : List UInt8} {i m : Nat} {b : Bool} (h : litX l i = (m, b)) (ha : Ag l l' m) : litX l' i = (m, b) := by
 by_cases hs : l[i + 1]? = some 43 ∨ l[i + 1]? = some 45
 ·rw [litX_yes _ _ hs] at h
  by_cases hd : digsF (l.drop (i + 2)) = 0
  ·rw [if_pos hd] at h
   injection h with h1 h2
   subst h1
   rw [litX_yes _ _ (by rw [ha.at_ (i + 1) (by omega)]; exact hs), if_pos (digs_ag 0 (i + 2) hd ha), h2]
  ·rw [if_neg hd] at h
   injection h with h1 h2
   have e := digs_ag _ (i + 2) rfl (h1 ▸ ha)
   rw [litX_yes _ _ (by rw [ha.at_ (i + 1) (by omega)]; exact hs), e, if_neg hd, h1, h2]
 ·rw [litX_no _ _ hs] at h
  by_cases hd : digsF (l.drop (i + 1)) = 0
  ·rw [if_pos hd] at h
   injection h with h1 h2
   subst h1
   have h43 := ha.ne 43 (by decide) (fun hh => hs (.inl hh))
   have h45 := ha.ne 45 (by decide) (fun hh => hs (.inr hh))
   rw [litX_no _ _ (by rintro (hh | hh); exact h43 hh; exact h45 hh), if_pos (digs_ag 0 (i + 1) hd ha), h2]
  ·rw [if_neg hd] at h
   injection h with h1 h2
   have e := digs_ag _ (i + 1) rfl (h1 ▸ ha)
   rw [litX_no _ _ (by rw [ha.at_ (i + 1) (by omega)]; exact hs), e, if_neg hd, h1, h2]
theorem litX_ge (l : List UInt8) (i : Nat) : i + 1 ≤ (litX l i).1 := by
 by_cases hs : l[i + 1]? = some 43 ∨ l[i + 1]? = some 45
 ·rw [litX_yes _ _ hs]; split <;> simp only <;> omega
 ·rw [litX_no _ _ hs]; split <;> simp only <;> omega
theorem litE_ag {l l' : List UInt8} {i m : Nat} {b : Bool} (h : litE l i = (m, b)) (ha : Ag l l' m) : litE l' i = (m, b) := by
 by_cases hs : l[i]? = some 101 ∨ l[i]? = some 69
 ·rw [litE_yes _ _ hs] at h
  have hge := litX_ge l i
  rw [h] at hge
  simp only at hge
  rw [litE_yes _ _ (by rw [ha.at_ i (by omega)]; exact hs)]
  exact litX_ag h ha
 ·rw [litE_no _ _ hs] at h
  injection h with h1 h2
  subst h1
  have h101 := ha.ne 101 (by decide) (fun hh => hs (.inl hh))
  have h69 := ha.ne 69 (by decide) (fun hh => hs (.inr hh))
  rw [litE_no _ _ (by rintro (hh | hh); exact h101 hh; exact h69 hh), h2]
theorem litD_ag {l l' : List UInt8} {i m : Nat} {b : Bool} (h : litD l i = (m, b)) (ha : Ag l l' m) : litD l' i = (m, b) := by
 unfold litD at h ⊢
 by_cases hp : l[i]? = some 46
 ·rw [if_pos hp] at h
  by_cases hd : digsF (l.drop (i + 1)) = 0
  ·rw [if_pos hd] at h
   injection h with h1 h2
   subst h1
   rw [if_pos (by rw [ha.at_ i (by omega)]; exact hp), if_pos (digs_ag 0 (i + 1) hd ha), h2]
  ·rw [if_neg hd] at h
   have hge := litE_ge l (i + 1 + digsF (l.drop (i + 1)))
   rw [h] at hge
   simp only at hge
   have e := digs_ag _ (i + 1) rfl (ha.le hge)
   rw [if_pos (by rw [ha.at_ i (by omega)]; exact hp), e, if_neg hd]
   exact litE_ag h ha
 ·rw [if_neg hp] at h
  have hge := litE_ge l i
  rw [h] at hge
  simp only at hge
  rw [if_neg ((ha.le hge).ne 46 (by decide) hp)]
  exact litE_ag h ha
theorem litF_ag {l l' : List UInt8} {m : Nat} {b : Bool} (h : litF l = (m, b)) (ha : Ag l l' m) : litF l' = (m, b) := by
 unfold litF at h ⊢
 by_cases h0 : l[0]? = some 45
 ·simp only [if_pos h0] at h
  by_cases h48 : l[1]? = some 48
  ·rw [if_pos h48] at h
   have hge := litD_ge l (1 + 1)
   rw [h] at hge
   simp only at hge
   simp only [if_pos (show l'[0]? = some 45 by rw [ha.at_ 0 (by omega)]; exact h0)]
   rw [if_pos (by rw [ha.at_ 1 (by omega)]; exact h48)]
   exact litD_ag h ha
  ·rw [if_neg h48] at h
   by_cases hd : digsF (l.drop 1) = 0
   ·rw [if_pos hd] at h
    injection h with h1 h2
    subst h1
    simp only [if_pos (show l'[0]? = some 45 by rw [ha.at_ 0 (by omega)]; exact h0)]
    rw [if_neg (ha.ne 48 (by decide) h48), if_pos (digs_ag 0 1 hd ha), h2]
   ·rw [if_neg hd] at h
    have hge := litD_ge l (1 + digsF (l.drop 1))
    rw [h] at hge
    simp only at hge
    have e := digs_ag _ 1 rfl (ha.le hge)
    simp only [if_pos (show l'[0]? = some 45 by rw [ha.at_ 0 (by omega)]; exact h0)]
    rw [if_neg (by rw [ha.at_ 1 (by omega)]; exact h48), e, if_neg hd]
    exact litD_ag h ha
 ·simp only [if_neg h0] at h
  by_cases h48 : l[0]? = some 48
  ·rw [if_pos h48] at h
   have hge := litD_ge l (0 + 1)
   rw [h] at hge
   simp only at hge
   simp only [if_neg (show ¬ l'[0]? = some 45 by rw [ha.at_ 0 (by omega)]; exact h0)]
   rw [if_pos (by rw [ha.at_ 0 (by omega)]; exact h48)]
   exact litD_ag h ha
  ·rw [if_neg h48] at h
   by_cases hd : digsF (l.drop 0) = 0
   ·rw [if_pos hd] at h
    injection h with h1 h2
    subst h1
    simp only [if_neg (ha.ne 45 (by decide) h0)]
    rw [if_neg (ha.ne 48 (by decide) h48), if_pos (digs_ag 0 0 hd ha), h2]
   ·rw [if_neg hd] at h
    have hge := litD_ge l (0 + digsF (l.drop 0))
    rw [h] at hge
    simp only at hge
    have e := digs_ag _ 0 rfl (ha.le hge)
    simp only [if_neg (show ¬ l'[0]? = some 45 by rw [ha.at_ 0 (by omega)]; exact h0)]
    rw [if_neg (by rw [ha.at_ 0 (by omega)]; exact h48), e, if_neg hd]
    exact litD_ag h ha
end Go.Proofs.YtaalajhmfdcalaaDoor.X
namespace Go.Proofs.YtaalajhmfdcalaaDoor.X
open Go.RowKit Go.Lib Go.Proofs.YtaalajhmfdcalaaDoorW.PrintWords
theorem isDg_iff (c : UInt8) : isDg c = true ↔ 48 ≤ (c.toNat : Int) ∧ (c.toNat : Int) ≤ 57 := by unfold isDg; simp; omega
theorem stepZ_dig (s : Int) (c : UInt8) (h : isDg c = true) (hs : s = 3 ∨ s = 5 ∨ s = 8) : stepZ s c.toNat = s := by
 have := (isDg_iff c).1 h
 unfold stepZ
 rcases hs with rfl | rfl | rfl <;> (repeat' split) <;> omega
theorem u8_eq (c d : UInt8) : c = d ↔ (c.toNat : Int) = (d.toNat : Int) := by
 constructor
 ·rintro rfl; rfl
 ·intro h; exact UInt8.toNat_inj.1 (by omega)
theorem digs_le0 (l : List UInt8) : digsF l ≤ l.length := by have := digs_len l 0 (Nat.zero_le _); rw [List.drop_zero] at this; omega
theorem digs_cons (c : UInt8) (l : List UInt8) (h : isDg c = true) : digsF (c :: l) = digsF l + 1 := by unfold digsF; rw [List.takeWhile_cons_of_pos h]; rfl
theorem digs_no (c : UInt8) (l : List UInt8) (h : isDg c = false) : digsF (c :: l) = 0 := by unfold digsF; rw [List.takeWhile_cons_of_neg (by rw [h]; decide)]; rfl
def allD (l : List UInt8) : Bool := digsF l == l.length
def someD (l : List UInt8) : Bool := digsF l != 0 && allD l
def signP : List UInt8 → Bool
 | [] => false
 | d :: q => if d = 43 ∨ d = 45 then someD q else someD (d :: q)
def expP : List UInt8 → Bool
 | [] => true
 | c :: r => if c = 101 ∨ c = 69 then signP r else false
def fracP (l : List UInt8) : Bool := digsF l != 0 && expP (l.drop (digsF l))
def decP : List UInt8 → Bool
 | [] => true
 | c :: r => if c = 46 then fracP r else expP (c :: r)
theorem lit8 : ∀ l, litR l 8 = allD l
 | [] => rfl
 | c :: l => by
  rw [litR]
  cases h : isDg c with
  | true =>
   rw [stepZ_dig 8 c h (by simp), if_neg (by decide), lit8 l]
   unfold allD
   rw [digs_cons c l h, List.length_cons]
   rw [Bool.eq_iff_iff]; simp
  | false =>
   have : ¬ (48 ≤ (c.toNat : Int) ∧ (c.toNat : Int) ≤ 57) := fun hh => by rw [(isDg_iff c).2 hh] at h; cases h
   rw [if_pos (by unfold stepZ; (repeat' split) <;> omega)]
   unfold allD
   rw [digs_no c l h]
   rfl
theorem lit7 : ∀ l, litR l 7 = someD l
 | [] => rfl
 | c :: l => by
  rw [litR]
  cases h : isDg c with
  | true =>
   have hh := (isDg_iff c).1 h
   have e : stepZ 7 c.toNat = 8 := by unfold stepZ; (repeat' split) <;> omega
   rw [e, if_neg (by decide), lit8 l]
   unfold someD allD
   rw [digs_cons c l h, List.length_cons]
   rw [Bool.eq_iff_iff]; simp
  | false =>
   have : ¬ (48 ≤ (c.toNat : Int) ∧ (c.toNat : Int) ≤ 57) := fun hh => by rw [(isDg_iff c).2 hh] at h; cases h
   rw [if_pos (by unfold stepZ; (repeat' split) <;> omega)]
   unfold someD
   rw [digs_no c l h]
   rfl
theorem lit6 : ∀ l, litR l 6 = signP l
 | [] => rfl
 | c :: l => by
  rw [litR, signP]
  by_cases hs : c = 43 ∨ c = 45
  ·have e : stepZ 6 c.toNat = 7 := by rcases hs with rfl | rfl <;> rfl
   rw [if_pos hs, e, if_neg (by decide), lit7]
  ·rw [if_neg hs]
   have h1 : ¬ (c.toNat : Int) = 43 := fun h => hs (.inl ((u8_eq c 43).2 h))
   have h2 : ¬ (c.toNat : Int) = 45 := fun h => hs (.inr ((u8_eq c 45).2 h))
   cases h : isDg c with
   | true =>
    have hh := (isDg_iff c).1 h
    have e : stepZ 6 c.toNat = 8 := by unfold stepZ; (repeat' split) <;> omega
    rw [e, if_neg (by decide), lit8 l]
    unfold someD allD
    rw [digs_cons c l h, List.length_cons]
    rw [Bool.eq_iff_iff]; simp
   | false =>
    have : ¬ (48 ≤ (c.toNat : Int) ∧ (c.toNat : Int) ≤ 57) := fun hh => by rw [(isDg_iff c).2 hh] at h; cases h
    rw [if_pos (by unfold stepZ; (repeat' split) <;> omega)]
    unfold someD
    rw [digs_no c l h]
    rfl
theorem e_nat (c : UInt8) : (c = 101 ∨ c = 69) ↔ ((c.toNat : Int) = 101 ∨ (c.toNat : Int) = 69) := by rw [u8_eq c 101, u8_eq c 69]; exact Iff.rfl
set_option maxHeartbeats 2000000 in
theorem lit_exp (s : Int) (hs : s = 2 ∨ s = 3 ∨ s = 5) (c : UInt8) (l : List UInt8) (hd : isDg c = false) (h46 : ¬ (c.toNat : Int) = 46 ∨ s = 5) : litR (c :: l) s = expP (c :: l) := by
 have hn : ¬ (48 ≤ (c.toNat : Int) ∧ (c.toNat : Int) ≤ 57) := fun hh => by rw [(isDg_iff c).2 hh] at hd; cases hd
 rw [litR, expP]
 by_cases he : c = 101 ∨ c = 69
 ·have h1 := (e_nat c).1 he
  have e : stepZ s c.toNat = 6 := by unfold stepZ; rcases hs with rfl | rfl | rfl <;> (repeat' split) <;> omega
  rw [if_pos he, e, if_neg (by decide), lit6]
 ·have h1 : ¬ ((c.toNat : Int) = 101 ∨ (c.toNat : Int) = 69) := fun h => he ((e_nat c).2 h)
  rw [if_neg he, if_pos (by unfold stepZ; rcases hs with rfl | rfl | rfl <;> (repeat' split) <;> omega)]
theorem lit5 : ∀ l, litR l 5 = expP (l.drop (digsF l))
 | [] => rfl
 | c :: l => by
  cases h : isDg c with
  | true => rw [litR, stepZ_dig 5 c h (by simp), if_neg (by decide), lit5 l, digs_cons c l h, List.drop_succ_cons]
  | false => rw [digs_no c l h, List.drop_zero]; exact lit_exp 5 (by simp) c l h (.inr rfl)
theorem lit4 : ∀ l, litR l 4 = fracP l
 | [] => rfl
 | c :: l => by
  rw [litR]
  unfold fracP
  cases h : isDg c with
  | true =>
   have hh := (isDg_iff c).1 h
   have e : stepZ 4 c.toNat = 5 := by unfold stepZ; (repeat' split) <;> omega
   rw [e, if_neg (by decide), lit5 l, digs_cons c l h, List.drop_succ_cons]
   simp
  | false =>
   have : ¬ (48 ≤ (c.toNat : Int) ∧ (c.toNat : Int) ≤ 57) := fun hh => by rw [(isDg_iff c).2 hh] at h; cases h
   rw [if_pos (by unfold stepZ; (repeat' split) <;> omega), digs_no c l h]
   rfl
theorem lit_dec (s : Int) (hs : s = 2 ∨ s = 3) (c : UInt8) (l : List UInt8) (hd : isDg c = false) : litR (c :: l) s = decP (c :: l) := by
 rw [decP]
 by_cases h : c = 46
 ·subst h
  rw [if_pos rfl, litR]
  have e : stepZ s ((46 : UInt8).toNat : Int) = 4 := by rcases hs with rfl | rfl <;> rfl
  rw [e, if_neg (by decide), lit4]
 ·rw [if_neg h]
  exact lit_exp s (by omega) c l hd (.inl (fun hh => h ((u8_eq c 46).2 hh)))
theorem lit3 : ∀ l, litR l 3 = decP (l.drop (digsF l))
 | [] => rfl
 | c :: l => by
  cases h : isDg c with
  | true => rw [litR, stepZ_dig 3 c h (by simp), if_neg (by decide), lit3 l, digs_cons c l h, List.drop_succ_cons]
  | false => rw [digs_no c l h, List.drop_zero]; exact lit_dec 3 (by simp) c l h
theorem lit2 : ∀ l, litR l 2 = decP l
 | [] => rfl
 | c :: l => by
  cases h : isDg c with
  | true =>
   have hh := (isDg_iff c).1 h
   have h46 : ¬ c = 46 := fun e => by rw [e] at h; revert h; decide
   have he : ¬ (c = 101 ∨ c = 69) := fun e => by rcases e with rfl | rfl <;> (revert h; decide)
   rw [litR, if_pos (by unfold stepZ; (repeat' split) <;> omega), decP, if_neg h46, expP, if_neg he]
  | false => exact lit_dec 2 (by simp) c l h
def intP : List UInt8 → Bool
 | [] => false
 | c :: r => if c = 48 then decP r else if isDg c = true then decP (r.drop (digsF r)) else false
theorem lit01 (s : Int) (hs : s = 0 ∨ s = 1) (c : UInt8) (l : List UInt8) (h45 : ¬ c = 45 ∨ s = 1) : litR (c :: l) s = intP (c :: l) := by
 rw [litR, intP]
 by_cases h : c = 48
 ·subst h
  rw [if_pos rfl]
  have e : stepZ s ((48 : UInt8).toNat : Int) = 2 := by rcases hs with rfl | rfl <;> rfl
  rw [e, if_neg (by decide), lit2]
 ·rw [if_neg h]
  have h1 : ¬ (c.toNat : Int) = 48 := fun hh => h ((u8_eq c 48).2 hh)
  have h2 : ¬ (c.toNat : Int) = 45 ∨ s = 1 := h45.imp (fun hn hh => hn ((u8_eq c 45).2 hh)) id
  cases hd : isDg c with
  | true =>
   have hh := (isDg_iff c).1 hd
   have e : stepZ s c.toNat = 3 := by unfold stepZ; rcases hs with rfl | rfl <;> (repeat' split) <;> omega
   rw [e, if_neg (by decide), lit3, if_pos rfl]
  | false =>
   have : ¬ (48 ≤ (c.toNat : Int) ∧ (c.toNat : Int) ≤ 57) := fun hh => by rw [(isDg_iff c).2 hh] at hd; cases hd
   rw [if_pos (by unfold stepZ; rcases hs with rfl | rfl <;> (repeat' split) <;> omega), if_neg (by decide)]
def goodO (o : Nat × Bool) (n : Nat) : Bool := o.2 && o.1 == n
theorem good_digs (l : List UInt8) (j : Nat) (hj : j ≤ l.length) : goodO (if digsF (l.drop j) = 0 then (j, false) else (j + digsF (l.drop j), true)) l.length = someD (l.drop j) := by
 unfold goodO someD allD
 by_cases h : digsF (l.drop j) = 0
 ·rw [if_pos h]; simp [h]
 ·rw [if_neg h, List.length_drop, Bool.eq_iff_iff]
  have := digs_le0 (l.drop j)
  rw [List.length_drop] at this
  simp [h]
  omega
theorem litE_good (l : List UInt8) (i : Nat) (hi : i ≤ l.length) : goodO (litE l i) l.length = expP (l.drop i) := by
 unfold litE
 cases hc : l[i]? with
 | none =>
  have hl : l.length ≤ i := List.getElem?_eq_none_iff.1 hc
  rw [List.drop_eq_nil_of_le hl]
  simp [goodO, expP]
  omega
 | some c =>
  obtain ⟨hlt, hce⟩ := List.getElem?_eq_some_iff.1 hc
  have hd : l.drop i = c :: l.drop (i + 1) := by rw [List.drop_eq_getElem_cons hlt, hce]
  rw [hd, expP]
  simp only
  by_cases he : c = 101 ∨ c = 69
  ·rw [if_pos he, if_pos he]
   cases hd2 : l[i + 1]? with
   | none =>
    have hl : l.length ≤ i + 1 := List.getElem?_eq_none_iff.1 hd2
    have := good_digs l (i + 1) (by omega)
    rw [List.drop_eq_nil_of_le hl] at this ⊢
    exact this
   | some d =>
    obtain ⟨hlt2, hde⟩ := List.getElem?_eq_some_iff.1 hd2
    have hd3 : l.drop (i + 1) = d :: l.drop (i + 2) := by rw [List.drop_eq_getElem_cons hlt2, hde]
    rw [hd3, signP]
    by_cases hs : d = 43 ∨ d = 45
    ·simp only [if_pos hs]
     exact good_digs l (i + 2) (by omega)
    ·simp only [if_neg hs]
     rw [← hd3]
     exact good_digs l (i + 1) (by omega)
  ·rw [if_neg he, if_neg he]
   simp [goodO]
   omega
theorem litD_good (l : List UInt8) (i : Nat) (hi : i ≤ l.length) : goodO (litD l i) l.length = decP (l.drop i) := by
 unfold litD
 by_cases h : l[i]? = some 46
 ·obtain ⟨hlt, hce⟩ := List.getElem?_eq_some_iff.1 h
  have hd : l.drop i = 46 :: l.drop (i + 1) := by rw [List.drop_eq_getElem_cons hlt, hce]
  rw [if_pos h, hd, decP, if_pos rfl]
  unfold fracP
  by_cases hz : digsF (l.drop (i + 1)) = 0
  ·rw [if_pos hz]; simp [goodO, hz]
  ·have := digs_le0 (l.drop (i + 1))
   rw [List.length_drop] at this
   rw [if_neg hz, litE_good l _ (by omega), List.drop_drop]
   simp [hz]
 ·rw [if_neg h, litE_good l i hi]
  cases hl : l.drop i with
  | nil => rfl
  | cons c r =>
   have : l[i]? = some c := by
    have := congrArg (fun q => q[0]?) hl
    simp only [List.getElem?_drop, Nat.add_zero, List.getElem?_cons_zero] at this
    exact this
   have hc : ¬ c = 46 := fun e => h (by rw [this, e])
   rw [decP, if_neg hc]
theorem int_good (l : List UInt8) (i : Nat) (hi : i ≤ l.length) : goodO (if l[i]? = some 48 then litD l (i + 1) else if digsF (l.drop i) = 0 then (i, false) else litD l (i + digsF (l.drop i))) l.length = intP (l.drop i) := by
 cases hc : l[i]? with
 | none =>
  have hl : l.length ≤ i := List.getElem?_eq_none_iff.1 hc
  rw [if_neg (by simp), List.drop_eq_nil_of_le hl]
  rfl
 | some c =>
  obtain ⟨hlt, hce⟩ := List.getElem?_eq_some_iff.1 hc
  have hd : l.drop i = c :: l.drop (i + 1) := by rw [List.drop_eq_getElem_cons hlt, hce]
  by_cases h : c = 48
  ·subst h
   rw [if_pos rfl, litD_good l _ (by omega), hd, intP, if_pos rfl]
  ·rw [if_neg (by simpa using h)]
   have := digs_le0 (l.drop i)
   rw [List.length_drop] at this
   cases hg : isDg c with
   | true =>
    have hn : digsF (l.drop i) = digsF (l.drop (i + 1)) + 1 := by rw [hd, digs_cons c _ hg]
    rw [if_neg (by omega), litD_good l _ (by omega), hd, intP, if_neg h, if_pos hg, List.drop_drop]
    rw [← hd, hn]
    congr 2
    omega
   | false =>
    have hn : digsF (l.drop i) = 0 := by rw [hd, digs_no c _ hg]
    rw [if_pos hn, hd, intP, if_neg h, hg]
    rfl
theorem litF_good (l : List UInt8) : goodO (litF l) l.length = litR l 0 := by
 unfold litF
 cases l with
 | nil => rfl
 | cons c r =>
  by_cases h : c = 45
  ·subst h
   simp only [List.getElem?_cons_zero, if_true]
   rw [int_good (45 :: r) 1 (by simp)]
   have e : stepZ 0 ((45 : UInt8).toNat : Int) = 1 := rfl
   rw [litR, e, if_neg (by decide), List.drop_succ_cons, List.drop_zero]
   cases r with
   | nil => rfl
   | cons d q => exact (lit01 1 (by simp) d q (.inr rfl)).symm
  ·have h0 : ¬ (c :: r)[0]? = some 45 := by simpa using h
   simp only [if_neg h0]
   rw [int_good (c :: r) 0 (by simp), List.drop_zero]
   exact (lit01 0 (by simp) c r (.inl h)).symm
theorem lit_eq (s : ByteArray) : litR s.data.toList 0 = true ↔ litF s.data.toList = (s.size, true) := by
 rw [← litF_good, size_data]
 unfold goodO
 simp only [Bool.and_eq_true, beq_iff_eq]
 constructor
 ·rintro ⟨h1, h2⟩; exact Prod.ext h2 h1
 ·intro h; rw [h]; exact ⟨rfl, rfl⟩
end Go.Proofs.YtaalajhmfdcalaaDoor.X
namespace Go.Proofs.YtaalajhmfdcalaaDoor.X
open Go.RowKit Go.Lib Go.Proofs.YtaalajhmfdcalaaDoorW.PrintWords Go.Proofs.YtaalajhmfdcalaaDoorW.PrintLast Go.Proofs.YtaalajhmfdcalaaDoorW.PrintMore
def fitZ (d f0 : Int) (f1 : ByteArray) (n2 n3 : Nat) : Int := if ((f0 = 5 ∨ f0 = 6) ∧ 32 ≤ d) ∨ 32 < d then 46 else if nodeOK f0 f1 n2 n3 = true then 0 else 47
theorem fit_46 {d f0 : Int} {f1 : ByteArray} {n2 n3 : Nat} (h : ((f0 = 5 ∨ f0 = 6) ∧ 32 ≤ d) ∨ 32 < d) : fitZ d f0 f1 n2 n3 = 46 := by unfold fitZ; rw [if_pos h]
theorem fit_0 {d f0 : Int} {f1 : ByteArray} {n2 n3 : Nat} (h : ¬ (((f0 = 5 ∨ f0 = 6) ∧ 32 ≤ d) ∨ 32 < d)) (hn : nodeOK f0 f1 n2 n3 = true) : fitZ d f0 f1 n2 n3 = 0 := by unfold fitZ; rw [if_neg h, if_pos hn]
theorem fit_47 {d f0 : Int} {f1 : ByteArray} {n2 n3 : Nat} (h : ¬ (((f0 = 5 ∨ f0 = 6) ∧ 32 ≤ d) ∨ 32 < d)) (hn : nodeOK f0 f1 n2 n3 = false) : fitZ d f0 f1 n2 n3 = 47 := by unfold fitZ; rw [if_neg h, if_neg (by rw [hn]; decide)]
theorem nodeXX {f0 : Int} {f1 : ByteArray} {n2 n3 : Nat} (h : f0 < 0 ∨ 6 < f0) : nodeOK f0 f1 n2 n3 = false := by
 unfold nodeOK
 rw [if_neg (by omega), if_neg (by omega), if_neg (by omega), if_neg (by omega), if_neg (by omega)]
theorem nd0 {f0 : Int} {f1 : ByteArray} {n2 n3 : Nat} (h : f0 = 0 ∨ f0 = 1 ∨ f0 = 2) : nodeOK f0 f1 n2 n3 = decide (f1.size = 0 ∧ n2 = 0 ∧ n3 = 0) := by unfold nodeOK; rw [if_pos h]
theorem nd3 {f1 : ByteArray} {n2 n3 : Nat} : nodeOK 3 f1 n2 n3 = decide ((litF f1.data.toList).2 = true ∧ (litF f1.data.toList).1 = f1.size ∧ n2 = 0 ∧ n3 = 0) := by unfold nodeOK; rw [if_neg (by decide), if_pos rfl]
theorem nd4 {f1 : ByteArray} {n2 n3 : Nat} : nodeOK 4 f1 n2 n3 = decide (validD f1.data.toList = true ∧ n2 = 0 ∧ n3 = 0) := by unfold nodeOK; rw [if_neg (by decide), if_neg (by decide), if_pos rfl]
theorem nd5 {f1 : ByteArray} {n2 n3 : Nat} : nodeOK 5 f1 n2 n3 = decide (f1.size = 0 ∧ n2 = 0) := by unfold nodeOK; rw [if_neg (by decide), if_neg (by decide), if_neg (by decide), if_pos rfl]
theorem nd6 {f1 : ByteArray} {n2 n3 : Nat} : nodeOK 6 f1 n2 n3 = decide (f1.size = 0 ∧ n2 = n3) := by unfold nodeOK; rw [if_neg (by decide), if_neg (by decide), if_neg (by decide), if_neg (by decide), if_pos rfl]
set_option maxRecDepth 1000000 in
set_option maxHeartbeats 8000000 in
theorem fit_calls (f0 : Int) (f1 : ByteArray) (A2 A3 : Option Addr) (n2 c2 n3 c3 : Nat) (d : Int) (w : World) (hsz : f1.size ≤ 4611686018427387904) :
  Calls Tryd.prog 37 #[jVal f0 f1 A2 A3 n2 c2 n3 c3, .int .i64 d] w fun e w' => e = .returned (.int .i64 (fitZ d f0 f1 n2 n3)) ∧ Below w.heap.size w w' := by
 by_cases h32 : (32 : Int) < d
 ·have d1 : decide ((32 : Int) < d) = true := decide_eq_true h32
  have d2 : decide ((32 : Int) ≤ d) = true := decide_eq_true (by omega)
  by_cases h5 : f0 = 5
  ·subst h5
   have HF := Aside0.mk (show fitZ d 5 f1 n2 n3 = 46 from fit_46 (.inr h32))
   clear h32
   go_enter Tryd.func37, Tryd.ntmps37
   go_wp2
   go_ret
   exact ⟨by rw [HF.out]; rfl, by repeat (first | exact Below.refl _ _ | apply pw_below_drewN | apply below_drew1 | apply below_alloc)⟩
  ·have b5 : (f0 == 5) = false := beq_eq_false_iff_ne.mpr h5
   by_cases h6 : f0 = 6
   ·subst h6
    have HF := Aside0.mk (show fitZ d 6 f1 n2 n3 = 46 from fit_46 (.inr h32))
    clear h32
    go_enter Tryd.func37, Tryd.ntmps37
    go_wp2
    go_ret
    exact ⟨by rw [HF.out]; rfl, by repeat (first | exact Below.refl _ _ | apply pw_below_drewN | apply below_drew1 | apply below_alloc)⟩
   ·have b6 : (f0 == 6) = false := beq_eq_false_iff_ne.mpr h6
    have HF := Aside0.mk (show fitZ d f0 f1 n2 n3 = 46 from fit_46 (.inr h32))
    clear h32 h5 h6
    go_enter Tryd.func37, Tryd.ntmps37
    go_wp2
    go_ret
    exact ⟨by rw [HF.out]; rfl, by repeat (first | exact Below.refl _ _ | apply pw_below_drewN | apply below_drew1 | apply below_alloc)⟩
 ·have d1 : decide ((32 : Int) < d) = false := decide_eq_false h32
  rcases (by omega : f0 < 0 ∨ 6 < f0 ∨ f0 = 0 ∨ f0 = 1 ∨ f0 = 2 ∨ f0 = 3 ∨ f0 = 4 ∨ f0 = 5 ∨ f0 = 6) with h | h | h | h | h | h | h | h | h
  ·have b5 : (f0 == 5) = false := beq_eq_false_iff_ne.mpr (by omega)
   have b6 : (f0 == 6) = false := beq_eq_false_iff_ne.mpr (by omega)
   have k1 : decide (f0 < 0) = true := decide_eq_true (by omega)
   have HF := Aside0.mk (show fitZ d f0 f1 n2 n3 = 47 from fit_47 (by omega) (nodeXX (.inl h)))
   clear h h32
   go_enter Tryd.func37, Tryd.ntmps37
   go_wp2
   go_ret
   exact ⟨by rw [HF.out]; rfl, by repeat (first | exact Below.refl _ _ | apply pw_below_drewN | apply below_drew1 | apply below_alloc)⟩
  ·have b5 : (f0 == 5) = false := beq_eq_false_iff_ne.mpr (by omega)
   have b6 : (f0 == 6) = false := beq_eq_false_iff_ne.mpr (by omega)
   have k1 : decide (f0 < 0) = false := decide_eq_false (by omega)
   have k2 : decide (6 < f0) = true := decide_eq_true (by omega)
   have HF := Aside0.mk (show fitZ d f0 f1 n2 n3 = 47 from fit_47 (by omega) (nodeXX (.inr h)))
   clear h h32
   go_enter Tryd.func37, Tryd.ntmps37
   go_wp2
   go_ret
   exact ⟨by rw [HF.out]; rfl, by repeat (first | exact Below.refl _ _ | apply pw_below_drewN | apply below_drew1 | apply below_alloc)⟩
  ·subst h
   by_cases h1 : f1.size = 0
   case neg =>
    have hs := str_ne f1 h1
    have s1 := hs.1
    have s2 := hs.2
    have s3 : (f1.toList != (⟨#[]⟩ : ByteArray).toList) = true := by rw [bne, hs.1]; rfl
    have s4 : (f1.toList != []) = true := by rw [bne, hs.2]; rfl
    clear hs
    have HF := Aside0.mk (show fitZ d 0 f1 n2 n3 = 47 from fit_47 (by omega) (by rw [nd0 (.inl rfl)]; exact decide_eq_false (fun hh => h1 hh.1)))
    clear h1 h32
    go_enter Tryd.func37, Tryd.ntmps37
    go_wp2
    go_ret
    exact ⟨by rw [HF.out]; rfl, by repeat (first | exact Below.refl _ _ | apply pw_below_drewN | apply below_drew1 | apply below_alloc)⟩
   obtain rfl := str_empty f1 h1
   clear h1
   by_cases h3 : n3 = 0
   case neg =>
    have qn31 : (0 < n3) = True := eq_true (by omega)
    have qn32 : (n3 = 0) = False := eq_false (by omega)
    have qn33 : decide (0 < n3) = true := decide_eq_true (by omega)
    have qn34 : ((0 : Int) < (n3 : Int)) = True := eq_true (by omega)
    have HF := Aside0.mk (show fitZ d 0 ⟨#[]⟩ n2 n3 = 47 from fit_47 (by omega) (by rw [nd0 (.inl rfl)]; exact decide_eq_false (fun hh => h3 hh.2.2)))
    clear h32 h3
    go_enter Tryd.func37, Tryd.ntmps37
    go_wp2
    go_ret
    exact ⟨by rw [HF.out]; rfl, by repeat (first | exact Below.refl _ _ | apply pw_below_drewN | apply below_drew1 | apply below_alloc)⟩
   subst h3
   by_cases h2 : n2 = 0
   case neg =>
    have qn21 : (0 < n2) = True := eq_true (by omega)
    have qn22 : (n2 = 0) = False := eq_false (by omega)
    have qn23 : decide (0 < n2) = true := decide_eq_true (by omega)
    have qn24 : ((0 : Int) < (n2 : Int)) = True := eq_true (by omega)
    have HF := Aside0.mk (show fitZ d 0 ⟨#[]⟩ n2 0 = 47 from fit_47 (by omega) (by rw [nd0 (.inl rfl)]; exact decide_eq_false (fun hh => h2 hh.2.1)))
    clear h32 h2
    go_enter Tryd.func37, Tryd.ntmps37
    go_wp2
    go_ret
    exact ⟨by rw [HF.out]; rfl, by repeat (first | exact Below.refl _ _ | apply pw_below_drewN | apply below_drew1 | apply below_alloc)⟩
   subst h2
   have HF := Aside0.mk (show fitZ d 0 ⟨#[]⟩ 0 0 = 0 from fit_0 (by omega) (by rw [nd0 (.inl rfl)]; exact decide_eq_true ⟨rfl, rfl, rfl⟩))
   clear h32
   go_enter Tryd.func37, Tryd.ntmps37
   go_wp2
   go_ret
   exact ⟨by rw [HF.out]; rfl, by repeat (first | exact Below.refl _ _ | apply pw_below_drewN | apply below_drew1 | apply below_alloc)⟩
  ·subst h
   by_cases h1 : f1.size = 0
   case neg =>
    have hs := str_ne f1 h1
    have s1 := hs.1
    have s2 := hs.2
    have s3 : (f1.toList != (⟨#[]⟩ : ByteArray).toList) = true := by rw [bne, hs.1]; rfl
    have s4 : (f1.toList != []) = true := by rw [bne, hs.2]; rfl
    clear hs
    have HF := Aside0.mk (show fitZ d 1 f1 n2 n3 = 47 from fit_47 (by omega) (by rw [nd0 (.inr (.inl rfl))]; exact decide_eq_false (fun hh => h1 hh.1)))
    clear h1 h32
    go_enter Tryd.func37, Tryd.ntmps37
    go_wp2
    go_ret
    exact ⟨by rw [HF.out]; rfl, by repeat (first | exact Below.refl _ _ | apply pw_below_drewN | apply below_drew1 | apply below_alloc)⟩
   obtain rfl := str_empty f1 h1
   clear h1
   by_cases h3 : n3 = 0
   case neg =>
    have qn31 : (0 < n3) = True := eq_true (by omega)
    have qn32 : (n3 = 0) = False := eq_false (by omega)
    have qn33 : decide (0 < n3) = true := decide_eq_true (by omega)
    have qn34 : ((0 : Int) < (n3 : Int)) = True := eq_true (by omega)
    have HF := Aside0.mk (show fitZ d 1 ⟨#[]⟩ n2 n3 = 47 from fit_47 (by omega) (by rw [nd0 (.inr (.inl rfl))]; exact decide_eq_false (fun hh => h3 hh.2.2)))
    clear h32 h3
    go_enter Tryd.func37, Tryd.ntmps37
    go_wp2
    go_ret
    exact ⟨by rw [HF.out]; rfl, by repeat (first | exact Below.refl _ _ | apply pw_below_drewN | apply below_drew1 | apply below_alloc)⟩
   subst h3
   by_cases h2 : n2 = 0
   case neg =>
    have qn21 : (0 < n2) = True := eq_true (by omega)
    have qn22 : (n2 = 0) = False := eq_false (by omega)
    have qn23 : decide (0 < n2) = true := decide_eq_true (by omega)
    have qn24 : ((0 : Int) < (n2 : Int)) = True := eq_true (by omega)
    have HF := Aside0.mk (show fitZ d 1 ⟨#[]⟩ n2 0 = 47 from fit_47 (by omega) (by rw [nd0 (.inr (.inl rfl))]; exact decide_eq_false (fun hh => h2 hh.2.1)))
    clear h32 h2
    go_enter Tryd.func37, Tryd.ntmps37
    go_wp2
    go_ret
    exact ⟨by rw [HF.out]; rfl, by repeat (first | exact Below.refl _ _ | apply pw_below_drewN | apply below_drew1 | apply below_alloc)⟩
   subst h2
   have HF := Aside0.mk (show fitZ d 1 ⟨#[]⟩ 0 0 = 0 from fit_0 (by omega) (by rw [nd0 (.inr (.inl rfl))]; exact decide_eq_true ⟨rfl, rfl, rfl⟩))
   clear h32
   go_enter Tryd.func37, Tryd.ntmps37
   go_wp2
   go_ret
   exact ⟨by rw [HF.out]; rfl, by repeat (first | exact Below.refl _ _ | apply pw_below_drewN | apply below_drew1 | apply below_alloc)⟩
  ·subst h
   by_cases h1 : f1.size = 0
   case neg =>
    have hs := str_ne f1 h1
    have s1 := hs.1
    have s2 := hs.2
    have s3 : (f1.toList != (⟨#[]⟩ : ByteArray).toList) = true := by rw [bne, hs.1]; rfl
    have s4 : (f1.toList != []) = true := by rw [bne, hs.2]; rfl
    clear hs
    have HF := Aside0.mk (show fitZ d 2 f1 n2 n3 = 47 from fit_47 (by omega) (by rw [nd0 (.inr (.inr rfl))]; exact decide_eq_false (fun hh => h1 hh.1)))
    clear h1 h32
    go_enter Tryd.func37, Tryd.ntmps37
    go_wp2
    go_ret
    exact ⟨by rw [HF.out]; rfl, by repeat (first | exact Below.refl _ _ | apply pw_below_drewN | apply below_drew1 | apply below_alloc)⟩
   obtain rfl := str_empty f1 h1
   clear h1
   by_cases h3 : n3 = 0
   case neg =>
    have qn31 : (0 < n3) = True := eq_true (by omega)
    have qn32 : (n3 = 0) = False := eq_false (by omega)
    have qn33 : decide (0 < n3) = true := decide_eq_true (by omega)
    have qn34 : ((0 : Int) < (n3 : Int)) = True := eq_true (by omega)
    have HF := Aside0.mk (show fitZ d 2 ⟨#[]⟩ n2 n3 = 47 from fit_47 (by omega) (by rw [nd0 (.inr (.inr rfl))]; exact decide_eq_false (fun hh => h3 hh.2.2)))
    clear h32 h3
    go_enter Tryd.func37, Tryd.ntmps37
    go_wp2
    go_ret
    exact ⟨by rw [HF.out]; rfl, by repeat (first | exact Below.refl _ _ | apply pw_below_drewN | apply below_drew1 | apply below_alloc)⟩
   subst h3
   by_cases h2 : n2 = 0
   case neg =>
    have qn21 : (0 < n2) = True := eq_true (by omega)
    have qn22 : (n2 = 0) = False := eq_false (by omega)
    have qn23 : decide (0 < n2) = true := decide_eq_true (by omega)
    have qn24 : ((0 : Int) < (n2 : Int)) = True := eq_true (by omega)
    have HF := Aside0.mk (show fitZ d 2 ⟨#[]⟩ n2 0 = 47 from fit_47 (by omega) (by rw [nd0 (.inr (.inr rfl))]; exact decide_eq_false (fun hh => h2 hh.2.1)))
    clear h32 h2
    go_enter Tryd.func37, Tryd.ntmps37
    go_wp2
    go_ret
    exact ⟨by rw [HF.out]; rfl, by repeat (first | exact Below.refl _ _ | apply pw_below_drewN | apply below_drew1 | apply below_alloc)⟩
   subst h2
   have HF := Aside0.mk (show fitZ d 2 ⟨#[]⟩ 0 0 = 0 from fit_0 (by omega) (by rw [nd0 (.inr (.inr rfl))]; exact decide_eq_true ⟨rfl, rfl, rfl⟩))
   clear h32
   go_enter Tryd.func37, Tryd.ntmps37
   go_wp2
   go_ret
   exact ⟨by rw [HF.out]; rfl, by repeat (first | exact Below.refl _ _ | apply pw_below_drewN | apply below_drew1 | apply below_alloc)⟩
  ·subst h
   by_cases h3 : n3 = 0
   case neg =>
    have qn31 : (0 < n3) = True := eq_true (by omega)
    have qn32 : (n3 = 0) = False := eq_false (by omega)
    have qn33 : decide (0 < n3) = true := decide_eq_true (by omega)
    have qn34 : ((0 : Int) < (n3 : Int)) = True := eq_true (by omega)
    have HF := Aside0.mk (show fitZ d 3 f1 n2 n3 = 47 from fit_47 (by omega) (by rw [nd3]; exact decide_eq_false (fun hh => h3 hh.2.2.2)))
    clear h32 h3
    go_enter Tryd.func37, Tryd.ntmps37
    go_wp2
    go_ret
    exact ⟨by rw [HF.out]; rfl, by repeat (first | exact Below.refl _ _ | apply pw_below_drewN | apply below_drew1 | apply below_alloc)⟩
   subst h3
   by_cases h2 : n2 = 0
   case neg =>
    have qn21 : (0 < n2) = True := eq_true (by omega)
    have qn22 : (n2 = 0) = False := eq_false (by omega)
    have qn23 : decide (0 < n2) = true := decide_eq_true (by omega)
    have qn24 : ((0 : Int) < (n2 : Int)) = True := eq_true (by omega)
    have HF := Aside0.mk (show fitZ d 3 f1 n2 0 = 47 from fit_47 (by omega) (by rw [nd3]; exact decide_eq_false (fun hh => h2 hh.2.2.1)))
    clear h32 h2
    go_enter Tryd.func37, Tryd.ntmps37
    go_wp2
    go_ret
    exact ⟨by rw [HF.out]; rfl, by repeat (first | exact Below.refl _ _ | apply pw_below_drewN | apply below_drew1 | apply below_alloc)⟩
   subst h2
   by_cases hl : litF f1.data.toList = (f1.size, true)
   ·have HL := Aside0.mk ((lit_eq f1).2 hl)
    have HF := Aside0.mk (show fitZ d 3 f1 0 0 = 0 from fit_0 (by omega) (by rw [nd3]; exact decide_eq_true ⟨by rw [hl], by rw [hl], rfl, rfl⟩))
    clear h32 hl
    go_enter Tryd.func37, Tryd.ntmps37
    go_wp2_with (go_at_call 59; (with_reducible refine (lit_calls f1 _ hsz).mono ?_); rintro e w1 ⟨rfl, rfl⟩; rw [HL.out])
    go_ret
    exact ⟨by rw [HF.out]; rfl, by repeat (first | exact Below.refl _ _ | apply pw_below_drewN | apply below_drew1 | apply below_alloc)⟩
   ·have HL := Aside0.mk (show litR f1.data.toList 0 = false from Bool.eq_false_iff.2 (fun h => hl ((lit_eq f1).1 h)))
    have HF := Aside0.mk (show fitZ d 3 f1 0 0 = 47 from fit_47 (by omega) (by rw [nd3]; exact decide_eq_false (fun hh => hl (Prod.ext hh.2.1 hh.1))))
    clear h32 hl
    go_enter Tryd.func37, Tryd.ntmps37
    go_wp2_with (go_at_call 59; (with_reducible refine (lit_calls f1 _ hsz).mono ?_); rintro e w1 ⟨rfl, rfl⟩; rw [HL.out])
    go_ret
    exact ⟨by rw [HF.out]; rfl, by repeat (first | exact Below.refl _ _ | apply pw_below_drewN | apply below_drew1 | apply below_alloc)⟩
  ·subst h
   by_cases h3 : n3 = 0
   case neg =>
    have qn31 : (0 < n3) = True := eq_true (by omega)
    have qn32 : (n3 = 0) = False := eq_false (by omega)
    have qn33 : decide (0 < n3) = true := decide_eq_true (by omega)
    have qn34 : ((0 : Int) < (n3 : Int)) = True := eq_true (by omega)
    have HF := Aside0.mk (show fitZ d 4 f1 n2 n3 = 47 from fit_47 (by omega) (by rw [nd4]; exact decide_eq_false (fun hh => h3 hh.2.2)))
    clear h32 h3
    go_enter Tryd.func37, Tryd.ntmps37
    go_wp2
    go_ret
    exact ⟨by rw [HF.out]; rfl, by repeat (first | exact Below.refl _ _ | apply pw_below_drewN | apply below_drew1 | apply below_alloc)⟩
   subst h3
   by_cases h2 : n2 = 0
   case neg =>
    have qn21 : (0 < n2) = True := eq_true (by omega)
    have qn22 : (n2 = 0) = False := eq_false (by omega)
    have qn23 : decide (0 < n2) = true := decide_eq_true (by omega)
    have qn24 : ((0 : Int) < (n2 : Int)) = True := eq_true (by omega)
    have HF := Aside0.mk (show fitZ d 4 f1 n2 0 = 47 from fit_47 (by omega) (by rw [nd4]; exact decide_eq_false (fun hh => h2 hh.2.1)))
    clear h32 h2
    go_enter Tryd.func37, Tryd.ntmps37
    go_wp2
    go_ret
    exact ⟨by rw [HF.out]; rfl, by repeat (first | exact Below.refl _ _ | apply pw_below_drewN | apply below_drew1 | apply below_alloc)⟩
   subst h2
   by_cases hl : validD f1.data.toList = true
   ·have HL := Aside0.mk hl
    have HF := Aside0.mk (show fitZ d 4 f1 0 0 = 0 from fit_0 (by omega) (by rw [nd4]; exact decide_eq_true ⟨hl, rfl, rfl⟩))
    clear h32 hl
    go_enter Tryd.func37, Tryd.ntmps37
    go_wp2_with (go_at_call 38; (with_reducible refine (clean_calls f1 _ hsz).mono ?_); rintro e w1 ⟨rfl, rfl⟩; rw [HL.out])
    go_ret
    exact ⟨by rw [HF.out]; rfl, by repeat (first | exact Below.refl _ _ | apply pw_below_drewN | apply below_drew1 | apply below_alloc)⟩
   ·have HL := Aside0.mk (Bool.eq_false_iff.2 hl)
    have HF := Aside0.mk (show fitZ d 4 f1 0 0 = 47 from fit_47 (by omega) (by rw [nd4]; exact decide_eq_false (fun hh => hl hh.1)))
    clear h32 hl
    go_enter Tryd.func37, Tryd.ntmps37
    go_wp2_with (go_at_call 38; (with_reducible refine (clean_calls f1 _ hsz).mono ?_); rintro e w1 ⟨rfl, rfl⟩; rw [HL.out])
    go_ret
    exact ⟨by rw [HF.out]; rfl, by repeat (first | exact Below.refl _ _ | apply pw_below_drewN | apply below_drew1 | apply below_alloc)⟩
  ·subst h
   by_cases h32' : (32 : Int) ≤ d
   case pos =>
    have d2 : decide ((32 : Int) ≤ d) = true := decide_eq_true h32'
    have HF := Aside0.mk (show fitZ d 5 f1 n2 n3 = 46 from fit_46 (.inl ⟨by omega, h32'⟩))
    clear h32 h32'
    go_enter Tryd.func37, Tryd.ntmps37
    go_wp2
    go_ret
    exact ⟨by rw [HF.out]; rfl, by repeat (first | exact Below.refl _ _ | apply pw_below_drewN | apply below_drew1 | apply below_alloc)⟩
   have d2 : decide ((32 : Int) ≤ d) = false := decide_eq_false h32'
   by_cases h1 : f1.size = 0
   case neg =>
    have hs := str_ne f1 h1
    have s1 := hs.1
    have s2 := hs.2
    have s3 : (f1.toList != (⟨#[]⟩ : ByteArray).toList) = true := by rw [bne, hs.1]; rfl
    have s4 : (f1.toList != []) = true := by rw [bne, hs.2]; rfl
    clear hs
    have HF := Aside0.mk (show fitZ d 5 f1 n2 n3 = 47 from fit_47 (by omega) (by rw [nd5]; exact decide_eq_false (fun hh => h1 hh.1)))
    clear h1 h32 h32'
    go_enter Tryd.func37, Tryd.ntmps37
    go_wp2
    go_ret
    exact ⟨by rw [HF.out]; rfl, by repeat (first | exact Below.refl _ _ | apply pw_below_drewN | apply below_drew1 | apply below_alloc)⟩
   obtain rfl := str_empty f1 h1
   clear h1
   by_cases h2 : n2 = 0
   case neg =>
    have qn21 : (0 < n2) = True := eq_true (by omega)
    have qn22 : (n2 = 0) = False := eq_false (by omega)
    have qn23 : decide (0 < n2) = true := decide_eq_true (by omega)
    have qn24 : ((0 : Int) < (n2 : Int)) = True := eq_true (by omega)
    have HF := Aside0.mk (show fitZ d 5 ⟨#[]⟩ n2 n3 = 47 from fit_47 (by omega) (by rw [nd5]; exact decide_eq_false (fun hh => h2 hh.2)))
    clear h32 h32' h2
    go_enter Tryd.func37, Tryd.ntmps37
    go_wp2
    go_ret
    exact ⟨by rw [HF.out]; rfl, by repeat (first | exact Below.refl _ _ | apply pw_below_drewN | apply below_drew1 | apply below_alloc)⟩
   subst h2
   have HF := Aside0.mk (show fitZ d 5 ⟨#[]⟩ 0 n3 = 0 from fit_0 (by omega) (by rw [nd5]; exact decide_eq_true ⟨rfl, rfl⟩))
   clear h32 h32'
   go_enter Tryd.func37, Tryd.ntmps37
   go_wp2
   go_ret
   exact ⟨by rw [HF.out]; rfl, by repeat (first | exact Below.refl _ _ | apply pw_below_drewN | apply below_drew1 | apply below_alloc)⟩
  ·subst h
   by_cases h32' : (32 : Int) ≤ d
   case pos =>
    have d2 : decide ((32 : Int) ≤ d) = true := decide_eq_true h32'
    have HF := Aside0.mk (show fitZ d 6 f1 n2 n3 = 46 from fit_46 (.inl ⟨by omega, h32'⟩))
    clear h32 h32'
    go_enter Tryd.func37, Tryd.ntmps37
    go_wp2
    go_ret
    exact ⟨by rw [HF.out]; rfl, by repeat (first | exact Below.refl _ _ | apply pw_below_drewN | apply below_drew1 | apply below_alloc)⟩
   have d2 : decide ((32 : Int) ≤ d) = false := decide_eq_false h32'
   by_cases h1 : f1.size = 0
   case neg =>
    have hs := str_ne f1 h1
    have s1 := hs.1
    have s2 := hs.2
    have s3 : (f1.toList != (⟨#[]⟩ : ByteArray).toList) = true := by rw [bne, hs.1]; rfl
    have s4 : (f1.toList != []) = true := by rw [bne, hs.2]; rfl
    clear hs
    have HF := Aside0.mk (show fitZ d 6 f1 n2 n3 = 47 from fit_47 (by omega) (by rw [nd6]; exact decide_eq_false (fun hh => h1 hh.1)))
    clear h1 h32 h32'
    go_enter Tryd.func37, Tryd.ntmps37
    go_wp2
    go_ret
    exact ⟨by rw [HF.out]; rfl, by repeat (first | exact Below.refl _ _ | apply pw_below_drewN | apply below_drew1 | apply below_alloc)⟩
   obtain rfl := str_empty f1 h1
   clear h1
   by_cases hl : n2 = n3
   ·subst hl
    have l1 : ((n2 : Int) != (n2 : Int)) = false := by simp
    have HF := Aside0.mk (show fitZ d 6 ⟨#[]⟩ n2 n2 = 0 from fit_0 (by omega) (by rw [nd6]; exact decide_eq_true ⟨rfl, rfl⟩))
    clear h32 h32'
    go_enter Tryd.func37, Tryd.ntmps37
    go_wp2
    go_ret
    exact ⟨by rw [HF.out]; rfl, by repeat (first | exact Below.refl _ _ | apply pw_below_drewN | apply below_drew1 | apply below_alloc)⟩
   ·have l1 : ((n2 : Int) != (n3 : Int)) = true := bne_iff_ne.mpr (by omega)
    have l2 : (n2 == n3) = false := beq_eq_false_iff_ne.mpr hl
    have HF := Aside0.mk (show fitZ d 6 ⟨#[]⟩ n2 n3 = 47 from fit_47 (by omega) (by rw [nd6]; exact decide_eq_false (fun hh => hl hh.2)))
    clear h32 h32' hl
    go_enter Tryd.func37, Tryd.ntmps37
    go_wp2
    go_ret
    exact ⟨by rw [HF.out]; rfl, by repeat (first | exact Below.refl _ _ | apply pw_below_drewN | apply below_drew1 | apply below_alloc)⟩
end Go.Proofs.YtaalajhmfdcalaaDoor.X
namespace Go.Proofs.YtaalajhmfdcalaaDoor.X
open Go.RowKit Go.Lib Go.Maps Go.Proofs.YtaalajhmfdcalaaDoorW.PrintWords Go.Proofs.YtaalajhmfdcalaaDoorW.PrintLast Go.Proofs.YtaalajhmfdcalaaDoorW.PrintMore
theorem Wr.keepT {Wd b t : Nat} {free : Bool} {st : St} {sl sl' : Value} {W W' : World} {c : Array Value} (hw : Wr Wd free st sl W) (ho : WrOn Wd sl sl' W W') (hk : W.heap[b]? = some (.cells c t (0, 0))) (h5 : t ≠ 5) (h60 : t ≠ 60) : W'.heap[b]? = some (.cells c t (0, 0)) := by
 refine (ho.kept b (lt_of_block hk) ?_ ?_).trans hk
 ·rintro rfl; rw [hw.blk] at hk; injection hk with hk; injection hk with _ hk; exact h60 hk.symm
 ·intro hh
  obtain ⟨cells, hc⟩ := own_typed hw.own.1 b hh.symm
  rw [hk] at hc; injection hc with hc; injection hc with _ hc; exact h5 hc
theorem Wr.keepM {Wd M : Nat} {free : Bool} {st : St} {sl sl' : Value} {W W' : World} {ns : List ByteArray} (hw : Wr Wd free st sl W) (ho : WrOn Wd sl sl' W W') (hs : Seen W M ns) : Seen W' M ns := by
 refine hs.move (ho.kept M hs.lt (fun hh => hs.ne hw.blk hh.symm) (fun hh => ?_))
 obtain ⟨cells, hc⟩ := own_typed hw.own.1 M hh.symm
 exact hs.ne hc rfl
theorem Wr.mapped {Wd M : Nat} {free : Bool} {st : St} {sl : Value} {W W' : World} {ns : List ByteArray} (hw : Wr Wd free st sl W) (hs : Seen W M ns) (hg : W.grownBy W' (some M)) : Wr Wd free st sl W' := by
 refine ⟨(hg.block Wd hw.lt (fun hh => by injection hh with hh; exact hs.ne hw.blk hh)).trans hw.blk, hw.own.heap hg.size fun g hg' => hg.block g (hw.own.lt g hg').2 (fun hh => ?_)⟩
 obtain ⟨cells, hc⟩ := own_typed hw.own.1 g hg'
 injection hh with hh
 exact hs.ne hc hh
theorem WrOn.mapped {Wd M : Nat} {sl sl' : Value} {W w w' : World} (ho : WrOn Wd sl sl' W w) (hM : W.heap.size ≤ M) (hWd : Wd ≤ W.heap.size) (hg : w.grownBy w' (some M)) : WrOn Wd sl sl' W w' := by
 have key : ∀ b, b < W.heap.size → w'.heap[b]? = w.heap[b]? := fun b hb => hg.block b (Nat.lt_of_lt_of_le hb ho.size) (fun hh => by injection hh with hh; omega)
 obtain ⟨a, b, c, d, e⟩ := ho.low
 exact ⟨⟨hg.os.trans a, hg.tape.trans b, hg.output.trans c, Nat.le_trans d hg.size, fun k hk => (key k (by omega)).trans (e k hk)⟩, fun b hb h1 h2 => (key b hb).trans (ho.kept b hb h1 h2), Nat.le_trans ho.size hg.size, ho.at_⟩
def wtN (l : List ByteArray) : Nat := (l.map (fun s => 12 * s.size + 16)).sum
theorem wtN_cons (s : ByteArray) (l : List ByteArray) : wtN (s :: l) = 12 * s.size + 16 + wtN l := by simp [wtN]
abbrev nmAt (xs : List ByteArray) (i : Nat) : ByteArray := rdOf ByteArray.empty xs (i : Int)
theorem nmAt_eq (xs : List ByteArray) (i : Nat) (hi : i < xs.length) : nmAt xs i = xs[i] := by
 show xs.getD ((i : Int)).toNat ByteArray.empty = _
 rw [show ((i : Int)).toNat = i from Int.toNat_natCast i, List.getD_eq_getElem?_getD, List.getElem?_eq_getElem hi]
 rfl
theorem drop_nm (xs : List ByteArray) (i : Nat) (hi : i < xs.length) : xs.drop i = nmAt xs i :: xs.drop (i + 1) := by
 rw [List.drop_eq_getElem_cons hi, nmAt_eq xs i hi]
theorem take_nm (xs : List ByteArray) (i : Nat) (hi : i < xs.length) : xs.take (i + 1) = xs.take i ++ [nmAt xs i] := by
 rw [nmAt_eq xs i hi, List.take_succ_eq_append_getElem hi]
theorem mem_nm (xs : List ByteArray) (i : Nat) (hi : i < xs.length) : nmAt xs i ∈ xs := by
 rw [nmAt_eq xs i hi]; exact List.getElem_mem hi
section
variable {free : Bool} {one : J → St → St} {seen ns : List ByteArray} {i : Nat} {nm : ByteArray} {y : J} {ys : List J} {st st5 : St}
theorem mW_A (h5 : (if i = 0 then st else putF free st [44]) = st5) (he : st5.e ≠ 0) : membersW free one seen i (nm :: ns) (y :: ys) st = st5 := by
 unfold membersW; simp only [h5, if_pos he]
theorem mW_B (h5 : (if i = 0 then st else putF free st [44]) = st5) (he : st5.e = 0) (hv : validD nm.data.toList = false) : membersW free one seen i (nm :: ns) (y :: ys) st = failF st5 47 := by
 unfold membersW; simp only [h5]; rw [if_neg (by simp [he]), if_pos hv]
theorem mW_C (h5 : (if i = 0 then st else putF free st [44]) = st5) (he : st5.e = 0) (hv : validD nm.data.toList = true) (hs : nm.data.toList ∈ seen.map (fun b => b.data.toList)) : membersW free one seen i (nm :: ns) (y :: ys) st = failF st5 45 := by
 unfold membersW; simp only [h5]; rw [if_neg (by simp [he]), if_neg (by simp [hv]), if_pos hs]
theorem mW_D (h5 : (if i = 0 then st else putF free st [44]) = st5) (he : st5.e = 0) (hv : validD nm.data.toList = true) (hs : ¬ nm.data.toList ∈ seen.map (fun b => b.data.toList)) : membersW free one seen i (nm :: ns) (y :: ys) st = membersW free one (seen ++ [nm]) (i + 1) ns ys (one y (putF free (putsF free st5 (quoteB nm)) [58])) := by
 rw [membersW]; simp only [h5]; rw [if_neg (by simp [he]), if_neg (by simp [hv]), if_neg hs]
end
theorem Sm.over {canon free : Bool} {a b m : St} (h : Sm canon m b) (hm : m = a) (he : a.e ≠ 0) : Sm canon a (putF free b [125]) := by
 have h1 := h.put free [125]
 rw [hm, putF_bad free a [125] he] at h1
 exact h1
theorem key_at (nm : ByteArray) (h : nm.size ≤ 288230376151711743) : keyOf Tryd.prog 9 (.string nm) = some (.string nm.data.toList) := Go.WideMaps.keyOf_string_mk Tryd.underlying9 (s := nm) (by unfold maxLen; omega)
set_option maxRecDepth 1000000 in
set_option maxHeartbeats 16000000 in
theorem members_calls (Wd : Nat) (free canon : Bool) (st : St) (sl : Value) (d : Int) (A2 A3 : Option Addr) (c2 c3 : Nat) (W : World) (wt : Nat) (ns : List ByteArray) (ys : List J) (hny : ns.length = ys.length) (r : Nat) (h : Wr Wd free st sl W) (hG : Gl Wd W) (hwt : wtN ns + wtI r ys + 2 ≤ wt) (hfit : Fit free st wt)
  (hsn : ∀ s, s ∈ ns → s.size ≤ 288230376151711743) (hsm : ∀ y, y ∈ ys → SmJ r y) (hln : canon = true → ∀ y, y ∈ ys → LnJ r y) (hF2 : Kd.F Kd.string W (okW Wd sl) A2 ns.length ns) (hc2 : ns.length ≤ c2) (hF3 : Kd.F k25 W (okW Wd sl) A3 ys.length ys) (hc3 : ys.length ≤ c3) (IH : WOK free canon r (wrap64 (d + 1))) :
  Calls Tryd.prog 55 #[ptr Wd, .agg #[.slice A2 ns.length c2, .slice A3 ys.length c3], .int .i64 d, .bool canon] W (VEnds Wd free canon st sl W wt (putF free (membersW free (valW free canon r) [] 0 ns ys (putF free st [123])) [125])) := by
 have H := Aside0.mk h
 have HL := Aside0.mk (Nat.le_of_lt h.lt)
 have HG := Aside0.mk hG
 have HF := Aside0.mk hfit
 have HSN := Aside0.mk hsn
 have HS := Aside0.mk hsm
 have HLN := Aside0.mk hln
 have HX2 := Aside0.mk hF2
 have HX := Aside0.mk hF3
 have hmax := Kd.F_max hF3
 unfold WOK at IH
 have HI := Aside0.mk IH
 have hmm := @run_makeMap Tryd.prog
 have HNY := Aside0.mk hny
 have hmax2 : ns.length ≤ 9223372036854775807 := by omega
 clear hny h hG hfit hsn hsm hln hF2 hF3 IH
 go_enter Tryd.func55, Tryd.ntmps55
 go_wp2_with (go_at_call 52; (with_reducible refine (put_calls Wd free st sl ⟨#[123]⟩ _ ?rm1 ?wr1).mono ?_); (case rm1 => exact HF.out.room (m := 1) (by omega) (by omega)); (case wr1 => exact H.out.below (by repeat (first | exact Below.refl _ _ | apply below_drewN | apply below_drew1 | apply below_alloc))); rintro e w1 ⟨rfl, sl1, hw, ho⟩; have HW1 := Aside0.mk hw; have HO1 := Aside0.mk ho; clear hw ho; have HE1 := Aside0.mk (show WrOn Wd sl sl1 W w1 from (WrOn.of_below HL.out (by repeat (first | exact Below.refl _ _ | apply below_drewN | apply below_drew1 | apply below_alloc))).trans HO1.out); have hbx := H.out.newblk (o := .cells #[.slice A2 ns.length c2, .slice A3 ys.length c3] 84 (0, 0)) (Nat.le_refl _) HO1.out (heap_alloc_new W _); have HMW := Aside0.mk (Nat.le_of_lt (lt_of_block hbx)); have BX2 := Aside0.mk (((below_alloc (Below.refl _ w1) (.map #[] 0)).block _ (lt_of_block hbx)).trans hbx); clear hbx; have x0 : (w1.alloc (.map #[] 0)).cell? ⟨W.heap.size, 0, none⟩ = some (.slice A2 ns.length c2) := (blk_cell BX2.out 0).trans rfl)
 go_loopg [17] (ns.length + 1) (fun g v17 wr => ∃ (i : Nat) (st2 : St) (sl2 : Value), v17 = .int .i64 (i : Int) ∧ i ≤ ns.length ∧ ns.length + 1 ≤ i + g ∧ Aside0 (Wr Wd free st2 sl2 wr) ∧ Aside0 (WrOn Wd sl sl2 W wr) ∧ Aside0 (wr.heap[W.heap.size]? = some (.cells #[.slice A2 ns.length c2, .slice A3 ys.length c3] 84 (0, 0))) ∧ Aside0 (Seen wr w1.heap.size (ns.take i)) ∧ Aside0 (∀ n, Fit free st (wt + n) → Fit free st2 (wtN (ns.drop i) + wtI r (ys.drop i) + 1 + n)) ∧ Aside0 (Sm canon (membersW free (valW free canon r) (ns.take i) i (ns.drop i) (ys.drop i) st2) (membersW free (valW free canon r) [] 0 ns ys (putF free st [123]))))
 case atStart => exact ⟨0, putF free st [123], sl1, rfl, by omega, by omega, ⟨HW1.out.below (by repeat (first | exact Below.refl _ _ | apply below_drewN | apply below_drew1 | apply below_alloc))⟩, ⟨HE1.out.trans (WrOn.of_below (Nat.le_of_lt HW1.out.lt) (by repeat (first | exact Below.refl _ _ | apply below_drewN | apply below_drew1 | apply below_alloc)))⟩, BX2, ⟨Seen.made w1⟩, ⟨fun n hn => hn.put [123] (by rw [List.drop_zero, List.drop_zero, List.length_singleton]; omega)⟩, ⟨Sm.refl _ _⟩⟩
 case round =>
  obtain ⟨i, st2, sl3, rfl, hi, hg, HW3, HO3, HB3, HSE3, HF3, HX3⟩ := hrel
  clear HW1 HO1 HE1 BX2 x0
  by_cases hlt : i < ns.length
  ·cases gk with
   | zero => omega
   | succ g =>
    have hlt2 : i < ys.length := by have := HNY.out; omega
    obtain ⟨ad, e8, q0⟩ := Kd.at_string (Kd.F_now (F_on HX2.out HO3.out)) (i : Int) (by omega) (by omega)
    subst e8
    replace q0 : wr.cell? (ad.add i) = some (.string (nmAt ns i)) := q0
    obtain ⟨ae, B2, k2, B3, k3, e9, _⟩ := F_elem (F_on HX.out HO3.out) i hlt2
    subst e9
    have HE9 := Aside0.mk (fun (w : World) (sl' : Value) (ho : WrOn Wd sl sl' W w) => F_elem (F_on HX.out ho) i hlt2)
    have HDR := Aside0.mk (drop_rd ys i hlt2)
    have HDN := Aside0.mk (drop_nm ns i hlt)
    have HTK := Aside0.mk (take_nm ns i hlt)
    have HSY := Aside0.mk (HS.out (rd_T25 ys i) (rd_mem ys i hlt2))
    have HLY := Aside0.mk (fun hc => HLN.out hc (rd_T25 ys i) (rd_mem ys i hlt2))
    have HNM := Aside0.mk (HSN.out (nmAt ns i) (mem_nm ns i hlt))
    have HWN := Aside0.mk (wrap_next i ns.length hlt hmax2)
    have p1 : (0 ≤ (i : Int)) = True := eq_true (by omega)
    have p2 : ((i : Int) < (ns.length : Int)) = True := eq_true (by omega)
    have p3 : ((i : Int) < (ys.length : Int)) = True := eq_true (by omega)
    have HX5 := Aside0.mk (show Sm canon (membersW free (valW free canon r) (ns.take i) i (nmAt ns i :: ns.drop (i + 1)) (rd_T25 ys i :: ys.drop (i + 1)) st2) (membersW free (valW free canon r) [] 0 ns ys (putF free st [123])) from by have := HX3.out; rw [HDR.out, HDN.out] at this; exact this)
    have HF5 := Aside0.mk (show ∀ n, Fit free st (wt + n) → Fit free st2 (1 + (12 * (nmAt ns i).size + 3 + (wtJ r (rd_T25 ys i) + (wtN (ns.drop (i + 1)) + wtI r (ys.drop (i + 1)) + 1 + n)))) from fun n hn => (HF3.out n hn).less (by rw [HDR.out, HDN.out, wtN_cons, wtI_cons]; omega))
    have HWT := Aside0.mk (wtJ_text r (rd_T25 ys i))
    have HL3 := Aside0.mk (Nat.le_of_lt HW3.out.lt)
    have HMW' := HMW
    have cr2 : wr.cell? ⟨Wd, 2, none⟩ = some (.int .i64 st2.e) := (blk_cell HW3.out.blk 2).trans rfl
    clear HX3 HF3 HDR HDN
    generalize rd_T25 ys (i : Int) = y at *
    generalize nmAt ns i = nm at *
    have HKEY := Aside0.mk (key_at nm HNM.out)
    by_cases hi0 : i = 0
    ·have c0 : decide ((0 : Int) < (i : Int)) = false := decide_eq_false (by omega)
     have c1' : ((0 : Int) < (i : Int)) = False := eq_false (by omega)
     have c2' : (0 < i) = False := eq_false (by omega)
     have c3' : decide (0 < i) = false := decide_eq_false (by omega)
     have H5 := Aside0.mk (show (if i = 0 then st2 else putF free st2 [44]) = st2 from if_pos hi0)
     have HF6 := Aside0.mk (show ∀ n, Fit free st (wt + n) → Fit free st2 (12 * nm.size + 3 + (wtJ r y + (wtN (ns.drop (i + 1)) + wtI r (ys.drop (i + 1)) + 1 + n))) from fun n hn => (HF5.out n hn).less (by omega))
     clear hi0 HF5
     by_cases he : st2.e = 0
     ·cases hv : validD nm.data.toList with
      | false =>
       have e0 : ((st2.e : Int) != 0) = false := by rw [he]; rfl
       have HER := Aside0.mk he
       clear he
       have HN := Aside0.mk (show (47 : Int) = ((47 : Nat) : Int) from rfl)
       have HV := Aside0.mk hv
       clear hv
       have HW5 := HW3
       have HO35 := HO3
       have HB5 := HB3
       have HSE5 := HSE3
       have HG5 := Aside0.mk (HG.out.on HO35.out)
       go_wp2_with (first | (go_at_call 75; (with_reducible refine (valid_calls nm _ false HV.out (by have := HNM.out; omega) ?tb).mono ?_); (case tb => exact HG5.out.tabs); rintro e w6 ⟨rfl, hb⟩; have HW6 := Aside0.mk (HW5.out.below hb); have HO6 := Aside0.mk (HO35.out.trans (WrOn.of_below (Nat.le_of_lt HW5.out.lt) hb)); have HN6 := Aside0.mk (WrOn.of_below (sl := sl3) (Nat.le_of_lt HW5.out.lt) hb); have HB6 := Aside0.mk (HW5.out.keepT HN6.out HB5.out (by decide) (by decide)); have HSE6 := Aside0.mk (HW5.out.keepM HN6.out HSE5.out); clear hb) | (go_at_call 50; (with_reducible refine (wfail_calls Wd free st2 sl3 47 47 HN.out _ ?wrf).mono ?_); (case wrf => exact HW6.out); rintro e w9 ⟨rfl, hw, ho⟩; have HW9 := Aside0.mk hw; have HO9 := Aside0.mk ho; clear hw ho))
       (try simp only [Exit.inBlock, Exit.then])
       refine ⟨rfl, .tuple #[], results_none rfl _ _ _, ?_⟩
       exact VEnds.of (Below.refl _ _) HL.out (HO6.out.trans HO9.out) HW9.out (HX5.out.over (mW_B H5.out HER.out HV.out) (failF_e _ _ (by decide))) (fun n hn => ((HF6.out n hn).failF 47).less (by omega))
      | true =>
       by_cases hsn : nm.data.toList ∈ (ns.take i).map (fun b => b.data.toList)
       ·have e0 : ((st2.e : Int) != 0) = false := by rw [he]; rfl
        have HER := Aside0.mk he
        clear he
        have HN := Aside0.mk (show (45 : Int) = ((45 : Nat) : Int) from rfl)
        have HV := Aside0.mk hv
        clear hv
        have HSN5 := Aside0.mk hsn
        clear hsn
        have HW5 := HW3
        have HO35 := HO3
        have HB5 := HB3
        have HSE5 := HSE3
        have HG5 := Aside0.mk (HG.out.on HO35.out)
        go_wp2_with (first | (go_at_call 75; (with_reducible refine (valid_calls nm _ true HV.out (by have := HNM.out; omega) ?tb).mono ?_); (case tb => exact HG5.out.tabs); rintro e w6 ⟨rfl, hb⟩; have HW6 := Aside0.mk (HW5.out.below hb); have HO6 := Aside0.mk (HO35.out.trans (WrOn.of_below (Nat.le_of_lt HW5.out.lt) hb)); have HN6 := Aside0.mk (WrOn.of_below (sl := sl3) (Nat.le_of_lt HW5.out.lt) hb); have HB6 := Aside0.mk (HW5.out.keepT HN6.out HB5.out (by decide) (by decide)); have HSE6 := Aside0.mk (HW5.out.keepM HN6.out HSE5.out); clear hb) | (at_lookup; obtain ⟨D, hD1, hD2, hD3⟩ := HSE6.out; refine wpList_lookup_own_int _ rfl _ _ 97 rfl 9 3 .i64 key9 Tryd.underlying97 Tryd.underlying3 (zero3 _) w1.heap.size (ns.take i).length D rfl hD2 (.string nm) (.string nm.data.toList) rfl HKEY.out ?_; intro cc hat hwc; rw [hD3 nm.data.toList, if_pos HSN5.out] at hat; injection hat with hat; injection hat with _ hat; subst hat; have HD1 := Aside0.mk hD1; have HD2 := Aside0.mk hD2; have HD3 := Aside0.mk hD3; clear hD1 hD2 hD3 hwc) | (go_at_call 50; (with_reducible refine (wfail_calls Wd free st2 sl3 45 45 HN.out _ ?wrf).mono ?_); (case wrf => exact HW6.out); rintro e w9 ⟨rfl, hw, ho⟩; have HW9 := Aside0.mk hw; have HO9 := Aside0.mk ho; clear hw ho))
        (try simp only [Exit.inBlock, Exit.then])
        refine ⟨rfl, .tuple #[], results_none rfl _ _ _, ?_⟩
        exact VEnds.of (Below.refl _ _) HL.out (HO6.out.trans HO9.out) HW9.out (HX5.out.over (mW_C H5.out HER.out HV.out HSN5.out) (failF_e _ _ (by decide))) (fun n hn => ((HF6.out n hn).failF 45).less (by omega))
       ·have e0 : ((st2.e : Int) != 0) = false := by rw [he]; rfl
        have HER := Aside0.mk he
        clear he
        have HV := Aside0.mk hv
        have HSN5 := Aside0.mk hsn
        clear hv hsn
        have HF8 := Aside0.mk (show ∀ n, Fit free st (wt + n) → Fit free (putsF free st2 (quoteB nm)) (1 + (wtJ r y + (wtN (ns.drop (i + 1)) + wtI r (ys.drop (i + 1)) + 1 + n))) from fun n hn => (HF6.out n hn).quote nm (by omega))
        have HF9 := Aside0.mk (show ∀ n, Fit free st (wt + n) → Fit free (putF free (putsF free st2 (quoteB nm)) [58]) (wtJ r y + (wtN (ns.drop (i + 1)) + wtI r (ys.drop (i + 1)) + 1 + n)) from fun n hn => (HF8.out n hn).put [58] (by rw [List.length_singleton]; omega))
        have HX6 := Aside0.mk (show Sm canon (membersW free (valW free canon r) (ns.take (i + 1)) (i + 1) (ns.drop (i + 1)) (ys.drop (i + 1)) (valW free canon r y (putF free (putsF free st2 (quoteB nm)) [58]))) (membersW free (valW free canon r) [] 0 ns ys (putF free st [123])) from by have := HX5.out; rw [mW_D H5.out HER.out HV.out HSN5.out] at this; rw [HTK.out]; exact this)
        have HR8 := Aside0.mk ((HF6.out 0 HF.out).room (m := 12 * nm.size + 14) (by have := HWT.out; omega) (by have := HNM.out; omega))
        have HR9 := Aside0.mk ((HF8.out 0 HF.out).room (m := 1) (by omega) (by omega))
        have htl : (ns.take i).length ≤ 9223372036854775806 := by rw [List.length_take]; omega
        clear HX5
        have HW5 := HW3
        have HO35 := HO3
        have HB5 := HB3
        have HSE5 := HSE3
        have HG5 := Aside0.mk (HG.out.on HO35.out)
        go_wp2_with (first | (go_at_call 75; (with_reducible refine (valid_calls nm _ true HV.out (by have := HNM.out; omega) ?tb).mono ?_); (case tb => exact HG5.out.tabs); rintro e w6 ⟨rfl, hb⟩; have HW6 := Aside0.mk (HW5.out.below hb); have HO6 := Aside0.mk (HO35.out.trans (WrOn.of_below (Nat.le_of_lt HW5.out.lt) hb)); have HN6 := Aside0.mk (WrOn.of_below (sl := sl3) (Nat.le_of_lt HW5.out.lt) hb); have HB6 := Aside0.mk (HW5.out.keepT HN6.out HB5.out (by decide) (by decide)); have HSE6 := Aside0.mk (HW5.out.keepM HN6.out HSE5.out); clear hb) | (at_lookup; obtain ⟨D, hD1, hD2, hD3⟩ := HSE6.out; refine wpList_lookup_own_int _ rfl _ _ 97 rfl 9 3 .i64 key9 Tryd.underlying97 Tryd.underlying3 (zero3 _) w1.heap.size (ns.take i).length D rfl hD2 (.string nm) (.string nm.data.toList) rfl HKEY.out ?_; intro cc hat hwc; rw [hD3 nm.data.toList, if_neg HSN5.out] at hat; injection hat with hat; injection hat with _ hat; subst hat; have HD1 := Aside0.mk hD1; have HD2 := Aside0.mk hD2; have HD3 := Aside0.mk hD3; clear hD1 hD2 hD3 hwc) | (at_mapUpdate; refine wpList_mapUpdate_own _ rfl _ _ _ 97 rfl 9 3 key9 Tryd.underlying97 _ w1.heap.size (ns.take i).length _ rfl HD2.out (by unfold maxLen; omega) _ _ _ rfl rfl HKEY.out _ [] (plainElem_int Tryd.underlying3 (by decide)) ?_; intro w7 hown7 hg7; have HW7 := Aside0.mk (HW6.out.mapped HSE6.out hg7); have HO7 := Aside0.mk (HO6.out.mapped HMW.out HL.out hg7); have HB7 := Aside0.mk (blk_grownM HB6.out HSE6.out hg7); have HSE7 := Aside0.mk (show Seen w7 w1.heap.size (ns.take (i + 1)) from HTK.out ▸ seen_put (W := w6) nm HD1.out HD3.out hown7); clear hown7 hg7) | (go_at_call 53; (with_reducible refine (quote_calls Wd free st2 sl3 nm _ HNM.out ?rm8 ?wr8).mono ?_); (case rm8 => exact HR8.out); (case wr8 => exact HW7.out); rintro e w8 ⟨rfl, sl8, hw, ho⟩; have HW8 := Aside0.mk hw; have HO8 := Aside0.mk (HO7.out.trans ho); have HB8 := Aside0.mk (HW7.out.keepT ho HB7.out (by decide) (by decide)); have HSE8 := Aside0.mk (HW7.out.keepM ho HSE7.out); clear hw ho) | (go_at_call 52; (with_reducible refine (put_calls Wd free (putsF free st2 (quoteB nm)) sl8 ⟨#[58]⟩ _ ?rm9 ?wr9).mono ?_); (case rm9 => exact HR9.out); (case wr9 => exact HW8.out); rintro e w9 ⟨rfl, sl9, hw, ho⟩; have HW9 := Aside0.mk hw; have HO9 := Aside0.mk (HO8.out.trans ho); have HB9 := Aside0.mk (HW8.out.keepT ho HB8.out (by decide) (by decide)); have HSE9 := Aside0.mk (HW8.out.keepM ho HSE8.out); clear hw ho; have x9 : w9.cell? ⟨W.heap.size, 1, none⟩ = some (.slice (some ae) ys.length c3) := (blk_cell HB9.out 1).trans rfl; obtain ⟨ae', B2', k2', B3', k3', e9, z0, z1, z2, z3, m2, g2, m3, g3⟩ := HE9.out w9 sl9 HO9.out; injection e9 with e9; subst e9; have HM2 := Aside0.mk m2; have HM3 := Aside0.mk m3; have HG2 := Aside0.mk g2; have HG3 := Aside0.mk g3; clear m2 m3 g2 g3) | (go_at_call 33; (with_reducible refine (HI.out Wd (putF free (putsF free st2 (quoteB nm)) [58]) sl9 _ y B2' B3' k2' k3' ?w10 ?f10 HSY.out HLY.out ?s102 HM2.out ?s103 HM3.out ?g10).mono ?_); (case w10 => exact HW9.out); (case f10 => exact (HF9.out 0 HF.out).less (by omega)); (case s102 => exact HG2.out); (case s103 => exact HG3.out); (case g10 => exact HG.out.on HO9.out); rintro e w10 ⟨rfl, st10, sl10, hs, hf, hw, ho⟩; have HS10 := Aside0.mk hs; have HV10 := Aside0.mk hf; have HW10 := Aside0.mk hw; have HO10 := Aside0.mk (HO9.out.trans ho); have HB10 := Aside0.mk (HW9.out.keepT ho HB9.out (by decide) (by decide)); have HSE10 := Aside0.mk (HW9.out.keepM ho HSE9.out); clear hs hf hw ho))
        go_roundg g
        case measure => omega
        case rel => exact ⟨i + 1, st10, sl10, (by first | exact congrArg (Value.int .i64) HWN.out | exact congrArg (Value.int .i64) (show (i : Int) + 1 = ((i + 1 : Nat) : Int) by omega)), by omega, by omega, HW10, HO10, HB10, HSE10, ⟨fun n hn => HV10.out _ (HF9.out n hn)⟩, ⟨(HS10.out.members free _ _ _ _).trans HX6.out⟩⟩
     ·have e0 : ((st2.e : Int) != 0) = true := by
       have : ¬ (st2.e : Int) = 0 := by omega
       simp only [bne_iff_ne, ne_eq]
       exact this
      have HER := Aside0.mk he
      clear he
      have HW5 := HW3
      have HO35 := HO3
      have HB5 := HB3
      have HSE5 := HSE3
      have HG5 := Aside0.mk (HG.out.on HO35.out)
      go_wp2
      (try simp only [Exit.inBlock, Exit.then])
      refine ⟨rfl, .tuple #[], results_none rfl _ _ _, ?_⟩
      exact VEnds.of (Below.refl _ _) HL.out HO35.out HW5.out (HX5.out.over (mW_A H5.out HER.out) HER.out) (fun n hn => (HF6.out n hn).less (by omega))
    ·have c0 : decide ((0 : Int) < (i : Int)) = true := decide_eq_true (by omega)
     have H5 := Aside0.mk (show (if i = 0 then st2 else putF free st2 [44]) = putF free st2 [44] from if_neg hi0)
     have HF6 := Aside0.mk (show ∀ n, Fit free st (wt + n) → Fit free (putF free st2 [44]) (12 * nm.size + 3 + (wtJ r y + (wtN (ns.drop (i + 1)) + wtI r (ys.drop (i + 1)) + 1 + n))) from fun n hn => (HF5.out n hn).put [44] (by rw [List.length_singleton]; omega))
     have HR5 := Aside0.mk ((HF5.out 0 HF.out).room (m := 1) (by omega) (by omega))
     clear HF5
     by_cases he : (putF free st2 [44]).e = 0
     ·cases hv : validD nm.data.toList with
      | false =>
       have e0 : (((putF free st2 [44]).e : Int) != 0) = false := by rw [he]; rfl
       have HER := Aside0.mk he
       clear he
       have HN := Aside0.mk (show (47 : Int) = ((47 : Nat) : Int) from rfl)
       have HV := Aside0.mk hv
       clear hv
       go_wp2_with (first | (go_at_call 52; (with_reducible refine (put_calls Wd free st2 sl3 ⟨#[44]⟩ _ ?rm5 ?wr5).mono ?_); (case rm5 => exact HR5.out); (case wr5 => exact HW3.out); rintro e w5 ⟨rfl, sl5, hw, ho⟩; have HW5 := Aside0.mk hw; have HO5 := Aside0.mk ho; clear hw ho; have HO35 := Aside0.mk (HO3.out.trans HO5.out); have HB5 := Aside0.mk (HW3.out.keepT HO5.out HB3.out (by decide) (by decide)); have HSE5 := Aside0.mk (HW3.out.keepM HO5.out HSE3.out); have HG5 := Aside0.mk (HG.out.on HO35.out); have x2 : w5.cell? ⟨Wd, 2, none⟩ = some (.int .i64 (putF free st2 [44]).e) := (blk_cell HW5.out.blk 2).trans rfl) | (go_at_call 75; (with_reducible refine (valid_calls nm _ false HV.out (by have := HNM.out; omega) ?tb).mono ?_); (case tb => exact HG5.out.tabs); rintro e w6 ⟨rfl, hb⟩; have HW6 := Aside0.mk (HW5.out.below hb); have HO6 := Aside0.mk (HO35.out.trans (WrOn.of_below (Nat.le_of_lt HW5.out.lt) hb)); have HN6 := Aside0.mk (WrOn.of_below (sl := sl5) (Nat.le_of_lt HW5.out.lt) hb); have HB6 := Aside0.mk (HW5.out.keepT HN6.out HB5.out (by decide) (by decide)); have HSE6 := Aside0.mk (HW5.out.keepM HN6.out HSE5.out); clear hb) | (go_at_call 50; (with_reducible refine (wfail_calls Wd free (putF free st2 [44]) sl5 47 47 HN.out _ ?wrf).mono ?_); (case wrf => exact HW6.out); rintro e w9 ⟨rfl, hw, ho⟩; have HW9 := Aside0.mk hw; have HO9 := Aside0.mk ho; clear hw ho))
       (try simp only [Exit.inBlock, Exit.then])
       refine ⟨rfl, .tuple #[], results_none rfl _ _ _, ?_⟩
       exact VEnds.of (Below.refl _ _) HL.out (HO6.out.trans HO9.out) HW9.out (HX5.out.over (mW_B H5.out HER.out HV.out) (failF_e _ _ (by decide))) (fun n hn => ((HF6.out n hn).failF 47).less (by omega))
      | true =>
       by_cases hsn : nm.data.toList ∈ (ns.take i).map (fun b => b.data.toList)
       ·have e0 : (((putF free st2 [44]).e : Int) != 0) = false := by rw [he]; rfl
        have HER := Aside0.mk he
        clear he
        have HN := Aside0.mk (show (45 : Int) = ((45 : Nat) : Int) from rfl)
        have HV := Aside0.mk hv
        clear hv
        have HSN5 := Aside0.mk hsn
        clear hsn
        go_wp2_with (first | (go_at_call 52; (with_reducible refine (put_calls Wd free st2 sl3 ⟨#[44]⟩ _ ?rm5 ?wr5).mono ?_); (case rm5 => exact HR5.out); (case wr5 => exact HW3.out); rintro e w5 ⟨rfl, sl5, hw, ho⟩; have HW5 := Aside0.mk hw; have HO5 := Aside0.mk ho; clear hw ho; have HO35 := Aside0.mk (HO3.out.trans HO5.out); have HB5 := Aside0.mk (HW3.out.keepT HO5.out HB3.out (by decide) (by decide)); have HSE5 := Aside0.mk (HW3.out.keepM HO5.out HSE3.out); have HG5 := Aside0.mk (HG.out.on HO35.out); have x2 : w5.cell? ⟨Wd, 2, none⟩ = some (.int .i64 (putF free st2 [44]).e) := (blk_cell HW5.out.blk 2).trans rfl) | (go_at_call 75; (with_reducible refine (valid_calls nm _ true HV.out (by have := HNM.out; omega) ?tb).mono ?_); (case tb => exact HG5.out.tabs); rintro e w6 ⟨rfl, hb⟩; have HW6 := Aside0.mk (HW5.out.below hb); have HO6 := Aside0.mk (HO35.out.trans (WrOn.of_below (Nat.le_of_lt HW5.out.lt) hb)); have HN6 := Aside0.mk (WrOn.of_below (sl := sl5) (Nat.le_of_lt HW5.out.lt) hb); have HB6 := Aside0.mk (HW5.out.keepT HN6.out HB5.out (by decide) (by decide)); have HSE6 := Aside0.mk (HW5.out.keepM HN6.out HSE5.out); clear hb) | (at_lookup; obtain ⟨D, hD1, hD2, hD3⟩ := HSE6.out; refine wpList_lookup_own_int _ rfl _ _ 97 rfl 9 3 .i64 key9 Tryd.underlying97 Tryd.underlying3 (zero3 _) w1.heap.size (ns.take i).length D rfl hD2 (.string nm) (.string nm.data.toList) rfl HKEY.out ?_; intro cc hat hwc; rw [hD3 nm.data.toList, if_pos HSN5.out] at hat; injection hat with hat; injection hat with _ hat; subst hat; have HD1 := Aside0.mk hD1; have HD2 := Aside0.mk hD2; have HD3 := Aside0.mk hD3; clear hD1 hD2 hD3 hwc) | (go_at_call 50; (with_reducible refine (wfail_calls Wd free (putF free st2 [44]) sl5 45 45 HN.out _ ?wrf).mono ?_); (case wrf => exact HW6.out); rintro e w9 ⟨rfl, hw, ho⟩; have HW9 := Aside0.mk hw; have HO9 := Aside0.mk ho; clear hw ho))
        (try simp only [Exit.inBlock, Exit.then])
        refine ⟨rfl, .tuple #[], results_none rfl _ _ _, ?_⟩
        exact VEnds.of (Below.refl _ _) HL.out (HO6.out.trans HO9.out) HW9.out (HX5.out.over (mW_C H5.out HER.out HV.out HSN5.out) (failF_e _ _ (by decide))) (fun n hn => ((HF6.out n hn).failF 45).less (by omega))
       ·have e0 : (((putF free st2 [44]).e : Int) != 0) = false := by rw [he]; rfl
        have HER := Aside0.mk he
        clear he
        have HV := Aside0.mk hv
        have HSN5 := Aside0.mk hsn
        clear hv hsn
        have HF8 := Aside0.mk (show ∀ n, Fit free st (wt + n) → Fit free (putsF free (putF free st2 [44]) (quoteB nm)) (1 + (wtJ r y + (wtN (ns.drop (i + 1)) + wtI r (ys.drop (i + 1)) + 1 + n))) from fun n hn => (HF6.out n hn).quote nm (by omega))
        have HF9 := Aside0.mk (show ∀ n, Fit free st (wt + n) → Fit free (putF free (putsF free (putF free st2 [44]) (quoteB nm)) [58]) (wtJ r y + (wtN (ns.drop (i + 1)) + wtI r (ys.drop (i + 1)) + 1 + n)) from fun n hn => (HF8.out n hn).put [58] (by rw [List.length_singleton]; omega))
        have HX6 := Aside0.mk (show Sm canon (membersW free (valW free canon r) (ns.take (i + 1)) (i + 1) (ns.drop (i + 1)) (ys.drop (i + 1)) (valW free canon r y (putF free (putsF free (putF free st2 [44]) (quoteB nm)) [58]))) (membersW free (valW free canon r) [] 0 ns ys (putF free st [123])) from by have := HX5.out; rw [mW_D H5.out HER.out HV.out HSN5.out] at this; rw [HTK.out]; exact this)
        have HR8 := Aside0.mk ((HF6.out 0 HF.out).room (m := 12 * nm.size + 14) (by have := HWT.out; omega) (by have := HNM.out; omega))
        have HR9 := Aside0.mk ((HF8.out 0 HF.out).room (m := 1) (by omega) (by omega))
        have htl : (ns.take i).length ≤ 9223372036854775806 := by rw [List.length_take]; omega
        clear HX5
        go_wp2_with (first | (go_at_call 52; (with_reducible refine (put_calls Wd free st2 sl3 ⟨#[44]⟩ _ ?rm5 ?wr5).mono ?_); (case rm5 => exact HR5.out); (case wr5 => exact HW3.out); rintro e w5 ⟨rfl, sl5, hw, ho⟩; have HW5 := Aside0.mk hw; have HO5 := Aside0.mk ho; clear hw ho; have HO35 := Aside0.mk (HO3.out.trans HO5.out); have HB5 := Aside0.mk (HW3.out.keepT HO5.out HB3.out (by decide) (by decide)); have HSE5 := Aside0.mk (HW3.out.keepM HO5.out HSE3.out); have HG5 := Aside0.mk (HG.out.on HO35.out); have x2 : w5.cell? ⟨Wd, 2, none⟩ = some (.int .i64 (putF free st2 [44]).e) := (blk_cell HW5.out.blk 2).trans rfl) | (go_at_call 75; (with_reducible refine (valid_calls nm _ true HV.out (by have := HNM.out; omega) ?tb).mono ?_); (case tb => exact HG5.out.tabs); rintro e w6 ⟨rfl, hb⟩; have HW6 := Aside0.mk (HW5.out.below hb); have HO6 := Aside0.mk (HO35.out.trans (WrOn.of_below (Nat.le_of_lt HW5.out.lt) hb)); have HN6 := Aside0.mk (WrOn.of_below (sl := sl5) (Nat.le_of_lt HW5.out.lt) hb); have HB6 := Aside0.mk (HW5.out.keepT HN6.out HB5.out (by decide) (by decide)); have HSE6 := Aside0.mk (HW5.out.keepM HN6.out HSE5.out); clear hb) | (at_lookup; obtain ⟨D, hD1, hD2, hD3⟩ := HSE6.out; refine wpList_lookup_own_int _ rfl _ _ 97 rfl 9 3 .i64 key9 Tryd.underlying97 Tryd.underlying3 (zero3 _) w1.heap.size (ns.take i).length D rfl hD2 (.string nm) (.string nm.data.toList) rfl HKEY.out ?_; intro cc hat hwc; rw [hD3 nm.data.toList, if_neg HSN5.out] at hat; injection hat with hat; injection hat with _ hat; subst hat; have HD1 := Aside0.mk hD1; have HD2 := Aside0.mk hD2; have HD3 := Aside0.mk hD3; clear hD1 hD2 hD3 hwc) | (at_mapUpdate; refine wpList_mapUpdate_own _ rfl _ _ _ 97 rfl 9 3 key9 Tryd.underlying97 _ w1.heap.size (ns.take i).length _ rfl HD2.out (by unfold maxLen; omega) _ _ _ rfl rfl HKEY.out _ [] (plainElem_int Tryd.underlying3 (by decide)) ?_; intro w7 hown7 hg7; have HW7 := Aside0.mk (HW6.out.mapped HSE6.out hg7); have HO7 := Aside0.mk (HO6.out.mapped HMW.out HL.out hg7); have HB7 := Aside0.mk (blk_grownM HB6.out HSE6.out hg7); have HSE7 := Aside0.mk (show Seen w7 w1.heap.size (ns.take (i + 1)) from HTK.out ▸ seen_put (W := w6) nm HD1.out HD3.out hown7); clear hown7 hg7) | (go_at_call 53; (with_reducible refine (quote_calls Wd free (putF free st2 [44]) sl5 nm _ HNM.out ?rm8 ?wr8).mono ?_); (case rm8 => exact HR8.out); (case wr8 => exact HW7.out); rintro e w8 ⟨rfl, sl8, hw, ho⟩; have HW8 := Aside0.mk hw; have HO8 := Aside0.mk (HO7.out.trans ho); have HB8 := Aside0.mk (HW7.out.keepT ho HB7.out (by decide) (by decide)); have HSE8 := Aside0.mk (HW7.out.keepM ho HSE7.out); clear hw ho) | (go_at_call 52; (with_reducible refine (put_calls Wd free (putsF free (putF free st2 [44]) (quoteB nm)) sl8 ⟨#[58]⟩ _ ?rm9 ?wr9).mono ?_); (case rm9 => exact HR9.out); (case wr9 => exact HW8.out); rintro e w9 ⟨rfl, sl9, hw, ho⟩; have HW9 := Aside0.mk hw; have HO9 := Aside0.mk (HO8.out.trans ho); have HB9 := Aside0.mk (HW8.out.keepT ho HB8.out (by decide) (by decide)); have HSE9 := Aside0.mk (HW8.out.keepM ho HSE8.out); clear hw ho; have x9 : w9.cell? ⟨W.heap.size, 1, none⟩ = some (.slice (some ae) ys.length c3) := (blk_cell HB9.out 1).trans rfl; obtain ⟨ae', B2', k2', B3', k3', e9, z0, z1, z2, z3, m2, g2, m3, g3⟩ := HE9.out w9 sl9 HO9.out; injection e9 with e9; subst e9; have HM2 := Aside0.mk m2; have HM3 := Aside0.mk m3; have HG2 := Aside0.mk g2; have HG3 := Aside0.mk g3; clear m2 m3 g2 g3) | (go_at_call 33; (with_reducible refine (HI.out Wd (putF free (putsF free (putF free st2 [44]) (quoteB nm)) [58]) sl9 _ y B2' B3' k2' k3' ?w10 ?f10 HSY.out HLY.out ?s102 HM2.out ?s103 HM3.out ?g10).mono ?_); (case w10 => exact HW9.out); (case f10 => exact (HF9.out 0 HF.out).less (by omega)); (case s102 => exact HG2.out); (case s103 => exact HG3.out); (case g10 => exact HG.out.on HO9.out); rintro e w10 ⟨rfl, st10, sl10, hs, hf, hw, ho⟩; have HS10 := Aside0.mk hs; have HV10 := Aside0.mk hf; have HW10 := Aside0.mk hw; have HO10 := Aside0.mk (HO9.out.trans ho); have HB10 := Aside0.mk (HW9.out.keepT ho HB9.out (by decide) (by decide)); have HSE10 := Aside0.mk (HW9.out.keepM ho HSE9.out); clear hs hf hw ho))
        go_roundg g
        case measure => omega
        case rel => exact ⟨i + 1, st10, sl10, (by first | exact congrArg (Value.int .i64) HWN.out | exact congrArg (Value.int .i64) (show (i : Int) + 1 = ((i + 1 : Nat) : Int) by omega)), by omega, by omega, HW10, HO10, HB10, HSE10, ⟨fun n hn => HV10.out _ (HF9.out n hn)⟩, ⟨(HS10.out.members free _ _ _ _).trans HX6.out⟩⟩
     ·have e0 : (((putF free st2 [44]).e : Int) != 0) = true := by
       have : ¬ ((putF free st2 [44]).e : Int) = 0 := by omega
       simp only [bne_iff_ne, ne_eq]
       exact this
      have HER := Aside0.mk he
      clear he
      go_wp2_with (first | (go_at_call 52; (with_reducible refine (put_calls Wd free st2 sl3 ⟨#[44]⟩ _ ?rm5 ?wr5).mono ?_); (case rm5 => exact HR5.out); (case wr5 => exact HW3.out); rintro e w5 ⟨rfl, sl5, hw, ho⟩; have HW5 := Aside0.mk hw; have HO5 := Aside0.mk ho; clear hw ho; have HO35 := Aside0.mk (HO3.out.trans HO5.out); have HB5 := Aside0.mk (HW3.out.keepT HO5.out HB3.out (by decide) (by decide)); have HSE5 := Aside0.mk (HW3.out.keepM HO5.out HSE3.out); have HG5 := Aside0.mk (HG.out.on HO35.out); have x2 : w5.cell? ⟨Wd, 2, none⟩ = some (.int .i64 (putF free st2 [44]).e) := (blk_cell HW5.out.blk 2).trans rfl))
      (try simp only [Exit.inBlock, Exit.then])
      refine ⟨rfl, .tuple #[], results_none rfl _ _ _, ?_⟩
      exact VEnds.of (Below.refl _ _) HL.out HO35.out HW5.out (HX5.out.over (mW_A H5.out HER.out) HER.out) (fun n hn => (HF6.out n hn).less (by omega))
  ·have p2 : ((i : Int) < (ns.length : Int)) = False := eq_false (by omega)
   have hie : ns.drop i = [] := List.drop_eq_nil_of_le (by omega)
   have hie2 : ys.drop i = [] := List.drop_eq_nil_of_le (by have := HNY.out; omega)
   have HX5 := Aside0.mk (show Sm canon st2 (membersW free (valW free canon r) [] 0 ns ys (putF free st [123])) from by have := HX3.out; rw [hie, hie2] at this; exact this)
   have HF5 := Aside0.mk (show ∀ n, Fit free st (wt + n) → Fit free st2 (1 + n) from fun n hn => (HF3.out n hn).less (by omega))
   clear hie hie2 HX3 HF3
   go_wp2_with (go_at_call 52; (with_reducible refine (put_calls Wd free st2 sl3 ⟨#[125]⟩ _ ?rm9 ?wr9).mono ?_); (case rm9 => exact (HF5.out 0 HF.out).room (m := 1) (by omega) (by omega)); (case wr9 => exact HW3.out); rintro e w9 ⟨rfl, sl9, hw, ho⟩; have HW9 := Aside0.mk hw; have HO9 := Aside0.mk ho; clear hw ho)
   (try simp only [Exit.inBlock, Exit.then])
   refine ⟨rfl, .tuple #[], results_none rfl _ _ _, ?_⟩
   exact VEnds.of (Below.refl _ _) HL.out (HO3.out.trans HO9.out) HW9.out (HX5.out.put free [125]) (fun n hn => (HF5.out n hn).put [125] (by rw [List.length_singleton]; omega))
end Go.Proofs.YtaalajhmfdcalaaDoor.X
namespace Go.Proofs.YtaalajhmfdcalaaDoor.X
open Go.RowKit Go.Lib Go.Proofs.YtaalajhmfdcalaaDoorW.PrintWords Go.Proofs.YtaalajhmfdcalaaDoorW.PrintLast Go.Proofs.YtaalajhmfdcalaaDoorW.PrintMore
def SortedOK : Prop :=
 ∀ (W : World) (ok : Nat → Prop) (A2 A3 : Option Addr) (c2 c3 : Nat) (ns : List ByteArray) (ys : List J), ns.length = ys.length → ns.length ≤ 1000000 → Kd.F Kd.string W ok A2 ns.length ns → ns.length ≤ c2 → Kd.F k25 W ok A3 ys.length ys → ys.length ≤ c3 →
  Calls Tryd.prog 54 #[.agg #[.slice A2 ns.length c2, .slice A3 ys.length c3]] W fun x W' =>
   ∃ (B2 B3 : Option Addr) (k2 k3 : Nat) (ns' : List ByteArray) (ys' : List J), x = .returned (.agg #[.slice B2 ns'.length k2, .slice B3 ys'.length k3]) ∧ Below W.heap.size W W' ∧ ns'.length = ys'.length ∧ ns'.length ≤ k2 ∧ ys'.length ≤ k3 ∧ (ns'.zip ys').Perm (ns.zip ys) ∧
    (ns.Nodup → ns' = namesOf true ns ys ∧ ys' = itemsOf true ns ys) ∧ Kd.F Kd.string W' (fun k => ok k ∨ W.heap.size ≤ k) B2 ns'.length ns' ∧ Kd.F k25 W' (fun k => ok k ∨ W.heap.size ≤ k) B3 ys'.length ys'
theorem insF_perm (x : ByteArray × J) : ∀ l, (insF x l).Perm (x :: l)
 | [] => .refl _
 | y :: l => by
  unfold insF
  split
  ·exact ((insF_perm x l).cons y).trans (.swap _ _ _)
  ·exact .refl _
theorem sortF_perm' : ∀ (l a : List (ByteArray × J)), (l.foldl (fun a x => insF x a) a).Perm (a ++ l)
 | [], a => by simp
 | x :: l, a => by
  refine (sortF_perm' l (insF x a)).trans (((insF_perm x a).append_right l).trans ?_)
  simp only [List.cons_append]
  exact List.perm_middle.symm
theorem sortF_perm (l : List (ByteArray × J)) : (sortF l).Perm l := by
 have := sortF_perm' l []
 simpa [sortF] using this
theorem map_fst_zip {ns : List ByteArray} {ys : List J} (h : ns.length = ys.length) : (ns.zip ys).map Prod.fst = ns := List.map_fst_zip (by omega)
theorem map_snd_zip {ns : List ByteArray} {ys : List J} (h : ns.length = ys.length) : (ns.zip ys).map Prod.snd = ys := List.map_snd_zip (by omega)
theorem namesOf_len {ns : List ByteArray} {ys : List J} (c : Bool) (h : ns.length = ys.length) : (namesOf c ns ys).length = (itemsOf c ns ys).length := by
 cases c with
 | false => exact h
 | true => simp [namesOf, itemsOf]
theorem namesOf_perm {ns : List ByteArray} {ys : List J} (h : ns.length = ys.length) : (namesOf true ns ys).Perm ns := by
 have := (sortF_perm (ns.zip ys)).map Prod.fst
 rw [map_fst_zip h] at this
 exact this
theorem order_any (free : Bool) {one : J → St → St} (ho : Quits one) {ns ns' : List ByteArray} {ys ys' : List J} (a : St) (h : ns.length = ys.length) (h' : ns'.length = ys'.length) (hp : (ns'.zip ys').Perm (ns.zip ys)) (hn : ns.Nodup → ns' = namesOf true ns ys ∧ ys' = itemsOf true ns ys) :
  Sm true (putF free (membersW free one [] 0 ns' ys' a) [125]) (putF free (membersW free one [] 0 (namesOf true ns ys) (itemsOf true ns ys) a) [125]) := by
 by_cases hd : ns.Nodup
 ·obtain ⟨h1, h2⟩ := hn hd
  rw [h1, h2]
  exact Sm.refl _ _
 ·have p1 : ns'.Perm ns := by
   have := hp.map Prod.fst
   rw [map_fst_zip h, map_fst_zip h'] at this
   exact this
  have e1 := membersW_twice free ho ns' ys' [] 0 a h' List.nodup_nil (fun hh => hd (p1.nodup_iff.1 hh))
  have e2 := membersW_twice free ho (namesOf true ns ys) (itemsOf true ns ys) [] 0 a (namesOf_len true h) List.nodup_nil (fun hh => hd ((namesOf_perm h).nodup_iff.1 hh))
  rw [putF_bad _ _ _ e1, putF_bad _ _ _ e2]
  exact .inr ⟨rfl, e1, e2⟩
theorem VEnds.from {Wd : Nat} {free canon : Bool} {st tg tg' : St} {sl : Value} {W w0 w1 : World} {wt : Nat} {x : Ending} (h : VEnds Wd free canon st sl w0 wt tg' x w1) (hb : Below W.heap.size W w0) (hW : Wd ≤ W.heap.size) (hs : Sm canon tg' tg) : VEnds Wd free canon st sl W wt tg x w1 := by
 obtain ⟨rfl, st', sl', h1, h2, h3, h4⟩ := h
 exact VEnds.of hb hW h4 h3 (h1.trans hs) h2
set_option maxRecDepth 1000000 in
set_option maxHeartbeats 4000000 in
theorem value_obj (Wd : Nat) (free : Bool) (st : St) (sl : Value) (d : Int) (f1 : ByteArray) (A2 A3 : Option Addr) (n2 c2 n3 c3 : Nat) (W : World) (wt : Nat) (h : Wr Wd free st sl W) (l2 : List ByteArray) (l3 : List J) (hn2 : n2 = l2.length) (hn3 : n3 = l3.length) (hny : l2.length = l3.length) (r : Nat) (he : st.e = 0) (h1 : ¬ (32 : Int) < d) (h2 : ¬ (32 : Int) ≤ d) (hok : nodeOK 6 f1 n2 n3 = true) (hG : Gl Wd W) (hwt : wtN l2 + wtI r l3 + 2 ≤ wt) (hfit : Fit free st wt) (hsn : ∀ s, s ∈ l2 → s.size ≤ 288230376151711743) (hsm : ∀ y, y ∈ l3 → SmJ r y) (hln : false = true → l3.length ≤ 1000000 ∧ ∀ y, y ∈ l3 → LnJ r y) (hF2 : Kd.F Kd.string W (okW Wd sl) A2 n2 l2) (hc2 : n2 ≤ c2) (hF3 : Kd.F k25 W (okW Wd sl) A3 n3 l3) (hc3 : n3 ≤ c3) (IH : WOK free false r (wrap64 (d + 1))) :
  Calls Tryd.prog 33 #[ptr Wd, jVal 6 f1 A2 A3 n2 c2 n3 c3, .int .i64 d, .bool false] W (VEnds Wd free false st sl W wt (putF free (membersW free (valW free false r) [] 0 l2 l3 (putF free st [123])) [125])) := by
 have H := Aside0.mk h
 have HL := Aside0.mk (Nat.le_of_lt h.lt)
 have cw2 : ∀ o : Obj, (W.alloc o).cell? ⟨Wd, 2, none⟩ = some (.int .i64 st.e) := fun o => (World.cell?_of_block (Below.block (below_alloc (Below.refl _ _) o) _ h.lt)).trans ((blk_cell h.blk 2).trans rfl)
 clear h
 have e0 : ((st.e : Int) != 0) = false := by rw [he]; rfl
 subst hn2
 subst hn3
 have b1 : decide ((32 : Int) < d) = false := decide_eq_false h1
 have b2 : decide ((32 : Int) ≤ d) = false := decide_eq_false h2
 have HOK := Aside0.mk hok
 have HG := Aside0.mk hG
 have HF := Aside0.mk hfit
 have HSN := Aside0.mk hsn
 have HS := Aside0.mk hsm
 have HLN := Aside0.mk hln
 have HX2 := Aside0.mk hF2
 have HX := Aside0.mk hF3
 have HI := Aside0.mk IH
 have HNY := Aside0.mk hny
 clear he hok hG hfit hsn hsm hln hF2 hF3 IH hny
 have ta := is_84
 have tb := no_84_78
 have tc := no_84_80
 have td := no_84_82
 go_enter Tryd.func33, Tryd.ntmps33
 go_wp2_with (first | (go_at_call 51; (with_reducible refine (node_yes6 f1 A2 A3 l2.length c2 l3.length c3 _ HOK.out).mono ?_); rintro e w1 ⟨rfl, hb⟩; have HB1 := Aside0.mk (show Below W.heap.size W w1 from below_step (by repeat (first | exact Below.refl _ _ | apply below_drewN | apply below_drew1 | apply below_alloc)) hb); clear hb) | (go_at_call 55; (with_reducible refine (members_calls Wd free false st sl d A2 A3 c2 c3 _ wt l2 l3 HNY.out r ?wm ?gm hwt HF.out HSN.out HS.out (fun h => by cases h) ?f2 hc2 ?f3 hc3 HI.out).mono ?_); (case wm => exact H.out.below (by repeat (first | exact HB1.out | exact Below.refl _ _ | apply below_drewN | apply below_drew1 | apply below_alloc | refine below_set ?_ HB1.out.size))); (case gm => exact HG.out.below (by repeat (first | exact HB1.out | exact Below.refl _ _ | apply below_drewN | apply below_drew1 | apply below_alloc | refine below_set ?_ HB1.out.size)) HL.out); (case f2 => exact Kd.F_below HX2.out (by repeat (first | exact HB1.out | exact Below.refl _ _ | apply below_drewN | apply below_drew1 | apply below_alloc | refine below_set ?_ HB1.out.size))); (case f3 => exact Kd.F_below HX.out (by repeat (first | exact HB1.out | exact Below.refl _ _ | apply below_drewN | apply below_drew1 | apply below_alloc | refine below_set ?_ HB1.out.size))); intro e w9 hv; have HV := Aside0.mk hv; obtain ⟨rfl, _⟩ := hv))
 (try simp only [Exit.inBlock, Exit.then])
 refine ⟨rfl, .tuple #[], results_none rfl _ _ _, ?_⟩
 exact VEnds.from HV.out (by repeat (first | exact HB1.out | exact Below.refl _ _ | apply below_drewN | apply below_drew1 | apply below_alloc | refine below_set ?_ HB1.out.size)) HL.out (Sm.refl _ _)
theorem far_obj {α : Type} {dd : Kd α} {Wd n : Nat} {free : Bool} {st : St} {sl : Value} {W w1 w2 : World} {o : Obj} {A : Option Addr} {xs : List α} (h : Wr Wd free st sl W) (hs : W.heap.size ≤ w1.heap.size) (hf : Kd.F dd w2 (fun k => (okW Wd sl k ∧ k < w1.heap.size) ∨ (w1.alloc o).heap.size ≤ k) A n xs) (u v : Value) :
  Kd.F dd ((w2.setCell ⟨w1.heap.size, 0, none⟩ u).setCell ⟨w1.heap.size, 1, none⟩ v) (okW Wd sl) A n xs := by
 have hne : ∀ k, ((okW Wd sl k ∧ k < w1.heap.size) ∨ (w1.alloc o).heap.size ≤ k) → k ≠ w1.heap.size := by
  rintro k (⟨_, hk⟩ | hk)
  ·omega
  ·rw [World.size_alloc] at hk; omega
 refine Kd.F_mono (Kd.F_far (p := ⟨w1.heap.size, 1, none⟩) (Kd.F_far (p := ⟨w1.heap.size, 0, none⟩) hf hne _) hne _) ?_
 rintro k (⟨hk, _⟩ | hk)
 ·exact hk
 ·rw [World.size_alloc] at hk
  exact ⟨by have := h.lt; omega, fun hh => by have := (h.own.lt k hh.symm).2; omega⟩
theorem perm_names {P : ByteArray → Prop} {ns ns' : List ByteArray} {ys ys' : List J} (h : ∀ s, s ∈ ns → P s) (h1 : ns.length = ys.length) (h2 : ns'.length = ys'.length) (hp : (ns'.zip ys').Perm (ns.zip ys)) : ∀ s, s ∈ ns' → P s := by
 have := hp.map Prod.fst
 rw [map_fst_zip h1, map_fst_zip h2] at this
 exact fun s hs => h s (this.mem_iff.1 hs)
theorem perm_items {P : J → Prop} {ns ns' : List ByteArray} {ys ys' : List J} (h : ∀ y, y ∈ ys → P y) (h1 : ns.length = ys.length) (h2 : ns'.length = ys'.length) (hp : (ns'.zip ys').Perm (ns.zip ys)) : ∀ y, y ∈ ys' → P y := by
 have := hp.map Prod.snd
 rw [map_snd_zip h1, map_snd_zip h2] at this
 exact fun s hs => h s (this.mem_iff.1 hs)
theorem perm_sum {a b : List Nat} (h : a.Perm b) : a.sum = b.sum := by
 induction h with
 | nil => rfl
 | cons x _ ih => simp [ih]
 | swap x y l => simp only [List.sum_cons]; omega
 | trans _ _ h1 h2 => exact h1.trans h2
theorem perm_wt (r : Nat) {ns ns' : List ByteArray} {ys ys' : List J} (h1 : ns.length = ys.length) (h2 : ns'.length = ys'.length) (hp : (ns'.zip ys').Perm (ns.zip ys)) : wtN ns' + wtI r ys' + 2 = wtN ns + wtI r ys + 2 := by
 have a := hp.map Prod.fst
 have b := hp.map Prod.snd
 rw [map_fst_zip h1, map_fst_zip h2] at a
 rw [map_snd_zip h1, map_snd_zip h2] at b
 have c : wtN ns' = wtN ns := perm_sum (a.map _)
 have d : wtI r ys' = wtI r ys := perm_sum (b.map _)
 rw [c, d]
set_option maxRecDepth 1000000 in
set_option maxHeartbeats 4000000 in
theorem value_objC (Wd : Nat) (free : Bool) (st : St) (sl : Value) (d : Int) (f1 : ByteArray) (A2 A3 : Option Addr) (n2 c2 n3 c3 : Nat) (W : World) (wt : Nat) (h : Wr Wd free st sl W) (l2 : List ByteArray) (l3 : List J) (hn2 : n2 = l2.length) (hn3 : n3 = l3.length) (hny : l2.length = l3.length) (r : Nat) (he : st.e = 0) (h1 : ¬ (32 : Int) < d) (h2 : ¬ (32 : Int) ≤ d) (hok : nodeOK 6 f1 n2 n3 = true) (hG : Gl Wd W) (hwt : wtN l2 + wtI r l3 + 2 ≤ wt) (hfit : Fit free st wt) (hsn : ∀ s, s ∈ l2 → s.size ≤ 288230376151711743) (hsm : ∀ y, y ∈ l3 → SmJ r y) (hln : true = true → l3.length ≤ 1000000 ∧ ∀ y, y ∈ l3 → LnJ r y) (hF2 : Kd.F Kd.string W (okW Wd sl) A2 n2 l2) (hc2 : n2 ≤ c2) (hF3 : Kd.F k25 W (okW Wd sl) A3 n3 l3) (hc3 : n3 ≤ c3) (IH : WOK free true r (wrap64 (d + 1))) (hso : SortedOK) :
  Calls Tryd.prog 33 #[ptr Wd, jVal 6 f1 A2 A3 n2 c2 n3 c3, .int .i64 d, .bool true] W (VEnds Wd free true st sl W wt (putF free (membersW free (valW free true r) [] 0 (namesOf true l2 l3) (itemsOf true l2 l3) (putF free st [123])) [125])) := by
 have H := Aside0.mk h
 have HL := Aside0.mk (Nat.le_of_lt h.lt)
 have cw2 : ∀ o : Obj, (W.alloc o).cell? ⟨Wd, 2, none⟩ = some (.int .i64 st.e) := fun o => (World.cell?_of_block (Below.block (below_alloc (Below.refl _ _) o) _ h.lt)).trans ((blk_cell h.blk 2).trans rfl)
 clear h
 have e0 : ((st.e : Int) != 0) = false := by rw [he]; rfl
 subst hn2
 subst hn3
 have b1 : decide ((32 : Int) < d) = false := decide_eq_false h1
 have b2 : decide ((32 : Int) ≤ d) = false := decide_eq_false h2
 have HOK := Aside0.mk hok
 have HG := Aside0.mk hG
 have HF := Aside0.mk hfit
 have HSN := Aside0.mk hsn
 have HS := Aside0.mk hsm
 have HLN := Aside0.mk hln
 have HX2 := Aside0.mk hF2
 have HX := Aside0.mk hF3
 have HI := Aside0.mk IH
 have HNY := Aside0.mk hny
 clear he hok hG hfit hsn hsm hln hF2 hF3 IH hny
 have ta := is_84
 have tb := no_84_78
 have tc := no_84_80
 have td := no_84_82
 unfold SortedOK at hso
 have HSO := Aside0.mk hso
 clear hso
 go_enter Tryd.func33, Tryd.ntmps33
 go_wp2_with (first | (go_at_call 51; (with_reducible refine (node_yes6 f1 A2 A3 l2.length c2 l3.length c3 _ HOK.out).mono ?_); rintro e w1 ⟨rfl, hb⟩; have HB1 := Aside0.mk (show Below W.heap.size W w1 from below_step (by repeat (first | exact Below.refl _ _ | apply below_drewN | apply below_drew1 | apply below_alloc)) hb); clear hb) | (go_at_call 54; (with_reducible refine (HSO.out _ (fun k => okW Wd sl k ∧ k < w1.heap.size) A2 A3 c2 c3 l2 l3 HNY.out ?ln ?f2 hc2 ?f3 hc3).mono ?_); (case ln => rw [HNY.out]; exact (HLN.out (by first | rfl | trivial)).1); (case f2 => exact Kd.F_alloc (Kd.F_mono (Kd.F_bound (Kd.F_below HX2.out HB1.out)) (fun _ hk => hk)) _); (case f3 => exact Kd.F_alloc (Kd.F_mono (Kd.F_bound (Kd.F_below HX.out HB1.out)) (fun _ hk => hk)) _); rintro e w2 ⟨B2, B3, k2, k3, ns', ys', rfl, hb2, hl', hk2, hk3, hp, hnd, hf2, hf3⟩; have HB2 := Aside0.mk hb2; have HP := Aside0.mk hp; have HND := Aside0.mk hnd; have HF2 := Aside0.mk hf2; have HF3 := Aside0.mk hf3; have HL' := Aside0.mk hl'; have BK := Aside0.mk ((hb2.block w1.heap.size (by rw [World.size_alloc]; omega)).trans (heap_alloc_new w1 (.cells #[.slice A2 l2.length c2, .slice A3 l3.length c3] 84))); have y0 : w2.cell? ⟨w1.heap.size, 0, none⟩ = some (.slice A2 l2.length c2) := (blk_cell BK.out 0).trans rfl; have y1 : w2.cell? ⟨w1.heap.size, 1, none⟩ = some (.slice A3 l3.length c3) := (blk_cell BK.out 1).trans rfl; have z0 := blk_free BK.out 0; have z1 := blk_free BK.out 1; have HK2 := Aside0.mk hk2; have HK3 := Aside0.mk hk3; have HSN' := Aside0.mk (perm_names HSN.out HNY.out hl' hp); have HS' := Aside0.mk (perm_items HS.out HNY.out hl' hp); have HLN' := Aside0.mk (show true = true → ∀ y, y ∈ ys' → LnJ r y from fun _ => perm_items (HLN.out (by first | rfl | trivial)).2 HNY.out hl' hp); have HWN := Aside0.mk (perm_wt r HNY.out hl' hp); clear hk2 hk3 hb2 hp hnd hf2 hf3 hl') | (go_at_call 55; (with_reducible refine (members_calls Wd free true st sl d B2 B3 k2 k3 _ wt ns' ys' HL'.out r ?wm ?gm (by rw [HWN.out]; exact hwt) HF.out HSN'.out HS'.out (fun _ => HLN'.out (by first | rfl | trivial)) ?f2 HK2.out ?f3 HK3.out HI.out).mono ?_); (case wm => exact H.out.below (below_set (below_set (below_step (below_alloc HB1.out _) HB2.out) HB1.out.size) HB1.out.size)); (case gm => exact HG.out.below (below_set (below_set (below_step (below_alloc HB1.out _) HB2.out) HB1.out.size) HB1.out.size) HL.out); (case f2 => exact far_obj H.out HB1.out.size HF2.out _ _); (case f3 => exact far_obj H.out HB1.out.size HF3.out _ _); intro e w9 hv; have HV := Aside0.mk hv; obtain ⟨rfl, _⟩ := hv))
 (try simp only [Exit.inBlock, Exit.then])
 refine ⟨rfl, .tuple #[], results_none rfl _ _ _, ?_⟩
 exact VEnds.from HV.out (below_set (below_set (below_step (below_alloc HB1.out _) HB2.out) HB1.out.size) HB1.out.size) HL.out (order_any free (fun y st h => valW_bad free true r y st h) _ HNY.out HL'.out HP.out HND.out)
theorem nodeOK_plain {f0 : Int} {f1 : ByteArray} {n2 n3 : Nat} (h : nodeOK f0 f1 n2 n3 = true) (h5 : ¬ f0 = 5) (h6 : ¬ f0 = 6) : f0 = 0 ∨ f0 = 1 ∨ f0 = 2 ∨ f0 = 3 ∨ f0 = 4 := by
 by_cases h0 : f0 = 0
 ·exact .inl h0
 by_cases h1 : f0 = 1
 ·exact .inr (.inl h1)
 by_cases h2 : f0 = 2
 ·exact .inr (.inr (.inl h2))
 by_cases h3 : f0 = 3
 ·exact .inr (.inr (.inr (.inl h3)))
 by_cases h4 : f0 = 4
 ·exact .inr (.inr (.inr (.inr h4)))
 exfalso
 unfold nodeOK at h
 simp [h0, h1, h2, h3, h4, h5, h6] at h
theorem valW_plain (free canon : Bool) (r : Nat) (v : J) (st : St) (he : st.e = 0) (h5 : ¬ v.f0 = 5) (h6 : ¬ v.f0 = 6) :
  valW free canon r v st = if nodeOK v.f0 v.f1 v.f2.length v.f3.length = false then ⟨st.out, 47⟩ else if v.f0 = 3 then putF free st v.f1.data.toList else if v.f0 = 4 then putsF free st (quoteB v.f1) else putF free st (wordB v.f0.toNat).data.toList := by
 cases r with
 | zero => rw [valW, if_neg (by simp [he]), if_neg (by simp [h5, h6])]
 | succ r => rw [valW, if_neg (by simp [he])]; split <;> first | rfl | rw [if_neg h5, if_neg h6]
theorem plain_ok (free canon : Bool) (r : Nat) (d : Int) (hd : ¬ (32 : Int) < d) (Wd : Nat) (st : St) (sl : Value) (W : World) (v : J) (A2 A3 : Option Addr) (c2 c3 : Nat) (h : Wr Wd free st sl W) (hfit : Fit free st (wtJ r v)) (hz : v.f1.size ≤ 288230376151711743) (hG : Gl Wd W) (he : st.e = 0) (h5 : ¬ v.f0 = 5) (h6 : ¬ v.f0 = 6) :
  Calls Tryd.prog 33 #[ptr Wd, jVal v.f0 v.f1 A2 A3 v.f2.length c2 v.f3.length c3, .int .i64 d, .bool canon] W (VEnds Wd free canon st sl W (wtJ r v) (valW free canon r v st)) := by
 rw [valW_plain free canon r v st he h5 h6]
 have hw := wtJ_text r v
 cases hok : nodeOK v.f0 v.f1 v.f2.length v.f3.length with
 | false => rw [if_pos rfl]; exact value_nodeX Wd free canon st sl d v.f0 v.f1 A2 A3 _ c2 _ c3 W _ h he hd h5 h6 (by omega) hok hG
 | true =>
  rw [if_neg (by decide)]
  rcases nodeOK_plain hok h5 h6 with h0 | h0 | h0 | h0 | h0
  ·rw [h0] at hok ⊢
   exact value_word0 Wd free canon st sl d v.f1 A2 A3 _ c2 _ c3 W _ h he hd hok hG (hfit.room (m := (wordB 0).size) (by show 4 ≤ _; omega) (by decide)) (by show 4 ≤ _; omega)
  ·rw [h0] at hok ⊢
   exact value_word1 Wd free canon st sl d v.f1 A2 A3 _ c2 _ c3 W _ h he hd hok hG (hfit.room (m := (wordB 1).size) (by show 5 ≤ _; omega) (by decide)) (by show 5 ≤ _; omega)
  ·rw [h0] at hok ⊢
   exact value_word2 Wd free canon st sl d v.f1 A2 A3 _ c2 _ c3 W _ h he hd hok hG (hfit.room (m := (wordB 2).size) (by show 4 ≤ _; omega) (by decide)) (by show 4 ≤ _; omega)
  ·rw [h0] at hok ⊢
   exact value_word3 Wd free canon st sl d v.f1 A2 A3 _ c2 _ c3 W _ h he hd (by omega) hok hG (hfit.room (m := v.f1.size) (by omega) (by omega)) (by omega)
  ·rw [h0] at hok ⊢
   exact value_text Wd free canon st sl d v.f1 A2 A3 _ c2 _ c3 W _ h he hd (by omega) hok hG hz (hfit.room (m := 12 * v.f1.size + 14) (by omega) (by omega)) (by omega)
theorem valW_succ (free canon : Bool) (r : Nat) (v : J) (st : St) (he : st.e = 0) : valW free canon (r + 1) v st =
  if nodeOK v.f0 v.f1 v.f2.length v.f3.length = false then ⟨st.out, 47⟩
  else if v.f0 = 5 then putF free (itemsW free (valW free canon r) 0 v.f3 (putF free st [91])) [93]
  else if v.f0 = 6 then putF free (membersW free (valW free canon r) [] 0 (namesOf canon v.f2 v.f3) (itemsOf canon v.f2 v.f3) (putF free st [123])) [125]
  else if v.f0 = 3 then putF free st v.f1.data.toList
  else if v.f0 = 4 then putsF free st (quoteB v.f1)
  else putF free st (wordB v.f0.toNat).data.toList := by
 rw [valW, if_neg (by simp [he])]
theorem node6_len {f1 : ByteArray} {n2 n3 : Nat} (h : nodeOK 6 f1 n2 n3 = true) : n2 = n3 := by
 unfold nodeOK at h
 simp at h
 exact h.2
theorem wvalue_ok (free canon : Bool) (hso : canon = true → SortedOK) : ∀ r, r ≤ 32 → WOK free canon r (32 - (r : Int))
 | 0, _ => by
  intro Wd st sl W v A2 A3 c2 c3 h hfit hsm _ hF2 hc2 hF3 hc3 hG
  by_cases he : st.e = 0
  ·by_cases h5 : v.f0 = 5
   ·rw [valW, if_neg (by simp [he]), if_pos (.inl h5), h5]
    exact value_deep5 Wd free canon st sl _ v.f1 A2 A3 _ c2 _ c3 W _ h he (by decide) (by decide)
   ·by_cases h6 : v.f0 = 6
    ·rw [valW, if_neg (by simp [he]), if_pos (.inr h6), h6]
     exact value_deep6 Wd free canon st sl _ v.f1 A2 A3 _ c2 _ c3 W _ h he (by decide) (by decide)
    ·exact plain_ok free canon 0 _ (by decide) Wd st sl W v A2 A3 c2 c3 h hfit hsm.text hG he h5 h6
  ·rw [valW_bad _ _ _ _ _ he]
   exact value_bad Wd free canon st sl _ v.f0 v.f1 A2 A3 _ c2 _ c3 W _ h he
 | r + 1, hr => by
  have IH := wvalue_ok free canon hso r (by omega)
  have ed : wrap64 ((32 - ((r + 1 : Nat) : Int)) + 1) = 32 - (r : Int) := by unfold wrap64; omega
  rw [← ed] at IH
  intro Wd st sl W v A2 A3 c2 c3 h hfit hsm hln hF2 hc2 hF3 hc3 hG
  have hd1 : ¬ (32 : Int) < 32 - ((r + 1 : Nat) : Int) := by omega
  have hd2 : ¬ (32 : Int) ≤ 32 - ((r + 1 : Nat) : Int) := by omega
  have hw : wtJ (r + 1) v = 12 * v.f1.size + 16 + wtN v.f2 + wtI r v.f3 := by rw [wtJ, wtN, wtI]
  obtain ⟨hz, hsn, hsy⟩ := (show v.f1.size ≤ 288230376151711743 ∧ (∀ s, s ∈ v.f2 → s.size ≤ 288230376151711743) ∧ ∀ y, y ∈ v.f3 → SmJ r y from hsm)
  by_cases he : st.e = 0
  ·by_cases h5 : v.f0 = 5
   ·rw [valW_succ free canon r v st he]
    rw [h5]
    cases hok : nodeOK 5 v.f1 v.f2.length v.f3.length with
    | false => rw [if_pos rfl]; exact value_node5 Wd free canon st sl _ v.f1 A2 A3 _ c2 _ c3 W _ h he hd1 hd2 (by omega) hok hG
    | true =>
     rw [if_neg (by decide), if_pos rfl]
     exact value_list Wd free canon st sl _ v.f1 A2 A3 _ c2 _ c3 W _ h v.f3 rfl r he hd1 hd2 hok hG (by omega) hfit hsy (fun hc => (show v.f3.length ≤ 1000000 ∧ ∀ y, y ∈ v.f3 → LnJ r y from hln hc).2) hF3 hc3 IH
   ·by_cases h6 : v.f0 = 6
    ·rw [valW_succ free canon r v st he]
     rw [h6]
     cases hok : nodeOK 6 v.f1 v.f2.length v.f3.length with
     | false => rw [if_pos rfl]; exact value_node6 Wd free canon st sl _ v.f1 A2 A3 _ c2 _ c3 W _ h he hd1 hd2 (by omega) hok hG
     | true =>
      rw [if_neg (by decide), if_neg (by decide), if_pos rfl]
      cases canon with
      | false => exact value_obj Wd free st sl _ v.f1 A2 A3 _ c2 _ c3 W _ h v.f2 v.f3 rfl rfl (node6_len hok) r he hd1 hd2 hok hG (by omega) hfit hsn hsy (fun hc => by cases hc) hF2 hc2 hF3 hc3 IH
      | true => exact value_objC Wd free st sl _ v.f1 A2 A3 _ c2 _ c3 W _ h v.f2 v.f3 rfl rfl (node6_len hok) r he hd1 hd2 hok hG (by omega) hfit hsn hsy (fun hc => hln hc) hF2 hc2 hF3 hc3 IH (hso rfl)
    ·exact plain_ok free canon (r + 1) _ hd1 Wd st sl W v A2 A3 c2 c3 h hfit hz hG he h5 h6
  ·rw [valW_bad _ _ _ _ _ he]
   exact value_bad Wd free canon st sl _ v.f0 v.f1 A2 A3 _ c2 _ c3 W _ h he
end Go.Proofs.YtaalajhmfdcalaaDoor.X
namespace Go.Proofs.YtaalajhmfdcalaaDoor.X
open Go.RowKit Go.Lib Go.Proofs.YtaalajhmfdcalaaDoorW.PrintWords Go.Proofs.YtaalajhmfdcalaaDoorW.PrintLast Go.Proofs.YtaalajhmfdcalaaDoorW.PrintMore
set_option maxRecDepth 1000000 in
set_option maxHeartbeats 4000000 in
theorem less_calls (Bo Ba blk n c c2 c3 n3 : Nat) (ad : Addr) (A3 : Option Addr) (ns : List ByteArray) (G : Nat → Nat) (W : World) (i j : Nat) (hi : i < n) (hj : j < n) (hl : ns.length = n) (hG : ∀ k, k < n → G k < n)
  (h0 : W.cell? ⟨Bo, 0, none⟩ = some (.slice (some ad) n c2)) (h1 : W.cell? ⟨Ba, 0, none⟩ = some (.slice (some ⟨blk, 0, none⟩) n c)) (h2 : ∀ k, k < n → W.cell? ⟨blk, 0 + k, none⟩ = some (.int .i64 (G k : Nat))) (h3 : ∀ k, k < n → W.cell? (ad.add k) = some (.string (nmAt ns k))) :
  Calls Tryd.prog 78 #[.int .i64 i, .int .i64 j, .pointer (some ⟨Bo, 0, none⟩), .pointer (some ⟨Ba, 0, none⟩)] W fun e w' => e = .returned (.bool (Op.bytesLess (nmAt ns (G i)).toList (nmAt ns (G j)).toList)) ∧ ∃ q, w' = W.drewN q := by
 have gi := hG i hi
 have gj := hG j hj
 have ci : W.cell? ⟨blk, i, none⟩ = some (.int .i64 (G i : Nat)) := by have := h2 i hi; rwa [Nat.zero_add] at this
 have cj : W.cell? ⟨blk, j, none⟩ = some (.int .i64 (G j : Nat)) := by have := h2 j hj; rwa [Nat.zero_add] at this
 have ni := h3 (G i) gi
 have nj := h3 (G j) gj
 have p1 : (0 ≤ (i : Int)) = True := eq_true (by omega)
 have p2 : ((i : Int) < (n : Int)) = True := eq_true (by omega)
 have p3 : (0 ≤ (j : Int)) = True := eq_true (by omega)
 have p4 : ((j : Int) < (n : Int)) = True := eq_true (by omega)
 have p5 : (0 ≤ ((G i : Nat) : Int)) = True := eq_true (by omega)
 have p6 : (((G i : Nat) : Int) < (n : Int)) = True := eq_true (by omega)
 have p7 : (0 ≤ ((G j : Nat) : Int)) = True := eq_true (by omega)
 have p8 : (((G j : Nat) : Int) < (n : Int)) = True := eq_true (by omega)
 clear h2 h3 hG hi hj
 generalize G i = a at *
 generalize G j = b at *
 generalize nmAt ns a = na at *
 generalize nmAt ns b = nb at *
 go_enter Tryd.func78, Tryd.ntmps78
 go_wp2
 go_quiet (fail)
 go_wp2
 go_ret
 exact ⟨rfl, nq, rfl⟩
end Go.Proofs.YtaalajhmfdcalaaDoor.X
namespace Go.Proofs
open Go.Shelf Go.RowKit
def Tryd.sl6_ren : Go.Shelf.Ren := ⟨fun | 6 => 77 | 10 => 90 | 11 => 91 | 12 => 92 | 13 => 93 | 14 => 94 | 24 => 106 | 25 => 107 | 26 => 108 | 27 => 109 | 28 => 110 | 29 => 111 | 30 => 112 | 31 => 113 | 32 => 114 | 33 => 115 | 34 => 116 | 35 => 117 | 36 => 118 | 37 => 119 | 38 => 120 | 39 => 121 | n => n, fun | 0 => 0 | 3 => 3 | 4 => 4 | 5 => 5 | 9 => 9 | 12 => 12 | 17 => 17 | 20 => 20 | 26 => 109 | 32 => 125 | 33 => 126 | 35 => 128 | 37 => 130 | 41 => 106 | 44 => 135 | 49 => 114 | 51 => 137 | 53 => 144 | 54 => 145 | 58 => 90 | 60 => 150 | 64 => 154 | 66 => 156 | 67 => 157 | 75 => 164 | 76 => 165 | 77 => 166 | 78 => 167 | 79 => 168 | 80 => 169 | 82 => 171 | n => n, fun n => n⟩
set_option maxRecDepth 100000 in
theorem Tryd.sl6 : LaysGg.n6 Tryd.prog Tryd.sl6_ren := {
 mixed := by kernel_rfl
 f6 := Tryd.func77.trans (congrArg some (by kernel_rfl))
 f10 := Tryd.func90.trans (congrArg some (by kernel_rfl))
 f11 := Tryd.func91.trans (congrArg some (by kernel_rfl))
 f12 := Tryd.func92.trans (congrArg some (by kernel_rfl))
 f13 := Tryd.func93.trans (congrArg some (by kernel_rfl))
 f14 := Tryd.func94.trans (congrArg some (by kernel_rfl))
 f24 := Tryd.func106.trans (congrArg some (by kernel_rfl))
 f25 := Tryd.func107.trans (congrArg some (by kernel_rfl))
 f26 := Tryd.func108.trans (congrArg some (by kernel_rfl))
 f27 := Tryd.func109.trans (congrArg some (by kernel_rfl))
 f28 := Tryd.func110.trans (congrArg some (by kernel_rfl))
 f29 := Tryd.func111.trans (congrArg some (by kernel_rfl))
 f30 := Tryd.func112.trans (congrArg some (by kernel_rfl))
 f31 := Tryd.func113.trans (congrArg some (by kernel_rfl))
 f32 := Tryd.func114.trans (congrArg some (by kernel_rfl))
 f33 := Tryd.func115.trans (congrArg some (by kernel_rfl))
 f34 := Tryd.func116.trans (congrArg some (by kernel_rfl))
 f35 := Tryd.func117.trans (congrArg some (by kernel_rfl))
 f36 := Tryd.func118.trans (congrArg some (by kernel_rfl))
 f37 := Tryd.func119.trans (congrArg some (by kernel_rfl))
 f38 := Tryd.func120.trans (congrArg some (by kernel_rfl))
 f39 := Tryd.func121.trans (congrArg some (by kernel_rfl))
 t0 := Tryd.underlying0
 a0 := fun _ => by kernel_rfl
 z0 := fun _ => by kernel_rfl
 v0 := fun _ => by kernel_rfl
 i0 := by kernel_rfl
 t3 := Tryd.underlying3
 a3 := fun _ => by kernel_rfl
 z3 := fun _ => by kernel_rfl
 v3 := fun _ => by kernel_rfl
 i3 := by kernel_rfl
 t4 := Tryd.underlying4
 a4 := fun _ => by kernel_rfl
 z4 := fun _ => by kernel_rfl
 v4 := fun _ => by kernel_rfl
 i4 := by kernel_rfl
 t5 := Tryd.underlying5
 a5 := fun _ => by kernel_rfl
 z5 := fun _ => by kernel_rfl
 v5 := fun _ => by kernel_rfl
 i5 := by kernel_rfl
 t9 := Tryd.underlying9
 a9 := fun _ => by kernel_rfl
 z9 := fun _ => by kernel_rfl
 v9 := fun _ => by kernel_rfl
 i9 := by kernel_rfl
 t12 := Tryd.underlying12
 a12 := fun _ => by kernel_rfl
 z12 := fun _ => by kernel_rfl
 v12 := fun _ => by kernel_rfl
 i12 := by kernel_rfl
 t17 := Tryd.underlying17
 a17 := fun _ => by kernel_rfl
 z17 := fun _ => by kernel_rfl
 v17 := fun _ => by kernel_rfl
 i17 := by kernel_rfl
 t20 := Tryd.underlying20
 a20 := fun _ => by kernel_rfl
 z20 := fun _ => by kernel_rfl
 v20 := fun _ => by kernel_rfl
 i20 := by kernel_rfl
 t26 := Tryd.underlying109
 a26 := fun _ => by kernel_rfl
 z26 := fun _ => by kernel_rfl
 v26 := fun _ => by kernel_rfl
 i26 := by kernel_rfl
 t32 := Tryd.underlying125
 a32 := fun _ => by kernel_rfl
 z32 := fun _ => by kernel_rfl
 v32 := fun _ => by kernel_rfl
 i32 := by kernel_rfl
 t33 := Tryd.underlying126
 a33 := fun _ => by kernel_rfl
 z33 := fun _ => by kernel_rfl
 v33 := fun _ => by kernel_rfl
 i33 := by kernel_rfl
 t35 := Tryd.underlying128
 a35 := fun _ => by kernel_rfl
 z35 := fun _ => by kernel_rfl
 v35 := fun _ => by kernel_rfl
 i35 := by kernel_rfl
 t37 := Tryd.underlying130
 a37 := fun _ => by kernel_rfl
 z37 := fun _ => by kernel_rfl
 v37 := fun _ => by kernel_rfl
 i37 := by kernel_rfl
 t41 := Tryd.underlying106
 a41 := fun _ => by kernel_rfl
 z41 := fun _ => by kernel_rfl
 v41 := fun _ => by kernel_rfl
 i41 := by kernel_rfl
 t44 := Tryd.underlying135
 a44 := fun _ => by kernel_rfl
 z44 := fun _ => by kernel_rfl
 v44 := fun _ => by kernel_rfl
 i44 := by kernel_rfl
 t49 := Tryd.underlying114
 a49 := fun _ => by kernel_rfl
 z49 := fun _ => by kernel_rfl
 v49 := fun _ => by kernel_rfl
 i49 := by kernel_rfl
 t51 := Tryd.underlying137
 a51 := fun _ => by kernel_rfl
 z51 := fun _ => by kernel_rfl
 v51 := fun _ => by kernel_rfl
 i51 := by kernel_rfl
 t53 := Tryd.underlying144
 a53 := fun _ => by kernel_rfl
 z53 := fun _ => by kernel_rfl
 v53 := fun _ => by kernel_rfl
 i53 := by kernel_rfl
 t54 := Tryd.underlying145
 a54 := fun _ => by kernel_rfl
 z54 := fun _ => by kernel_rfl
 v54 := fun _ => by kernel_rfl
 i54 := by kernel_rfl
 t58 := Tryd.underlying90
 a58 := fun _ => by kernel_rfl
 z58 := fun _ => by kernel_rfl
 v58 := fun _ => by kernel_rfl
 i58 := by kernel_rfl
 t60 := Tryd.underlying150
 a60 := fun _ => by kernel_rfl
 z60 := fun _ => by kernel_rfl
 v60 := fun _ => by kernel_rfl
 i60 := by kernel_rfl
 t64 := Tryd.underlying154
 a64 := fun _ => by kernel_rfl
 z64 := fun _ => by kernel_rfl
 v64 := fun _ => by kernel_rfl
 i64 := by kernel_rfl
 t66 := Tryd.underlying156
 a66 := fun _ => by kernel_rfl
 z66 := fun _ => by kernel_rfl
 v66 := fun _ => by kernel_rfl
 i66 := by kernel_rfl
 t67 := Tryd.underlying157
 a67 := fun _ => by kernel_rfl
 z67 := fun _ => by kernel_rfl
 v67 := fun _ => by kernel_rfl
 i67 := by kernel_rfl
 t75 := Tryd.underlying164
 a75 := fun _ => by kernel_rfl
 z75 := fun _ => by kernel_rfl
 v75 := fun _ => by kernel_rfl
 i75 := by kernel_rfl
 t76 := Tryd.underlying165
 a76 := fun _ => by kernel_rfl
 z76 := fun _ => by kernel_rfl
 v76 := fun _ => by kernel_rfl
 i76 := by kernel_rfl
 t77 := Tryd.underlying166
 a77 := fun _ => by kernel_rfl
 z77 := fun _ => by kernel_rfl
 v77 := fun _ => by kernel_rfl
 i77 := by kernel_rfl
 t78 := Tryd.underlying167
 a78 := fun _ => by kernel_rfl
 z78 := fun _ => by kernel_rfl
 v78 := fun _ => by kernel_rfl
 i78 := by kernel_rfl
 t79 := Tryd.underlying168
 a79 := fun _ => by kernel_rfl
 z79 := fun _ => by kernel_rfl
 v79 := fun _ => by kernel_rfl
 i79 := by kernel_rfl
 t80 := Tryd.underlying169
 a80 := fun _ => by kernel_rfl
 z80 := fun _ => by kernel_rfl
 v80 := fun _ => by kernel_rfl
 i80 := by kernel_rfl
 t82 := Tryd.underlying171
 a82 := fun _ => by kernel_rfl
 z82 := fun _ => by kernel_rfl
 v82 := fun _ => by kernel_rfl
 i82 := by kernel_rfl }
end Go.Proofs
namespace Go.Proofs.YtaalajhmfdcalaaDoor.X
open Go.RowKit Go.Lib Go.Shelf Go.Proofs.YtaalajhmfdcalaaDoorW.PrintWords Go.Proofs.YtaalajhmfdcalaaDoorW.PrintLast Go.Proofs.YtaalajhmfdcalaaDoorW.PrintMore
noncomputable def siT : TypeInfo := (Tryd.prog.info? 107).get (by kernel_rfl)
noncomputable def siE : TypeInfo := (Tryd.prog.info? 3).get (by kernel_rfl)
theorem siK (n : Nat) (h2 : 2 ≤ n) : Lib.swapperK n siE 2 = 5 := by
 have a : siE.hasPointers = false := by kernel_rfl
 have b : siE.bytes = 8 := by kernel_rfl
 have c : (n == 0) = false := by simp; omega
 have d : (n == 1) = false := by simp; omega
 simp [Lib.swapperK, a, b, c, d]
theorem bytesLess_ltStr : ∀ x y : List UInt8, Op.bytesLess x y = Go.Sort.ltStr x y
 | _, [] => by simp [Op.bytesLess, Go.Sort.ltStr]
 | [], _ :: _ => by simp [Op.bytesLess, Go.Sort.ltStr]
 | a :: x, b :: y => by
  have ih := bytesLess_ltStr x y
  unfold Go.Sort.ltStr at ih ⊢
  rw [Op.bytesLess, ih, Bool.eq_iff_iff]
  simp [List.cons_lt_cons_iff]
theorem ext_self {α : Type} (A : Array α) (m : Nat) (h : A.size = m) : A.extract 0 m = A := by
 subst h; simp
def ltN (ns : List ByteArray) (a b : Nat) : Bool := Op.bytesLess (nmAt ns a).toList (nmAt ns b).toList
theorem swo_fin (ns : List ByteArray) (n : Nat) : Go.Sort.SWO (fun a b : Fin n => ltN ns a.val b.val) := by
 have key : ∀ a b, ltN ns a b = Go.Sort.ltStr (nmAt ns a).toList (nmAt ns b).toList := fun a b => bytesLess_ltStr _ _
 refine ⟨fun x => ?_, fun x y z h1 h2 => ?_, fun x y z h1 h2 => ?_⟩
 ·simp only [key]; exact Go.Sort.swo_ltStr.irrefl _
 ·simp only [key] at *; exact Go.Sort.swo_ltStr.trans _ _ _ h1 h2
 ·simp only [key] at *; exact Go.Sort.swo_ltStr.ntrans _ _ _ h1 h2
structure SortEnds (blk n : Nat) (ns : List ByteArray) (w w' : World) (l : List Nat) : Prop where
 perm : l.Perm (List.range n)
 ord : ∀ i j, i < j → j < n → ltN ns (l.getD j 0) (l.getD i 0) = false
 cells : ∀ k, k < n → w'.cell? ⟨blk, k, none⟩ = some (.int .i64 ((l.getD k 0 : Nat) : Int))
 row : ∃ C, w'.heap[blk]? = some (.cells C 3 (0, 0))
 keep : KeepBut w w' blk none
 os : w'.os = w.os
 tape : w'.tape = w.tape
 output : w'.output = w.output
theorem range_getD (n k : Nat) (h : k < n) : (List.range n).getD k 0 = k := by
 rw [List.getD_eq_getElem?_getD, List.getElem?_range h]; rfl
set_option maxHeartbeats 2000000 in
theorem sort_calls (Bo Ba blk n c2 c3 : Nat) (ad : Addr) (A2 A3 : Option Addr) (n3 : Nat) (ns : List ByteArray) (w : World) (hn : ns.length = n) (hsz : n ≤ 1000000) (hA : 0 < n → A2 = some ad)
  (ho : w.heap[Bo]? = some (.cells #[.slice A2 n c2, .slice A3 n3 c3] 84 (0, 0))) (ha : w.heap[Ba]? = some (.cells #[.slice (some ⟨blk, 0, none⟩) n n] 107 (0, 0)))
  (hb : w.heap[blk]? = some (.cells ((List.range n).map fun k : Nat => Value.int .i64 (k : Int)).toArray 3 (0, 0))) (hob : Bo ≠ blk) (hab : Ba ≠ blk)
  (hnm : ∀ k, k < n → w.cell? (ad.add k) = some (.string (nmAt ns k))) (had : 0 < n → ad.block ≠ blk) :
  Calls Tryd.prog 77 #[.iface 107 (.slice (some ⟨blk, 0, none⟩) n n), .func (.func 78) #[] #[.pointer (some ⟨Bo, 0, none⟩), .pointer (some ⟨Ba, 0, none⟩)]] w fun e w' => e = .returned (.tuple #[]) ∧ ∃ l, SortEnds blk n ns w w' l := by
 have hblk := lt_of_block hb
 by_cases h2 : 2 ≤ n
 ·haveI : Inhabited (Fin n) := ⟨⟨0, by omega⟩⟩
  obtain rfl := hA (by omega)
  have had' := had (by omega)
  have hd : (Array.ofFn (fun i : Fin n => i)).size = n := by simp
  have hget : ∀ k (hk : k < n), (Array.ofFn (fun i : Fin n => i))[k]! = ⟨k, hk⟩ := fun k hk => by
   rw [getElem!_pos _ k (by simpa using hk)]; simp
  have hH : Go.Sort.Holds (fun x : Fin n => Value.int .i64 (x.val : Int)) w blk 0 (Array.ofFn (fun i : Fin n => i)) := by
   intro j hj
   have hj' : j < n := by simpa using hj
   rw [hget j hj', Nat.zero_add]
   refine ⟨(blk_cell hb j).trans ?_, blk_frozen hb j⟩
   simp [hj']
  have hless : LessReads Tryd.prog 78 #[.pointer (some ⟨Bo, 0, none⟩), .pointer (some ⟨Ba, 0, none⟩)] (fun x : Fin n => Value.int .i64 (x.val : Int)) (fun a b : Fin n => ltN ns a.val b.val) blk 0 (Array.ofFn (fun i : Fin n => i)).size w := by
   intro m os dk hs i j hi hj
   rw [hd] at hi hj hs
   have e : sortWorld (fun x : Fin n => Value.int .i64 (x.val : Int)) w blk 0 m dk os = Go.Sort.putRow (fun x : Fin n => Value.int .i64 (x.val : Int)) (Go.Sort.grow (Go.Sort.ahead w m) os) blk 0 dk := by
    unfold sortWorld; rw [Go.Sort.putRow_grow _ (Go.Sort.ahead w m) _ blk 0 _ hblk]
   have other : ∀ a : Addr, a.block < w.heap.size → a.block ≠ blk → (sortWorld (fun x : Fin n => Value.int .i64 (x.val : Int)) w blk 0 m dk os).cell? a = w.cell? a := fun a h1 h3 => by
    rw [e, Go.Sort.cell?_putRow_other _ _ blk 0 dk _ (Or.inl h3), Go.Sort.cell?_grow _ _ _ (by exact h1)]
    rfl
   have hHg : Go.Sort.Holds (fun x : Fin n => Value.int .i64 (x.val : Int)) (Go.Sort.grow (Go.Sort.ahead w m) os) blk 0 (Array.ofFn (fun i : Fin n => i)) := Go.Sort.holds_grow _ _ _ blk 0 _ hblk (Go.Sort.holds_ahead _ _ _ _ _ _ hH)
   have key := less_calls Bo Ba blk n n c2 c3 n3 ad A3 ns (fun k => (dk[k]!).val) (sortWorld (fun x : Fin n => Value.int .i64 (x.val : Int)) w blk 0 m dk os) i j hi hj hn (fun k hk => (dk[k]!).isLt) ?_ ?_ (fun k hk => ?_) (fun k hk => ?_)
   ·exact key
   ·rw [other _ (lt_of_block ho) hob]; exact (blk_cell ho 0).trans rfl
   ·rw [other _ (lt_of_block ha) hab]; exact (blk_cell ha 0).trans rfl
   ·rw [e]; exact Go.Sort.cell?_putRow _ _ blk 0 _ dk hHg (by rw [hd]; exact hs) k (by omega)
   ·have h4 := hnm k hk
    have h5 := World.block_lt_of_cell? w _ h4
    rw [add_block] at h5
    rw [other _ (by rw [add_block]; exact h5) (by rw [add_block]; exact had')]
    exact h4
  have hS := Any.sort_Slice_sorted Tryd.sl6 107 3 siT siE (by kernel_rfl) (by kernel_rfl) (by kernel_rfl) (by kernel_rfl) 2 (fun _ => by kernel_rfl) (by kernel_rfl) (fun _ => by kernel_rfl) (fun x : Fin n => Value.int .i64 (x.val : Int)) (fun _ => rfl) _ (swo_fin ns n) 78 _
   (enters_of Tryd.func78 (by kernel_rfl) rfl) blk 0 n (Array.ofFn (fun i : Fin n => i)) (by rw [hd]; exact h2) (by rw [hd]; omega) 101 (by rw [hd, siK _ h2]; kernel_rfl) true
   (fun args W => run_callFunc_extern Tryd.func101 (by kernel_rfl) (by kernel_rfl) (by kernel_rfl) (e := Extern.ReflectliteSwapper.swap true) (by kernel_rfl) args W) w hless hH hblk
  rw [hd] at hS
  refine Calls.mono hS ?_
  rintro e w' ⟨rfl, d', m, os, hP, hSo, rfl⟩
  obtain ⟨hp1, _, hp3⟩ := hP
  rw [hd] at hp1
  have hl : d'.toList.length = n := by simpa using hp1
  have hgd : ∀ k, k < n → (d'.toList.map Fin.val).getD k 0 = (d'[k]!).val := fun k hk => by
   rw [List.getD_eq_getElem?_getD, List.getElem?_map, Array.getElem?_toList, Array.getElem?_eq_getElem (by omega), getElem!_pos d' k (by omega)]
   rfl
  have eW : Go.Sort.grow (Go.Sort.putRow (fun x : Fin n => Value.int .i64 (x.val : Int)) (Go.Sort.ahead w m) blk 0 d') os = sortWorld (fun x : Fin n => Value.int .i64 (x.val : Int)) w blk 0 m d' os := rfl
  refine ⟨rfl, d'.toList.map Fin.val, ⟨?_, fun i j hij hj => ?_, fun k hk => ?_, ?_, ⟨?_, fun i hi hne _ => ?_⟩, rfl, rfl, rfl⟩⟩
  ·have h3 : d'.toList.Perm (Array.ofFn (fun i : Fin n => i)).toList := by
    have e1 : d'.extract 0 n = d' := ext_self _ _ hp1
    have e2 : (Array.ofFn (fun i : Fin n => i)).extract 0 n = Array.ofFn (fun i : Fin n => i) := ext_self _ _ hd
    rw [e1, e2] at hp3
    exact hp3
   have h4 := h3.map Fin.val
   refine h4.trans (List.Perm.of_eq ?_)
   apply List.ext_getElem
   ·simp
   ·intro i h1 h2
    simp
  ·rw [hgd j hj, hgd i (by omega)]
   exact hSo i j (Nat.zero_le _) hij hj
  ·rw [hgd k hk, eW]
   have e : sortWorld (fun x : Fin n => Value.int .i64 (x.val : Int)) w blk 0 m d' os = Go.Sort.putRow (fun x : Fin n => Value.int .i64 (x.val : Int)) (Go.Sort.grow (Go.Sort.ahead w m) os) blk 0 d' := by
    unfold sortWorld; rw [Go.Sort.putRow_grow _ (Go.Sort.ahead w m) _ blk 0 _ hblk]
   rw [e]
   have := Go.Sort.cell?_putRow (fun x : Fin n => Value.int .i64 (x.val : Int)) (Go.Sort.grow (Go.Sort.ahead w m) os) blk 0 _ d' (Go.Sort.holds_grow _ _ _ blk 0 _ hblk (Go.Sort.holds_ahead _ _ _ _ _ _ hH)) (by rw [hd]; exact hp1) k (by omega)
   rw [Nat.zero_add] at this
   exact this
  ·rw [Go.Sort.heap_grow_old _ _ (by simpa [Go.Sort.putRow, Go.Sort.mapBlock] using hblk)]
   refine ⟨_, (show _ = (w.heap[blk]?).map (Go.Sort.onCells (Go.Sort.putCells (fun x : Fin n => Value.int .i64 (x.val : Int)) 0 d')) from ?_).trans (by rw [hb]; rfl)⟩
   simp [Go.Sort.putRow, Go.Sort.mapBlock, Go.Sort.ahead, Array.getElem?_modify]
  ·simp [Go.Sort.grow, Go.Sort.putRow, Go.Sort.mapBlock]
  ·rw [Go.Sort.heap_grow_old _ _ (by simpa [Go.Sort.putRow, Go.Sort.mapBlock] using hi)]
   simp [Go.Sort.putRow, Go.Sort.mapBlock, Array.getElem?_modify, Ne.symm hne]
 ·have hS := Any.sort_Slice_tiny Tryd.sl6 107 3 siT siE (by kernel_rfl) (by kernel_rfl) (by kernel_rfl) (by kernel_rfl) 2 (fun _ => by kernel_rfl) (some ⟨blk, 0, none⟩) n n (by omega) (if n = 0 then 97 else 98)
   (by
    rcases (by omega : n = 0 ∨ n = 1) with h | h
    ·subst h; rw [if_pos rfl]; kernel_rfl
    ·subst h; rw [if_neg (by decide)]; kernel_rfl) (.func 78) #[] #[.pointer (some ⟨Bo, 0, none⟩), .pointer (some ⟨Ba, 0, none⟩)] w
  refine Calls.mono hS ?_
  rintro e w' ⟨rfl, os, rfl⟩
  refine ⟨rfl, List.range n, ⟨.refl _, fun i j hij hj => by omega, fun k hk => ?_, ⟨_, (Go.Sort.heap_grow_old w os hblk).trans hb⟩, ⟨by simp [Go.Sort.grow], fun i hi _ _ => Go.Sort.heap_grow_old w os hi⟩, rfl, rfl, rfl⟩⟩
  rw [Go.Sort.cell?_grow _ _ _ hblk, range_getD n k hk, blk_cell hb k]
  simp [hk]
end Go.Proofs.YtaalajhmfdcalaaDoor.X
namespace Go.Proofs.YtaalajhmfdcalaaDoor.X
open Go.RowKit Go.Lib Go.Proofs.YtaalajhmfdcalaaDoorW.PrintWords Go.Proofs.YtaalajhmfdcalaaDoorW.PrintLast Go.Proofs.YtaalajhmfdcalaaDoorW.PrintMore
structure SGeo (B Bo Br Ba blk Bp : Nat) : Prop where
 o : B ≤ Bo
 r : B ≤ Br
 a : B ≤ Ba
 k : B ≤ blk
 p : B ≤ Bp
 po : Bo ≠ Bp
 pr : Br ≠ Bp
 pa : Ba ≠ Bp
 pk : blk ≠ Bp
def okS (B Bp Br : Nat) (ok : Nat → Prop) (k : Nat) : Prop := (ok k ∧ k < B) ∨ (B ≤ k ∧ k ≠ Bp ∧ k ≠ Br)
structure SI (W : World) (Bo Br Ba blk Bp : Nat) (ok : Nat → Prop) (v2 v3 va : Value) (C : Array Value) (sn sv : Value) (ln : List ByteArray) (li : List J) (w : World) : Prop where
 o : w.heap[Bo]? = some (.cells #[v2, v3] 84 (0, 0))
 r : w.heap[Br]? = some (.cells #[.slice none 0 0, .slice none 0 0] 84 (0, 0))
 a : w.heap[Ba]? = some (.cells #[va] 107 (0, 0))
 k : w.heap[blk]? = some (.cells C 3 (0, 0))
 p : w.heap[Bp]? = some (.cells #[sn, sv] 84 (0, 0))
 names : Kd.string.R 9 w W.heap.size (fun k => k ≠ Bp ∧ k ≠ Br) sn ln
 items : Kd.N k25 25 w W.heap.size (fun k => okS W.heap.size Bp Br ok k ∧ some k ≠ sn.ownBlock) sv li
 bel : Below W.heap.size W w
section
variable {W w w' : World} {Bo Br Ba blk Bp : Nat} {ok : Nat → Prop} {v2 v3 va : Value} {C : Array Value} {sn sv : Value} {ln : List ByteArray} {li : List J}
theorem SI.below (h : SI W Bo Br Ba blk Bp ok v2 v3 va C sn sv ln li w) (hb : Below w.heap.size w w') : SI W Bo Br Ba blk Bp ok v2 v3 va C sn sv ln li w' :=
 ⟨(hb.block _ (lt_of_block h.o)).trans h.o, (hb.block _ (lt_of_block h.r)).trans h.r, (hb.block _ (lt_of_block h.a)).trans h.a, (hb.block _ (lt_of_block h.k)).trans h.k, (hb.block _ (lt_of_block h.p)).trans h.p, Kd.R_below h.names hb, Kd.N_below h.items hb, below_step h.bel hb⟩
theorem SI.ltB (h : SI W Bo Br Ba blk Bp ok v2 v3 va C sn sv ln li w) : W.heap.size ≤ w.heap.size := h.bel.size
theorem SI.name {v1 : Value} {w6 : World} {nm : ByteArray} (h : SI W Bo Br Ba blk Bp ok v2 v3 va C sn sv ln li w) (g : SGeo W.heap.size Bo Br Ba blk Bp) (ho : Kd.string.R 9 w6 W.heap.size (fun k => k ≠ Bp ∧ k ≠ Br) v1 (ln ++ [nm])) (hb : Below W.heap.size W w6) (hg : w.grownBy w6 sn.ownBlock)
  (hat : v1.ownBlock = sn.ownBlock ∨ ∃ b, v1.ownBlock = some b ∧ w.heap.size ≤ b) : SI W Bo Br Ba blk Bp ok v2 v3 va C v1 sv (ln ++ [nm]) li (w6.setCell ⟨Bp, 0, none⟩ v1) := by
 have key : ∀ {b : Nat} {c : Array Value} {t : TypeId}, w.heap[b]? = some (.cells c t (0, 0)) → 9 ≠ t → w6.heap[b]? = some (.cells c t (0, 0)) := fun hk ht => blk_grown hk hg (Kd.R_ne h.names hk ht)
 have far : ∀ {b : Nat} {o : Obj}, b ≠ Bp → w6.heap[b]? = some o → (w6.setCell ⟨Bp, 0, none⟩ v1).heap[b]? = some o := fun hne hk => (Below.heap_setCell _ _ _ _ hne).trans hk
 refine ⟨far g.po (key h.o (by decide)), far g.pr (key h.r (by decide)), far g.pa (key h.a (by decide)), far g.pk (key h.k (by decide)), (blk_set 0 v1 (key h.p (by decide))).trans rfl, Kd.R_far ho (fun _ hk => hk.1) _, Kd.N_far (Kd.N_after h.items hg hat) (fun k hk => ?_) _, below_set hb g.p⟩
 rcases hk.1 with ⟨_, h1⟩ | ⟨_, h1, _⟩
 ·have := g.p; show k ≠ Bp; omega
 ·exact h1
theorem SI.item {v1 : Value} {w6 : World} {y : J} (h : SI W Bo Br Ba blk Bp ok v2 v3 va C sn sv ln li w) (g : SGeo W.heap.size Bo Br Ba blk Bp) (ho : Kd.N k25 25 w6 W.heap.size (fun k => okS W.heap.size Bp Br ok k ∧ some k ≠ sn.ownBlock) v1 (li ++ [y])) (hb : Below W.heap.size W w6) (hg : w.grownBy w6 sv.ownBlock) :
  SI W Bo Br Ba blk Bp ok v2 v3 va C sn v1 ln (li ++ [y]) (w6.setCell ⟨Bp, 1, none⟩ v1) := by
 have key : ∀ {b : Nat} {c : Array Value} {t : TypeId}, w.heap[b]? = some (.cells c t (0, 0)) → 25 ≠ t → w6.heap[b]? = some (.cells c t (0, 0)) := fun hk ht => blk_grown hk hg (Kd.N_ne h.items hk ht)
 have far : ∀ {b : Nat} {o : Obj}, b ≠ Bp → w6.heap[b]? = some o → (w6.setCell ⟨Bp, 1, none⟩ v1).heap[b]? = some o := fun hne hk => (Below.heap_setCell _ _ _ _ hne).trans hk
 refine ⟨far g.po (key h.o (by decide)), far g.pr (key h.r (by decide)), far g.pa (key h.a (by decide)), far g.pk (key h.k (by decide)), (blk_set 1 v1 (key h.p (by decide))).trans rfl, Kd.R_far (Kd.R_over' h.names (Kd.N_typed h.items) (by decide) hg) (fun _ hk => hk.1) _, Kd.N_far ho (fun k hk => ?_) _, below_set hb g.p⟩
 rcases hk.1 with ⟨_, h1⟩ | ⟨_, h1, _⟩
 ·have := g.p; show k ≠ Bp; omega
 ·exact h1
end
end Go.Proofs.YtaalajhmfdcalaaDoor.X
namespace Go.Proofs.YtaalajhmfdcalaaDoor.X
open Go.RowKit Go.Lib Go.Proofs.YtaalajhmfdcalaaDoorW.PrintWords Go.Proofs.YtaalajhmfdcalaaDoorW.PrintLast Go.Proofs.YtaalajhmfdcalaaDoorW.PrintMore
theorem strict_unique {α : Type} (lt : α → α → Prop) (asymm : ∀ a b, lt a b → ¬ lt b a) : ∀ l1 l2 : List α, l1.Perm l2 → l1.Pairwise lt → l2.Pairwise lt → l1 = l2
 | [], l2, h, _, _ => (List.nil_perm.1 h).symm ▸ rfl
 | a :: l1, [], h, _, _ => absurd h.length_eq (by simp)
 | a :: l1, b :: l2, h, h1, h2 => by
  have ha : a ∈ b :: l2 := h.subset (List.mem_cons_self ..)
  have hb : b ∈ a :: l1 := h.symm.subset (List.mem_cons_self ..)
  rw [List.pairwise_cons] at h1 h2
  rcases List.mem_cons.1 ha with e | ha
  ·subst e
   rw [strict_unique lt asymm l1 l2 (List.Perm.cons_inv h) h1.2 h2.2]
  ·rcases List.mem_cons.1 hb with e | hb
   ·subst e
    rw [strict_unique lt asymm l1 l2 (List.Perm.cons_inv h) h1.2 h2.2]
   ·exact absurd (h1.1 b hb) (asymm _ _ (h2.1 a ha))
theorem list_eq {a b : ByteArray} (h : a.toList = b.toList) : a = b := by
 rw [toList_data, toList_data] at h
 obtain ⟨⟨a⟩⟩ := a
 obtain ⟨⟨b⟩⟩ := b
 exact congrArg (fun l : List UInt8 => (⟨⟨l⟩⟩ : ByteArray)) h
def leP (a b : ByteArray × J) : Prop := Op.bytesLess b.1.toList a.1.toList = false
def ltP (a b : ByteArray × J) : Prop := Op.bytesLess a.1.toList b.1.toList = true
theorem ltP_asymm (a b : ByteArray × J) (h : ltP a b) : ¬ ltP b a := by
 unfold ltP at *
 simp only [bytesLess_ltStr] at *
 have := Go.Sort.swo_ltStr.irrefl a.1.toList
 intro h2
 rw [Go.Sort.swo_ltStr.trans _ _ _ h h2] at this
 cases this
theorem leP_of_ltP {a b : ByteArray × J} (h : ltP a b) : leP a b := by
 have := ltP_asymm a b h
 unfold ltP at this
 unfold leP
 cases h2 : Op.bytesLess b.1.toList a.1.toList with
 | false => rfl
 | true => exact absurd h2 this
theorem ltP_of {a b : ByteArray × J} (h : leP a b) (hne : a.1 ≠ b.1) : ltP a b := by
 unfold leP at h
 unfold ltP
 rw [bytesLess_ltStr] at *
 simp only [Go.Sort.ltStr, decide_eq_false_iff_not, decide_eq_true_eq, List.not_lt] at *
 rcases Classical.em (a.1.toList < b.1.toList) with h1 | h1
 ·exact h1
 ·rw [List.not_lt] at h1
  exact absurd (list_eq (List.le_antisymm h h1)) hne
theorem insF_sorted (x : ByteArray × J) : ∀ l, l.Pairwise leP → (insF x l).Pairwise leP
 | [], _ => by unfold insF; exact List.pairwise_singleton _ _
 | y :: l, h => by
  rw [List.pairwise_cons] at h
  unfold insF
  split
  ·rename_i hy
   rw [List.pairwise_cons]
   refine ⟨fun z hz => ?_, insF_sorted x l h.2⟩
   rcases List.mem_cons.1 ((insF_perm x l).subset hz) with e | hz
   ·subst e; exact leP_of_ltP hy
   ·exact h.1 z hz
  ·rename_i hy
   have hxy : leP x y := by
    unfold leP
    cases h2 : Op.bytesLess y.1.toList x.1.toList with
    | false => rfl
    | true => exact absurd h2 hy
   rw [List.pairwise_cons, List.pairwise_cons]
   refine ⟨fun z hz => ?_, h⟩
   rcases List.mem_cons.1 hz with e | hz
   ·subst e; exact hxy
   ·have h3 := h.1 z hz
    unfold leP at *
    simp only [bytesLess_ltStr] at *
    exact Go.Sort.swo_ltStr.ntrans _ _ _ h3 hxy
theorem sortF_sorted' : ∀ (l a : List (ByteArray × J)), a.Pairwise leP → (l.foldl (fun a x => insF x a) a).Pairwise leP
 | [], _, h => h
 | x :: l, a, h => sortF_sorted' l _ (insF_sorted x a h)
theorem sortF_sorted (l : List (ByteArray × J)) : (sortF l).Pairwise leP := sortF_sorted' l [] .nil
theorem strict_of {l : List (ByteArray × J)} (h : l.Pairwise leP) (hn : (l.map Prod.fst).Nodup) : l.Pairwise ltP := by
 have h2 : l.Pairwise (fun a b => a.1 ≠ b.1) := List.pairwise_map.1 hn
 exact List.Pairwise.imp (fun ⟨h3, h4⟩ => ltP_of h3 h4) (List.pairwise_and_iff.2 ⟨h, h2⟩)
theorem range_pairs {ns : List ByteArray} {ys : List J} (h : ns.length = ys.length) : (List.range ns.length).map (fun k : Nat => (nmAt ns k, rd_T25 ys (k : Int))) = ns.zip ys := by
 apply List.ext_getElem
 ·simp [h]
 ·intro i h1 h2
  have hi : i < ns.length := by simpa using h1
  rw [List.getElem_map, List.getElem_range, List.getElem_zip, nmAt_eq ns i hi]
  unfold rd_T25
  rw [show ((i : Int)).toNat = i from Int.toNat_natCast i, List.getD_eq_getElem?_getD, List.getElem?_eq_getElem (by omega)]
  rfl
theorem sorted_lists {ns : List ByteArray} {ys : List J} {l : List Nat} (h : ns.length = ys.length) (hP : l.Perm (List.range ns.length)) (hO : ∀ i j, i < j → j < ns.length → ltN ns (l.getD j 0) (l.getD i 0) = false) :
  ((l.map fun k : Nat => nmAt ns k).zip (l.map fun k : Nat => rd_T25 ys (k : Int))).Perm (ns.zip ys) ∧ (ns.Nodup → (l.map fun k : Nat => nmAt ns k) = namesOf true ns ys ∧ (l.map fun k : Nat => rd_T25 ys (k : Int)) = itemsOf true ns ys) := by
 have e : (l.map fun k : Nat => nmAt ns k).zip (l.map fun k : Nat => rd_T25 ys (k : Int)) = l.map (fun k : Nat => (nmAt ns k, rd_T25 ys (k : Int))) := List.zip_map'
 have hp : (l.map (fun k : Nat => (nmAt ns k, rd_T25 ys (k : Int)))).Perm (ns.zip ys) := by
  rw [← range_pairs h]; exact hP.map _
 have hlen : l.length = ns.length := by rw [hP.length_eq, List.length_range]
 rw [e]
 refine ⟨hp, fun hn => ?_⟩
 have hs : (l.map (fun k : Nat => (nmAt ns k, rd_T25 ys (k : Int)))).Pairwise leP := by
  rw [List.pairwise_map, List.pairwise_iff_getElem]
  intro i j hi hj hij
  have := hO i j hij (by omega)
  have gi : l.getD i 0 = l[i] := by rw [List.getD_eq_getElem?_getD, List.getElem?_eq_getElem hi]; rfl
  have gj : l.getD j 0 = l[j] := by rw [List.getD_eq_getElem?_getD, List.getElem?_eq_getElem hj]; rfl
  rw [gi, gj] at this
  exact this
 have hz : ((ns.zip ys).map Prod.fst).Nodup := by rw [map_fst_zip h]; exact hn
 have eq := strict_unique ltP ltP_asymm _ _ (hp.trans (sortF_perm (ns.zip ys)).symm) (strict_of hs (((hp.map Prod.fst).nodup_iff).2 hz)) (strict_of (sortF_sorted _) ((((sortF_perm (ns.zip ys)).map Prod.fst).nodup_iff).2 hz))
 constructor
 ·have := congrArg (List.map Prod.fst) eq
  rw [List.map_map] at this
  exact this
 ·have := congrArg (List.map Prod.snd) eq
  rw [List.map_map] at this
  exact this
end Go.Proofs.YtaalajhmfdcalaaDoor.X
namespace Go.Proofs.YtaalajhmfdcalaaDoor.X
open Go.RowKit Go.Lib Go.Proofs.YtaalajhmfdcalaaDoorW.PrintWords Go.Proofs.YtaalajhmfdcalaaDoorW.PrintLast Go.Proofs.YtaalajhmfdcalaaDoorW.PrintMore
def atC (n i : Nat) : Array Value := ((List.range n).map fun k : Nat => if k < i then Value.int .i64 (k : Int) else .int .i64 0).toArray
theorem atC_zero (n : Nat) : madeCells #[.int .i64 0] n = atC n 0 := by
 apply Array.ext
 ·simp [atC, madeCells]
 ·intro i h1 h2
  simp [atC, madeCells, Nat.mod_one]
theorem atC_set (n i : Nat) : (atC n i).setIfInBounds i (.int .i64 (i : Int)) = atC n (i + 1) := by
 apply Array.ext
 ·simp [atC]
 ·intro k h1 h2
  rw [Array.getElem_setIfInBounds]
  ·simp only [atC, List.getElem_toArray, List.getElem_map, List.getElem_range]
   by_cases hk : i = k
   ·subst hk; simp
   ·rw [if_neg hk]
    by_cases h3 : k < i
    ·rw [if_pos h3, if_pos (by omega)]
    ·rw [if_neg h3, if_neg (by omega)]
  ·simpa [atC] using h1
theorem atC_full (n : Nat) : atC n n = ((List.range n).map fun k : Nat => Value.int .i64 (k : Int)).toArray := by
 unfold atC
 congr 1
 apply List.map_congr_left
 intro k hk
 rw [if_pos (List.mem_range.1 hk)]
structure S1 (W : World) (Bo Br Ba blk n : Nat) (v2 v3 : Value) (i : Nat) (w : World) : Prop where
 o : w.heap[Bo]? = some (.cells #[v2, v3] 84 (0, 0))
 r : w.heap[Br]? = some (.cells #[.slice none 0 0, .slice none 0 0] 84 (0, 0))
 a : w.heap[Ba]? = some (.cells #[.slice (some ⟨blk, 0, none⟩) n n] 107 (0, 0))
 k : w.heap[blk]? = some (.cells (atC n i) 3 (0, 0))
 bel : Below W.heap.size W w
theorem S1.start (W : World) (n : Nat) (v2 v3 : Value) : S1 W W.heap.size (W.heap.size + 1) (W.heap.size + 1 + 1 + 1) (W.heap.size + 1 + 1) n v2 v3 0
  ((((W.alloc (.cells #[v2, v3] 84)).alloc (.cells #[.slice none 0 0, .slice none 0 0] 84)).alloc (.cells (madeCells #[.int .i64 0] n) 3)).alloc (.cells #[.slice (some ⟨W.heap.size + 1 + 1, 0, none⟩) n n] 107)) := by
 have e1 : (W.alloc (.cells #[v2, v3] 84)).heap.size = W.heap.size + 1 := by simp
 have e2 : ((W.alloc (.cells #[v2, v3] 84)).alloc (.cells #[.slice none 0 0, .slice none 0 0] 84)).heap.size = W.heap.size + 1 + 1 := by simp
 have e3 : (((W.alloc (.cells #[v2, v3] 84)).alloc (.cells #[.slice none 0 0, .slice none 0 0] 84)).alloc (.cells (madeCells #[.int .i64 0] n) 3)).heap.size = W.heap.size + 1 + 1 + 1 := by simp
 refine ⟨Below.alloc_at (Below.alloc_at (Below.alloc_at (heap_alloc_new _ _))), ?_, ?_, ?_, below_alloc (below_alloc (below_alloc (below_alloc (Below.refl _ _) _) _) _) _⟩
 ·have := heap_alloc_new (W.alloc (.cells #[v2, v3] 84)) (.cells #[.slice none 0 0, .slice none 0 0] 84)
  rw [e1] at this
  exact Below.alloc_at (Below.alloc_at this)
 ·have := heap_alloc_new (((W.alloc (.cells #[v2, v3] 84)).alloc (.cells #[.slice none 0 0, .slice none 0 0] 84)).alloc (.cells (madeCells #[.int .i64 0] n) 3)) (.cells #[.slice (some ⟨W.heap.size + 1 + 1, 0, none⟩) n n] 107)
  rw [e3] at this
  exact this
 ·have := heap_alloc_new ((W.alloc (.cells #[v2, v3] 84)).alloc (.cells #[.slice none 0 0, .slice none 0 0] 84)) (.cells (madeCells #[.int .i64 0] n) 3)
  rw [e2] at this
  rw [← atC_zero]
  exact Below.alloc_at this
section
variable {W w w' : World} {Bo Br Ba blk n : Nat} {v2 v3 : Value} {i : Nat}
theorem S1.drew (h : S1 W Bo Br Ba blk n v2 v3 i w) (q : Nat) : S1 W Bo Br Ba blk n v2 v3 i (w.drewN q) := ⟨h.o, h.r, h.a, h.k, pw_below_drewN h.bel q⟩
theorem S1.set (h : S1 W Bo Br Ba blk n v2 v3 i w) (hB : W.heap.size ≤ blk) (ho : Bo ≠ blk) (hr : Br ≠ blk) (ha : Ba ≠ blk) : S1 W Bo Br Ba blk n v2 v3 (i + 1) (w.setCell ⟨blk, i, none⟩ (.int .i64 (i : Int))) :=
 ⟨(Below.heap_setCell _ _ _ _ ho).trans h.o, (Below.heap_setCell _ _ _ _ hr).trans h.r, (Below.heap_setCell _ _ _ _ ha).trans h.a, by rw [← atC_set]; exact blk_set _ _ h.k, below_set h.bel hB⟩
end
theorem perm_lt {l : List Nat} {n i : Nat} (h : l.Perm (List.range n)) (hi : i < n) : l.getD i 0 < n := by
 have hl : l.length = n := by rw [h.length_eq, List.length_range]
 rw [List.getD_eq_getElem?_getD, List.getElem?_eq_getElem (by omega)]
 exact List.mem_range.1 (h.subset (List.getElem_mem (by omega)))
theorem take_map {β : Type} (f : Nat → β) {l : List Nat} {n i : Nat} (h : l.Perm (List.range n)) (hi : i < n) : (l.take i).map f ++ [f (l.getD i 0)] = (l.take (i + 1)).map f := by
 have hl : l.length = n := by rw [h.length_eq, List.length_range]
 rw [List.take_succ_eq_append_getElem (by omega), List.map_append, List.getD_eq_getElem?_getD, List.getElem?_eq_getElem (by omega)]
 rfl
def CellOf (W : World) (a : Addr) (v : Value) : Prop := W.cell? a = some v
theorem CellOf.at {W w : World} {a : Addr} {v : Value} (h : CellOf W a v) (hb : Below W.heap.size W w) : w.cell? a = some v := (hb.cell (World.block_lt_of_cell? W _ h)).trans h
theorem name_at {W : World} {ok : Nat → Prop} {A : Option Addr} {xs : List ByteArray} (h : Kd.F Kd.string W ok A xs.length xs) (k : Nat) (hk : k < xs.length) : ∃ ad : Addr, A = some ad ∧ CellOf W (ad.add k) (.string (nmAt xs k)) := by
 obtain ⟨ad, e, q0⟩ := Kd.at_string (Kd.F_now h) (k : Int) (by omega) (by omega)
 exact ⟨ad, e, q0⟩
theorem item_at {W : World} {ok : Nat → Prop} {A : Option Addr} {xs : List J} (h : Kd.F k25 W ok A xs.length xs) (k : Nat) (hk : k < xs.length) :
  ∃ ad B2 k2 B3 k3, A = some ad ∧ CellOf W (ad.add (k * 4)) (.int .i64 (rd_T25 xs k).f0) ∧ CellOf W ⟨(ad.add (k * 4)).block, (ad.add (k * 4)).off + 1, none⟩ (.string (rd_T25 xs k).f1) ∧ CellOf W ⟨(ad.add (k * 4)).block, (ad.add (k * 4)).off + 2, none⟩ (.slice B2 (rd_T25 xs k).f2.length k2) ∧ CellOf W ⟨(ad.add (k * 4)).block, (ad.add (k * 4)).off + 3, none⟩ (.slice B3 (rd_T25 xs k).f3.length k3) ∧
   ∀ w, Below W.heap.size W w → Kd.FK k25 w (fun j => ok j ∧ j < W.heap.size) (rd_T25 xs k) [.int .i64 (rd_T25 xs k).f0, .string (rd_T25 xs k).f1, .slice B2 (rd_T25 xs k).f2.length k2, .slice B3 (rd_T25 xs k).f3.length k3] := by
 obtain ⟨ad, c, e, _, hK, hc0, _⟩ := Kd.F_get h z25 (k : Int) (by omega) (by omega)
 have hc : ∀ j u, c[j]? = some u → W.cell? (ad.add (k * 4 + j)) = some u := hc0
 have hK' := hK
 obtain ⟨A2, c2, A3, c3, rfl, l2, g2, l3, g3⟩ := k25_openF hK
 exact ⟨ad, A2, c2, A3, c3, e, hc 0 _ rfl, by rw [← add_field _ _ 1 (by omega)]; exact hc 1 _ rfl, by rw [← add_field _ _ 2 (by omega)]; exact hc 2 _ rfl, by rw [← add_field _ _ 3 (by omega)]; exact hc 3 _ rfl, fun w hb => Foot.old hK' hb⟩
theorem SI.fin {W w : World} {Bo Br Ba blk Bp : Nat} {ok : Nat → Prop} {v2 v3 va : Value} {C : Array Value} {An Ai : Option Addr} {cn ci : Nat} {ln : List ByteArray} {li : List J} (h : SI W Bo Br Ba blk Bp ok v2 v3 va C (.slice An ln.length cn) (.slice Ai li.length ci) ln li w) (g : SGeo W.heap.size Bo Br Ba blk Bp) :
  Below W.heap.size W ((w.setCell ⟨Br, 0, none⟩ (.slice An ln.length cn)).setCell ⟨Br, 1, none⟩ (.slice Ai li.length ci)) ∧ ((w.setCell ⟨Br, 0, none⟩ (.slice An ln.length cn)).setCell ⟨Br, 1, none⟩ (.slice Ai li.length ci)).heap[Br]? = some (.cells #[.slice An ln.length cn, .slice Ai li.length ci] 84 (0, 0)) ∧ ln.length ≤ cn ∧ li.length ≤ ci ∧
   Kd.F Kd.string ((w.setCell ⟨Br, 0, none⟩ (.slice An ln.length cn)).setCell ⟨Br, 1, none⟩ (.slice Ai li.length ci)) (fun k => ok k ∨ W.heap.size ≤ k) An ln.length ln ∧ Kd.F k25 ((w.setCell ⟨Br, 0, none⟩ (.slice An ln.length cn)).setCell ⟨Br, 1, none⟩ (.slice Ai li.length ci)) (fun k => ok k ∨ W.heap.size ≤ k) Ai li.length li := by
 have hn := Kd.R_far (p := ⟨Br, 1, none⟩) (Kd.R_far (p := ⟨Br, 0, none⟩) h.names (fun _ hk => hk.2) (.slice An ln.length cn)) (fun _ hk => hk.2) (.slice Ai li.length ci)
 have far : ∀ k, okS W.heap.size Bp Br ok k ∧ some k ≠ (Value.slice An ln.length cn).ownBlock → k ≠ Br := fun k hk => by
  rcases hk.1 with ⟨_, h1⟩ | ⟨_, _, h1⟩
  ·have := g.r; omega
  ·exact h1
 have hi := Kd.N_far (p := ⟨Br, 1, none⟩) (Kd.N_far (p := ⟨Br, 0, none⟩) h.items far (.slice An ln.length cn)) far (.slice Ai li.length ci)
 refine ⟨below_set (below_set h.bel g.r) g.r, (blk_set 1 _ (blk_set 0 _ h.r)).trans rfl, (Kd.R_reads' h.names).2.1, (Kd.N_reads' h.items).2.1, Kd.F_mono (Kd.R_F (Kd.R_bound hn)) (fun k hk => Or.inr hk.2.1), Kd.F_mono (Kd.N_F hi) (fun k hk => ?_)⟩
 rcases hk.1 with ⟨h1, _⟩ | ⟨h1, _, _⟩
 ·exact Or.inl h1
 ·exact Or.inr h1
theorem names_at {W : World} {ok : Nat → Prop} {A : Option Addr} {xs : List ByteArray} (h : Kd.F Kd.string W ok A xs.length xs) : ∃ ad : Addr, (0 < xs.length → A = some ad ∧ ad.block < W.heap.size) ∧ ∀ k, k < xs.length → W.cell? (ad.add k) = some (.string (nmAt xs k)) := by
 by_cases h0 : 0 < xs.length
 ·obtain ⟨ad, e, q0⟩ := Kd.at_string (Kd.F_now h) ((0 : Nat) : Int) (by omega) (by omega)
  have hb := World.block_lt_of_cell? W _ q0
  rw [add_block] at hb
  refine ⟨ad, fun _ => ⟨e, hb⟩, fun k hk => ?_⟩
  obtain ⟨ad', e', q⟩ := Kd.at_string (Kd.F_now h) (k : Int) (by omega) (by omega)
  obtain rfl := Option.some.inj (e.symm.trans e')
  exact q
 ·exact ⟨⟨0, 0, none⟩, fun h => absurd h h0, fun k hk => absurd hk (by omega)⟩
structure S2 (W : World) (Bo Br Ba blk : Nat) (ns : List ByteArray) (v2 v3 : Value) (l : List Nat) (C : Array Value) (w : World) : Prop where
 o : w.heap[Bo]? = some (.cells #[v2, v3] 84 (0, 0))
 r : w.heap[Br]? = some (.cells #[.slice none 0 0, .slice none 0 0] 84 (0, 0))
 a : w.heap[Ba]? = some (.cells #[.slice (some ⟨blk, 0, none⟩) ns.length ns.length] 107 (0, 0))
 k : w.heap[blk]? = some (.cells C 3 (0, 0))
 bel : Below W.heap.size W w
 row : ∀ k, k < ns.length → C[k]? = some (.int .i64 ((l.getD k 0 : Nat) : Int))
 perm : l.Perm (List.range ns.length)
 ord : ∀ i j, i < j → j < ns.length → ltN ns (l.getD j 0) (l.getD i 0) = false
theorem sort_S1 {W w : World} {ok : Nat → Prop} {Bo Br Ba blk n3 c2 c3 : Nat} {A2 A3 : Option Addr} {ns : List ByteArray} (hsz : ns.length ≤ 1000000) (hF : Kd.F Kd.string W ok A2 ns.length ns) (h : S1 W Bo Br Ba blk ns.length (.slice A2 ns.length c2) (.slice A3 n3 c3) ns.length w) (hB : W.heap.size ≤ blk) (ho : Bo ≠ blk) (hr : Br ≠ blk) (ha : Ba ≠ blk) :
  Calls Tryd.prog 77 #[.iface 107 (.slice (some ⟨blk, 0, none⟩) ns.length ns.length), .func (.func 78) #[] #[.pointer (some ⟨Bo, 0, none⟩), .pointer (some ⟨Ba, 0, none⟩)]] w fun e w' => e = .returned (.tuple #[]) ∧ ∃ l C, S2 W Bo Br Ba blk ns (.slice A2 ns.length c2) (.slice A3 n3 c3) l C w' := by
 obtain ⟨ad, h1, h2⟩ := names_at hF
 have hk := h.k
 rw [atC_full] at hk
 refine (sort_calls Bo Ba blk ns.length c2 c3 ad A2 A3 n3 ns w rfl hsz (fun h0 => (h1 h0).1) h.o h.a hk ho ha (fun k hk => ?_) (fun h0 => ?_)).mono ?_
 ·have h3 := h2 k hk
  rw [h.bel.cell (World.block_lt_of_cell? W _ h3)]
  exact h3
 ·have := (h1 h0).2
  omega
 ·rintro e w' ⟨rfl, l, hl⟩
  obtain ⟨C, hC⟩ := hl.row
  have far : ∀ {b : Nat} {x : Obj}, b ≠ blk → w.heap[b]? = some x → w'.heap[b]? = some x := fun hne hx => (hl.keep.2 _ (lt_of_block hx) hne (by simp)).trans hx
  refine ⟨rfl, l, C, far ho h.o, far hr h.r, far ha h.a, hC, ⟨hl.os.trans h.bel.os, hl.tape.trans h.bel.tape, hl.output.trans h.bel.output, Nat.le_trans h.bel.size hl.keep.1, fun k hk => ?_⟩, fun k hk => ?_, hl.perm, hl.ord⟩
  ·rw [hl.keep.2 k (by have := h.bel.size; omega) (by omega) (by simp)]
   exact h.bel.block k hk
  ·rw [← blk_cell hC k]
   exact hl.cells k hk
theorem S2.drew {W w : World} {Bo Br Ba blk : Nat} {ns : List ByteArray} {v2 v3 : Value} {l : List Nat} {C : Array Value} (h : S2 W Bo Br Ba blk ns v2 v3 l C w) (q : Nat) : S2 W Bo Br Ba blk ns v2 v3 l C (w.drewN q) := ⟨h.o, h.r, h.a, h.k, pw_below_drewN h.bel q, h.row, h.perm, h.ord⟩
theorem S2.geo {W w : World} {Bo Br Ba blk : Nat} {ns : List ByteArray} {v2 v3 : Value} {l : List Nat} {C : Array Value} (h : S2 W Bo Br Ba blk ns v2 v3 l C w) (ho : W.heap.size ≤ Bo) (hr : W.heap.size ≤ Br) (ha : W.heap.size ≤ Ba) (hk : W.heap.size ≤ blk) : SGeo W.heap.size Bo Br Ba blk w.heap.size :=
 ⟨ho, hr, ha, hk, h.bel.size, Nat.ne_of_lt (lt_of_block h.o), Nat.ne_of_lt (lt_of_block h.r), Nat.ne_of_lt (lt_of_block h.a), Nat.ne_of_lt (lt_of_block h.k)⟩
theorem S2.start {W w : World} {Bo Br Ba blk : Nat} {ns : List ByteArray} {v2 v3 : Value} {l : List Nat} {C : Array Value} (h : S2 W Bo Br Ba blk ns v2 v3 l C w) (ok : Nat → Prop) :
  SI W Bo Br Ba blk w.heap.size ok v2 v3 (.slice (some ⟨blk, 0, none⟩) ns.length ns.length) C (.slice none 0 0) (.slice none 0 0) [] [] (w.alloc (.cells #[.slice none 0 0, .slice none 0 0] 84)) :=
 ⟨Below.alloc_at h.o, Below.alloc_at h.r, Below.alloc_at h.a, Below.alloc_at h.k, heap_alloc_new _ _, Kd.R_nil _ _ _ _ _, Kd.N_nil _ _ _ _ _, below_alloc h.bel _⟩
set_option maxRecDepth 1000000 in
set_option maxHeartbeats 4000000 in
theorem sorted_calls : SortedOK := by
 intro W ok A2 A3 c2 c3 ns ys hny hlen hF2 hc2 hF3 hc3
 have hmk := print_make_of (P := Tryd.prog) 107 3 (.int .i64 0) 8 Tryd.underlying107 (by kernel_rfl) rfl (by decide) ns.length (by omega)
 have HST := Aside0.mk (S1.start W ns.length (.slice A2 ns.length c2) (.slice A3 ys.length c3))
 have HF2 := Aside0.mk hF2
 have HF3 := Aside0.mk hF3
 have HNY := Aside0.mk hny
 clear hF2 hF3 hny
 go_enter Tryd.func54, Tryd.ntmps54
 go_wp2
 clear hmk
 go_loopg [14] (ns.length + 1) (fun g v14 wr => ∃ (i : Nat), v14 = .int .i64 (i : Int) ∧ i ≤ ns.length ∧ ns.length + 1 ≤ i + g ∧ Aside0 (S1 W W.heap.size (W.heap.size + 1) (W.heap.size + 1 + 1 + 1) (W.heap.size + 1 + 1) ns.length (.slice A2 ns.length c2) (.slice A3 ys.length c3) i wr))
 case atStart => exact ⟨0, rfl, by omega, by omega, HST⟩
 case round =>
  obtain ⟨i, rfl, hi, hg, HS⟩ := hrel
  clear HST
  have ca := (blk_cell HS.out.a 0).trans rfl
  have hsz := lt_of_block HS.out.k
  by_cases hlt : i < ns.length
  ·cases gk with
   | zero => omega
   | succ g =>
    have p1 : (0 ≤ (i : Int)) = True := eq_true (by omega)
    have p2 : ((i : Int) < (ns.length : Int)) = True := eq_true (by omega)
    have hwn := wrap_next i ns.length hlt (by omega)
    have HWN := Aside0.mk hwn
    have ck : wr.cell? ⟨W.heap.size + 1 + 1, i, none⟩ = some (.int .i64 0) := (blk_cell HS.out.k i).trans (by simp [atC, hlt])
    have fk := blk_frozen HS.out.k i
    go_wp2
    go_roundg g
    case measure => omega
    case rel => exact ⟨i + 1, (by first | exact congrArg (Value.int .i64) HWN.out | exact congrArg (Value.int .i64) (show (i : Int) + 1 = ((i + 1 : Nat) : Int) by omega)), by omega, by omega, ⟨by repeat (first | exact HS.out | apply S1.drew | (refine S1.set ?_ (by omega) (by omega) (by omega) (by omega)))⟩⟩
  ·have p2 : ((i : Int) < (ns.length : Int)) = False := eq_false (by omega)
   obtain rfl : i = ns.length := by omega
   have HF4 := Aside0.mk (show Kd.F Kd.string W ok A2 ns.length ns from HF2.out)
   go_wp2_with (go_at_call 77; (with_reducible refine (sort_S1 hlen HF4.out (by repeat (first | exact HS.out | apply S1.drew)) (by omega) (by omega) (by omega) (by omega)).mono ?_); rintro e w1 ⟨rfl, l, C, hs⟩; have HT := Aside0.mk hs; clear hs; have ca : (w1.alloc (Obj.cells #[.slice none 0 0, .slice none 0 0] 84)).cell? ⟨W.heap.size + 1 + 1 + 1, 0, none⟩ = some (.slice (some ⟨W.heap.size + 1 + 1, 0, none⟩) ns.length ns.length) := (blk_cell (Below.alloc_at HT.out.a) 0).trans rfl)
   have HG := Aside0.mk (HT.out.geo (by omega) (by omega) (by omega) (by omega))
   have HP := Aside0.mk HT.out.perm
   have HO := Aside0.mk HT.out.ord
   have HC := Aside0.mk HT.out.row
   have HSI := Aside0.mk (HT.out.start ok)
   have HB1 := Aside0.mk (HT.out.bel.size)
   clear ca HT HS hg hi p2 hsz HF4
   generalize w1.heap.size = Bp at HG HSI HB1 ⊢
   generalize w1.alloc _ = wA at HSI ⊢
   go_loopg [28] (ns.length + 1) (fun g v28 wr => ∃ (i : Nat) (sn sv : Value), v28 = .int .i64 (i : Int) ∧ i ≤ ns.length ∧ ns.length + 1 ≤ i + g ∧ Aside0 (SI W W.heap.size (W.heap.size + 1) (W.heap.size + 1 + 1 + 1) (W.heap.size + 1 + 1) Bp ok (.slice A2 ns.length c2) (.slice A3 ys.length c3) (.slice (some ⟨W.heap.size + 1 + 1, 0, none⟩) ns.length ns.length) C sn sv ((l.take i).map (fun k => nmAt ns k)) ((l.take i).map (fun k : Nat => rd_T25 ys (k : Int))) wr))
   case atStart => exact ⟨0, _, _, rfl, by omega, by omega, by rw [List.take_zero]; exact HSI⟩
   case round =>
    obtain ⟨i, sn, sv, rfl, hi, hg, HS⟩ := hrel
    clear HSI
    by_cases hlt : i < ns.length
    ·cases gk with
     | zero => omega
     | succ g =>
      have p1 : (0 ≤ (i : Int)) = True := eq_true (by omega)
      have p2 : ((i : Int) < (ns.length : Int)) = True := eq_true (by omega)
      have hwn := wrap_next i ns.length hlt (by omega)
      have HWN := Aside0.mk hwn
      have ck : wr.cell? ⟨W.heap.size + 1 + 1, i, none⟩ = some (.int .i64 ((l.getD i 0 : Nat) : Int)) := (blk_cell HS.out.k i).trans (HC.out i hlt)
      have HRW := Aside0.mk (HC.out i hlt)
      clear hwn
      obtain ⟨k, hk⟩ : ∃ k, k = l.getD i 0 := ⟨_, rfl⟩
      have hkn : k < ns.length := by rw [hk]; exact perm_lt HP.out hlt
      have HLN := Aside0.mk (take_map (fun k => nmAt ns k) HP.out hlt)
      have HLI := Aside0.mk (take_map (fun k : Nat => rd_T25 ys (k : Int)) HP.out hlt)
      rw [← hk] at ck
      rw [← hk] at HLN HLI
      have HK := Aside0.mk hk
      clear hk HRW
      have HL1 := Aside0.mk (show ((l.take i).map (fun k => nmAt ns k)).length ≤ 1000000 by rw [List.length_map, List.length_take]; omega)
      have HL2 := Aside0.mk (show ((l.take i).map (fun k : Nat => rd_T25 ys (k : Int))).length ≤ 1000000 by rw [List.length_map, List.length_take]; omega)
      generalize (l.take i).map (fun k => nmAt ns k) = ln at HS HLN HL1
      generalize (l.take i).map (fun k : Nat => rd_T25 ys (k : Int)) = li at HS HLI HL2
      obtain ⟨An, cn, en⟩ := Kd.R_slice HS.out.names
      subst en
      obtain ⟨Ai, ci, ei⟩ := Kd.N_slice HS.out.items
      subst ei
      obtain ⟨ad, e8, hnk⟩ := name_at HF2.out k hkn
      subst e8
      have HNK := Aside0.mk hnk
      clear hnk
      have p3 : (0 ≤ (k : Int)) = True := eq_true (by omega)
      have p4 : ((k : Int) < (ns.length : Int)) = True := eq_true (by omega)
      go_wp2
      refine start_ (n := 11) (S := fun w' => w'.cell? ⟨Bp, 0, none⟩ = some (.slice An ln.length cn) ∧ w'.cell? ⟨W.heap.size, 0, none⟩ = some (.slice (some ad) ns.length c2) ∧ w'.cell? (ad.add k) = some (.string (nmAt ns k))) (ds := [10]) #[false, false, false, false, false, false, false, false, false, false, false] (by kernel_rfl) rfl rfl ⟨(blk_cell HS.out.p 0).trans rfl, (blk_cell HS.out.o 0).trans rfl, HNK.out.at (pw_below_drewN HS.out.bel 1)⟩ (fun hHeld => ?_)
      have HS2 := Aside0.mk (HS.out.below (show Below wr.heap.size wr wr.drew from pw_below_drewN (Below.refl _ _) 1))
      generalize wr.drew = w2 at HS2 hHeld ⊢
      refine pure_ (i := 0) (N := some 32) (v := ?_) (a' := ?_) #[true, false, false, false, false, false, false, false, false, false, false] rfl rfl (by kernel_rfl) (fun _ _ _ h => h) (Or.inl ⟨by rfl, ?_⟩) ?_ ?_
      rotate_left
      ·intro w'
       go_simp
       with_reducible rfl
      rotate_left
      ·simp only [Act.put, List.setIfInBounds_toArray, List.set_cons_zero, List.set_cons_succ, i64_w, i32_w]
       rfl
      refine pure_ (i := 2) (N := some 34) (v := ?_) (a' := ?_) #[true, false, true, false, false, false, false, false, false, false, false] rfl rfl (by kernel_rfl) (fun _ _ _ h => h) (Or.inl ⟨by rfl, ?_⟩) ?_ ?_
      rotate_left
      ·intro w'
       go_simp
       with_reducible rfl
      rotate_left
      ·simp only [Act.put, List.setIfInBounds_toArray, List.set_cons_zero, List.set_cons_succ, i64_w, i32_w]
       rfl
      refine pure_ (i := 4) (N := some 36) (v := ?_) (a' := ?_) #[true, false, true, false, true, false, false, false, false, false, false] rfl rfl (by kernel_rfl) (fun _ _ _ h => h) (Or.inl ⟨by rfl, ?_⟩) ?_ ?_
      rotate_left
      ·intro w'
       go_simp
       with_reducible rfl
      rotate_left
      ·simp only [Act.put, List.setIfInBounds_toArray, List.set_cons_zero, List.set_cons_succ, i64_w, i32_w]
       rfl
      refine take_ (i := 1) (N := some 33) (v := ?_) (a' := ?_) #[true, true, true, false, true, false, false, false, false, false, false] rfl rfl (by kernel_rfl) (fun _ _ _ h => h) (Or.inl ⟨by rfl, ?_⟩) hHeld ?_ ?_
      rotate_left
      ·rintro w' ⟨s0, s1, s2⟩
       go_simp
       with_reducible rfl
      rotate_left
      ·simp only [Act.put, List.setIfInBounds_toArray, List.set_cons_zero, List.set_cons_succ, i64_w, i32_w]
       rfl
      refine take_ (i := 3) (N := some 35) (v := ?_) (a' := ?_) #[true, true, true, true, true, false, false, false, false, false, false] rfl rfl (by kernel_rfl) (fun _ _ _ h => h) (Or.inl ⟨by rfl, ?_⟩) hHeld ?_ ?_
      rotate_left
      ·rintro w' ⟨s0, s1, s2⟩
       go_simp
       with_reducible rfl
      rotate_left
      ·simp only [Act.put, List.setIfInBounds_toArray, List.set_cons_zero, List.set_cons_succ, i64_w, i32_w]
       rfl
      refine pure_ (i := 5) (N := some 37) (v := ?_) (a' := ?_) #[true, true, true, true, true, true, false, false, false, false, false] rfl rfl (by kernel_rfl) (fun _ _ _ h => h) (Or.inl ⟨by rfl, ?_⟩) ?_ ?_
      rotate_left
      ·intro w'
       go_simp
       with_reducible rfl
      rotate_left
      ·simp only [Act.put, List.setIfInBounds_toArray, List.set_cons_zero, List.set_cons_succ, i64_w, i32_w]
       rfl
      refine take_ (i := 6) (N := some 38) (v := ?_) (a' := ?_) #[true, true, true, true, true, true, true, false, false, false, false] rfl rfl (by kernel_rfl) (fun _ _ _ h => h) (Or.inl ⟨by rfl, ?_⟩) hHeld ?_ ?_
      rotate_left
      ·rintro w' ⟨s0, s1, s2⟩
       go_simp
       with_reducible rfl
      rotate_left
      ·simp only [Act.put, List.setIfInBounds_toArray, List.set_cons_zero, List.set_cons_succ, i64_w, i32_w]
       rfl
      refine one_ (i := 7) (N := some 39) #[true, true, true, true, true, true, true, true, false, false, false] rfl rfl (by kernel_rfl) (by decide) (fun K hK => ?_)
      refine value_ (w1 := ?_) (v := ?_) (by rfl) rfl ?_ ?_
      rotate_left 2
      ·go_simp
       constructor
       ·rfl
       ·rfl
      refine hK.out _ _ ⟨(blk_cell (blk_alloc HS2.out.p _) 0).trans rfl, (blk_cell (blk_alloc HS2.out.o _) 0).trans rfl, HNK.out.at (below_alloc HS2.out.bel _)⟩ (fun hHeld => ?_)
      clear hK K
      refine norm_ (a' := ?_) ?_ ?_
      rotate_left
      ·show Act.put _ (some 39) _ = _
       simp only [Act.put, List.setIfInBounds_toArray, List.set_cons_zero, List.set_cons_succ, i64_w, i32_w]
       rfl
      refine one_ (i := 8) (N := some 40) #[true, true, true, true, true, true, true, true, true, false, false] rfl rfl (by kernel_rfl) (by decide) (fun K hK => ?_)
      refine Kd.R_append_step Kd.string (w0 := W) W.heap.size (by rfl) (.tmp 33) (.tmp 39) 22 9 (.string ⟨#[]⟩) 16 rfl Tryd.underlying22 info9 rfl (by decide) (by omega) (.slice An ln.length cn) ln (nmAt ns k) [.string (nmAt ns k)] (fun k_ => k_ ≠ Bp ∧ k_ ≠ W.heap.size + 1) (fun _ => False) rfl rfl ?aP (fun _ hk => hk.elim) ?aF ?aO ?aB ?aS ?aL ?_
      (case aP => exact rfl)
      (case aF => exact (fun k_ hk => ⟨by have := lt_of_block HS2.out.p; omega, by have := lt_of_block HS2.out.r; omega⟩))
      (case aO => exact HS2.out.names)
      (case aB => exact HS2.out.bel)
      (case aS => exact HS2.out.ltB)
      (case aL => have := HL1.out; omega)
      intro v1 w6 ho hb hg hat
      obtain ⟨A1, c1, e1⟩ := Kd.R_slice ho
      subst e1
      have b1 := Aside0.mk (blk_grown HS2.out.p hg (Kd.R_ne HS2.out.names HS2.out.p (by decide)))
      have b2 := Aside0.mk (blk_grown HS2.out.o hg (Kd.R_ne HS2.out.names HS2.out.o (by decide)))
      have hs3 := HS2.out.name HG.out ho hb hg hat
      rw [List.length_append, List.length_singleton] at hs3
      have HS3 := Aside0.mk hs3
      clear hs3
      have HB6 := Aside0.mk hb
      have x3 := (blk_cell b1.out 0).trans rfl
      have xf := blk_frozen b1.out 0
      clear ho hb hg hat
      refine hK.out _ _ ⟨(blk_cell b1.out 0).trans rfl, (blk_cell b2.out 0).trans rfl, HNK.out.at HB6.out⟩ (fun hHeld => ?_)
      clear hK K
      refine norm_ (a' := ?_) ?_ ?_
      rotate_left
      ·show Act.put _ (some 40) _ = _
       simp only [Act.put, List.setIfInBounds_toArray, List.set_cons_zero, List.set_cons_succ, i64_w, i32_w]
       rfl
      refine pure_ (i := 9) (N := some 41) (v := ?_) (a' := ?_) #[true, true, true, true, true, true, true, true, true, true, false] rfl rfl (by kernel_rfl) (fun _ _ _ h => h) (Or.inl ⟨by rfl, ?_⟩) ?_ ?_
      rotate_left
      ·intro w'
       go_simp
       with_reducible rfl
      rotate_left
      ·simp only [Act.put, List.setIfInBounds_toArray, List.set_cons_zero, List.set_cons_succ, i64_w, i32_w]
       rfl
      refine last_ (i := 10) (N := none) #[true, true, true, true, true, true, true, true, true, true, true] rfl rfl (by kernel_rfl) (by decide) (fun K hK => ?_)
      refine skip_ (w1 := ?_) (by rfl) rfl ?_ ?_
      rotate_left
      ·go_simp
       rfl
      refine hK.out _ _ ?_
      clear hK K
      refine done_ (by kernel_rfl) ?_
      try go_wp2
      generalize w6.setCell _ _ = w7 at HS3 ⊢
      clear HS HS2 HB6 b1 b2 x3 xf HNK hHeld HL1
      have HS := HS3
      clear HS3
      obtain ⟨ad3, B2, k2, B3, k3, e9, q0, q1, q2, q3, hfk⟩ := item_at HF3.out k (by have := HNY.out; omega)
      subst e9
      have HQ0 := Aside0.mk q0
      have HQ1 := Aside0.mk q1
      have HQ2 := Aside0.mk q2
      have HQ3 := Aside0.mk q3
      have HFK := Aside0.mk hfk
      clear q0 q1 q2 q3 hfk
      have p5 : ((k : Int) < (ys.length : Int)) = True := eq_true (by have := HNY.out; omega)
      refine start_ (n := 11) (S := fun w' => w'.cell? ⟨Bp, 1, none⟩ = some (.slice Ai li.length ci) ∧ w'.cell? ⟨W.heap.size, 1, none⟩ = some (.slice (some ad3) ys.length c3) ∧ w'.cell? (ad3.add (k * 4)) = some (.int .i64 (rd_T25 ys k).f0) ∧ w'.cell? ⟨(ad3.add (k * 4)).block, (ad3.add (k * 4)).off + 1, none⟩ = some (.string (rd_T25 ys k).f1) ∧ w'.cell? ⟨(ad3.add (k * 4)).block, (ad3.add (k * 4)).off + 2, none⟩ = some (.slice B2 (rd_T25 ys k).f2.length k2) ∧ w'.cell? ⟨(ad3.add (k * 4)).block, (ad3.add (k * 4)).off + 3, none⟩ = some (.slice B3 (rd_T25 ys k).f3.length k3)) (ds := [10]) #[false, false, false, false, false, false, false, false, false, false, false] (by kernel_rfl) rfl rfl ⟨(blk_cell HS.out.p 1).trans rfl, (blk_cell HS.out.o 1).trans rfl, HQ0.out.at (pw_below_drewN HS.out.bel 1), HQ1.out.at (pw_below_drewN HS.out.bel 1), HQ2.out.at (pw_below_drewN HS.out.bel 1), HQ3.out.at (pw_below_drewN HS.out.bel 1)⟩ (fun hHeld => ?_)
      have HS2 := Aside0.mk (HS.out.below (show Below w7.heap.size w7 w7.drew from pw_below_drewN (Below.refl _ _) 1))
      generalize w7.drew = w8 at HS2 hHeld ⊢
      refine pure_ (i := 0) (N := some 42) (v := ?_) (a' := ?_) #[true, false, false, false, false, false, false, false, false, false, false] rfl rfl (by kernel_rfl) (fun _ _ _ h => h) (Or.inl ⟨by rfl, ?_⟩) ?_ ?_
      rotate_left
      ·intro w'
       go_simp
       with_reducible rfl
      rotate_left
      ·simp only [Act.put, List.setIfInBounds_toArray, List.set_cons_zero, List.set_cons_succ, i64_w, i32_w]
       rfl
      refine pure_ (i := 2) (N := some 44) (v := ?_) (a' := ?_) #[true, false, true, false, false, false, false, false, false, false, false] rfl rfl (by kernel_rfl) (fun _ _ _ h => h) (Or.inl ⟨by rfl, ?_⟩) ?_ ?_
      rotate_left
      ·intro w'
       go_simp
       with_reducible rfl
      rotate_left
      ·simp only [Act.put, List.setIfInBounds_toArray, List.set_cons_zero, List.set_cons_succ, i64_w, i32_w]
       rfl
      refine pure_ (i := 4) (N := some 46) (v := ?_) (a' := ?_) #[true, false, true, false, true, false, false, false, false, false, false] rfl rfl (by kernel_rfl) (fun _ _ _ h => h) (Or.inl ⟨by rfl, ?_⟩) ?_ ?_
      rotate_left
      ·intro w'
       go_simp
       with_reducible rfl
      rotate_left
      ·simp only [Act.put, List.setIfInBounds_toArray, List.set_cons_zero, List.set_cons_succ, i64_w, i32_w]
       rfl
      refine take_ (i := 1) (N := some 43) (v := ?_) (a' := ?_) #[true, true, true, false, true, false, false, false, false, false, false] rfl rfl (by kernel_rfl) (fun _ _ _ h => h) (Or.inl ⟨by rfl, ?_⟩) hHeld ?_ ?_
      rotate_left
      ·rintro w' ⟨s0, s1, s2, s3, s4, s5⟩
       go_simp
       with_reducible rfl
      rotate_left
      ·simp only [Act.put, List.setIfInBounds_toArray, List.set_cons_zero, List.set_cons_succ, i64_w, i32_w]
       rfl
      refine take_ (i := 3) (N := some 45) (v := ?_) (a' := ?_) #[true, true, true, true, true, false, false, false, false, false, false] rfl rfl (by kernel_rfl) (fun _ _ _ h => h) (Or.inl ⟨by rfl, ?_⟩) hHeld ?_ ?_
      rotate_left
      ·rintro w' ⟨s0, s1, s2, s3, s4, s5⟩
       go_simp
       with_reducible rfl
      rotate_left
      ·simp only [Act.put, List.setIfInBounds_toArray, List.set_cons_zero, List.set_cons_succ, i64_w, i32_w]
       rfl
      refine pure_ (i := 5) (N := some 47) (v := ?_) (a' := ?_) #[true, true, true, true, true, true, false, false, false, false, false] rfl rfl (by kernel_rfl) (fun _ _ _ h => h) (Or.inl ⟨by rfl, ?_⟩) ?_ ?_
      rotate_left
      ·intro w'
       go_simp
       with_reducible rfl
      rotate_left
      ·simp only [Act.put, List.setIfInBounds_toArray, List.set_cons_zero, List.set_cons_succ, i64_w, i32_w]
       rfl
      refine take_ (i := 6) (N := some 48) (v := ?_) (a' := ?_) #[true, true, true, true, true, true, true, false, false, false, false] rfl rfl (by kernel_rfl) (fun _ _ _ h => h) (Or.inl ⟨by rfl, ?_⟩) hHeld ?_ ?_
      rotate_left
      ·rintro w' ⟨s0, s1, s2, s3, s4, s5⟩
       go_simp
       with_reducible rfl
      rotate_left
      ·simp only [Act.put, List.setIfInBounds_toArray, List.set_cons_zero, List.set_cons_succ, i64_w, i32_w]
       rfl
      refine one_ (i := 7) (N := some 49) #[true, true, true, true, true, true, true, true, false, false, false] rfl rfl (by kernel_rfl) (by decide) (fun K hK => ?_)
      refine value_ (w1 := ?_) (v := ?_) (by rfl) rfl ?_ ?_
      rotate_left 2
      ·go_simp
       constructor
       ·rfl
       ·rfl
      refine hK.out _ _ ⟨(blk_cell (blk_alloc HS2.out.p _) 1).trans rfl, (blk_cell (blk_alloc HS2.out.o _) 1).trans rfl, HQ0.out.at (below_alloc HS2.out.bel _), HQ1.out.at (below_alloc HS2.out.bel _), HQ2.out.at (below_alloc HS2.out.bel _), HQ3.out.at (below_alloc HS2.out.bel _)⟩ (fun hHeld => ?_)
      clear hK K
      refine norm_ (a' := ?_) ?_ ?_
      rotate_left
      ·show Act.put _ (some 49) _ = _
       simp only [Act.put, List.setIfInBounds_toArray, List.set_cons_zero, List.set_cons_succ, i64_w, i32_w]
       rfl
      refine one_ (i := 8) (N := some 50) #[true, true, true, true, true, true, true, true, true, false, false] rfl rfl (by kernel_rfl) (by decide) (fun K hK => ?_)
      refine Kd.N_append_step k25 (w0 := W) W.heap.size (by rfl) (.tmp 43) (.tmp 49) 23 25 (.agg #[(.int .i64 0), (.string ⟨#[]⟩), (.slice none 0 0), (.slice none 0 0)]) 72 rfl Tryd.underlying23 info25 rfl (by decide) (by omega) (.slice Ai li.length ci) li (rd_T25 ys k) [.int .i64 (rd_T25 ys k).f0, .string (rd_T25 ys k).f1, .slice B2 (rd_T25 ys k).f2.length k2, .slice B3 (rd_T25 ys k).f3.length k3] (fun k_ => okS W.heap.size Bp (W.heap.size + 1) ok k_ ∧ some k_ ≠ (Value.slice A1 (ln.length + 1) c1).ownBlock) (fun k_ => ok k_ ∧ k_ < W.heap.size) rfl rfl ?aP ?aK ?aF ?aO ?aB ?aS ?aL ?_
      (case aP => exact HFK.out _ HS2.out.bel)
      (case aK => exact (fun k_ hk => ⟨⟨Or.inl hk, fun he => by have := Kd.R_base HS2.out.names k_ he.symm; have := hk.2; omega⟩, fun he => by have := Kd.N_base HS2.out.items k_ he.symm; have := hk.2; omega⟩))
      (case aF => exact (fun k_ hk => ⟨Or.inr ⟨by have := HS2.out.ltB; omega, by have := lt_of_block HS2.out.p; omega, by have := lt_of_block HS2.out.r; omega⟩, fun he => by have := Kd.R_lt HS2.out.names k_ he.symm; omega⟩))
      (case aO => exact HS2.out.items)
      (case aB => exact HS2.out.bel)
      (case aS => exact HS2.out.ltB)
      (case aL => have := HL2.out; omega)
      intro v2 w9 ho hb hg hat
      obtain ⟨A4, c4, e4⟩ := Kd.N_slice ho
      subst e4
      have b1 := Aside0.mk (blk_grown HS2.out.p hg (Kd.N_ne HS2.out.items HS2.out.p (by decide)))
      have b2 := Aside0.mk (blk_grown HS2.out.o hg (Kd.N_ne HS2.out.items HS2.out.o (by decide)))
      have hs3 := HS2.out.item HG.out ho hb hg
      rw [List.length_append, List.length_singleton] at hs3
      have HS3 := Aside0.mk hs3
      clear hs3
      have HB6 := Aside0.mk hb
      have x3 := (blk_cell b1.out 1).trans rfl
      have xf := blk_frozen b1.out 1
      clear ho hb hg hat
      refine hK.out _ _ ⟨(blk_cell b1.out 1).trans rfl, (blk_cell b2.out 1).trans rfl, HQ0.out.at HB6.out, HQ1.out.at HB6.out, HQ2.out.at HB6.out, HQ3.out.at HB6.out⟩ (fun hHeld => ?_)
      clear hK K
      refine norm_ (a' := ?_) ?_ ?_
      rotate_left
      ·show Act.put _ (some 50) _ = _
       simp only [Act.put, List.setIfInBounds_toArray, List.set_cons_zero, List.set_cons_succ, i64_w, i32_w]
       rfl
      refine pure_ (i := 9) (N := some 51) (v := ?_) (a' := ?_) #[true, true, true, true, true, true, true, true, true, true, false] rfl rfl (by kernel_rfl) (fun _ _ _ h => h) (Or.inl ⟨by rfl, ?_⟩) ?_ ?_
      rotate_left
      ·intro w'
       go_simp
       with_reducible rfl
      rotate_left
      ·simp only [Act.put, List.setIfInBounds_toArray, List.set_cons_zero, List.set_cons_succ, i64_w, i32_w]
       rfl
      refine last_ (i := 10) (N := none) #[true, true, true, true, true, true, true, true, true, true, true] rfl rfl (by kernel_rfl) (by decide) (fun K hK => ?_)
      refine skip_ (w1 := ?_) (by rfl) rfl ?_ ?_
      rotate_left
      ·go_simp
       rfl
      refine hK.out _ _ ?_
      clear hK K
      refine done_ (by kernel_rfl) ?_
      try go_wp2
      go_roundg g
      case measure => omega
      case rel => exact ⟨i + 1, _, _, (by first | exact congrArg (Value.int .i64) HWN.out | exact congrArg (Value.int .i64) (show (i : Int) + 1 = ((i + 1 : Nat) : Int) by omega)), by omega, by omega, ⟨by rw [← HLN.out, ← HLI.out]; exact HS3.out⟩⟩
    ·have p2 : ((i : Int) < (ns.length : Int)) = False := eq_false (by omega)
     have hl : l.length = ns.length := by rw [HP.out.length_eq, List.length_range]
     have HLL := Aside0.mk (sorted_lists HNY.out HP.out HO.out)
     have HLE := Aside0.mk (show (l.map (fun k => nmAt ns k)).length = (l.map (fun k : Nat => rd_T25 ys (k : Int))).length by simp)
     have e0 : l.take i = l := List.take_of_length_le (by omega)
     rw [e0] at HS
     clear e0 hl HP HO HC
     generalize l.map (fun k => nmAt ns k) = ln at HS HLL HLE
     generalize l.map (fun k : Nat => rd_T25 ys (k : Int)) = li at HS HLL HLE
     obtain ⟨An, cn, en⟩ := Kd.R_slice HS.out.names
     subst en
     obtain ⟨Ai, ci, ei⟩ := Kd.N_slice HS.out.items
     subst ei
     have x0 := (blk_cell HS.out.p 0).trans rfl
     have x1 := (blk_cell HS.out.p 1).trans rfl
     have x2 := (blk_cell HS.out.r 0).trans rfl
     have x3 := (blk_cell HS.out.r 1).trans rfl
     have x4 := blk_frozen HS.out.r 0
     have x5 := blk_frozen HS.out.r 1
     have HE := Aside0.mk (HS.out.fin HG.out)
     go_wp2
     refine bodyPost_ret (results_cell_row rfl _ _ (W.heap.size + 1) 84 #[.slice An ln.length cn, .slice Ai li.length ci] (0, 0) _ rfl HE.out.2.1 Tryd.underlying84 rfl (by kernel_rfl)) rfl ?_
     exact ⟨An, Ai, cn, ci, ln, li, rfl, HE.out.1, HLE.out, HE.out.2.2.1, HE.out.2.2.2.1, HLL.out.1, HLL.out.2, HE.out.2.2.2.2.1, HE.out.2.2.2.2.2⟩
end Go.Proofs.YtaalajhmfdcalaaDoor.X
namespace Go.Proofs.YtaalajhmfdcalaaDoor.X
open Go.RowKit Go.Lib Go.Proofs.YtaalajhmfdcalaaDoorW.PrintWords
theorem putF_ok {free : Bool} {st : St} {s : List UInt8} (h : (putF free st s).e = 0) : st.e = 0 ∧ (putF free st s).out = st.out ++ s := by
 unfold putF at h ⊢
 by_cases he : st.e ≠ 0
 ·rw [if_pos he] at h; exact absurd h he
 ·rw [if_neg he] at h ⊢
  split at h
  ·cases h
  ·rename_i h2; rw [if_neg h2]; exact ⟨by omega, rfl⟩
theorem putsF_ok {free : Bool} : ∀ (l : List (List UInt8)) {st : St}, (putsF free st l).e = 0 → st.e = 0 ∧ (putsF free st l).out = st.out ++ l.flatten
 | [], st, h => ⟨h, by simp [putsF]⟩
 | a :: l, st, h => by
  rw [putsF_cons] at h ⊢
  obtain ⟨h1, h2⟩ := putsF_ok l h
  obtain ⟨h3, h4⟩ := putF_ok h1
  exact ⟨h3, by rw [h2, h4]; simp⟩
theorem failF_no (st : St) (e : Nat) (h : e ≠ 0) : ¬ (failF st e).e = 0 := failF_e st e h
def qB (s : ByteArray) : List UInt8 := (quoteB s).flatten
def encI (enc : J → List UInt8) : Nat → List J → List UInt8
 | _, [] => []
 | i, y :: l => (if i = 0 then [] else [44]) ++ (enc y ++ encI enc (i + 1) l)
def encM (enc : J → List UInt8) : Nat → List ByteArray → List J → List UInt8
 | i, nm :: ns, y :: ys => (if i = 0 then [] else [44]) ++ (qB nm ++ (58 :: (enc y ++ encM enc (i + 1) ns ys)))
 | _, _, _ => []
def encB (v : J) : List UInt8 := if v.f0 = 3 then v.f1.data.toList else if v.f0 = 4 then qB v.f1 else (wordB v.f0.toNat).data.toList
def encJ : Nat → J → List UInt8
 | 0, v => encB v
 | r + 1, v => if v.f0 = 5 then 91 :: (encI (encJ r) 0 v.f3 ++ [93]) else if v.f0 = 6 then 123 :: (encM (encJ r) 0 v.f2 v.f3 ++ [125]) else encB v
def OKJ : Nat → J → Prop
 | 0, v => nodeOK v.f0 v.f1 v.f2.length v.f3.length = true ∧ ¬ v.f0 = 5 ∧ ¬ v.f0 = 6
 | r + 1, v => nodeOK v.f0 v.f1 v.f2.length v.f3.length = true ∧ ((v.f0 = 5 ∨ v.f0 = 6) → ∀ y, y ∈ v.f3 → OKJ r y) ∧ (v.f0 = 6 → (∀ s, s ∈ v.f2 → validD s.data.toList = true) ∧ (v.f2.map (fun b => b.data.toList)).Nodup)
def Wok (one : J → St → St) (P : J → Prop) (enc : J → List UInt8) : Prop := ∀ y st, (one y st).e = 0 → st.e = 0 ∧ P y ∧ (one y st).out = st.out ++ enc y
theorem comma_ok {free : Bool} {i : Nat} {st : St} (h : (if i = 0 then st else putF free st [44]).e = 0) : st.e = 0 ∧ (if i = 0 then st else putF free st [44]).out = st.out ++ (if i = 0 then [] else [44]) := by
 split at h
 ·rename_i hi; rw [if_pos hi, if_pos hi]; exact ⟨h, by simp⟩
 ·rename_i hi; rw [if_neg hi, if_neg hi]; exact putF_ok h
theorem itemsW_ok {free : Bool} {one : J → St → St} {P : J → Prop} {enc : J → List UInt8} (ho : Wok one P enc) : ∀ (l : List J) (i : Nat) (st : St), (itemsW free one i l st).e = 0 → st.e = 0 ∧ (∀ y, y ∈ l → P y) ∧ (itemsW free one i l st).out = st.out ++ encI enc i l
 | [], i, st, h => ⟨h, (fun y hy => by cases hy), by simp [itemsW, encI]⟩
 | y :: l, i, st, h => by
  rw [itemsW] at h ⊢
  obtain ⟨h1, h2, h3⟩ := itemsW_ok ho l (i + 1) _ h
  obtain ⟨h4, h5, h6⟩ := ho _ _ h1
  obtain ⟨h7, h8⟩ := comma_ok h4
  refine ⟨h7, fun z hz => ?_, ?_⟩
  ·rcases List.mem_cons.1 hz with rfl | hz
   ·exact h5
   ·exact h2 z hz
  ·rw [h3, h6, h8, encI]; simp [List.append_assoc]
theorem membersW_ok {free : Bool} {one : J → St → St} {P : J → Prop} {enc : J → List UInt8} (ho : Wok one P enc) : ∀ (ns : List ByteArray) (ys : List J) (seen : List ByteArray) (i : Nat) (st : St), ns.length = ys.length → (membersW free one seen i ns ys st).e = 0 →
  st.e = 0 ∧ (∀ y, y ∈ ys → P y) ∧ (∀ s, s ∈ ns → validD s.data.toList = true) ∧ ((seen.map (fun b => b.data.toList)).Nodup → ((seen ++ ns).map (fun b => b.data.toList)).Nodup) ∧ (membersW free one seen i ns ys st).out = st.out ++ encM enc i ns ys
 | [], [], seen, i, st, hl, h => ⟨by simpa [membersW] using h, (fun y hy => by cases hy), (fun s hs => by cases hs), (fun hn => by simpa using hn), by simp [membersW, encM]⟩
 | [], _ :: _, seen, i, st, hl, h => by simp at hl
 | _ :: _, [], seen, i, st, hl, h => by simp at hl
 | nm :: ns, y :: ys, seen, i, st, hl, h => by
  rw [membersW] at h ⊢
  try simp only at h ⊢
  by_cases h1 : (if i = 0 then st else putF free st [44]).e ≠ 0
  ·rw [if_pos h1] at h; exact absurd h h1
  ·rw [if_neg h1] at h ⊢
   by_cases h2 : validD nm.data.toList = false
   ·rw [if_pos h2] at h; exact absurd h (failF_no _ _ (by decide))
   ·rw [if_neg h2] at h ⊢
    by_cases h3 : nm.data.toList ∈ seen.map (fun b => b.data.toList)
    ·rw [if_pos h3] at h; exact absurd h (failF_no _ _ (by decide))
    ·rw [if_neg h3] at h ⊢
     obtain ⟨g1, g2, g3, g4, g5⟩ := membersW_ok ho ns ys _ _ _ (by simpa using hl) h
     obtain ⟨g6, g7, g8⟩ := ho _ _ g1
     obtain ⟨g9, g10⟩ := putF_ok g6
     obtain ⟨g11, g12⟩ := putsF_ok _ g9
     obtain ⟨g13, g14⟩ := comma_ok g11
     refine ⟨g13, fun z hz => ?_, fun z hz => ?_, fun hn => ?_, ?_⟩
     ·rcases List.mem_cons.1 hz with rfl | hz
      ·exact g7
      ·exact g2 z hz
     ·rcases List.mem_cons.1 hz with rfl | hz
      ·simpa using h2
      ·exact g3 z hz
     ·have : ((seen ++ [nm]).map (fun b => b.data.toList)).Nodup := by
       rw [List.map_append, List.nodup_append]
       exact ⟨hn, by simp, fun a ha b hb => by simp at hb; rw [hb]; rintro rfl; exact h3 ha⟩
      have := g4 this
      simpa using this
     ·rw [g5, g8, g10, g12, g14, encM, qB]; simp [List.append_assoc]
theorem valW_ok (free : Bool) : ∀ (r : Nat), Wok (valW free false r) (OKJ r) (encJ r)
 | 0, v, st, h => by
  by_cases he : st.e ≠ 0
  ·rw [valW_bad _ _ _ _ _ he] at h; exact absurd h he
  ·have he' : st.e = 0 := by omega
   rw [valW, if_neg he] at h ⊢
   by_cases h56 : v.f0 = 5 ∨ v.f0 = 6
   ·rw [if_pos h56] at h; cases h
   ·rw [if_neg h56] at h ⊢
    by_cases hn : nodeOK v.f0 v.f1 v.f2.length v.f3.length = false
    ·rw [if_pos hn] at h; cases h
    ·rw [if_neg hn] at h ⊢
     refine ⟨he', ⟨by simpa using hn, fun hh => h56 (.inl hh), fun hh => h56 (.inr hh)⟩, ?_⟩
     rw [encJ, encB]
     by_cases h3 : v.f0 = 3
     ·rw [if_pos h3] at h ⊢; rw [if_pos h3]; exact (putF_ok h).2
     ·rw [if_neg h3] at h ⊢
      rw [if_neg h3]
      by_cases h4 : v.f0 = 4
      ·rw [if_pos h4] at h ⊢; rw [if_pos h4]; exact (putsF_ok _ h).2
      ·rw [if_neg h4] at h ⊢; rw [if_neg h4]; exact (putF_ok h).2
 | r + 1, v, st, h => by
  by_cases he : st.e ≠ 0
  ·rw [valW_bad _ _ _ _ _ he] at h; exact absurd h he
  ·have he' : st.e = 0 := by omega
   have IH := valW_ok free r
   rw [valW, if_neg he] at h ⊢
   by_cases hn : nodeOK v.f0 v.f1 v.f2.length v.f3.length = false
   ·rw [if_pos hn] at h; cases h
   ·rw [if_neg hn] at h ⊢
    have hn' : nodeOK v.f0 v.f1 v.f2.length v.f3.length = true := by simpa using hn
    rw [encJ]
    by_cases h5 : v.f0 = 5
    ·rw [if_pos h5] at h ⊢
     rw [if_pos h5]
     obtain ⟨g1, g2⟩ := putF_ok h
     obtain ⟨g3, g4, g5⟩ := itemsW_ok IH _ _ _ g1
     obtain ⟨g6, g7⟩ := putF_ok g3
     exact ⟨he', ⟨hn', fun _ => g4, fun hh => by rw [h5] at hh; cases hh⟩, by rw [g2, g5, g7]; simp⟩
    ·rw [if_neg h5] at h ⊢
     rw [if_neg h5]
     by_cases h6 : v.f0 = 6
     ·rw [if_pos h6] at h ⊢
      rw [if_pos h6]
      obtain ⟨g1, g2⟩ := putF_ok h
      have hl : v.f2.length = v.f3.length := by
       rw [h6] at hn'
       unfold nodeOK at hn'
       simp at hn'
       exact hn'.2
      obtain ⟨g3, g4, g4', g4'', g5⟩ := membersW_ok IH _ _ _ _ _ (by simpa [namesOf, itemsOf] using hl) g1
      obtain ⟨g6, g7⟩ := putF_ok g3
      exact ⟨he', ⟨hn', fun _ => g4, fun _ => ⟨g4', by simpa [namesOf] using g4'' (by simp)⟩⟩, by rw [g2, g5, g7]; simp [namesOf, itemsOf]⟩
     ·rw [if_neg h6] at h ⊢
      rw [if_neg h6]
      refine ⟨he', ⟨hn', fun hh => absurd hh (by rintro (hh | hh); exact h5 hh; exact h6 hh), fun hh => absurd hh h6⟩, ?_⟩
      rw [encB]
      by_cases h3 : v.f0 = 3
      ·rw [if_pos h3] at h ⊢; rw [if_pos h3]; exact (putF_ok h).2
      ·rw [if_neg h3] at h ⊢
       rw [if_neg h3]
       by_cases h4 : v.f0 = 4
       ·rw [if_pos h4] at h ⊢; rw [if_pos h4]; exact (putsF_ok _ h).2
       ·rw [if_neg h4] at h ⊢; rw [if_neg h4]; exact (putF_ok h).2
end Go.Proofs.YtaalajhmfdcalaaDoor.X
