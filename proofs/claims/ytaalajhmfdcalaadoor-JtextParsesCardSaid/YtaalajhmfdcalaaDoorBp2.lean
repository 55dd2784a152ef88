/- The texts of this work, put together: K35, K36, K37, K38, K39, K40, E0, E1, K60, K61, K70, M1, M2, N60, K71, N65, K72, K62, K63, K64, K41, So, K42, K43, K45, K44, M6, M9, N1, M3, M7, M8, N2, N3, K65, K73, K74. -/
import Derived.Test.YtaalajhmfdcalaaDoorBp1
import Derived.Test.YtaalajhmfdcalaaDoorBp0
import Derived.Lib.ValidLaws
import Derived.Shelf.GgSortFunc.Whole
import Derived.Shelf.GgSortFunc.Tiny
import Derived.Test.YtaalajhmfdcalaaDoorProg
import Derived.Test.YtaalajhmfdcalaaDoorWb
import Derived.Test.YtaalajhmfdcalaaDoorWc
set_option linter.unusedVariables false
set_option linter.unusedSimpArgs false
namespace Go.Proofs.YtaalajhmfdcalaaDoor.X
open Go.RowKit Go.Lib Go.Proofs.YtaalajhmfdcalaaDoorW.PrintWords Go.Proofs.YtaalajhmfdcalaaDoorW.PrintLast Go.Proofs.YtaalajhmfdcalaaDoorW.PrintMore
def insF (x : ByteArray × J) : List (ByteArray × J) → List (ByteArray × J)
  | [] => [x]
  | y :: l => if Op.bytesLess y.1.toList x.1.toList = true then y :: insF x l else x :: y :: l
def sortF (l : List (ByteArray × J)) : List (ByteArray × J) := l.foldl (fun a x => insF x a) []
def itemsW (free : Bool) (one : J → St → St) : Nat → List J → St → St
  | _, [], st => st
  | i, y :: l, st => itemsW free one (i + 1) l (one y (if i = 0 then st else putF free st [44]))
def membersW (free : Bool) (one : J → St → St) : List ByteArray → Nat → List ByteArray → List J → St → St
  | seen, i, nm :: ns, y :: ys, st =>
    let st1 := if i = 0 then st else putF free st [44]
    if st1.e ≠ 0 then st1
    else if validD nm.data.toList = false then failF st1 47
    else if nm.data.toList ∈ seen.map (fun b => b.data.toList) then failF st1 45
    else membersW free one (seen ++ [nm]) (i + 1) ns ys (one y (putF free (putsF free st1 (quoteB nm)) [58]))
  | _, _, _, _, st => st
def namesOf (canon : Bool) (ns : List ByteArray) (ys : List J) : List ByteArray := if canon then (sortF (ns.zip ys)).map Prod.fst else ns
def itemsOf (canon : Bool) (ns : List ByteArray) (ys : List J) : List J := if canon then (sortF (ns.zip ys)).map Prod.snd else ys
def valW (free canon : Bool) : Nat → J → St → St
  | 0, v, st =>
    if st.e ≠ 0 then st
    else if v.f0 = 5 ∨ v.f0 = 6 then ⟨st.out, 46⟩
    else if nodeOK v.f0 v.f1 v.f2.length v.f3.length = false then ⟨st.out, 47⟩
    else if v.f0 = 3 then putF free st v.f1.data.toList
    else if v.f0 = 4 then putsF free st (quoteB v.f1)
    else putF free st (wordB v.f0.toNat).data.toList
  | r + 1, v, st =>
    if st.e ≠ 0 then st
    else if nodeOK v.f0 v.f1 v.f2.length v.f3.length = false then ⟨st.out, 47⟩
    else if v.f0 = 5 then putF free (itemsW free (valW free canon r) 0 v.f3 (putF free st [91])) [93]
    else if v.f0 = 6 then putF free (membersW free (valW free canon r) [] 0 (namesOf canon v.f2 v.f3) (itemsOf canon v.f2 v.f3) (putF free st [123])) [125]
    else if v.f0 = 3 then putF free st v.f1.data.toList
    else if v.f0 = 4 then putsF free st (quoteB v.f1)
    else putF free st (wordB v.f0.toNat).data.toList
def wtJ : Nat → J → Nat
  | 0, v => 12 * v.f1.size + 16
  | r + 1, v => 12 * v.f1.size + 16 + (v.f2.map (fun s => 12 * s.size + 16)).sum + (v.f3.map (fun y => wtJ r y + 1)).sum
def SmJ : Nat → J → Prop
  | 0, v => v.f1.size ≤ 288230376151711743
  | r + 1, v => v.f1.size ≤ 288230376151711743 ∧ (∀ s, s ∈ v.f2 → s.size ≤ 288230376151711743) ∧ ∀ y, y ∈ v.f3 → SmJ r y
def LnJ : Nat → J → Prop
  | 0, _ => True
  | r + 1, v => v.f3.length ≤ 1000000 ∧ ∀ y, y ∈ v.f3 → LnJ r y
theorem SmJ.text {r : Nat} {v : J} (h : SmJ r v) : v.f1.size ≤ 288230376151711743 := by
  cases r with
  | zero => exact h
  | succ r => exact h.1
theorem wtJ_text (r : Nat) (v : J) : 12 * v.f1.size + 16 ≤ wtJ r v := by
  cases r with
  | zero => exact Nat.le_refl _
  | succ r => unfold wtJ; omega
structure Fit (free : Bool) (st : St) (n : Nat) : Prop where
  fre : free = true → st.out.length + n ≤ 140737488355328
  bnd : free = false → st.out.length ≤ 16384
theorem Fit.room {free : Bool} {st : St} {n m : Nat} (h : Fit free st n) (hm : m ≤ n) (hb : m ≤ 4611686018427371520) : Room free st m := by
  refine ⟨?_, fun hf => by have := h.fre hf; omega, h.bnd⟩
  cases free with
  | true => have := h.fre rfl; omega
  | false => have := h.bnd rfl; omega
theorem Fit.less {free : Bool} {st : St} {n m : Nat} (h : Fit free st n) (hm : m ≤ n) : Fit free st m := ⟨fun hf => by have := h.fre hf; omega, h.bnd⟩
theorem Fit.put {free : Bool} {st : St} {n m : Nat} (s : List UInt8) (h : Fit free st m) (hm : s.length + n ≤ m) : Fit free (putF free st s) n := by
  have h1 := putF_len free st s
  refine ⟨fun hf => by have := h.fre hf; omega, fun hf => ?_⟩
  have h2 := h.bnd hf
  unfold putF
  repeat' split
  · exact h2
  · exact h2
  · rename_i h3 h4
    show (st.out ++ s).length ≤ _
    rw [List.length_append]
    have : ¬ 16384 < st.out.length + s.length := fun hh => h4 ⟨hf, hh⟩
    omega
def lensL (l : List (List UInt8)) : Nat := (l.map List.length).sum
theorem Fit.puts {free : Bool} {n : Nat} : ∀ (l : List (List UInt8)) {st : St} {m : Nat}, Fit free st m → lensL l + n ≤ m → Fit free (putsF free st l) n
  | [], st, m, h, hm => h.less (by omega)
  | a :: l, st, m, h, hm => Fit.puts l (h.put (n := lensL l + n) a (by simp only [lensL, List.map_cons, List.sum_cons] at hm ⊢; omega)) (Nat.le_refl _)
theorem runeB_lens (c : Nat) : lensL (runeB c) ≤ 12 := by
  unfold runeB
  repeat' split
  all_goals simp [lensL, unitB]
theorem quoteL_lens (s : ByteArray) : ∀ (k pos : Nat), lensL (quoteL s k pos) ≤ 12 * (s.size - pos)
  | 0, pos => by simp [quoteL, lensL]
  | k + 1, pos => by
    by_cases h : pos < s.size
    · rw [quoteL_on s k pos h]
      have h1 := runeB_lens (Utf8.decode s pos).1
      have h2 := quoteL_lens s k (pos + (Utf8.decode s pos).2)
      have h3 := (dec_small s pos).2
      have e : lensL (runeB (Utf8.decode s pos).1 ++ quoteL s k (pos + (Utf8.decode s pos).2)) = lensL (runeB (Utf8.decode s pos).1) + lensL (quoteL s k (pos + (Utf8.decode s pos).2)) := by simp [lensL]
      omega
    · rw [quoteL_end s (k + 1) pos h]
      simp [lensL]
theorem quoteB_lens (s : ByteArray) : lensL (quoteB s) ≤ 12 * s.size + 2 := by
  have h := quoteL_lens s (s.size + 1) 0
  have e : lensL (quoteB s) = 1 + (lensL (quoteL s (s.size + 1) 0) + 1) := by simp [lensL, quoteB]
  omega
theorem Fit.quote {free : Bool} {st : St} {n m : Nat} (s : ByteArray) (h : Fit free st m) (hm : 12 * s.size + 2 + n ≤ m) : Fit free (putsF free st (quoteB s)) n :=
  h.puts (quoteB s) (by have := quoteB_lens s; omega)
theorem Fit.failF {free : Bool} {st : St} {n : Nat} (e : Nat) (h : Fit free st n) : Fit free (failF st e) n := by
  unfold X.failF
  split
  · exact ⟨h.fre, h.bnd⟩
  · exact h
theorem Fit.err {free : Bool} {st : St} {n : Nat} (e : Nat) (h : Fit free st n) : Fit free ⟨st.out, e⟩ n := ⟨h.fre, h.bnd⟩
def Sm (canon : Bool) (a b : St) : Prop := a = b ∨ (canon = true ∧ a.e ≠ 0 ∧ b.e ≠ 0)
theorem Sm.refl (canon : Bool) (a : St) : Sm canon a a := .inl rfl
theorem Sm.trans {canon : Bool} {a b c : St} (h : Sm canon a b) (h' : Sm canon b c) : Sm canon a c := by
  rcases h with rfl | ⟨h1, h2, h3⟩
  · exact h'
  · rcases h' with rfl | ⟨_, h5, h6⟩
    · exact .inr ⟨h1, h2, h3⟩
    · exact .inr ⟨h1, h2, h6⟩
theorem Sm.eq {a b : St} (h : Sm false a b) : a = b := by
  rcases h with h | ⟨h, _⟩
  · exact h
  · cases h
theorem putF_bad (free : Bool) (st : St) (s : List UInt8) (h : st.e ≠ 0) : putF free st s = st := by unfold putF; rw [if_pos h]
theorem failF_e (st : St) (e : Nat) (h : e ≠ 0) : (failF st e).e ≠ 0 := by
  unfold failF
  split
  · exact h
  · rename_i h1; exact h1
theorem valW_bad (free canon : Bool) (r : Nat) (v : J) (st : St) (h : st.e ≠ 0) : valW free canon r v st = st := by
  cases r with
  | zero => unfold valW; rw [if_pos h]
  | succ r => unfold valW; rw [if_pos h]
def Quits (one : J → St → St) : Prop := ∀ y st, st.e ≠ 0 → one y st = st
theorem comma_bad (free : Bool) (i : Nat) (st : St) (h : st.e ≠ 0) : (if i = 0 then st else putF free st [44]) = st := by
  split
  · rfl
  · exact putF_bad _ _ _ h
theorem itemsW_bad (free : Bool) {one : J → St → St} (ho : Quits one) : ∀ (l : List J) (i : Nat) (st : St), st.e ≠ 0 → itemsW free one i l st = st
  | [], i, st, h => rfl
  | y :: l, i, st, h => by unfold itemsW; rw [comma_bad free i st h, ho y st h]; exact itemsW_bad free ho l (i + 1) st h
theorem membersW_bad (free : Bool) {one : J → St → St} (seen : List ByteArray) (i : Nat) (ns : List ByteArray) (ys : List J) (st : St) (h : st.e ≠ 0) : membersW free one seen i ns ys st = st := by
  cases ns with
  | nil => unfold membersW; rfl
  | cons nm ns =>
    cases ys with
    | nil => unfold membersW; rfl
    | cons y ys => unfold membersW; rw [comma_bad free i st h]; simp only [if_pos h]
theorem Sm.put {canon : Bool} {a b : St} (free : Bool) (s : List UInt8) (h : Sm canon a b) : Sm canon (putF free a s) (putF free b s) := by
  rcases h with rfl | ⟨h1, h2, h3⟩
  · exact .inl rfl
  · rw [putF_bad _ _ _ h2, putF_bad _ _ _ h3]; exact .inr ⟨h1, h2, h3⟩
theorem Sm.items {canon : Bool} {a b : St} (free : Bool) {one : J → St → St} (ho : Quits one) (i : Nat) (l : List J) (h : Sm canon a b) : Sm canon (itemsW free one i l a) (itemsW free one i l b) := by
  rcases h with rfl | ⟨h1, h2, h3⟩
  · exact .inl rfl
  · rw [itemsW_bad free ho _ _ _ h2, itemsW_bad free ho _ _ _ h3]; exact .inr ⟨h1, h2, h3⟩
theorem Sm.members {canon : Bool} {a b : St} (free : Bool) {one : J → St → St} (seen : List ByteArray) (i : Nat) (ns : List ByteArray) (ys : List J) (h : Sm canon a b) : Sm canon (membersW free one seen i ns ys a) (membersW free one seen i ns ys b) := by
  rcases h with rfl | ⟨h1, h2, h3⟩
  · exact .inl rfl
  · rw [membersW_bad _ _ _ _ _ _ h2, membersW_bad _ _ _ _ _ _ h3]; exact .inr ⟨h1, h2, h3⟩
theorem membersW_twice (free : Bool) {one : J → St → St} (ho : Quits one) : ∀ (ns : List ByteArray) (ys : List J) (seen : List ByteArray) (i : Nat) (st : St), ns.length = ys.length → seen.Nodup → ¬ (seen ++ ns).Nodup → (membersW free one seen i ns ys st).e ≠ 0
  | [], ys, seen, i, st, hl, hs, hn => by rw [List.append_nil] at hn; exact absurd hs hn
  | nm :: ns, [], seen, i, st, hl, hs, hn => by simp at hl
  | nm :: ns, y :: ys, seen, i, st, hl, hs, hn => by
    unfold membersW
    by_cases h1 : (if i = 0 then st else putF free st [44]).e ≠ 0
    · simp only [if_pos h1]; exact h1
    · simp only [if_neg h1]
      by_cases h2 : validD nm.data.toList = false
      · rw [if_pos h2]; exact failF_e _ _ (by decide)
      · rw [if_neg h2]
        by_cases h3 : nm.data.toList ∈ seen.map (fun b => b.data.toList)
        · rw [if_pos h3]; exact failF_e _ _ (by decide)
        · rw [if_neg h3]
          have hnm : nm ∉ seen := fun hh => h3 (List.mem_map.2 ⟨nm, hh, rfl⟩)
          refine membersW_twice free ho ns ys (seen ++ [nm]) (i + 1) _ (by simpa using hl) ?_ ?_
          · rw [List.nodup_append]
            exact ⟨hs, by simp, fun a ha b hb => by rw [List.mem_singleton.1 hb]; rintro rfl; exact hnm ha⟩
          · rw [List.append_assoc]; exact hn
end Go.Proofs.YtaalajhmfdcalaaDoor.X
namespace Go.Proofs.YtaalajhmfdcalaaDoor.X
open Go.RowKit Go.Lib Go.Proofs.YtaalajhmfdcalaaDoorW.PrintWords Go.Proofs.YtaalajhmfdcalaaDoorW.PrintLast Go.Proofs.YtaalajhmfdcalaaDoorW.PrintMore
def Gl (Wd : Nat) (W : World) : Prop := ∀ W', Below Wd W W' → GLw W' ∧ Tabs W'
theorem Gl.on {Wd : Nat} {sl sl' : Value} {W W' : World} (h : Gl Wd W) (ho : WrOn Wd sl sl' W W') : Gl Wd W' := fun W2 h2 => h W2 (ho.low.trans h2)
theorem Gl.below {Wd : Nat} {W W' : World} (h : Gl Wd W) (hb : Below W.heap.size W W') (hW : Wd ≤ W.heap.size) : Gl Wd W' := fun W2 h2 => h W2 ((hb.mono hW).trans h2)
theorem Gl.words {Wd : Nat} {W : World} (h : Gl Wd W) : GLw W := (h W (Below.refl _ _)).1
theorem Gl.tabs {Wd : Nat} {W : World} (h : Gl Wd W) : Tabs W := (h W (Below.refl _ _)).2
def okW (Wd : Nat) (sl : Value) (k : Nat) : Prop := k ≠ Wd ∧ some k ≠ sl.ownBlock
theorem F_on {α : Type} {d : Kd α} {Wd n : Nat} {sl sl' : Value} {W W' : World} {A : Option Addr} {xs : List α} (h : Kd.F d W (okW Wd sl) A n xs) (ho : WrOn Wd sl sl' W W') : Kd.F d W' (okW Wd sl') A n xs :=
  Kd.F_mono (Kd.F_step (Kd.F_bound h) (fun k hk hlt => ho.kept k hlt hk.1.1 hk.1.2)) (fun k hk => ⟨hk.1.1, ho.ne hk.2 hk.1.2⟩)
def VEnds (Wd : Nat) (free canon : Bool) (st : St) (sl : Value) (W : World) (wt : Nat) (tg : St) (x : Ending) (W' : World) : Prop :=
  x = .returned (.tuple #[]) ∧ ∃ st' sl', Sm canon st' tg ∧ (∀ n, Fit free st (wt + n) → Fit free st' n) ∧ Wr Wd free st' sl' W' ∧ WrOn Wd sl sl' W W'
theorem VEnds.of {Wd : Nat} {free canon : Bool} {st st' tg : St} {sl sl' : Value} {W w0 w1 : World} {wt : Nat} (hb : Below W.heap.size W w0) (hW : Wd ≤ W.heap.size) (ho : WrOn Wd sl sl' w0 w1) (hw : Wr Wd free st' sl' w1) (hs : Sm canon st' tg) (hf : ∀ n, Fit free st (wt + n) → Fit free st' n) :
    VEnds Wd free canon st sl W wt tg (.returned (.tuple #[])) w1 :=
  ⟨rfl, st', sl', hs, hf, hw, (WrOn.of_below hW hb).trans ho⟩
theorem node_no (f0 : Int) (f1 : ByteArray) (A2 A3 : Option Addr) (n2 c2 n3 c3 : Nat) (W : World) (hz : f1.size ≤ 9223372036854775806) (hG : GLw W) (hT : Tabs W) (hok : nodeOK f0 f1 n2 n3 = false) :
    Calls Tryd.prog 51 #[jVal f0 f1 A2 A3 n2 c2 n3 c3] W fun x W' => (∃ nv, x = .returned (.tuple #[nv, .bool false])) ∧ Below W.heap.size W W' := by
  by_cases h0 : f0 = 0
  · subst h0; refine (node0 f1 A2 A3 n2 c2 n3 c3 W hG).mono ?_; rintro e w' ⟨rfl, hb⟩; rw [hok]; exact ⟨⟨_, rfl⟩, hb⟩
  by_cases h1 : f0 = 1
  · subst h1; refine (node1 f1 A2 A3 n2 c2 n3 c3 W hG).mono ?_; rintro e w' ⟨rfl, hb⟩; rw [hok]; exact ⟨⟨_, rfl⟩, hb⟩
  by_cases h2 : f0 = 2
  · subst h2; refine (node2 f1 A2 A3 n2 c2 n3 c3 W hG).mono ?_; rintro e w' ⟨rfl, hb⟩; rw [hok]; exact ⟨⟨_, rfl⟩, hb⟩
  by_cases h3 : f0 = 3
  · subst h3; refine (node3 f1 A2 A3 n2 c2 n3 c3 W hz).mono ?_; rintro e w' ⟨rfl, hb⟩; rw [hok]; exact ⟨⟨_, rfl⟩, hb⟩
  by_cases h4 : f0 = 4
  · subst h4; refine (node4 f1 A2 A3 n2 c2 n3 c3 W hz hT).mono ?_; rintro e w' ⟨rfl, hb⟩; rw [hok]; exact ⟨⟨_, rfl⟩, hb⟩
  by_cases h5 : f0 = 5
  · subst h5; refine (node5 f1 A2 A3 n2 c2 n3 c3 W).mono ?_; rintro e w' ⟨rfl, hb⟩; rw [hok]; exact ⟨⟨_, rfl⟩, hb⟩
  by_cases h6 : f0 = 6
  · subst h6; refine (node6 f1 A2 A3 n2 c2 n3 c3 W).mono ?_; rintro e w' ⟨rfl, hb⟩; rw [hok]; exact ⟨⟨_, rfl⟩, hb⟩
  refine (nodeX f0 h0 h1 h2 h3 h4 h5 h6 f1 A2 A3 n2 c2 n3 c3 W).mono ?_; rintro e w' ⟨rfl, hb⟩; rw [hok]; exact ⟨⟨_, rfl⟩, hb⟩
theorem node_yes0 (f1 : ByteArray) (A2 A3 : Option Addr) (n2 c2 n3 c3 : Nat) (W : World) (hG : GLw W) (hok : nodeOK 0 f1 n2 n3 = true) :
    Calls Tryd.prog 51 #[jVal 0 f1 A2 A3 n2 c2 n3 c3] W fun x W' => x = .returned (.tuple #[.iface 78 (.agg #[.string (wordB 0)]), .bool true]) ∧ Below W.heap.size W W' := by
  refine (node0 f1 A2 A3 n2 c2 n3 c3 W hG).mono ?_
  rintro e w' ⟨rfl, hb⟩
  rw [hok]
  exact ⟨rfl, hb⟩
theorem node_yes1 (f1 : ByteArray) (A2 A3 : Option Addr) (n2 c2 n3 c3 : Nat) (W : World) (hG : GLw W) (hok : nodeOK 1 f1 n2 n3 = true) :
    Calls Tryd.prog 51 #[jVal 1 f1 A2 A3 n2 c2 n3 c3] W fun x W' => x = .returned (.tuple #[.iface 78 (.agg #[.string (wordB 1)]), .bool true]) ∧ Below W.heap.size W W' := by
  refine (node1 f1 A2 A3 n2 c2 n3 c3 W hG).mono ?_
  rintro e w' ⟨rfl, hb⟩
  rw [hok]
  exact ⟨rfl, hb⟩
theorem node_yes2 (f1 : ByteArray) (A2 A3 : Option Addr) (n2 c2 n3 c3 : Nat) (W : World) (hG : GLw W) (hok : nodeOK 2 f1 n2 n3 = true) :
    Calls Tryd.prog 51 #[jVal 2 f1 A2 A3 n2 c2 n3 c3] W fun x W' => x = .returned (.tuple #[.iface 78 (.agg #[.string (wordB 2)]), .bool true]) ∧ Below W.heap.size W W' := by
  refine (node2 f1 A2 A3 n2 c2 n3 c3 W hG).mono ?_
  rintro e w' ⟨rfl, hb⟩
  rw [hok]
  exact ⟨rfl, hb⟩
theorem node_yes3 (f1 : ByteArray) (A2 A3 : Option Addr) (n2 c2 n3 c3 : Nat) (W : World) (hz : f1.size ≤ 9223372036854775806) (hok : nodeOK 3 f1 n2 n3 = true) :
    Calls Tryd.prog 51 #[jVal 3 f1 A2 A3 n2 c2 n3 c3] W fun x W' => x = .returned (.tuple #[.iface 78 (.agg #[.string f1]), .bool true]) ∧ Below W.heap.size W W' := by
  refine (node3 f1 A2 A3 n2 c2 n3 c3 W hz).mono ?_
  rintro e w' ⟨rfl, hb⟩
  rw [hok]
  exact ⟨rfl, hb⟩
theorem node_yes4 (f1 : ByteArray) (A2 A3 : Option Addr) (n2 c2 n3 c3 : Nat) (W : World) (hz : f1.size ≤ 9223372036854775806) (hT : Tabs W) (hok : nodeOK 4 f1 n2 n3 = true) :
    Calls Tryd.prog 51 #[jVal 4 f1 A2 A3 n2 c2 n3 c3] W fun x W' => x = .returned (.tuple #[.iface 80 (.agg #[.string f1]), .bool true]) ∧ Below W.heap.size W W' := by
  refine (node4 f1 A2 A3 n2 c2 n3 c3 W hz hT).mono ?_
  rintro e w' ⟨rfl, hb⟩
  rw [hok]
  exact ⟨rfl, hb⟩
theorem node_yes5 (f1 : ByteArray) (A2 A3 : Option Addr) (n2 c2 n3 c3 : Nat) (W : World) (hok : nodeOK 5 f1 n2 n3 = true) :
    Calls Tryd.prog 51 #[jVal 5 f1 A2 A3 n2 c2 n3 c3] W fun x W' => x = .returned (.tuple #[.iface 82 (.agg #[.slice A3 n3 c3]), .bool true]) ∧ Below W.heap.size W W' := by
  refine (node5 f1 A2 A3 n2 c2 n3 c3 W).mono ?_
  rintro e w' ⟨rfl, hb⟩
  rw [hok]
  exact ⟨rfl, hb⟩
theorem node_yes6 (f1 : ByteArray) (A2 A3 : Option Addr) (n2 c2 n3 c3 : Nat) (W : World) (hok : nodeOK 6 f1 n2 n3 = true) :
    Calls Tryd.prog 51 #[jVal 6 f1 A2 A3 n2 c2 n3 c3] W fun x W' => x = .returned (.tuple #[.iface 84 (.agg #[.slice A2 n2 c2, .slice A3 n3 c3]), .bool true]) ∧ Below W.heap.size W W' := by
  refine (node6 f1 A2 A3 n2 c2 n3 c3 W).mono ?_
  rintro e w' ⟨rfl, hb⟩
  rw [hok]
  exact ⟨rfl, hb⟩
theorem is_78 (v : Value) (w : World) : (Instr.typeAssert (.iface 78 v) 74 78 true).run Tryd.prog w = .ok (.tuple #[v, .bool true]) w := by kernel_rfl
theorem is_80 (v : Value) (w : World) : (Instr.typeAssert (.iface 80 v) 74 80 true).run Tryd.prog w = .ok (.tuple #[v, .bool true]) w := by kernel_rfl
theorem no_80_78 (v : Value) (w : World) : (Instr.typeAssert (.iface 80 v) 74 78 true).run Tryd.prog w = .ok (.tuple #[.agg #[.string ⟨#[]⟩], .bool false]) w := by kernel_rfl
theorem is_82 (v : Value) (w : World) : (Instr.typeAssert (.iface 82 v) 74 82 true).run Tryd.prog w = .ok (.tuple #[v, .bool true]) w := by kernel_rfl
theorem no_82_78 (v : Value) (w : World) : (Instr.typeAssert (.iface 82 v) 74 78 true).run Tryd.prog w = .ok (.tuple #[.agg #[.string ⟨#[]⟩], .bool false]) w := by kernel_rfl
theorem no_82_80 (v : Value) (w : World) : (Instr.typeAssert (.iface 82 v) 74 80 true).run Tryd.prog w = .ok (.tuple #[.agg #[.string ⟨#[]⟩], .bool false]) w := by kernel_rfl
theorem is_84 (v : Value) (w : World) : (Instr.typeAssert (.iface 84 v) 74 84 true).run Tryd.prog w = .ok (.tuple #[v, .bool true]) w := by kernel_rfl
theorem no_84_78 (v : Value) (w : World) : (Instr.typeAssert (.iface 84 v) 74 78 true).run Tryd.prog w = .ok (.tuple #[.agg #[.string ⟨#[]⟩], .bool false]) w := by kernel_rfl
theorem no_84_80 (v : Value) (w : World) : (Instr.typeAssert (.iface 84 v) 74 80 true).run Tryd.prog w = .ok (.tuple #[.agg #[.string ⟨#[]⟩], .bool false]) w := by kernel_rfl
theorem no_84_82 (v : Value) (w : World) : (Instr.typeAssert (.iface 84 v) 74 82 true).run Tryd.prog w = .ok (.tuple #[.agg #[.slice none 0 0], .bool false]) w := by kernel_rfl
set_option maxRecDepth 1000000 in
set_option maxHeartbeats 4000000 in
theorem value_bad (Wd : Nat) (free canon : Bool) (st : St) (sl : Value) (d : Int) (f0 : Int) (f1 : ByteArray) (A2 A3 : Option Addr) (n2 c2 n3 c3 : Nat) (W : World) (wt : Nat) (h : Wr Wd free st sl W) (he : st.e ≠ 0) :
    Calls Tryd.prog 33 #[ptr Wd, jVal f0 f1 A2 A3 n2 c2 n3 c3, .int .i64 d, .bool canon] W (VEnds Wd free canon st sl W wt (st)) := by
  have H := Aside0.mk h
  have HL := Aside0.mk (Nat.le_of_lt h.lt)
  have cw2 : ∀ o : Obj, (W.alloc o).cell? ⟨Wd, 2, none⟩ = some (.int .i64 st.e) := fun o => (World.cell?_of_block (Below.block (below_alloc (Below.refl _ _) o) _ h.lt)).trans ((blk_cell h.blk 2).trans rfl)
  clear h
  have e0 : ((st.e : Int) != 0) = true := by
    have : ¬ (st.e : Int) = 0 := by omega
    simp only [bne_iff_ne, ne_eq]
    exact this
  go_enter Tryd.func33, Tryd.ntmps33
  go_wp2
  (try simp only [Exit.inBlock, Exit.then])
  refine ⟨rfl, .tuple #[], results_none rfl _ _ _, ?_⟩
  exact VEnds.of (by repeat (first | exact Below.refl _ _ | apply below_drewN | apply below_drew1 | apply below_alloc)) HL.out (WrOn.refl _ _ _) (H.out.below (by repeat (first | exact Below.refl _ _ | apply below_drewN | apply below_drew1 | apply below_alloc))) (Sm.refl _ _) (fun n hn => hn.less (by omega))
set_option maxRecDepth 1000000 in
set_option maxHeartbeats 4000000 in
theorem value_deep5 (Wd : Nat) (free canon : Bool) (st : St) (sl : Value) (d : Int) (f1 : ByteArray) (A2 A3 : Option Addr) (n2 c2 n3 c3 : Nat) (W : World) (wt : Nat) (h : Wr Wd free st sl W) (he : st.e = 0) (h1 : ¬ (32 : Int) < d) (h2 : (32 : Int) ≤ d) :
    Calls Tryd.prog 33 #[ptr Wd, jVal 5 f1 A2 A3 n2 c2 n3 c3, .int .i64 d, .bool canon] W (VEnds Wd free canon st sl W wt (⟨st.out, 46⟩)) := by
  have H := Aside0.mk h
  have HL := Aside0.mk (Nat.le_of_lt h.lt)
  have cw2 : ∀ o : Obj, (W.alloc o).cell? ⟨Wd, 2, none⟩ = some (.int .i64 st.e) := fun o => (World.cell?_of_block (Below.block (below_alloc (Below.refl _ _) o) _ h.lt)).trans ((blk_cell h.blk 2).trans rfl)
  clear h
  have e0 : ((st.e : Int) != 0) = false := by rw [he]; rfl
  have b1 : decide ((32 : Int) < d) = false := decide_eq_false h1
  have b2 : decide ((32 : Int) ≤ d) = true := decide_eq_true h2
  have HN := Aside0.mk (show (46 : Int) = ((46 : Nat) : Int) from rfl)
  have HF := Aside0.mk (show failF st 46 = ⟨st.out, 46⟩ by unfold failF; rw [if_pos he])
  clear he
  go_enter Tryd.func33, Tryd.ntmps33
  go_wp2_with (go_at_call 50; (with_reducible refine (wfail_calls Wd free st sl 46 46 HN.out _ ?wr).mono ?_); (case wr => exact H.out.below (by repeat (first | exact Below.refl _ _ | apply below_drewN | apply below_drew1 | apply below_alloc))); rintro e w9 ⟨rfl, hw, ho⟩; have HW9 := Aside0.mk hw; have HO9 := Aside0.mk ho; clear hw ho)
  (try simp only [Exit.inBlock, Exit.then])
  refine ⟨rfl, .tuple #[], results_none rfl _ _ _, ?_⟩
  exact VEnds.of (by repeat (first | exact Below.refl _ _ | apply below_drewN | apply below_drew1 | apply below_alloc)) HL.out HO9.out HW9.out (.inl HF.out) (fun n hn => (hn.less (by omega)).failF 46)
set_option maxRecDepth 1000000 in
set_option maxHeartbeats 4000000 in
theorem value_deep6 (Wd : Nat) (free canon : Bool) (st : St) (sl : Value) (d : Int) (f1 : ByteArray) (A2 A3 : Option Addr) (n2 c2 n3 c3 : Nat) (W : World) (wt : Nat) (h : Wr Wd free st sl W) (he : st.e = 0) (h1 : ¬ (32 : Int) < d) (h2 : (32 : Int) ≤ d) :
    Calls Tryd.prog 33 #[ptr Wd, jVal 6 f1 A2 A3 n2 c2 n3 c3, .int .i64 d, .bool canon] W (VEnds Wd free canon st sl W wt (⟨st.out, 46⟩)) := by
  have H := Aside0.mk h
  have HL := Aside0.mk (Nat.le_of_lt h.lt)
  have cw2 : ∀ o : Obj, (W.alloc o).cell? ⟨Wd, 2, none⟩ = some (.int .i64 st.e) := fun o => (World.cell?_of_block (Below.block (below_alloc (Below.refl _ _) o) _ h.lt)).trans ((blk_cell h.blk 2).trans rfl)
  clear h
  have e0 : ((st.e : Int) != 0) = false := by rw [he]; rfl
  have b1 : decide ((32 : Int) < d) = false := decide_eq_false h1
  have b2 : decide ((32 : Int) ≤ d) = true := decide_eq_true h2
  have HN := Aside0.mk (show (46 : Int) = ((46 : Nat) : Int) from rfl)
  have HF := Aside0.mk (show failF st 46 = ⟨st.out, 46⟩ by unfold failF; rw [if_pos he])
  clear he
  go_enter Tryd.func33, Tryd.ntmps33
  go_wp2_with (go_at_call 50; (with_reducible refine (wfail_calls Wd free st sl 46 46 HN.out _ ?wr).mono ?_); (case wr => exact H.out.below (by repeat (first | exact Below.refl _ _ | apply below_drewN | apply below_drew1 | apply below_alloc))); rintro e w9 ⟨rfl, hw, ho⟩; have HW9 := Aside0.mk hw; have HO9 := Aside0.mk ho; clear hw ho)
  (try simp only [Exit.inBlock, Exit.then])
  refine ⟨rfl, .tuple #[], results_none rfl _ _ _, ?_⟩
  exact VEnds.of (by repeat (first | exact Below.refl _ _ | apply below_drewN | apply below_drew1 | apply below_alloc)) HL.out HO9.out HW9.out (.inl HF.out) (fun n hn => (hn.less (by omega)).failF 46)
set_option maxRecDepth 1000000 in
set_option maxHeartbeats 4000000 in
theorem value_node5 (Wd : Nat) (free canon : Bool) (st : St) (sl : Value) (d : Int) (f1 : ByteArray) (A2 A3 : Option Addr) (n2 c2 n3 c3 : Nat) (W : World) (wt : Nat) (h : Wr Wd free st sl W) (he : st.e = 0) (h1 : ¬ (32 : Int) < d) (h2 : ¬ (32 : Int) ≤ d) (hz : f1.size ≤ 9223372036854775806) (hok : nodeOK 5 f1 n2 n3 = false) (hG : Gl Wd W) :
    Calls Tryd.prog 33 #[ptr Wd, jVal 5 f1 A2 A3 n2 c2 n3 c3, .int .i64 d, .bool canon] W (VEnds Wd free canon st sl W wt (⟨st.out, 47⟩)) := by
  have H := Aside0.mk h
  have HL := Aside0.mk (Nat.le_of_lt h.lt)
  have cw2 : ∀ o : Obj, (W.alloc o).cell? ⟨Wd, 2, none⟩ = some (.int .i64 st.e) := fun o => (World.cell?_of_block (Below.block (below_alloc (Below.refl _ _) o) _ h.lt)).trans ((blk_cell h.blk 2).trans rfl)
  clear h
  have e0 : ((st.e : Int) != 0) = false := by rw [he]; rfl
  have b1 : decide ((32 : Int) < d) = false := decide_eq_false h1
  have b2 : decide ((32 : Int) ≤ d) = false := decide_eq_false h2
  have HN := Aside0.mk (show (47 : Int) = ((47 : Nat) : Int) from rfl)
  have HOK := Aside0.mk hok
  have HG := Aside0.mk hG
  have HF := Aside0.mk (show failF st 47 = ⟨st.out, 47⟩ by unfold failF; rw [if_pos he])
  clear he hok hG
  go_enter Tryd.func33, Tryd.ntmps33
  go_wp2_with (first | (go_at_call 51; (with_reducible refine (node_no 5 f1 A2 A3 n2 c2 n3 c3 _ hz ?gl ?tb HOK.out).mono ?_); (case gl => exact (HG.out.below (by repeat (first | exact Below.refl _ _ | apply below_drewN | apply below_drew1 | apply below_alloc)) HL.out).words); (case tb => exact (HG.out.below (by repeat (first | exact Below.refl _ _ | apply below_drewN | apply below_drew1 | apply below_alloc)) HL.out).tabs); rintro e w1 ⟨⟨nv, rfl⟩, hb⟩; have HB1 := Aside0.mk (show Below W.heap.size W w1 from below_step (by repeat (first | exact Below.refl _ _ | apply below_drewN | apply below_drew1 | apply below_alloc)) hb); clear hb) | (go_at_call 50; (with_reducible refine (wfail_calls Wd free st sl 47 47 HN.out _ ?wr).mono ?_); (case wr => exact H.out.below HB1.out); rintro e w9 ⟨rfl, hw, ho⟩; have HW9 := Aside0.mk hw; have HO9 := Aside0.mk ho; clear hw ho))
  (try simp only [Exit.inBlock, Exit.then])
  refine ⟨rfl, .tuple #[], results_none rfl _ _ _, ?_⟩
  exact VEnds.of HB1.out HL.out HO9.out HW9.out (.inl HF.out) (fun n hn => (hn.less (by omega)).failF 47)
set_option maxRecDepth 1000000 in
set_option maxHeartbeats 4000000 in
theorem value_node6 (Wd : Nat) (free canon : Bool) (st : St) (sl : Value) (d : Int) (f1 : ByteArray) (A2 A3 : Option Addr) (n2 c2 n3 c3 : Nat) (W : World) (wt : Nat) (h : Wr Wd free st sl W) (he : st.e = 0) (h1 : ¬ (32 : Int) < d) (h2 : ¬ (32 : Int) ≤ d) (hz : f1.size ≤ 9223372036854775806) (hok : nodeOK 6 f1 n2 n3 = false) (hG : Gl Wd W) :
    Calls Tryd.prog 33 #[ptr Wd, jVal 6 f1 A2 A3 n2 c2 n3 c3, .int .i64 d, .bool canon] W (VEnds Wd free canon st sl W wt (⟨st.out, 47⟩)) := by
  have H := Aside0.mk h
  have HL := Aside0.mk (Nat.le_of_lt h.lt)
  have cw2 : ∀ o : Obj, (W.alloc o).cell? ⟨Wd, 2, none⟩ = some (.int .i64 st.e) := fun o => (World.cell?_of_block (Below.block (below_alloc (Below.refl _ _) o) _ h.lt)).trans ((blk_cell h.blk 2).trans rfl)
  clear h
  have e0 : ((st.e : Int) != 0) = false := by rw [he]; rfl
  have b1 : decide ((32 : Int) < d) = false := decide_eq_false h1
  have b2 : decide ((32 : Int) ≤ d) = false := decide_eq_false h2
  have HN := Aside0.mk (show (47 : Int) = ((47 : Nat) : Int) from rfl)
  have HOK := Aside0.mk hok
  have HG := Aside0.mk hG
  have HF := Aside0.mk (show failF st 47 = ⟨st.out, 47⟩ by unfold failF; rw [if_pos he])
  clear he hok hG
  go_enter Tryd.func33, Tryd.ntmps33
  go_wp2_with (first | (go_at_call 51; (with_reducible refine (node_no 6 f1 A2 A3 n2 c2 n3 c3 _ hz ?gl ?tb HOK.out).mono ?_); (case gl => exact (HG.out.below (by repeat (first | exact Below.refl _ _ | apply below_drewN | apply below_drew1 | apply below_alloc)) HL.out).words); (case tb => exact (HG.out.below (by repeat (first | exact Below.refl _ _ | apply below_drewN | apply below_drew1 | apply below_alloc)) HL.out).tabs); rintro e w1 ⟨⟨nv, rfl⟩, hb⟩; have HB1 := Aside0.mk (show Below W.heap.size W w1 from below_step (by repeat (first | exact Below.refl _ _ | apply below_drewN | apply below_drew1 | apply below_alloc)) hb); clear hb) | (go_at_call 50; (with_reducible refine (wfail_calls Wd free st sl 47 47 HN.out _ ?wr).mono ?_); (case wr => exact H.out.below HB1.out); rintro e w9 ⟨rfl, hw, ho⟩; have HW9 := Aside0.mk hw; have HO9 := Aside0.mk ho; clear hw ho))
  (try simp only [Exit.inBlock, Exit.then])
  refine ⟨rfl, .tuple #[], results_none rfl _ _ _, ?_⟩
  exact VEnds.of HB1.out HL.out HO9.out HW9.out (.inl HF.out) (fun n hn => (hn.less (by omega)).failF 47)
set_option maxRecDepth 1000000 in
set_option maxHeartbeats 4000000 in
theorem value_nodeX (Wd : Nat) (free canon : Bool) (st : St) (sl : Value) (d : Int) (f0 : Int) (f1 : ByteArray) (A2 A3 : Option Addr) (n2 c2 n3 c3 : Nat) (W : World) (wt : Nat) (h : Wr Wd free st sl W) (he : st.e = 0) (h1 : ¬ (32 : Int) < d) (h5 : ¬ f0 = 5) (h6 : ¬ f0 = 6) (hz : f1.size ≤ 9223372036854775806) (hok : nodeOK f0 f1 n2 n3 = false) (hG : Gl Wd W) :
    Calls Tryd.prog 33 #[ptr Wd, jVal f0 f1 A2 A3 n2 c2 n3 c3, .int .i64 d, .bool canon] W (VEnds Wd free canon st sl W wt (⟨st.out, 47⟩)) := by
  have H := Aside0.mk h
  have HL := Aside0.mk (Nat.le_of_lt h.lt)
  have cw2 : ∀ o : Obj, (W.alloc o).cell? ⟨Wd, 2, none⟩ = some (.int .i64 st.e) := fun o => (World.cell?_of_block (Below.block (below_alloc (Below.refl _ _) o) _ h.lt)).trans ((blk_cell h.blk 2).trans rfl)
  clear h
  have e0 : ((st.e : Int) != 0) = false := by rw [he]; rfl
  have b1 : decide ((32 : Int) < d) = false := decide_eq_false h1
  have e5 : (f0 == 5) = false := by simp [h5]
  have e6 : (f0 == 6) = false := by simp [h6]
  have HN := Aside0.mk (show (47 : Int) = ((47 : Nat) : Int) from rfl)
  have HOK := Aside0.mk hok
  have HG := Aside0.mk hG
  have HF := Aside0.mk (show failF st 47 = ⟨st.out, 47⟩ by unfold failF; rw [if_pos he])
  clear he hok hG
  go_enter Tryd.func33, Tryd.ntmps33
  go_wp2_with (first | (go_at_call 51; (with_reducible refine (node_no f0 f1 A2 A3 n2 c2 n3 c3 _ hz ?gl ?tb HOK.out).mono ?_); (case gl => exact (HG.out.below (by repeat (first | exact Below.refl _ _ | apply below_drewN | apply below_drew1 | apply below_alloc)) HL.out).words); (case tb => exact (HG.out.below (by repeat (first | exact Below.refl _ _ | apply below_drewN | apply below_drew1 | apply below_alloc)) HL.out).tabs); rintro e w1 ⟨⟨nv, rfl⟩, hb⟩; have HB1 := Aside0.mk (show Below W.heap.size W w1 from below_step (by repeat (first | exact Below.refl _ _ | apply below_drewN | apply below_drew1 | apply below_alloc)) hb); clear hb) | (go_at_call 50; (with_reducible refine (wfail_calls Wd free st sl 47 47 HN.out _ ?wr).mono ?_); (case wr => exact H.out.below HB1.out); rintro e w9 ⟨rfl, hw, ho⟩; have HW9 := Aside0.mk hw; have HO9 := Aside0.mk ho; clear hw ho))
  (try simp only [Exit.inBlock, Exit.then])
  refine ⟨rfl, .tuple #[], results_none rfl _ _ _, ?_⟩
  exact VEnds.of HB1.out HL.out HO9.out HW9.out (.inl HF.out) (fun n hn => (hn.less (by omega)).failF 47)
set_option maxRecDepth 1000000 in
set_option maxHeartbeats 4000000 in
theorem value_word0 (Wd : Nat) (free canon : Bool) (st : St) (sl : Value) (d : Int) (f1 : ByteArray) (A2 A3 : Option Addr) (n2 c2 n3 c3 : Nat) (W : World) (wt : Nat) (h : Wr Wd free st sl W) (he : st.e = 0) (h1 : ¬ (32 : Int) < d) (hok : nodeOK 0 f1 n2 n3 = true) (hG : Gl Wd W) (hrm : Room free st (wordB 0).size) (hwt : (wordB 0).size ≤ wt) :
    Calls Tryd.prog 33 #[ptr Wd, jVal 0 f1 A2 A3 n2 c2 n3 c3, .int .i64 d, .bool canon] W (VEnds Wd free canon st sl W wt (putF free st (wordB 0).data.toList)) := by
  have H := Aside0.mk h
  have HL := Aside0.mk (Nat.le_of_lt h.lt)
  have cw2 : ∀ o : Obj, (W.alloc o).cell? ⟨Wd, 2, none⟩ = some (.int .i64 st.e) := fun o => (World.cell?_of_block (Below.block (below_alloc (Below.refl _ _) o) _ h.lt)).trans ((blk_cell h.blk 2).trans rfl)
  clear h
  have e0 : ((st.e : Int) != 0) = false := by rw [he]; rfl
  have b1 : decide ((32 : Int) < d) = false := decide_eq_false h1
  have HOK := Aside0.mk hok
  have HG := Aside0.mk hG
  have HRM := Aside0.mk hrm
  clear he hok hG hrm
  have ta := is_78
  go_enter Tryd.func33, Tryd.ntmps33
  go_wp2_with (first | (go_at_call 51; (with_reducible refine (node_yes0 f1 A2 A3 n2 c2 n3 c3 _ ?gl HOK.out).mono ?_); (case gl => exact (HG.out.below (by repeat (first | exact Below.refl _ _ | apply below_drewN | apply below_drew1 | apply below_alloc)) HL.out).words); rintro e w1 ⟨rfl, hb⟩; have HB1 := Aside0.mk (show Below W.heap.size W w1 from below_step (by repeat (first | exact Below.refl _ _ | apply below_drewN | apply below_drew1 | apply below_alloc)) hb); clear hb) | (go_at_call 52; (with_reducible refine (put_calls Wd free st sl (wordB 0) _ ?rm9 ?wr9).mono ?_); (case rm9 => exact HRM.out); (case wr9 => exact H.out.below (by repeat (first | exact HB1.out | exact Below.refl _ _ | apply below_drewN | apply below_drew1 | apply below_alloc | refine below_set ?_ HB1.out.size))); rintro e w9 ⟨rfl, sl9, hw, ho⟩; have HW9 := Aside0.mk hw; have HO9 := Aside0.mk ho; clear hw ho))
  (try simp only [Exit.inBlock, Exit.then])
  refine ⟨rfl, .tuple #[], results_none rfl _ _ _, ?_⟩
  exact VEnds.of (by repeat (first | exact HB1.out | exact Below.refl _ _ | apply below_drewN | apply below_drew1 | apply below_alloc | refine below_set ?_ HB1.out.size)) HL.out HO9.out HW9.out (.inl rfl) (fun n hn => hn.put _ (by rw [size_data]; omega))
set_option maxRecDepth 1000000 in
set_option maxHeartbeats 4000000 in
theorem value_word1 (Wd : Nat) (free canon : Bool) (st : St) (sl : Value) (d : Int) (f1 : ByteArray) (A2 A3 : Option Addr) (n2 c2 n3 c3 : Nat) (W : World) (wt : Nat) (h : Wr Wd free st sl W) (he : st.e = 0) (h1 : ¬ (32 : Int) < d) (hok : nodeOK 1 f1 n2 n3 = true) (hG : Gl Wd W) (hrm : Room free st (wordB 1).size) (hwt : (wordB 1).size ≤ wt) :
    Calls Tryd.prog 33 #[ptr Wd, jVal 1 f1 A2 A3 n2 c2 n3 c3, .int .i64 d, .bool canon] W (VEnds Wd free canon st sl W wt (putF free st (wordB 1).data.toList)) := by
  have H := Aside0.mk h
  have HL := Aside0.mk (Nat.le_of_lt h.lt)
  have cw2 : ∀ o : Obj, (W.alloc o).cell? ⟨Wd, 2, none⟩ = some (.int .i64 st.e) := fun o => (World.cell?_of_block (Below.block (below_alloc (Below.refl _ _) o) _ h.lt)).trans ((blk_cell h.blk 2).trans rfl)
  clear h
  have e0 : ((st.e : Int) != 0) = false := by rw [he]; rfl
  have b1 : decide ((32 : Int) < d) = false := decide_eq_false h1
  have HOK := Aside0.mk hok
  have HG := Aside0.mk hG
  have HRM := Aside0.mk hrm
  clear he hok hG hrm
  have ta := is_78
  go_enter Tryd.func33, Tryd.ntmps33
  go_wp2_with (first | (go_at_call 51; (with_reducible refine (node_yes1 f1 A2 A3 n2 c2 n3 c3 _ ?gl HOK.out).mono ?_); (case gl => exact (HG.out.below (by repeat (first | exact Below.refl _ _ | apply below_drewN | apply below_drew1 | apply below_alloc)) HL.out).words); rintro e w1 ⟨rfl, hb⟩; have HB1 := Aside0.mk (show Below W.heap.size W w1 from below_step (by repeat (first | exact Below.refl _ _ | apply below_drewN | apply below_drew1 | apply below_alloc)) hb); clear hb) | (go_at_call 52; (with_reducible refine (put_calls Wd free st sl (wordB 1) _ ?rm9 ?wr9).mono ?_); (case rm9 => exact HRM.out); (case wr9 => exact H.out.below (by repeat (first | exact HB1.out | exact Below.refl _ _ | apply below_drewN | apply below_drew1 | apply below_alloc | refine below_set ?_ HB1.out.size))); rintro e w9 ⟨rfl, sl9, hw, ho⟩; have HW9 := Aside0.mk hw; have HO9 := Aside0.mk ho; clear hw ho))
  (try simp only [Exit.inBlock, Exit.then])
  refine ⟨rfl, .tuple #[], results_none rfl _ _ _, ?_⟩
  exact VEnds.of (by repeat (first | exact HB1.out | exact Below.refl _ _ | apply below_drewN | apply below_drew1 | apply below_alloc | refine below_set ?_ HB1.out.size)) HL.out HO9.out HW9.out (.inl rfl) (fun n hn => hn.put _ (by rw [size_data]; omega))
set_option maxRecDepth 1000000 in
set_option maxHeartbeats 4000000 in
theorem value_word2 (Wd : Nat) (free canon : Bool) (st : St) (sl : Value) (d : Int) (f1 : ByteArray) (A2 A3 : Option Addr) (n2 c2 n3 c3 : Nat) (W : World) (wt : Nat) (h : Wr Wd free st sl W) (he : st.e = 0) (h1 : ¬ (32 : Int) < d) (hok : nodeOK 2 f1 n2 n3 = true) (hG : Gl Wd W) (hrm : Room free st (wordB 2).size) (hwt : (wordB 2).size ≤ wt) :
    Calls Tryd.prog 33 #[ptr Wd, jVal 2 f1 A2 A3 n2 c2 n3 c3, .int .i64 d, .bool canon] W (VEnds Wd free canon st sl W wt (putF free st (wordB 2).data.toList)) := by
  have H := Aside0.mk h
  have HL := Aside0.mk (Nat.le_of_lt h.lt)
  have cw2 : ∀ o : Obj, (W.alloc o).cell? ⟨Wd, 2, none⟩ = some (.int .i64 st.e) := fun o => (World.cell?_of_block (Below.block (below_alloc (Below.refl _ _) o) _ h.lt)).trans ((blk_cell h.blk 2).trans rfl)
  clear h
  have e0 : ((st.e : Int) != 0) = false := by rw [he]; rfl
  have b1 : decide ((32 : Int) < d) = false := decide_eq_false h1
  have HOK := Aside0.mk hok
  have HG := Aside0.mk hG
  have HRM := Aside0.mk hrm
  clear he hok hG hrm
  have ta := is_78
  go_enter Tryd.func33, Tryd.ntmps33
  go_wp2_with (first | (go_at_call 51; (with_reducible refine (node_yes2 f1 A2 A3 n2 c2 n3 c3 _ ?gl HOK.out).mono ?_); (case gl => exact (HG.out.below (by repeat (first | exact Below.refl _ _ | apply below_drewN | apply below_drew1 | apply below_alloc)) HL.out).words); rintro e w1 ⟨rfl, hb⟩; have HB1 := Aside0.mk (show Below W.heap.size W w1 from below_step (by repeat (first | exact Below.refl _ _ | apply below_drewN | apply below_drew1 | apply below_alloc)) hb); clear hb) | (go_at_call 52; (with_reducible refine (put_calls Wd free st sl (wordB 2) _ ?rm9 ?wr9).mono ?_); (case rm9 => exact HRM.out); (case wr9 => exact H.out.below (by repeat (first | exact HB1.out | exact Below.refl _ _ | apply below_drewN | apply below_drew1 | apply below_alloc | refine below_set ?_ HB1.out.size))); rintro e w9 ⟨rfl, sl9, hw, ho⟩; have HW9 := Aside0.mk hw; have HO9 := Aside0.mk ho; clear hw ho))
  (try simp only [Exit.inBlock, Exit.then])
  refine ⟨rfl, .tuple #[], results_none rfl _ _ _, ?_⟩
  exact VEnds.of (by repeat (first | exact HB1.out | exact Below.refl _ _ | apply below_drewN | apply below_drew1 | apply below_alloc | refine below_set ?_ HB1.out.size)) HL.out HO9.out HW9.out (.inl rfl) (fun n hn => hn.put _ (by rw [size_data]; omega))
set_option maxRecDepth 1000000 in
set_option maxHeartbeats 4000000 in
theorem value_word3 (Wd : Nat) (free canon : Bool) (st : St) (sl : Value) (d : Int) (f1 : ByteArray) (A2 A3 : Option Addr) (n2 c2 n3 c3 : Nat) (W : World) (wt : Nat) (h : Wr Wd free st sl W) (he : st.e = 0) (h1 : ¬ (32 : Int) < d) (hz : f1.size ≤ 9223372036854775806) (hok : nodeOK 3 f1 n2 n3 = true) (hG : Gl Wd W) (hrm : Room free st f1.size) (hwt : f1.size ≤ wt) :
    Calls Tryd.prog 33 #[ptr Wd, jVal 3 f1 A2 A3 n2 c2 n3 c3, .int .i64 d, .bool canon] W (VEnds Wd free canon st sl W wt (putF free st f1.data.toList)) := by
  have H := Aside0.mk h
  have HL := Aside0.mk (Nat.le_of_lt h.lt)
  have cw2 : ∀ o : Obj, (W.alloc o).cell? ⟨Wd, 2, none⟩ = some (.int .i64 st.e) := fun o => (World.cell?_of_block (Below.block (below_alloc (Below.refl _ _) o) _ h.lt)).trans ((blk_cell h.blk 2).trans rfl)
  clear h
  have e0 : ((st.e : Int) != 0) = false := by rw [he]; rfl
  have b1 : decide ((32 : Int) < d) = false := decide_eq_false h1
  have HOK := Aside0.mk hok
  have HG := Aside0.mk hG
  have HRM := Aside0.mk hrm
  clear he hok hG hrm
  have ta := is_78
  go_enter Tryd.func33, Tryd.ntmps33
  go_wp2_with (first | (go_at_call 51; (with_reducible refine (node_yes3 f1 A2 A3 n2 c2 n3 c3 _ hz HOK.out).mono ?_); rintro e w1 ⟨rfl, hb⟩; have HB1 := Aside0.mk (show Below W.heap.size W w1 from below_step (by repeat (first | exact Below.refl _ _ | apply below_drewN | apply below_drew1 | apply below_alloc)) hb); clear hb) | (go_at_call 52; (with_reducible refine (put_calls Wd free st sl f1 _ ?rm9 ?wr9).mono ?_); (case rm9 => exact HRM.out); (case wr9 => exact H.out.below (by repeat (first | exact HB1.out | exact Below.refl _ _ | apply below_drewN | apply below_drew1 | apply below_alloc | refine below_set ?_ HB1.out.size))); rintro e w9 ⟨rfl, sl9, hw, ho⟩; have HW9 := Aside0.mk hw; have HO9 := Aside0.mk ho; clear hw ho))
  (try simp only [Exit.inBlock, Exit.then])
  refine ⟨rfl, .tuple #[], results_none rfl _ _ _, ?_⟩
  exact VEnds.of (by repeat (first | exact HB1.out | exact Below.refl _ _ | apply below_drewN | apply below_drew1 | apply below_alloc | refine below_set ?_ HB1.out.size)) HL.out HO9.out HW9.out (.inl rfl) (fun n hn => hn.put _ (by rw [size_data]; omega))
set_option maxRecDepth 1000000 in
set_option maxHeartbeats 4000000 in
theorem value_text (Wd : Nat) (free canon : Bool) (st : St) (sl : Value) (d : Int) (f1 : ByteArray) (A2 A3 : Option Addr) (n2 c2 n3 c3 : Nat) (W : World) (wt : Nat) (h : Wr Wd free st sl W) (he : st.e = 0) (h1 : ¬ (32 : Int) < d) (hz : f1.size ≤ 9223372036854775806) (hok : nodeOK 4 f1 n2 n3 = true) (hG : Gl Wd W) (hs : f1.size ≤ 288230376151711743) (hrm : Room free st (12 * f1.size + 14)) (hwt : 12 * f1.size + 14 ≤ wt) :
    Calls Tryd.prog 33 #[ptr Wd, jVal 4 f1 A2 A3 n2 c2 n3 c3, .int .i64 d, .bool canon] W (VEnds Wd free canon st sl W wt (putsF free st (quoteB f1))) := by
  have H := Aside0.mk h
  have HL := Aside0.mk (Nat.le_of_lt h.lt)
  have cw2 : ∀ o : Obj, (W.alloc o).cell? ⟨Wd, 2, none⟩ = some (.int .i64 st.e) := fun o => (World.cell?_of_block (Below.block (below_alloc (Below.refl _ _) o) _ h.lt)).trans ((blk_cell h.blk 2).trans rfl)
  clear h
  have e0 : ((st.e : Int) != 0) = false := by rw [he]; rfl
  have b1 : decide ((32 : Int) < d) = false := decide_eq_false h1
  have HOK := Aside0.mk hok
  have HG := Aside0.mk hG
  have HRM := Aside0.mk hrm
  clear he hok hG hrm
  have ta := is_80
  have tb := no_80_78
  go_enter Tryd.func33, Tryd.ntmps33
  go_wp2_with (first | (go_at_call 51; (with_reducible refine (node_yes4 f1 A2 A3 n2 c2 n3 c3 _ hz ?tb HOK.out).mono ?_); (case tb => exact (HG.out.below (by repeat (first | exact Below.refl _ _ | apply below_drewN | apply below_drew1 | apply below_alloc)) HL.out).tabs); rintro e w1 ⟨rfl, hb⟩; have HB1 := Aside0.mk (show Below W.heap.size W w1 from below_step (by repeat (first | exact Below.refl _ _ | apply below_drewN | apply below_drew1 | apply below_alloc)) hb); clear hb) | (go_at_call 53; (with_reducible refine (quote_calls Wd free st sl f1 _ hs ?rm9 ?wr9).mono ?_); (case rm9 => exact HRM.out); (case wr9 => exact H.out.below (by repeat (first | exact HB1.out | exact Below.refl _ _ | apply below_drewN | apply below_drew1 | apply below_alloc | refine below_set ?_ HB1.out.size))); rintro e w9 ⟨rfl, sl9, hw, ho⟩; have HW9 := Aside0.mk hw; have HO9 := Aside0.mk ho; clear hw ho))
  (try simp only [Exit.inBlock, Exit.then])
  refine ⟨rfl, .tuple #[], results_none rfl _ _ _, ?_⟩
  exact VEnds.of (by repeat (first | exact HB1.out | exact Below.refl _ _ | apply below_drewN | apply below_drew1 | apply below_alloc | refine below_set ?_ HB1.out.size)) HL.out HO9.out HW9.out (.inl rfl) (fun n hn => hn.quote _ (by omega))
end Go.Proofs.YtaalajhmfdcalaaDoor.X
namespace Go.Proofs.YtaalajhmfdcalaaDoor.X
open Go.RowKit Go.Lib Go.Proofs.YtaalajhmfdcalaaDoorW.PrintWords Go.Proofs.YtaalajhmfdcalaaDoorW.PrintLast Go.Proofs.YtaalajhmfdcalaaDoorW.PrintMore
def WOK (free canon : Bool) (r : Nat) (d : Int) : Prop :=
  ∀ (Wd : Nat) (st : St) (sl : Value) (W : World) (v : J) (A2 A3 : Option Addr) (c2 c3 : Nat), Wr Wd free st sl W → Fit free st (wtJ r v) → SmJ r v → (canon = true → LnJ r v) → Kd.F Kd.string W (okW Wd sl) A2 v.f2.length v.f2 → v.f2.length ≤ c2 → Kd.F k25 W (okW Wd sl) A3 v.f3.length v.f3 → v.f3.length ≤ c3 → Gl Wd W →
    Calls Tryd.prog 33 #[ptr Wd, jVal v.f0 v.f1 A2 A3 v.f2.length c2 v.f3.length c3, .int .i64 d, .bool canon] W (VEnds Wd free canon st sl W (wtJ r v) (valW free canon r v st))
theorem F_elem {W : World} {ok : Nat → Prop} {A : Option Addr} {xs : List J} (h : Kd.F k25 W ok A xs.length xs) (i : Nat) (hi : i < xs.length) :
    ∃ ad A2 c2 A3 c3, A = some ad ∧ W.cell? (ad.add (i * 4)) = some (.int .i64 (rd_T25 xs i).f0) ∧ W.cell? ⟨(ad.add (i * 4)).block, (ad.add (i * 4)).off + 1, none⟩ = some (.string (rd_T25 xs i).f1) ∧ W.cell? ⟨(ad.add (i * 4)).block, (ad.add (i * 4)).off + 2, none⟩ = some (.slice A2 (rd_T25 xs i).f2.length c2) ∧ W.cell? ⟨(ad.add (i * 4)).block, (ad.add (i * 4)).off + 3, none⟩ = some (.slice A3 (rd_T25 xs i).f3.length c3) ∧
      (rd_T25 xs i).f2.length ≤ c2 ∧ Kd.F Kd.string W ok A2 (rd_T25 xs i).f2.length (rd_T25 xs i).f2 ∧ (rd_T25 xs i).f3.length ≤ c3 ∧ Kd.F k25 W ok A3 (rd_T25 xs i).f3.length (rd_T25 xs i).f3 := by
  obtain ⟨ad, c, e, _, hK, hc0, _⟩ := Kd.F_get h z25 (i : Int) (by omega) (by omega)
  have hc : ∀ j u, c[j]? = some u → W.cell? (ad.add (i * 4 + j)) = some u := hc0
  obtain ⟨A2, c2, A3, c3, rfl, l2, g2, l3, g3⟩ := k25_openF hK
  exact ⟨ad, A2, c2, A3, c3, e, hc 0 _ rfl, by rw [← add_field _ _ 1 (by omega)]; exact hc 1 _ rfl, by rw [← add_field _ _ 2 (by omega)]; exact hc 2 _ rfl, by rw [← add_field _ _ 3 (by omega)]; exact hc 3 _ rfl, l2, g2, l3, g3⟩
theorem Wr.newblk {Wd b : Nat} {free : Bool} {st : St} {sl sl' : Value} {W w0 w1 : World} {o : Obj} (h : Wr Wd free st sl W) (hb : W.heap.size ≤ b) (ho : WrOn Wd sl sl' w0 w1) (hk : w0.heap[b]? = some o) : w1.heap[b]? = some o :=
  (ho.kept b (lt_of_block hk) (by have := h.lt; omega) (fun hh => by have := (h.own.lt b hh.symm).2; omega)).trans hk
def wtI (r : Nat) (l : List J) : Nat := (l.map (fun y => wtJ r y + 1)).sum
theorem rd_mem (xs : List J) (i : Nat) (hi : i < xs.length) : rd_T25 xs i ∈ xs := by
  unfold rd_T25
  rw [show ((i : Int)).toNat = i from Int.toNat_natCast i, List.getD_eq_getElem?_getD, List.getElem?_eq_getElem hi]
  exact List.getElem_mem hi
theorem wtI_cons (r : Nat) (y : J) (l : List J) : wtI r (y :: l) = wtJ r y + 1 + wtI r l := by simp [wtI]
theorem itemsW_cons (free : Bool) (one : J → St → St) (i : Nat) (y : J) (l : List J) (st : St) : itemsW free one i (y :: l) st = itemsW free one (i + 1) l (one y (if i = 0 then st else putF free st [44])) := by
  rw [itemsW]
theorem wrap_next (i n : Nat) (hi : i < n) (hn : n ≤ 9223372036854775807) : wrap64 ((i : Int) + 1) = ((i + 1 : Nat) : Int) := by unfold wrap64; omega
theorem drop_rd (xs : List J) (i : Nat) (hi : i < xs.length) : xs.drop i = rd_T25 xs i :: xs.drop (i + 1) := by
  rw [List.drop_eq_getElem_cons hi]
  unfold rd_T25
  rw [show ((i : Int)).toNat = i from Int.toNat_natCast i, List.getD_eq_getElem?_getD, List.getElem?_eq_getElem hi]
  rfl
set_option maxRecDepth 1000000 in
set_option maxHeartbeats 4000000 in
theorem value_list (Wd : Nat) (free canon : Bool) (st : St) (sl : Value) (d : Int) (f1 : ByteArray) (A2 A3 : Option Addr) (n2 c2 n3 c3 : Nat) (W : World) (wt : Nat) (h : Wr Wd free st sl W) (l3 : List J) (hn : n3 = l3.length) (r : Nat) (he : st.e = 0) (h1 : ¬ (32 : Int) < d) (h2 : ¬ (32 : Int) ≤ d) (hok : nodeOK 5 f1 n2 n3 = true) (hG : Gl Wd W) (hwt : wtI r l3 + 2 ≤ wt) (hfit : Fit free st wt) (hsm : ∀ y, y ∈ l3 → SmJ r y) (hln : canon = true → ∀ y, y ∈ l3 → LnJ r y) (hF3 : Kd.F k25 W (okW Wd sl) A3 n3 l3) (hc3 : n3 ≤ c3) (IH : WOK free canon r (wrap64 (d + 1))) :
    Calls Tryd.prog 33 #[ptr Wd, jVal 5 f1 A2 A3 n2 c2 n3 c3, .int .i64 d, .bool canon] W (VEnds Wd free canon st sl W wt (putF free (itemsW free (valW free canon r) 0 l3 (putF free st [91])) [93])) := by
  have H := Aside0.mk h
  have HL := Aside0.mk (Nat.le_of_lt h.lt)
  have cw2 : ∀ o : Obj, (W.alloc o).cell? ⟨Wd, 2, none⟩ = some (.int .i64 st.e) := fun o => (World.cell?_of_block (Below.block (below_alloc (Below.refl _ _) o) _ h.lt)).trans ((blk_cell h.blk 2).trans rfl)
  clear h
  have e0 : ((st.e : Int) != 0) = false := by rw [he]; rfl
  subst hn
  have b1 : decide ((32 : Int) < d) = false := decide_eq_false h1
  have b2 : decide ((32 : Int) ≤ d) = false := decide_eq_false h2
  have HOK := Aside0.mk hok
  have HG := Aside0.mk hG
  have HF := Aside0.mk hfit
  have HS := Aside0.mk hsm
  have HLN := Aside0.mk hln
  have HX := Aside0.mk hF3
  unfold WOK at IH
  have HI := Aside0.mk IH
  have hmax := Kd.F_max hF3
  clear he hok hG hfit hsm hln hF3 IH
  have ta := is_82
  have tb := no_82_78
  have tc := no_82_80
  go_enter Tryd.func33, Tryd.ntmps33
  go_wp2_with (first | (go_at_call 51; (with_reducible refine (node_yes5 f1 A2 A3 n2 c2 l3.length c3 _ HOK.out).mono ?_); rintro e w1 ⟨rfl, hb⟩; have HB1 := Aside0.mk (show Below W.heap.size W w1 from below_step (by repeat (first | exact Below.refl _ _ | apply below_drewN | apply below_drew1 | apply below_alloc)) hb); clear hb) | (go_at_call 52; (with_reducible refine (put_calls Wd free st sl ⟨#[91]⟩ _ ?rm2 ?wr2).mono ?_); (case rm2 => exact HF.out.room (m := 1) (by omega) (by omega)); (case wr2 => exact H.out.below (by repeat (first | exact HB1.out | exact Below.refl _ _ | apply below_drewN | apply below_drew1 | apply below_alloc | refine below_set ?_ HB1.out.size))); rintro e w2 ⟨rfl, sl2, hw, ho⟩; have HW2 := Aside0.mk hw; have HO2 := Aside0.mk ho; clear hw ho; have x0 : w2.cell? ⟨w1.heap.size, 0, none⟩ = some (.slice A3 l3.length c3) := (blk_cell (H.out.newblk (o := .cells #[.slice A3 l3.length c3] 82 (0, 0)) HB1.out.size HO2.out (heap_alloc_new w1 _)) 0).trans rfl))
  have HE1 := Aside0.mk (show WrOn Wd sl sl2 W w2 from (WrOn.of_below HL.out (by repeat (first | exact HB1.out | exact Below.refl _ _ | apply below_drewN | apply below_drew1 | apply below_alloc | refine below_set ?_ HB1.out.size))).trans HO2.out)
  have HFe := Aside0.mk (show ∀ n, Fit free st (wt + n) → Fit free (putF free st [91]) (wtI r (l3.drop 0) + 1 + n) from fun n hn => hn.put [91] (by rw [List.drop_zero, List.length_singleton]; omega))
  clear x0 HB1 HOK
  go_loopg [73] (l3.length + 1) (fun g v73 wr => ∃ (i : Nat) (st2 : St) (sl2 : Value), v73 = .int .i64 (i : Int) ∧ i ≤ l3.length ∧ l3.length + 1 ≤ i + g ∧ Aside0 (Wr Wd free st2 sl2 wr) ∧ Aside0 (WrOn Wd sl sl2 W wr) ∧ Aside0 (∀ n, Fit free st (wt + n) → Fit free st2 (wtI r (l3.drop i) + 1 + n)) ∧ Aside0 (Sm canon (itemsW free (valW free canon r) i (l3.drop i) st2) (itemsW free (valW free canon r) 0 l3 (putF free st [91]))))
  case atStart => exact ⟨0, putF free st [91], sl2, rfl, by omega, by omega, HW2, HE1, HFe, ⟨Sm.refl _ _⟩⟩
  case round =>
    obtain ⟨i, st2, sl3, rfl, hi, hg, HW3, HO3, HF3, HX3⟩ := hrel
    clear HW2 HO2 HE1 HFe
    by_cases hlt : i < l3.length
    · cases gk with
      | zero => omega
      | succ g =>
        have HX4 := Aside0.mk (F_on HX.out HO3.out)
        obtain ⟨ad, B2, k2, B3, k3, e9, q0, q1, q2, q3, m2, g2, m3, g3⟩ := F_elem HX4.out i hlt
        subst e9
        have HM2 := Aside0.mk m2
        have HM3 := Aside0.mk m3
        have HG2 := Aside0.mk g2
        have HG3 := Aside0.mk g3
        have HDR := Aside0.mk (drop_rd l3 i hlt)
        have HSY := Aside0.mk (HS.out (rd_T25 l3 i) (rd_mem l3 i hlt))
        have HLY := Aside0.mk (fun hc => HLN.out hc (rd_T25 l3 i) (rd_mem l3 i hlt))
        clear m2 m3 g2 g3
        have p1 : (0 ≤ (i : Int)) = True := eq_true (by omega)
        have p2 : ((i : Int) < (l3.length : Int)) = True := eq_true (by omega)
        have hwn := wrap_next i l3.length hlt hmax
        have HWN := Aside0.mk hwn
        have HIT := Aside0.mk (itemsW_cons free (valW free canon r) i (rd_T25 l3 i) (l3.drop (i + 1)) st2)
        have HWT := Aside0.mk (wtI_cons r (rd_T25 l3 i) (l3.drop (i + 1)))
        have HX5 := Aside0.mk (show Sm canon (itemsW free (valW free canon r) i (rd_T25 l3 i :: l3.drop (i + 1)) st2) (itemsW free (valW free canon r) 0 l3 (putF free st [91])) from drop_rd l3 i hlt ▸ HX3.out)
        have HF5 := Aside0.mk (show ∀ n, Fit free st (wt + n) → Fit free st2 (wtI r (rd_T25 l3 i :: l3.drop (i + 1)) + 1 + n) from drop_rd l3 i hlt ▸ HF3.out)
        have HL3 := Aside0.mk (Nat.le_of_lt HW3.out.lt)
        clear HX3 HF3 HDR HX4
        generalize rd_T25 l3 (i : Int) = y at *
        by_cases hi0 : i = 0
        · have c0 : decide ((0 : Int) < (i : Int)) = false := decide_eq_false (by omega)
          have c1 : ((0 : Int) < (i : Int)) = False := eq_false (by omega)
          have c2' : (0 < i) = False := eq_false (by omega)
          have c3' : decide (0 < i) = false := decide_eq_false (by omega)
          have HF6 := Aside0.mk (show ∀ n, Fit free st (wt + n) → Fit free st2 (wtJ r y + (wtI r (l3.drop (i + 1)) + 1 + n)) from fun n hn => (HF5.out n hn).less (by rw [HWT.out]; omega))
          have HX6 := Aside0.mk (show Sm canon (itemsW free (valW free canon r) (i + 1) (l3.drop (i + 1)) (valW free canon r y st2)) (itemsW free (valW free canon r) 0 l3 (putF free st [91])) from by have := HX5.out; rw [HIT.out, if_pos hi0] at this; exact this)
          clear HX5 HIT HF5 hi0
          go_wp2_with (go_at_call 33; (with_reducible refine (HI.out Wd st2 sl3 _ y B2 B3 k2 k3 ?w6 ?f6 HSY.out HLY.out ?s62 HM2.out ?s63 HM3.out ?g6).mono ?_); (case w6 => exact HW3.out.below (by repeat (first | exact Below.refl _ _ | apply below_drewN | apply below_drew1 | apply below_alloc))); (case f6 => exact (HF6.out 0 HF.out).less (by omega)); (case s62 => exact Kd.F_below HG2.out (by repeat (first | exact Below.refl _ _ | apply below_drewN | apply below_drew1 | apply below_alloc))); (case s63 => exact Kd.F_below HG3.out (by repeat (first | exact Below.refl _ _ | apply below_drewN | apply below_drew1 | apply below_alloc))); (case g6 => exact (HG.out.on HO3.out).below (by repeat (first | exact Below.refl _ _ | apply below_drewN | apply below_drew1 | apply below_alloc)) HL3.out); rintro e w6 ⟨rfl, st6, sl6, hs, hf, hw, ho⟩; have HS6 := Aside0.mk hs; have HV6 := Aside0.mk hf; have HW6 := Aside0.mk hw; have HO6 := Aside0.mk ho; clear hs hf hw ho)
          go_roundg g
          case measure => omega
          case rel => exact ⟨i + 1, st6, sl6, (by first | exact congrArg (Value.int .i64) HWN.out | exact congrArg (Value.int .i64) (show (i : Int) + 1 = ((i + 1 : Nat) : Int) by omega)), by omega, by omega, HW6, ⟨HO3.out.trans ((WrOn.of_below HL3.out (by repeat (first | exact Below.refl _ _ | apply below_drewN | apply below_drew1 | apply below_alloc))).trans HO6.out)⟩, ⟨fun n hn => HV6.out _ (HF6.out n hn)⟩, ⟨(HS6.out.items free (fun y st h => valW_bad free canon r y st h) _ _).trans HX6.out⟩⟩
        · have c0 : decide ((0 : Int) < (i : Int)) = true := decide_eq_true (by omega)
          have HF6 := Aside0.mk (show ∀ n, Fit free st (wt + n) → Fit free (putF free st2 [44]) (wtJ r y + (wtI r (l3.drop (i + 1)) + 1 + n)) from fun n hn => (HF5.out n hn).put [44] (by rw [HWT.out, List.length_singleton]; omega))
          have HX6 := Aside0.mk (show Sm canon (itemsW free (valW free canon r) (i + 1) (l3.drop (i + 1)) (valW free canon r y (putF free st2 [44]))) (itemsW free (valW free canon r) 0 l3 (putF free st [91])) from by have := HX5.out; rw [HIT.out, if_neg hi0] at this; exact this)
          have HR5 := Aside0.mk ((HF5.out 0 HF.out).room (m := 1) (by omega) (by omega))
          clear HX5 HIT HF5
          go_wp2_with (first | (go_at_call 52; (with_reducible refine (put_calls Wd free st2 sl3 ⟨#[44]⟩ _ ?rm5 ?wr5).mono ?_); (case rm5 => exact HR5.out); (case wr5 => exact HW3.out.below (by repeat (first | exact Below.refl _ _ | apply below_drewN | apply below_drew1 | apply below_alloc))); rintro e w5 ⟨rfl, sl5, hw, ho⟩; have HW5 := Aside0.mk hw; have HO5 := Aside0.mk ho; clear hw ho; have x0 : w5.cell? ⟨wr.heap.size, 0, none⟩ = some (.int .i64 y.f0) := (blk_cell (HW3.out.newblk (o := .cells #[.int .i64 y.f0, .string y.f1, .slice B2 y.f2.length k2, .slice B3 y.f3.length k3] 25 (0, 0)) (Nat.le_refl _) HO5.out (heap_alloc_new wr _)) 0).trans rfl; have x1 : w5.cell? ⟨wr.heap.size, 1, none⟩ = some (.string y.f1) := (blk_cell (HW3.out.newblk (o := .cells #[.int .i64 y.f0, .string y.f1, .slice B2 y.f2.length k2, .slice B3 y.f3.length k3] 25 (0, 0)) (Nat.le_refl _) HO5.out (heap_alloc_new wr _)) 1).trans rfl; have x2 : w5.cell? ⟨wr.heap.size, 2, none⟩ = some (.slice B2 y.f2.length k2) := (blk_cell (HW3.out.newblk (o := .cells #[.int .i64 y.f0, .string y.f1, .slice B2 y.f2.length k2, .slice B3 y.f3.length k3] 25 (0, 0)) (Nat.le_refl _) HO5.out (heap_alloc_new wr _)) 2).trans rfl; have x3 : w5.cell? ⟨wr.heap.size, 3, none⟩ = some (.slice B3 y.f3.length k3) := (blk_cell (HW3.out.newblk (o := .cells #[.int .i64 y.f0, .string y.f1, .slice B2 y.f2.length k2, .slice B3 y.f3.length k3] 25 (0, 0)) (Nat.le_refl _) HO5.out (heap_alloc_new wr _)) 3).trans rfl) | (go_at_call 33; (with_reducible refine (HI.out Wd (putF free st2 [44]) sl5 _ y B2 B3 k2 k3 ?w6 ?f6 HSY.out HLY.out ?s62 HM2.out ?s63 HM3.out ?g6).mono ?_); (case w6 => exact HW5.out); (case f6 => exact (HF6.out 0 HF.out).less (by omega)); (case s62 => exact F_on (Kd.F_below HG2.out (by repeat (first | exact Below.refl _ _ | apply below_drewN | apply below_drew1 | apply below_alloc))) HO5.out); (case s63 => exact F_on (Kd.F_below HG3.out (by repeat (first | exact Below.refl _ _ | apply below_drewN | apply below_drew1 | apply below_alloc))) HO5.out); (case g6 => exact ((HG.out.on HO3.out).below (by repeat (first | exact Below.refl _ _ | apply below_drewN | apply below_drew1 | apply below_alloc)) HL3.out).on HO5.out); rintro e w6 ⟨rfl, st6, sl6, hs, hf, hw, ho⟩; have HS6 := Aside0.mk hs; have HV6 := Aside0.mk hf; have HW6 := Aside0.mk hw; have HO6 := Aside0.mk ho; clear hs hf hw ho))
          go_roundg g
          case measure => omega
          case rel => exact ⟨i + 1, st6, sl6, (by first | exact congrArg (Value.int .i64) HWN.out | exact congrArg (Value.int .i64) (show (i : Int) + 1 = ((i + 1 : Nat) : Int) by omega)), by omega, by omega, HW6, ⟨HO3.out.trans ((WrOn.of_below HL3.out (by repeat (first | exact Below.refl _ _ | apply below_drewN | apply below_drew1 | apply below_alloc))).trans (HO5.out.trans HO6.out))⟩, ⟨fun n hn => HV6.out _ (HF6.out n hn)⟩, ⟨(HS6.out.items free (fun y st h => valW_bad free canon r y st h) _ _).trans HX6.out⟩⟩
    · have p2 : ((i : Int) < (l3.length : Int)) = False := eq_false (by omega)
      have hie : l3.drop i = [] := List.drop_eq_nil_of_le (by omega)
      have HX5 := Aside0.mk (show Sm canon st2 (itemsW free (valW free canon r) 0 l3 (putF free st [91])) from by have := HX3.out; rw [hie] at this; exact this)
      have HF5 := Aside0.mk (show ∀ n, Fit free st (wt + n) → Fit free st2 (1 + n) from fun n hn => (HF3.out n hn).less (by omega))
      clear hie HX3 HF3
      go_wp2_with (go_at_call 52; (with_reducible refine (put_calls Wd free st2 sl3 ⟨#[93]⟩ _ ?rm9 ?wr9).mono ?_); (case rm9 => exact (HF5.out 0 HF.out).room (m := 1) (by omega) (by omega)); (case wr9 => exact HW3.out); rintro e w9 ⟨rfl, sl9, hw, ho⟩; have HW9 := Aside0.mk hw; have HO9 := Aside0.mk ho; clear hw ho)
      (try simp only [Exit.inBlock, Exit.then])
      refine ⟨rfl, .tuple #[], results_none rfl _ _ _, ?_⟩
      exact VEnds.of (Below.refl _ _) HL.out (HO3.out.trans HO9.out) HW9.out (HX5.out.put free [93]) (fun n hn => (HF5.out n hn).put [93] (by rw [List.length_singleton]; omega))
end Go.Proofs.YtaalajhmfdcalaaDoor.X
namespace Go.Proofs.YtaalajhmfdcalaaDoor.X
open Go.RowKit Go.Lib Go.Maps Go.Proofs.YtaalajhmfdcalaaDoorW.PrintWords Go.Proofs.YtaalajhmfdcalaaDoorW.PrintLast Go.Proofs.YtaalajhmfdcalaaDoorW.PrintMore
theorem Wr.keepT {Wd b t : Nat} {free : Bool} {st : St} {sl sl' : Value} {W W' : World} {c : Array Value} (hw : Wr Wd free st sl W) (ho : WrOn Wd sl sl' W W') (hk : W.heap[b]? = some (.cells c t (0, 0))) (h5 : t ≠ 5) (h60 : t ≠ 60) : W'.heap[b]? = some (.cells c t (0, 0)) := by
  refine (ho.kept b (lt_of_block hk) ?_ ?_).trans hk
  · rintro rfl; rw [hw.blk] at hk; injection hk with hk; injection hk with _ hk; exact h60 hk.symm
  · intro hh
    obtain ⟨cells, hc⟩ := own_typed hw.own.1 b hh.symm
    rw [hk] at hc; injection hc with hc; injection hc with _ hc; exact h5 hc
theorem Wr.keepM {Wd M : Nat} {free : Bool} {st : St} {sl sl' : Value} {W W' : World} {ns : List ByteArray} (hw : Wr Wd free st sl W) (ho : WrOn Wd sl sl' W W') (hs : Seen W M ns) : Seen W' M ns := by
  refine hs.move (ho.kept M hs.lt (fun hh => hs.ne hw.blk hh.symm) (fun hh => ?_))
  obtain ⟨cells, hc⟩ := own_typed hw.own.1 M hh.symm
  exact hs.ne hc rfl
theorem Wr.mapped {Wd M : Nat} {free : Bool} {st : St} {sl : Value} {W W' : World} {ns : List ByteArray} (hw : Wr Wd free st sl W) (hs : Seen W M ns) (hg : W.grownBy W' (some M)) : Wr Wd free st sl W' := by
  refine ⟨(hg.block Wd hw.lt (fun hh => by injection hh with hh; exact hs.ne hw.blk hh)).trans hw.blk, hw.own.heap hg.size fun g hg' => hg.block g (hw.own.lt g hg').2 (fun hh => ?_)⟩
  obtain ⟨cells, hc⟩ := own_typed hw.own.1 g hg'
  injection hh with hh
  exact hs.ne hc hh
theorem WrOn.mapped {Wd M : Nat} {sl sl' : Value} {W w w' : World} (ho : WrOn Wd sl sl' W w) (hM : W.heap.size ≤ M) (hWd : Wd ≤ W.heap.size) (hg : w.grownBy w' (some M)) : WrOn Wd sl sl' W w' := by
  have key : ∀ b, b < W.heap.size → w'.heap[b]? = w.heap[b]? := fun b hb => hg.block b (Nat.lt_of_lt_of_le hb ho.size) (fun hh => by injection hh with hh; omega)
  obtain ⟨a, b, c, d, e⟩ := ho.low
  exact ⟨⟨hg.os.trans a, hg.tape.trans b, hg.output.trans c, Nat.le_trans d hg.size, fun k hk => (key k (by omega)).trans (e k hk)⟩, fun b hb h1 h2 => (key b hb).trans (ho.kept b hb h1 h2), Nat.le_trans ho.size hg.size, ho.at_⟩
def wtN (l : List ByteArray) : Nat := (l.map (fun s => 12 * s.size + 16)).sum
theorem wtN_cons (s : ByteArray) (l : List ByteArray) : wtN (s :: l) = 12 * s.size + 16 + wtN l := by simp [wtN]
abbrev nmAt (xs : List ByteArray) (i : Nat) : ByteArray := rdOf ByteArray.empty xs (i : Int)
theorem nmAt_eq (xs : List ByteArray) (i : Nat) (hi : i < xs.length) : nmAt xs i = xs[i] := by
  show xs.getD ((i : Int)).toNat ByteArray.empty = _
  rw [show ((i : Int)).toNat = i from Int.toNat_natCast i, List.getD_eq_getElem?_getD, List.getElem?_eq_getElem hi]
  rfl
theorem drop_nm (xs : List ByteArray) (i : Nat) (hi : i < xs.length) : xs.drop i = nmAt xs i :: xs.drop (i + 1) := by
  rw [List.drop_eq_getElem_cons hi, nmAt_eq xs i hi]
theorem take_nm (xs : List ByteArray) (i : Nat) (hi : i < xs.length) : xs.take (i + 1) = xs.take i ++ [nmAt xs i] := by
  rw [nmAt_eq xs i hi, List.take_succ_eq_append_getElem hi]
theorem mem_nm (xs : List ByteArray) (i : Nat) (hi : i < xs.length) : nmAt xs i ∈ xs := by
  rw [nmAt_eq xs i hi]; exact List.getElem_mem hi
section
variable {free : Bool} {one : J → St → St} {seen ns : List ByteArray} {i : Nat} {nm : ByteArray} {y : J} {ys : List J} {st st5 : St}
theorem mW_A (h5 : (if i = 0 then st else putF free st [44]) = st5) (he : st5.e ≠ 0) : membersW free one seen i (nm :: ns) (y :: ys) st = st5 := by
  unfold membersW; simp only [h5, if_pos he]
theorem mW_B (h5 : (if i = 0 then st else putF free st [44]) = st5) (he : st5.e = 0) (hv : validD nm.data.toList = false) : membersW free one seen i (nm :: ns) (y :: ys) st = failF st5 47 := by
  unfold membersW; simp only [h5]; rw [if_neg (by simp [he]), if_pos hv]
theorem mW_C (h5 : (if i = 0 then st else putF free st [44]) = st5) (he : st5.e = 0) (hv : validD nm.data.toList = true) (hs : nm.data.toList ∈ seen.map (fun b => b.data.toList)) : membersW free one seen i (nm :: ns) (y :: ys) st = failF st5 45 := by
  unfold membersW; simp only [h5]; rw [if_neg (by simp [he]), if_neg (by simp [hv]), if_pos hs]
theorem mW_D (h5 : (if i = 0 then st else putF free st [44]) = st5) (he : st5.e = 0) (hv : validD nm.data.toList = true) (hs : ¬ nm.data.toList ∈ seen.map (fun b => b.data.toList)) : membersW free one seen i (nm :: ns) (y :: ys) st = membersW free one (seen ++ [nm]) (i + 1) ns ys (one y (putF free (putsF free st5 (quoteB nm)) [58])) := by
  rw [membersW]; simp only [h5]; rw [if_neg (by simp [he]), if_neg (by simp [hv]), if_neg hs]
end
theorem Sm.over {canon free : Bool} {a b m : St} (h : Sm canon m b) (hm : m = a) (he : a.e ≠ 0) : Sm canon a (putF free b [125]) := by
  have h1 := h.put free [125]
  rw [hm, putF_bad free a [125] he] at h1
  exact h1
theorem key_at (nm : ByteArray) (h : nm.size ≤ 288230376151711743) : keyOf Tryd.prog 9 (.string nm) = some (.string nm.data.toList) := Go.WideMaps.keyOf_string_mk Tryd.underlying9 (s := nm) (by unfold maxLen; omega)
set_option maxRecDepth 1000000 in
set_option maxHeartbeats 16000000 in
theorem members_calls (Wd : Nat) (free canon : Bool) (st : St) (sl : Value) (d : Int) (A2 A3 : Option Addr) (c2 c3 : Nat) (W : World) (wt : Nat) (ns : List ByteArray) (ys : List J) (hny : ns.length = ys.length) (r : Nat) (h : Wr Wd free st sl W) (hG : Gl Wd W) (hwt : wtN ns + wtI r ys + 2 ≤ wt) (hfit : Fit free st wt)
    (hsn : ∀ s, s ∈ ns → s.size ≤ 288230376151711743) (hsm : ∀ y, y ∈ ys → SmJ r y) (hln : canon = true → ∀ y, y ∈ ys → LnJ r y) (hF2 : Kd.F Kd.string W (okW Wd sl) A2 ns.length ns) (hc2 : ns.length ≤ c2) (hF3 : Kd.F k25 W (okW Wd sl) A3 ys.length ys) (hc3 : ys.length ≤ c3) (IH : WOK free canon r (wrap64 (d + 1))) :
    Calls Tryd.prog 55 #[ptr Wd, .agg #[.slice A2 ns.length c2, .slice A3 ys.length c3], .int .i64 d, .bool canon] W (VEnds Wd free canon st sl W wt (putF free (membersW free (valW free canon r) [] 0 ns ys (putF free st [123])) [125])) := by
  have H := Aside0.mk h
  have HL := Aside0.mk (Nat.le_of_lt h.lt)
  have HG := Aside0.mk hG
  have HF := Aside0.mk hfit
  have HSN := Aside0.mk hsn
  have HS := Aside0.mk hsm
  have HLN := Aside0.mk hln
  have HX2 := Aside0.mk hF2
  have HX := Aside0.mk hF3
  have hmax := Kd.F_max hF3
  unfold WOK at IH
  have HI := Aside0.mk IH
  have hmm := @run_makeMap Tryd.prog
  have HNY := Aside0.mk hny
  have hmax2 : ns.length ≤ 9223372036854775807 := by omega
  clear hny h hG hfit hsn hsm hln hF2 hF3 IH
  go_enter Tryd.func55, Tryd.ntmps55
  go_wp2_with (go_at_call 52; (with_reducible refine (put_calls Wd free st sl ⟨#[123]⟩ _ ?rm1 ?wr1).mono ?_); (case rm1 => exact HF.out.room (m := 1) (by omega) (by omega)); (case wr1 => exact H.out.below (by repeat (first | exact Below.refl _ _ | apply below_drewN | apply below_drew1 | apply below_alloc))); rintro e w1 ⟨rfl, sl1, hw, ho⟩; have HW1 := Aside0.mk hw; have HO1 := Aside0.mk ho; clear hw ho; have HE1 := Aside0.mk (show WrOn Wd sl sl1 W w1 from (WrOn.of_below HL.out (by repeat (first | exact Below.refl _ _ | apply below_drewN | apply below_drew1 | apply below_alloc))).trans HO1.out); have hbx := H.out.newblk (o := .cells #[.slice A2 ns.length c2, .slice A3 ys.length c3] 84 (0, 0)) (Nat.le_refl _) HO1.out (heap_alloc_new W _); have HMW := Aside0.mk (Nat.le_of_lt (lt_of_block hbx)); have BX2 := Aside0.mk (((below_alloc (Below.refl _ w1) (.map #[] 0)).block _ (lt_of_block hbx)).trans hbx); clear hbx; have x0 : (w1.alloc (.map #[] 0)).cell? ⟨W.heap.size, 0, none⟩ = some (.slice A2 ns.length c2) := (blk_cell BX2.out 0).trans rfl)
  go_loopg [17] (ns.length + 1) (fun g v17 wr => ∃ (i : Nat) (st2 : St) (sl2 : Value), v17 = .int .i64 (i : Int) ∧ i ≤ ns.length ∧ ns.length + 1 ≤ i + g ∧ Aside0 (Wr Wd free st2 sl2 wr) ∧ Aside0 (WrOn Wd sl sl2 W wr) ∧ Aside0 (wr.heap[W.heap.size]? = some (.cells #[.slice A2 ns.length c2, .slice A3 ys.length c3] 84 (0, 0))) ∧ Aside0 (Seen wr w1.heap.size (ns.take i)) ∧ Aside0 (∀ n, Fit free st (wt + n) → Fit free st2 (wtN (ns.drop i) + wtI r (ys.drop i) + 1 + n)) ∧ Aside0 (Sm canon (membersW free (valW free canon r) (ns.take i) i (ns.drop i) (ys.drop i) st2) (membersW free (valW free canon r) [] 0 ns ys (putF free st [123]))))
  case atStart => exact ⟨0, putF free st [123], sl1, rfl, by omega, by omega, ⟨HW1.out.below (by repeat (first | exact Below.refl _ _ | apply below_drewN | apply below_drew1 | apply below_alloc))⟩, ⟨HE1.out.trans (WrOn.of_below (Nat.le_of_lt HW1.out.lt) (by repeat (first | exact Below.refl _ _ | apply below_drewN | apply below_drew1 | apply below_alloc)))⟩, BX2, ⟨Seen.made w1⟩, ⟨fun n hn => hn.put [123] (by rw [List.drop_zero, List.drop_zero, List.length_singleton]; omega)⟩, ⟨Sm.refl _ _⟩⟩
  case round =>
    obtain ⟨i, st2, sl3, rfl, hi, hg, HW3, HO3, HB3, HSE3, HF3, HX3⟩ := hrel
    clear HW1 HO1 HE1 BX2 x0
    by_cases hlt : i < ns.length
    · cases gk with
      | zero => omega
      | succ g =>
        have hlt2 : i < ys.length := by have := HNY.out; omega
        obtain ⟨ad, e8, q0⟩ := Kd.at_string (Kd.F_now (F_on HX2.out HO3.out)) (i : Int) (by omega) (by omega)
        subst e8
        replace q0 : wr.cell? (ad.add i) = some (.string (nmAt ns i)) := q0
        obtain ⟨ae, B2, k2, B3, k3, e9, _⟩ := F_elem (F_on HX.out HO3.out) i hlt2
        subst e9
        have HE9 := Aside0.mk (fun (w : World) (sl' : Value) (ho : WrOn Wd sl sl' W w) => F_elem (F_on HX.out ho) i hlt2)
        have HDR := Aside0.mk (drop_rd ys i hlt2)
        have HDN := Aside0.mk (drop_nm ns i hlt)
        have HTK := Aside0.mk (take_nm ns i hlt)
        have HSY := Aside0.mk (HS.out (rd_T25 ys i) (rd_mem ys i hlt2))
        have HLY := Aside0.mk (fun hc => HLN.out hc (rd_T25 ys i) (rd_mem ys i hlt2))
        have HNM := Aside0.mk (HSN.out (nmAt ns i) (mem_nm ns i hlt))
        have HWN := Aside0.mk (wrap_next i ns.length hlt hmax2)
        have p1 : (0 ≤ (i : Int)) = True := eq_true (by omega)
        have p2 : ((i : Int) < (ns.length : Int)) = True := eq_true (by omega)
        have p3 : ((i : Int) < (ys.length : Int)) = True := eq_true (by omega)
        have HX5 := Aside0.mk (show Sm canon (membersW free (valW free canon r) (ns.take i) i (nmAt ns i :: ns.drop (i + 1)) (rd_T25 ys i :: ys.drop (i + 1)) st2) (membersW free (valW free canon r) [] 0 ns ys (putF free st [123])) from by have := HX3.out; rw [HDR.out, HDN.out] at this; exact this)
        have HF5 := Aside0.mk (show ∀ n, Fit free st (wt + n) → Fit free st2 (1 + (12 * (nmAt ns i).size + 3 + (wtJ r (rd_T25 ys i) + (wtN (ns.drop (i + 1)) + wtI r (ys.drop (i + 1)) + 1 + n)))) from fun n hn => (HF3.out n hn).less (by rw [HDR.out, HDN.out, wtN_cons, wtI_cons]; omega))
        have HWT := Aside0.mk (wtJ_text r (rd_T25 ys i))
        have HL3 := Aside0.mk (Nat.le_of_lt HW3.out.lt)
        have HMW' := HMW
        have cr2 : wr.cell? ⟨Wd, 2, none⟩ = some (.int .i64 st2.e) := (blk_cell HW3.out.blk 2).trans rfl
        clear HX3 HF3 HDR HDN
        generalize rd_T25 ys (i : Int) = y at *
        generalize nmAt ns i = nm at *
        have HKEY := Aside0.mk (key_at nm HNM.out)
        by_cases hi0 : i = 0
        · have c0 : decide ((0 : Int) < (i : Int)) = false := decide_eq_false (by omega)
          have c1' : ((0 : Int) < (i : Int)) = False := eq_false (by omega)
          have c2' : (0 < i) = False := eq_false (by omega)
          have c3' : decide (0 < i) = false := decide_eq_false (by omega)
          have H5 := Aside0.mk (show (if i = 0 then st2 else putF free st2 [44]) = st2 from if_pos hi0)
          have HF6 := Aside0.mk (show ∀ n, Fit free st (wt + n) → Fit free st2 (12 * nm.size + 3 + (wtJ r y + (wtN (ns.drop (i + 1)) + wtI r (ys.drop (i + 1)) + 1 + n))) from fun n hn => (HF5.out n hn).less (by omega))
          clear hi0 HF5
          by_cases he : st2.e = 0
          · cases hv : validD nm.data.toList with
            | false =>
              have e0 : ((st2.e : Int) != 0) = false := by rw [he]; rfl
              have HER := Aside0.mk he
              clear he
              have HN := Aside0.mk (show (47 : Int) = ((47 : Nat) : Int) from rfl)
              have HV := Aside0.mk hv
              clear hv
              have HW5 := HW3
              have HO35 := HO3
              have HB5 := HB3
              have HSE5 := HSE3
              have HG5 := Aside0.mk (HG.out.on HO35.out)
              go_wp2_with (first | (go_at_call 75; (with_reducible refine (valid_calls nm _ false HV.out (by have := HNM.out; omega) ?tb).mono ?_); (case tb => exact HG5.out.tabs); rintro e w6 ⟨rfl, hb⟩; have HW6 := Aside0.mk (HW5.out.below hb); have HO6 := Aside0.mk (HO35.out.trans (WrOn.of_below (Nat.le_of_lt HW5.out.lt) hb)); have HN6 := Aside0.mk (WrOn.of_below (sl := sl3) (Nat.le_of_lt HW5.out.lt) hb); have HB6 := Aside0.mk (HW5.out.keepT HN6.out HB5.out (by decide) (by decide)); have HSE6 := Aside0.mk (HW5.out.keepM HN6.out HSE5.out); clear hb) | (go_at_call 50; (with_reducible refine (wfail_calls Wd free st2 sl3 47 47 HN.out _ ?wrf).mono ?_); (case wrf => exact HW6.out); rintro e w9 ⟨rfl, hw, ho⟩; have HW9 := Aside0.mk hw; have HO9 := Aside0.mk ho; clear hw ho))
              (try simp only [Exit.inBlock, Exit.then])
              refine ⟨rfl, .tuple #[], results_none rfl _ _ _, ?_⟩
              exact VEnds.of (Below.refl _ _) HL.out (HO6.out.trans HO9.out) HW9.out (HX5.out.over (mW_B H5.out HER.out HV.out) (failF_e _ _ (by decide))) (fun n hn => ((HF6.out n hn).failF 47).less (by omega))
            | true =>
              by_cases hsn : nm.data.toList ∈ (ns.take i).map (fun b => b.data.toList)
              · have e0 : ((st2.e : Int) != 0) = false := by rw [he]; rfl
                have HER := Aside0.mk he
                clear he
                have HN := Aside0.mk (show (45 : Int) = ((45 : Nat) : Int) from rfl)
                have HV := Aside0.mk hv
                clear hv
                have HSN5 := Aside0.mk hsn
                clear hsn
                have HW5 := HW3
                have HO35 := HO3
                have HB5 := HB3
                have HSE5 := HSE3
                have HG5 := Aside0.mk (HG.out.on HO35.out)
                go_wp2_with (first | (go_at_call 75; (with_reducible refine (valid_calls nm _ true HV.out (by have := HNM.out; omega) ?tb).mono ?_); (case tb => exact HG5.out.tabs); rintro e w6 ⟨rfl, hb⟩; have HW6 := Aside0.mk (HW5.out.below hb); have HO6 := Aside0.mk (HO35.out.trans (WrOn.of_below (Nat.le_of_lt HW5.out.lt) hb)); have HN6 := Aside0.mk (WrOn.of_below (sl := sl3) (Nat.le_of_lt HW5.out.lt) hb); have HB6 := Aside0.mk (HW5.out.keepT HN6.out HB5.out (by decide) (by decide)); have HSE6 := Aside0.mk (HW5.out.keepM HN6.out HSE5.out); clear hb) | (at_lookup; obtain ⟨D, hD1, hD2, hD3⟩ := HSE6.out; refine wpList_lookup_own_int _ rfl _ _ 97 rfl 9 3 .i64 key9 Tryd.underlying97 Tryd.underlying3 (zero3 _) w1.heap.size (ns.take i).length D rfl hD2 (.string nm) (.string nm.data.toList) rfl HKEY.out ?_; intro cc hat hwc; rw [hD3 nm.data.toList, if_pos HSN5.out] at hat; injection hat with hat; injection hat with _ hat; subst hat; have HD1 := Aside0.mk hD1; have HD2 := Aside0.mk hD2; have HD3 := Aside0.mk hD3; clear hD1 hD2 hD3 hwc) | (go_at_call 50; (with_reducible refine (wfail_calls Wd free st2 sl3 45 45 HN.out _ ?wrf).mono ?_); (case wrf => exact HW6.out); rintro e w9 ⟨rfl, hw, ho⟩; have HW9 := Aside0.mk hw; have HO9 := Aside0.mk ho; clear hw ho))
                (try simp only [Exit.inBlock, Exit.then])
                refine ⟨rfl, .tuple #[], results_none rfl _ _ _, ?_⟩
                exact VEnds.of (Below.refl _ _) HL.out (HO6.out.trans HO9.out) HW9.out (HX5.out.over (mW_C H5.out HER.out HV.out HSN5.out) (failF_e _ _ (by decide))) (fun n hn => ((HF6.out n hn).failF 45).less (by omega))
              · have e0 : ((st2.e : Int) != 0) = false := by rw [he]; rfl
                have HER := Aside0.mk he
                clear he
                have HV := Aside0.mk hv
                have HSN5 := Aside0.mk hsn
                clear hv hsn
                have HF8 := Aside0.mk (show ∀ n, Fit free st (wt + n) → Fit free (putsF free st2 (quoteB nm)) (1 + (wtJ r y + (wtN (ns.drop (i + 1)) + wtI r (ys.drop (i + 1)) + 1 + n))) from fun n hn => (HF6.out n hn).quote nm (by omega))
                have HF9 := Aside0.mk (show ∀ n, Fit free st (wt + n) → Fit free (putF free (putsF free st2 (quoteB nm)) [58]) (wtJ r y + (wtN (ns.drop (i + 1)) + wtI r (ys.drop (i + 1)) + 1 + n)) from fun n hn => (HF8.out n hn).put [58] (by rw [List.length_singleton]; omega))
                have HX6 := Aside0.mk (show Sm canon (membersW free (valW free canon r) (ns.take (i + 1)) (i + 1) (ns.drop (i + 1)) (ys.drop (i + 1)) (valW free canon r y (putF free (putsF free st2 (quoteB nm)) [58]))) (membersW free (valW free canon r) [] 0 ns ys (putF free st [123])) from by have := HX5.out; rw [mW_D H5.out HER.out HV.out HSN5.out] at this; rw [HTK.out]; exact this)
                have HR8 := Aside0.mk ((HF6.out 0 HF.out).room (m := 12 * nm.size + 14) (by have := HWT.out; omega) (by have := HNM.out; omega))
                have HR9 := Aside0.mk ((HF8.out 0 HF.out).room (m := 1) (by omega) (by omega))
                have htl : (ns.take i).length ≤ 9223372036854775806 := by rw [List.length_take]; omega
                clear HX5
                have HW5 := HW3
                have HO35 := HO3
                have HB5 := HB3
                have HSE5 := HSE3
                have HG5 := Aside0.mk (HG.out.on HO35.out)
                go_wp2_with (first | (go_at_call 75; (with_reducible refine (valid_calls nm _ true HV.out (by have := HNM.out; omega) ?tb).mono ?_); (case tb => exact HG5.out.tabs); rintro e w6 ⟨rfl, hb⟩; have HW6 := Aside0.mk (HW5.out.below hb); have HO6 := Aside0.mk (HO35.out.trans (WrOn.of_below (Nat.le_of_lt HW5.out.lt) hb)); have HN6 := Aside0.mk (WrOn.of_below (sl := sl3) (Nat.le_of_lt HW5.out.lt) hb); have HB6 := Aside0.mk (HW5.out.keepT HN6.out HB5.out (by decide) (by decide)); have HSE6 := Aside0.mk (HW5.out.keepM HN6.out HSE5.out); clear hb) | (at_lookup; obtain ⟨D, hD1, hD2, hD3⟩ := HSE6.out; refine wpList_lookup_own_int _ rfl _ _ 97 rfl 9 3 .i64 key9 Tryd.underlying97 Tryd.underlying3 (zero3 _) w1.heap.size (ns.take i).length D rfl hD2 (.string nm) (.string nm.data.toList) rfl HKEY.out ?_; intro cc hat hwc; rw [hD3 nm.data.toList, if_neg HSN5.out] at hat; injection hat with hat; injection hat with _ hat; subst hat; have HD1 := Aside0.mk hD1; have HD2 := Aside0.mk hD2; have HD3 := Aside0.mk hD3; clear hD1 hD2 hD3 hwc) | (at_mapUpdate; refine wpList_mapUpdate_own _ rfl _ _ _ 97 rfl 9 3 key9 Tryd.underlying97 _ w1.heap.size (ns.take i).length _ rfl HD2.out (by unfold maxLen; omega) _ _ _ rfl rfl HKEY.out _ [] (plainElem_int Tryd.underlying3 (by decide)) ?_; intro w7 hown7 hg7; have HW7 := Aside0.mk (HW6.out.mapped HSE6.out hg7); have HO7 := Aside0.mk (HO6.out.mapped HMW.out HL.out hg7); have HB7 := Aside0.mk (blk_grownM HB6.out HSE6.out hg7); have HSE7 := Aside0.mk (show Seen w7 w1.heap.size (ns.take (i + 1)) from HTK.out ▸ seen_put (W := w6) nm HD1.out HD3.out hown7); clear hown7 hg7) | (go_at_call 53; (with_reducible refine (quote_calls Wd free st2 sl3 nm _ HNM.out ?rm8 ?wr8).mono ?_); (case rm8 => exact HR8.out); (case wr8 => exact HW7.out); rintro e w8 ⟨rfl, sl8, hw, ho⟩; have HW8 := Aside0.mk hw; have HO8 := Aside0.mk (HO7.out.trans ho); have HB8 := Aside0.mk (HW7.out.keepT ho HB7.out (by decide) (by decide)); have HSE8 := Aside0.mk (HW7.out.keepM ho HSE7.out); clear hw ho) | (go_at_call 52; (with_reducible refine (put_calls Wd free (putsF free st2 (quoteB nm)) sl8 ⟨#[58]⟩ _ ?rm9 ?wr9).mono ?_); (case rm9 => exact HR9.out); (case wr9 => exact HW8.out); rintro e w9 ⟨rfl, sl9, hw, ho⟩; have HW9 := Aside0.mk hw; have HO9 := Aside0.mk (HO8.out.trans ho); have HB9 := Aside0.mk (HW8.out.keepT ho HB8.out (by decide) (by decide)); have HSE9 := Aside0.mk (HW8.out.keepM ho HSE8.out); clear hw ho; have x9 : w9.cell? ⟨W.heap.size, 1, none⟩ = some (.slice (some ae) ys.length c3) := (blk_cell HB9.out 1).trans rfl; obtain ⟨ae', B2', k2', B3', k3', e9, z0, z1, z2, z3, m2, g2, m3, g3⟩ := HE9.out w9 sl9 HO9.out; injection e9 with e9; subst e9; have HM2 := Aside0.mk m2; have HM3 := Aside0.mk m3; have HG2 := Aside0.mk g2; have HG3 := Aside0.mk g3; clear m2 m3 g2 g3) | (go_at_call 33; (with_reducible refine (HI.out Wd (putF free (putsF free st2 (quoteB nm)) [58]) sl9 _ y B2' B3' k2' k3' ?w10 ?f10 HSY.out HLY.out ?s102 HM2.out ?s103 HM3.out ?g10).mono ?_); (case w10 => exact HW9.out); (case f10 => exact (HF9.out 0 HF.out).less (by omega)); (case s102 => exact HG2.out); (case s103 => exact HG3.out); (case g10 => exact HG.out.on HO9.out); rintro e w10 ⟨rfl, st10, sl10, hs, hf, hw, ho⟩; have HS10 := Aside0.mk hs; have HV10 := Aside0.mk hf; have HW10 := Aside0.mk hw; have HO10 := Aside0.mk (HO9.out.trans ho); have HB10 := Aside0.mk (HW9.out.keepT ho HB9.out (by decide) (by decide)); have HSE10 := Aside0.mk (HW9.out.keepM ho HSE9.out); clear hs hf hw ho))
                go_roundg g
                case measure => omega
                case rel => exact ⟨i + 1, st10, sl10, (by first | exact congrArg (Value.int .i64) HWN.out | exact congrArg (Value.int .i64) (show (i : Int) + 1 = ((i + 1 : Nat) : Int) by omega)), by omega, by omega, HW10, HO10, HB10, HSE10, ⟨fun n hn => HV10.out _ (HF9.out n hn)⟩, ⟨(HS10.out.members free _ _ _ _).trans HX6.out⟩⟩
          · have e0 : ((st2.e : Int) != 0) = true := by
              have : ¬ (st2.e : Int) = 0 := by omega
              simp only [bne_iff_ne, ne_eq]
              exact this
            have HER := Aside0.mk he
            clear he
            have HW5 := HW3
            have HO35 := HO3
            have HB5 := HB3
            have HSE5 := HSE3
            have HG5 := Aside0.mk (HG.out.on HO35.out)
            go_wp2
            (try simp only [Exit.inBlock, Exit.then])
            refine ⟨rfl, .tuple #[], results_none rfl _ _ _, ?_⟩
            exact VEnds.of (Below.refl _ _) HL.out HO35.out HW5.out (HX5.out.over (mW_A H5.out HER.out) HER.out) (fun n hn => (HF6.out n hn).less (by omega))
        · have c0 : decide ((0 : Int) < (i : Int)) = true := decide_eq_true (by omega)
          have H5 := Aside0.mk (show (if i = 0 then st2 else putF free st2 [44]) = putF free st2 [44] from if_neg hi0)
          have HF6 := Aside0.mk (show ∀ n, Fit free st (wt + n) → Fit free (putF free st2 [44]) (12 * nm.size + 3 + (wtJ r y + (wtN (ns.drop (i + 1)) + wtI r (ys.drop (i + 1)) + 1 + n))) from fun n hn => (HF5.out n hn).put [44] (by rw [List.length_singleton]; omega))
          have HR5 := Aside0.mk ((HF5.out 0 HF.out).room (m := 1) (by omega) (by omega))
          clear HF5
          by_cases he : (putF free st2 [44]).e = 0
          · cases hv : validD nm.data.toList with
            | false =>
              have e0 : (((putF free st2 [44]).e : Int) != 0) = false := by rw [he]; rfl
              have HER := Aside0.mk he
              clear he
              have HN := Aside0.mk (show (47 : Int) = ((47 : Nat) : Int) from rfl)
              have HV := Aside0.mk hv
              clear hv
              go_wp2_with (first | (go_at_call 52; (with_reducible refine (put_calls Wd free st2 sl3 ⟨#[44]⟩ _ ?rm5 ?wr5).mono ?_); (case rm5 => exact HR5.out); (case wr5 => exact HW3.out); rintro e w5 ⟨rfl, sl5, hw, ho⟩; have HW5 := Aside0.mk hw; have HO5 := Aside0.mk ho; clear hw ho; have HO35 := Aside0.mk (HO3.out.trans HO5.out); have HB5 := Aside0.mk (HW3.out.keepT HO5.out HB3.out (by decide) (by decide)); have HSE5 := Aside0.mk (HW3.out.keepM HO5.out HSE3.out); have HG5 := Aside0.mk (HG.out.on HO35.out); have x2 : w5.cell? ⟨Wd, 2, none⟩ = some (.int .i64 (putF free st2 [44]).e) := (blk_cell HW5.out.blk 2).trans rfl) | (go_at_call 75; (with_reducible refine (valid_calls nm _ false HV.out (by have := HNM.out; omega) ?tb).mono ?_); (case tb => exact HG5.out.tabs); rintro e w6 ⟨rfl, hb⟩; have HW6 := Aside0.mk (HW5.out.below hb); have HO6 := Aside0.mk (HO35.out.trans (WrOn.of_below (Nat.le_of_lt HW5.out.lt) hb)); have HN6 := Aside0.mk (WrOn.of_below (sl := sl5) (Nat.le_of_lt HW5.out.lt) hb); have HB6 := Aside0.mk (HW5.out.keepT HN6.out HB5.out (by decide) (by decide)); have HSE6 := Aside0.mk (HW5.out.keepM HN6.out HSE5.out); clear hb) | (go_at_call 50; (with_reducible refine (wfail_calls Wd free (putF free st2 [44]) sl5 47 47 HN.out _ ?wrf).mono ?_); (case wrf => exact HW6.out); rintro e w9 ⟨rfl, hw, ho⟩; have HW9 := Aside0.mk hw; have HO9 := Aside0.mk ho; clear hw ho))
              (try simp only [Exit.inBlock, Exit.then])
              refine ⟨rfl, .tuple #[], results_none rfl _ _ _, ?_⟩
              exact VEnds.of (Below.refl _ _) HL.out (HO6.out.trans HO9.out) HW9.out (HX5.out.over (mW_B H5.out HER.out HV.out) (failF_e _ _ (by decide))) (fun n hn => ((HF6.out n hn).failF 47).less (by omega))
            | true =>
              by_cases hsn : nm.data.toList ∈ (ns.take i).map (fun b => b.data.toList)
              · have e0 : (((putF free st2 [44]).e : Int) != 0) = false := by rw [he]; rfl
                have HER := Aside0.mk he
                clear he
                have HN := Aside0.mk (show (45 : Int) = ((45 : Nat) : Int) from rfl)
                have HV := Aside0.mk hv
                clear hv
                have HSN5 := Aside0.mk hsn
                clear hsn
                go_wp2_with (first | (go_at_call 52; (with_reducible refine (put_calls Wd free st2 sl3 ⟨#[44]⟩ _ ?rm5 ?wr5).mono ?_); (case rm5 => exact HR5.out); (case wr5 => exact HW3.out); rintro e w5 ⟨rfl, sl5, hw, ho⟩; have HW5 := Aside0.mk hw; have HO5 := Aside0.mk ho; clear hw ho; have HO35 := Aside0.mk (HO3.out.trans HO5.out); have HB5 := Aside0.mk (HW3.out.keepT HO5.out HB3.out (by decide) (by decide)); have HSE5 := Aside0.mk (HW3.out.keepM HO5.out HSE3.out); have HG5 := Aside0.mk (HG.out.on HO35.out); have x2 : w5.cell? ⟨Wd, 2, none⟩ = some (.int .i64 (putF free st2 [44]).e) := (blk_cell HW5.out.blk 2).trans rfl) | (go_at_call 75; (with_reducible refine (valid_calls nm _ true HV.out (by have := HNM.out; omega) ?tb).mono ?_); (case tb => exact HG5.out.tabs); rintro e w6 ⟨rfl, hb⟩; have HW6 := Aside0.mk (HW5.out.below hb); have HO6 := Aside0.mk (HO35.out.trans (WrOn.of_below (Nat.le_of_lt HW5.out.lt) hb)); have HN6 := Aside0.mk (WrOn.of_below (sl := sl5) (Nat.le_of_lt HW5.out.lt) hb); have HB6 := Aside0.mk (HW5.out.keepT HN6.out HB5.out (by decide) (by decide)); have HSE6 := Aside0.mk (HW5.out.keepM HN6.out HSE5.out); clear hb) | (at_lookup; obtain ⟨D, hD1, hD2, hD3⟩ := HSE6.out; refine wpList_lookup_own_int _ rfl _ _ 97 rfl 9 3 .i64 key9 Tryd.underlying97 Tryd.underlying3 (zero3 _) w1.heap.size (ns.take i).length D rfl hD2 (.string nm) (.string nm.data.toList) rfl HKEY.out ?_; intro cc hat hwc; rw [hD3 nm.data.toList, if_pos HSN5.out] at hat; injection hat with hat; injection hat with _ hat; subst hat; have HD1 := Aside0.mk hD1; have HD2 := Aside0.mk hD2; have HD3 := Aside0.mk hD3; clear hD1 hD2 hD3 hwc) | (go_at_call 50; (with_reducible refine (wfail_calls Wd free (putF free st2 [44]) sl5 45 45 HN.out _ ?wrf).mono ?_); (case wrf => exact HW6.out); rintro e w9 ⟨rfl, hw, ho⟩; have HW9 := Aside0.mk hw; have HO9 := Aside0.mk ho; clear hw ho))
                (try simp only [Exit.inBlock, Exit.then])
                refine ⟨rfl, .tuple #[], results_none rfl _ _ _, ?_⟩
                exact VEnds.of (Below.refl _ _) HL.out (HO6.out.trans HO9.out) HW9.out (HX5.out.over (mW_C H5.out HER.out HV.out HSN5.out) (failF_e _ _ (by decide))) (fun n hn => ((HF6.out n hn).failF 45).less (by omega))
              · have e0 : (((putF free st2 [44]).e : Int) != 0) = false := by rw [he]; rfl
                have HER := Aside0.mk he
                clear he
                have HV := Aside0.mk hv
                have HSN5 := Aside0.mk hsn
                clear hv hsn
                have HF8 := Aside0.mk (show ∀ n, Fit free st (wt + n) → Fit free (putsF free (putF free st2 [44]) (quoteB nm)) (1 + (wtJ r y + (wtN (ns.drop (i + 1)) + wtI r (ys.drop (i + 1)) + 1 + n))) from fun n hn => (HF6.out n hn).quote nm (by omega))
                have HF9 := Aside0.mk (show ∀ n, Fit free st (wt + n) → Fit free (putF free (putsF free (putF free st2 [44]) (quoteB nm)) [58]) (wtJ r y + (wtN (ns.drop (i + 1)) + wtI r (ys.drop (i + 1)) + 1 + n)) from fun n hn => (HF8.out n hn).put [58] (by rw [List.length_singleton]; omega))
                have HX6 := Aside0.mk (show Sm canon (membersW free (valW free canon r) (ns.take (i + 1)) (i + 1) (ns.drop (i + 1)) (ys.drop (i + 1)) (valW free canon r y (putF free (putsF free (putF free st2 [44]) (quoteB nm)) [58]))) (membersW free (valW free canon r) [] 0 ns ys (putF free st [123])) from by have := HX5.out; rw [mW_D H5.out HER.out HV.out HSN5.out] at this; rw [HTK.out]; exact this)
                have HR8 := Aside0.mk ((HF6.out 0 HF.out).room (m := 12 * nm.size + 14) (by have := HWT.out; omega) (by have := HNM.out; omega))
                have HR9 := Aside0.mk ((HF8.out 0 HF.out).room (m := 1) (by omega) (by omega))
                have htl : (ns.take i).length ≤ 9223372036854775806 := by rw [List.length_take]; omega
                clear HX5
                go_wp2_with (first | (go_at_call 52; (with_reducible refine (put_calls Wd free st2 sl3 ⟨#[44]⟩ _ ?rm5 ?wr5).mono ?_); (case rm5 => exact HR5.out); (case wr5 => exact HW3.out); rintro e w5 ⟨rfl, sl5, hw, ho⟩; have HW5 := Aside0.mk hw; have HO5 := Aside0.mk ho; clear hw ho; have HO35 := Aside0.mk (HO3.out.trans HO5.out); have HB5 := Aside0.mk (HW3.out.keepT HO5.out HB3.out (by decide) (by decide)); have HSE5 := Aside0.mk (HW3.out.keepM HO5.out HSE3.out); have HG5 := Aside0.mk (HG.out.on HO35.out); have x2 : w5.cell? ⟨Wd, 2, none⟩ = some (.int .i64 (putF free st2 [44]).e) := (blk_cell HW5.out.blk 2).trans rfl) | (go_at_call 75; (with_reducible refine (valid_calls nm _ true HV.out (by have := HNM.out; omega) ?tb).mono ?_); (case tb => exact HG5.out.tabs); rintro e w6 ⟨rfl, hb⟩; have HW6 := Aside0.mk (HW5.out.below hb); have HO6 := Aside0.mk (HO35.out.trans (WrOn.of_below (Nat.le_of_lt HW5.out.lt) hb)); have HN6 := Aside0.mk (WrOn.of_below (sl := sl5) (Nat.le_of_lt HW5.out.lt) hb); have HB6 := Aside0.mk (HW5.out.keepT HN6.out HB5.out (by decide) (by decide)); have HSE6 := Aside0.mk (HW5.out.keepM HN6.out HSE5.out); clear hb) | (at_lookup; obtain ⟨D, hD1, hD2, hD3⟩ := HSE6.out; refine wpList_lookup_own_int _ rfl _ _ 97 rfl 9 3 .i64 key9 Tryd.underlying97 Tryd.underlying3 (zero3 _) w1.heap.size (ns.take i).length D rfl hD2 (.string nm) (.string nm.data.toList) rfl HKEY.out ?_; intro cc hat hwc; rw [hD3 nm.data.toList, if_neg HSN5.out] at hat; injection hat with hat; injection hat with _ hat; subst hat; have HD1 := Aside0.mk hD1; have HD2 := Aside0.mk hD2; have HD3 := Aside0.mk hD3; clear hD1 hD2 hD3 hwc) | (at_mapUpdate; refine wpList_mapUpdate_own _ rfl _ _ _ 97 rfl 9 3 key9 Tryd.underlying97 _ w1.heap.size (ns.take i).length _ rfl HD2.out (by unfold maxLen; omega) _ _ _ rfl rfl HKEY.out _ [] (plainElem_int Tryd.underlying3 (by decide)) ?_; intro w7 hown7 hg7; have HW7 := Aside0.mk (HW6.out.mapped HSE6.out hg7); have HO7 := Aside0.mk (HO6.out.mapped HMW.out HL.out hg7); have HB7 := Aside0.mk (blk_grownM HB6.out HSE6.out hg7); have HSE7 := Aside0.mk (show Seen w7 w1.heap.size (ns.take (i + 1)) from HTK.out ▸ seen_put (W := w6) nm HD1.out HD3.out hown7); clear hown7 hg7) | (go_at_call 53; (with_reducible refine (quote_calls Wd free (putF free st2 [44]) sl5 nm _ HNM.out ?rm8 ?wr8).mono ?_); (case rm8 => exact HR8.out); (case wr8 => exact HW7.out); rintro e w8 ⟨rfl, sl8, hw, ho⟩; have HW8 := Aside0.mk hw; have HO8 := Aside0.mk (HO7.out.trans ho); have HB8 := Aside0.mk (HW7.out.keepT ho HB7.out (by decide) (by decide)); have HSE8 := Aside0.mk (HW7.out.keepM ho HSE7.out); clear hw ho) | (go_at_call 52; (with_reducible refine (put_calls Wd free (putsF free (putF free st2 [44]) (quoteB nm)) sl8 ⟨#[58]⟩ _ ?rm9 ?wr9).mono ?_); (case rm9 => exact HR9.out); (case wr9 => exact HW8.out); rintro e w9 ⟨rfl, sl9, hw, ho⟩; have HW9 := Aside0.mk hw; have HO9 := Aside0.mk (HO8.out.trans ho); have HB9 := Aside0.mk (HW8.out.keepT ho HB8.out (by decide) (by decide)); have HSE9 := Aside0.mk (HW8.out.keepM ho HSE8.out); clear hw ho; have x9 : w9.cell? ⟨W.heap.size, 1, none⟩ = some (.slice (some ae) ys.length c3) := (blk_cell HB9.out 1).trans rfl; obtain ⟨ae', B2', k2', B3', k3', e9, z0, z1, z2, z3, m2, g2, m3, g3⟩ := HE9.out w9 sl9 HO9.out; injection e9 with e9; subst e9; have HM2 := Aside0.mk m2; have HM3 := Aside0.mk m3; have HG2 := Aside0.mk g2; have HG3 := Aside0.mk g3; clear m2 m3 g2 g3) | (go_at_call 33; (with_reducible refine (HI.out Wd (putF free (putsF free (putF free st2 [44]) (quoteB nm)) [58]) sl9 _ y B2' B3' k2' k3' ?w10 ?f10 HSY.out HLY.out ?s102 HM2.out ?s103 HM3.out ?g10).mono ?_); (case w10 => exact HW9.out); (case f10 => exact (HF9.out 0 HF.out).less (by omega)); (case s102 => exact HG2.out); (case s103 => exact HG3.out); (case g10 => exact HG.out.on HO9.out); rintro e w10 ⟨rfl, st10, sl10, hs, hf, hw, ho⟩; have HS10 := Aside0.mk hs; have HV10 := Aside0.mk hf; have HW10 := Aside0.mk hw; have HO10 := Aside0.mk (HO9.out.trans ho); have HB10 := Aside0.mk (HW9.out.keepT ho HB9.out (by decide) (by decide)); have HSE10 := Aside0.mk (HW9.out.keepM ho HSE9.out); clear hs hf hw ho))
                go_roundg g
                case measure => omega
                case rel => exact ⟨i + 1, st10, sl10, (by first | exact congrArg (Value.int .i64) HWN.out | exact congrArg (Value.int .i64) (show (i : Int) + 1 = ((i + 1 : Nat) : Int) by omega)), by omega, by omega, HW10, HO10, HB10, HSE10, ⟨fun n hn => HV10.out _ (HF9.out n hn)⟩, ⟨(HS10.out.members free _ _ _ _).trans HX6.out⟩⟩
          · have e0 : (((putF free st2 [44]).e : Int) != 0) = true := by
              have : ¬ ((putF free st2 [44]).e : Int) = 0 := by omega
              simp only [bne_iff_ne, ne_eq]
              exact this
            have HER := Aside0.mk he
            clear he
            go_wp2_with (first | (go_at_call 52; (with_reducible refine (put_calls Wd free st2 sl3 ⟨#[44]⟩ _ ?rm5 ?wr5).mono ?_); (case rm5 => exact HR5.out); (case wr5 => exact HW3.out); rintro e w5 ⟨rfl, sl5, hw, ho⟩; have HW5 := Aside0.mk hw; have HO5 := Aside0.mk ho; clear hw ho; have HO35 := Aside0.mk (HO3.out.trans HO5.out); have HB5 := Aside0.mk (HW3.out.keepT HO5.out HB3.out (by decide) (by decide)); have HSE5 := Aside0.mk (HW3.out.keepM HO5.out HSE3.out); have HG5 := Aside0.mk (HG.out.on HO35.out); have x2 : w5.cell? ⟨Wd, 2, none⟩ = some (.int .i64 (putF free st2 [44]).e) := (blk_cell HW5.out.blk 2).trans rfl))
            (try simp only [Exit.inBlock, Exit.then])
            refine ⟨rfl, .tuple #[], results_none rfl _ _ _, ?_⟩
            exact VEnds.of (Below.refl _ _) HL.out HO35.out HW5.out (HX5.out.over (mW_A H5.out HER.out) HER.out) (fun n hn => (HF6.out n hn).less (by omega))
    · have p2 : ((i : Int) < (ns.length : Int)) = False := eq_false (by omega)
      have hie : ns.drop i = [] := List.drop_eq_nil_of_le (by omega)
      have hie2 : ys.drop i = [] := List.drop_eq_nil_of_le (by have := HNY.out; omega)
      have HX5 := Aside0.mk (show Sm canon st2 (membersW free (valW free canon r) [] 0 ns ys (putF free st [123])) from by have := HX3.out; rw [hie, hie2] at this; exact this)
      have HF5 := Aside0.mk (show ∀ n, Fit free st (wt + n) → Fit free st2 (1 + n) from fun n hn => (HF3.out n hn).less (by omega))
      clear hie hie2 HX3 HF3
      go_wp2_with (go_at_call 52; (with_reducible refine (put_calls Wd free st2 sl3 ⟨#[125]⟩ _ ?rm9 ?wr9).mono ?_); (case rm9 => exact (HF5.out 0 HF.out).room (m := 1) (by omega) (by omega)); (case wr9 => exact HW3.out); rintro e w9 ⟨rfl, sl9, hw, ho⟩; have HW9 := Aside0.mk hw; have HO9 := Aside0.mk ho; clear hw ho)
      (try simp only [Exit.inBlock, Exit.then])
      refine ⟨rfl, .tuple #[], results_none rfl _ _ _, ?_⟩
      exact VEnds.of (Below.refl _ _) HL.out (HO3.out.trans HO9.out) HW9.out (HX5.out.put free [125]) (fun n hn => (HF5.out n hn).put [125] (by rw [List.length_singleton]; omega))
end Go.Proofs.YtaalajhmfdcalaaDoor.X
namespace Go.Proofs.YtaalajhmfdcalaaDoor.X
open Go.RowKit Go.Lib Go.Proofs.YtaalajhmfdcalaaDoorW.PrintWords Go.Proofs.YtaalajhmfdcalaaDoorW.PrintLast Go.Proofs.YtaalajhmfdcalaaDoorW.PrintMore
def SortedOK : Prop :=
  ∀ (W : World) (ok : Nat → Prop) (A2 A3 : Option Addr) (c2 c3 : Nat) (ns : List ByteArray) (ys : List J), ns.length = ys.length → ns.length ≤ 1000000 → Kd.F Kd.string W ok A2 ns.length ns → ns.length ≤ c2 → Kd.F k25 W ok A3 ys.length ys → ys.length ≤ c3 →
    Calls Tryd.prog 54 #[.agg #[.slice A2 ns.length c2, .slice A3 ys.length c3]] W fun x W' =>
      ∃ (B2 B3 : Option Addr) (k2 k3 : Nat) (ns' : List ByteArray) (ys' : List J), x = .returned (.agg #[.slice B2 ns'.length k2, .slice B3 ys'.length k3]) ∧ Below W.heap.size W W' ∧ ns'.length = ys'.length ∧ ns'.length ≤ k2 ∧ ys'.length ≤ k3 ∧ (ns'.zip ys').Perm (ns.zip ys) ∧
        (ns.Nodup → ns' = namesOf true ns ys ∧ ys' = itemsOf true ns ys) ∧ Kd.F Kd.string W' (fun k => ok k ∨ W.heap.size ≤ k) B2 ns'.length ns' ∧ Kd.F k25 W' (fun k => ok k ∨ W.heap.size ≤ k) B3 ys'.length ys'
theorem insF_perm (x : ByteArray × J) : ∀ l, (insF x l).Perm (x :: l)
  | [] => .refl _
  | y :: l => by
    unfold insF
    split
    · exact ((insF_perm x l).cons y).trans (.swap _ _ _)
    · exact .refl _
theorem sortF_perm' : ∀ (l a : List (ByteArray × J)), (l.foldl (fun a x => insF x a) a).Perm (a ++ l)
  | [], a => by simp
  | x :: l, a => by
    refine (sortF_perm' l (insF x a)).trans (((insF_perm x a).append_right l).trans ?_)
    simp only [List.cons_append]
    exact List.perm_middle.symm
theorem sortF_perm (l : List (ByteArray × J)) : (sortF l).Perm l := by
  have := sortF_perm' l []
  simpa [sortF] using this
theorem map_fst_zip {ns : List ByteArray} {ys : List J} (h : ns.length = ys.length) : (ns.zip ys).map Prod.fst = ns := List.map_fst_zip (by omega)
theorem map_snd_zip {ns : List ByteArray} {ys : List J} (h : ns.length = ys.length) : (ns.zip ys).map Prod.snd = ys := List.map_snd_zip (by omega)
theorem namesOf_len {ns : List ByteArray} {ys : List J} (c : Bool) (h : ns.length = ys.length) : (namesOf c ns ys).length = (itemsOf c ns ys).length := by
  cases c with
  | false => exact h
  | true => simp [namesOf, itemsOf]
theorem namesOf_perm {ns : List ByteArray} {ys : List J} (h : ns.length = ys.length) : (namesOf true ns ys).Perm ns := by
  have := (sortF_perm (ns.zip ys)).map Prod.fst
  rw [map_fst_zip h] at this
  exact this
theorem order_any (free : Bool) {one : J → St → St} (ho : Quits one) {ns ns' : List ByteArray} {ys ys' : List J} (a : St) (h : ns.length = ys.length) (h' : ns'.length = ys'.length) (hp : (ns'.zip ys').Perm (ns.zip ys)) (hn : ns.Nodup → ns' = namesOf true ns ys ∧ ys' = itemsOf true ns ys) :
    Sm true (putF free (membersW free one [] 0 ns' ys' a) [125]) (putF free (membersW free one [] 0 (namesOf true ns ys) (itemsOf true ns ys) a) [125]) := by
  by_cases hd : ns.Nodup
  · obtain ⟨h1, h2⟩ := hn hd
    rw [h1, h2]
    exact Sm.refl _ _
  · have p1 : ns'.Perm ns := by
      have := hp.map Prod.fst
      rw [map_fst_zip h, map_fst_zip h'] at this
      exact this
    have e1 := membersW_twice free ho ns' ys' [] 0 a h' List.nodup_nil (fun hh => hd (p1.nodup_iff.1 hh))
    have e2 := membersW_twice free ho (namesOf true ns ys) (itemsOf true ns ys) [] 0 a (namesOf_len true h) List.nodup_nil (fun hh => hd ((namesOf_perm h).nodup_iff.1 hh))
    rw [putF_bad _ _ _ e1, putF_bad _ _ _ e2]
    exact .inr ⟨rfl, e1, e2⟩
theorem VEnds.from {Wd : Nat} {free canon : Bool} {st tg tg' : St} {sl : Value} {W w0 w1 : World} {wt : Nat} {x : Ending} (h : VEnds Wd free canon st sl w0 wt tg' x w1) (hb : Below W.heap.size W w0) (hW : Wd ≤ W.heap.size) (hs : Sm canon tg' tg) : VEnds Wd free canon st sl W wt tg x w1 := by
  obtain ⟨rfl, st', sl', h1, h2, h3, h4⟩ := h
  exact VEnds.of hb hW h4 h3 (h1.trans hs) h2
set_option maxRecDepth 1000000 in
set_option maxHeartbeats 4000000 in
theorem value_obj (Wd : Nat) (free : Bool) (st : St) (sl : Value) (d : Int) (f1 : ByteArray) (A2 A3 : Option Addr) (n2 c2 n3 c3 : Nat) (W : World) (wt : Nat) (h : Wr Wd free st sl W) (l2 : List ByteArray) (l3 : List J) (hn2 : n2 = l2.length) (hn3 : n3 = l3.length) (hny : l2.length = l3.length) (r : Nat) (he : st.e = 0) (h1 : ¬ (32 : Int) < d) (h2 : ¬ (32 : Int) ≤ d) (hok : nodeOK 6 f1 n2 n3 = true) (hG : Gl Wd W) (hwt : wtN l2 + wtI r l3 + 2 ≤ wt) (hfit : Fit free st wt) (hsn : ∀ s, s ∈ l2 → s.size ≤ 288230376151711743) (hsm : ∀ y, y ∈ l3 → SmJ r y) (hln : false = true → l3.length ≤ 1000000 ∧ ∀ y, y ∈ l3 → LnJ r y) (hF2 : Kd.F Kd.string W (okW Wd sl) A2 n2 l2) (hc2 : n2 ≤ c2) (hF3 : Kd.F k25 W (okW Wd sl) A3 n3 l3) (hc3 : n3 ≤ c3) (IH : WOK free false r (wrap64 (d + 1))) :
    Calls Tryd.prog 33 #[ptr Wd, jVal 6 f1 A2 A3 n2 c2 n3 c3, .int .i64 d, .bool false] W (VEnds Wd free false st sl W wt (putF free (membersW free (valW free false r) [] 0 l2 l3 (putF free st [123])) [125])) := by
  have H := Aside0.mk h
  have HL := Aside0.mk (Nat.le_of_lt h.lt)
  have cw2 : ∀ o : Obj, (W.alloc o).cell? ⟨Wd, 2, none⟩ = some (.int .i64 st.e) := fun o => (World.cell?_of_block (Below.block (below_alloc (Below.refl _ _) o) _ h.lt)).trans ((blk_cell h.blk 2).trans rfl)
  clear h
  have e0 : ((st.e : Int) != 0) = false := by rw [he]; rfl
  subst hn2
  subst hn3
  have b1 : decide ((32 : Int) < d) = false := decide_eq_false h1
  have b2 : decide ((32 : Int) ≤ d) = false := decide_eq_false h2
  have HOK := Aside0.mk hok
  have HG := Aside0.mk hG
  have HF := Aside0.mk hfit
  have HSN := Aside0.mk hsn
  have HS := Aside0.mk hsm
  have HLN := Aside0.mk hln
  have HX2 := Aside0.mk hF2
  have HX := Aside0.mk hF3
  have HI := Aside0.mk IH
  have HNY := Aside0.mk hny
  clear he hok hG hfit hsn hsm hln hF2 hF3 IH hny
  have ta := is_84
  have tb := no_84_78
  have tc := no_84_80
  have td := no_84_82
  go_enter Tryd.func33, Tryd.ntmps33
  go_wp2_with (first | (go_at_call 51; (with_reducible refine (node_yes6 f1 A2 A3 l2.length c2 l3.length c3 _ HOK.out).mono ?_); rintro e w1 ⟨rfl, hb⟩; have HB1 := Aside0.mk (show Below W.heap.size W w1 from below_step (by repeat (first | exact Below.refl _ _ | apply below_drewN | apply below_drew1 | apply below_alloc)) hb); clear hb) | (go_at_call 55; (with_reducible refine (members_calls Wd free false st sl d A2 A3 c2 c3 _ wt l2 l3 HNY.out r ?wm ?gm hwt HF.out HSN.out HS.out (fun h => by cases h) ?f2 hc2 ?f3 hc3 HI.out).mono ?_); (case wm => exact H.out.below (by repeat (first | exact HB1.out | exact Below.refl _ _ | apply below_drewN | apply below_drew1 | apply below_alloc | refine below_set ?_ HB1.out.size))); (case gm => exact HG.out.below (by repeat (first | exact HB1.out | exact Below.refl _ _ | apply below_drewN | apply below_drew1 | apply below_alloc | refine below_set ?_ HB1.out.size)) HL.out); (case f2 => exact Kd.F_below HX2.out (by repeat (first | exact HB1.out | exact Below.refl _ _ | apply below_drewN | apply below_drew1 | apply below_alloc | refine below_set ?_ HB1.out.size))); (case f3 => exact Kd.F_below HX.out (by repeat (first | exact HB1.out | exact Below.refl _ _ | apply below_drewN | apply below_drew1 | apply below_alloc | refine below_set ?_ HB1.out.size))); intro e w9 hv; have HV := Aside0.mk hv; obtain ⟨rfl, _⟩ := hv))
  (try simp only [Exit.inBlock, Exit.then])
  refine ⟨rfl, .tuple #[], results_none rfl _ _ _, ?_⟩
  exact VEnds.from HV.out (by repeat (first | exact HB1.out | exact Below.refl _ _ | apply below_drewN | apply below_drew1 | apply below_alloc | refine below_set ?_ HB1.out.size)) HL.out (Sm.refl _ _)
theorem far_obj {α : Type} {dd : Kd α} {Wd n : Nat} {free : Bool} {st : St} {sl : Value} {W w1 w2 : World} {o : Obj} {A : Option Addr} {xs : List α} (h : Wr Wd free st sl W) (hs : W.heap.size ≤ w1.heap.size) (hf : Kd.F dd w2 (fun k => (okW Wd sl k ∧ k < w1.heap.size) ∨ (w1.alloc o).heap.size ≤ k) A n xs) (u v : Value) :
    Kd.F dd ((w2.setCell ⟨w1.heap.size, 0, none⟩ u).setCell ⟨w1.heap.size, 1, none⟩ v) (okW Wd sl) A n xs := by
  have hne : ∀ k, ((okW Wd sl k ∧ k < w1.heap.size) ∨ (w1.alloc o).heap.size ≤ k) → k ≠ w1.heap.size := by
    rintro k (⟨_, hk⟩ | hk)
    · omega
    · rw [World.size_alloc] at hk; omega
  refine Kd.F_mono (Kd.F_far (p := ⟨w1.heap.size, 1, none⟩) (Kd.F_far (p := ⟨w1.heap.size, 0, none⟩) hf hne _) hne _) ?_
  rintro k (⟨hk, _⟩ | hk)
  · exact hk
  · rw [World.size_alloc] at hk
    exact ⟨by have := h.lt; omega, fun hh => by have := (h.own.lt k hh.symm).2; omega⟩
theorem perm_names {P : ByteArray → Prop} {ns ns' : List ByteArray} {ys ys' : List J} (h : ∀ s, s ∈ ns → P s) (h1 : ns.length = ys.length) (h2 : ns'.length = ys'.length) (hp : (ns'.zip ys').Perm (ns.zip ys)) : ∀ s, s ∈ ns' → P s := by
  have := hp.map Prod.fst
  rw [map_fst_zip h1, map_fst_zip h2] at this
  exact fun s hs => h s (this.mem_iff.1 hs)
theorem perm_items {P : J → Prop} {ns ns' : List ByteArray} {ys ys' : List J} (h : ∀ y, y ∈ ys → P y) (h1 : ns.length = ys.length) (h2 : ns'.length = ys'.length) (hp : (ns'.zip ys').Perm (ns.zip ys)) : ∀ y, y ∈ ys' → P y := by
  have := hp.map Prod.snd
  rw [map_snd_zip h1, map_snd_zip h2] at this
  exact fun s hs => h s (this.mem_iff.1 hs)
theorem perm_sum {a b : List Nat} (h : a.Perm b) : a.sum = b.sum := by
  induction h with
  | nil => rfl
  | cons x _ ih => simp [ih]
  | swap x y l => simp only [List.sum_cons]; omega
  | trans _ _ h1 h2 => exact h1.trans h2
theorem perm_wt (r : Nat) {ns ns' : List ByteArray} {ys ys' : List J} (h1 : ns.length = ys.length) (h2 : ns'.length = ys'.length) (hp : (ns'.zip ys').Perm (ns.zip ys)) : wtN ns' + wtI r ys' + 2 = wtN ns + wtI r ys + 2 := by
  have a := hp.map Prod.fst
  have b := hp.map Prod.snd
  rw [map_fst_zip h1, map_fst_zip h2] at a
  rw [map_snd_zip h1, map_snd_zip h2] at b
  have c : wtN ns' = wtN ns := perm_sum (a.map _)
  have d : wtI r ys' = wtI r ys := perm_sum (b.map _)
  rw [c, d]
set_option maxRecDepth 1000000 in
set_option maxHeartbeats 4000000 in
theorem value_objC (Wd : Nat) (free : Bool) (st : St) (sl : Value) (d : Int) (f1 : ByteArray) (A2 A3 : Option Addr) (n2 c2 n3 c3 : Nat) (W : World) (wt : Nat) (h : Wr Wd free st sl W) (l2 : List ByteArray) (l3 : List J) (hn2 : n2 = l2.length) (hn3 : n3 = l3.length) (hny : l2.length = l3.length) (r : Nat) (he : st.e = 0) (h1 : ¬ (32 : Int) < d) (h2 : ¬ (32 : Int) ≤ d) (hok : nodeOK 6 f1 n2 n3 = true) (hG : Gl Wd W) (hwt : wtN l2 + wtI r l3 + 2 ≤ wt) (hfit : Fit free st wt) (hsn : ∀ s, s ∈ l2 → s.size ≤ 288230376151711743) (hsm : ∀ y, y ∈ l3 → SmJ r y) (hln : true = true → l3.length ≤ 1000000 ∧ ∀ y, y ∈ l3 → LnJ r y) (hF2 : Kd.F Kd.string W (okW Wd sl) A2 n2 l2) (hc2 : n2 ≤ c2) (hF3 : Kd.F k25 W (okW Wd sl) A3 n3 l3) (hc3 : n3 ≤ c3) (IH : WOK free true r (wrap64 (d + 1))) (hso : SortedOK) :
    Calls Tryd.prog 33 #[ptr Wd, jVal 6 f1 A2 A3 n2 c2 n3 c3, .int .i64 d, .bool true] W (VEnds Wd free true st sl W wt (putF free (membersW free (valW free true r) [] 0 (namesOf true l2 l3) (itemsOf true l2 l3) (putF free st [123])) [125])) := by
  have H := Aside0.mk h
  have HL := Aside0.mk (Nat.le_of_lt h.lt)
  have cw2 : ∀ o : Obj, (W.alloc o).cell? ⟨Wd, 2, none⟩ = some (.int .i64 st.e) := fun o => (World.cell?_of_block (Below.block (below_alloc (Below.refl _ _) o) _ h.lt)).trans ((blk_cell h.blk 2).trans rfl)
  clear h
  have e0 : ((st.e : Int) != 0) = false := by rw [he]; rfl
  subst hn2
  subst hn3
  have b1 : decide ((32 : Int) < d) = false := decide_eq_false h1
  have b2 : decide ((32 : Int) ≤ d) = false := decide_eq_false h2
  have HOK := Aside0.mk hok
  have HG := Aside0.mk hG
  have HF := Aside0.mk hfit
  have HSN := Aside0.mk hsn
  have HS := Aside0.mk hsm
  have HLN := Aside0.mk hln
  have HX2 := Aside0.mk hF2
  have HX := Aside0.mk hF3
  have HI := Aside0.mk IH
  have HNY := Aside0.mk hny
  clear he hok hG hfit hsn hsm hln hF2 hF3 IH hny
  have ta := is_84
  have tb := no_84_78
  have tc := no_84_80
  have td := no_84_82
  unfold SortedOK at hso
  have HSO := Aside0.mk hso
  clear hso
  go_enter Tryd.func33, Tryd.ntmps33
  go_wp2_with (first | (go_at_call 51; (with_reducible refine (node_yes6 f1 A2 A3 l2.length c2 l3.length c3 _ HOK.out).mono ?_); rintro e w1 ⟨rfl, hb⟩; have HB1 := Aside0.mk (show Below W.heap.size W w1 from below_step (by repeat (first | exact Below.refl _ _ | apply below_drewN | apply below_drew1 | apply below_alloc)) hb); clear hb) | (go_at_call 54; (with_reducible refine (HSO.out _ (fun k => okW Wd sl k ∧ k < w1.heap.size) A2 A3 c2 c3 l2 l3 HNY.out ?ln ?f2 hc2 ?f3 hc3).mono ?_); (case ln => rw [HNY.out]; exact (HLN.out (by first | rfl | trivial)).1); (case f2 => exact Kd.F_alloc (Kd.F_mono (Kd.F_bound (Kd.F_below HX2.out HB1.out)) (fun _ hk => hk)) _); (case f3 => exact Kd.F_alloc (Kd.F_mono (Kd.F_bound (Kd.F_below HX.out HB1.out)) (fun _ hk => hk)) _); rintro e w2 ⟨B2, B3, k2, k3, ns', ys', rfl, hb2, hl', hk2, hk3, hp, hnd, hf2, hf3⟩; have HB2 := Aside0.mk hb2; have HP := Aside0.mk hp; have HND := Aside0.mk hnd; have HF2 := Aside0.mk hf2; have HF3 := Aside0.mk hf3; have HL' := Aside0.mk hl'; have BK := Aside0.mk ((hb2.block w1.heap.size (by rw [World.size_alloc]; omega)).trans (heap_alloc_new w1 (.cells #[.slice A2 l2.length c2, .slice A3 l3.length c3] 84))); have y0 : w2.cell? ⟨w1.heap.size, 0, none⟩ = some (.slice A2 l2.length c2) := (blk_cell BK.out 0).trans rfl; have y1 : w2.cell? ⟨w1.heap.size, 1, none⟩ = some (.slice A3 l3.length c3) := (blk_cell BK.out 1).trans rfl; have z0 := blk_free BK.out 0; have z1 := blk_free BK.out 1; have HK2 := Aside0.mk hk2; have HK3 := Aside0.mk hk3; have HSN' := Aside0.mk (perm_names HSN.out HNY.out hl' hp); have HS' := Aside0.mk (perm_items HS.out HNY.out hl' hp); have HLN' := Aside0.mk (show true = true → ∀ y, y ∈ ys' → LnJ r y from fun _ => perm_items (HLN.out (by first | rfl | trivial)).2 HNY.out hl' hp); have HWN := Aside0.mk (perm_wt r HNY.out hl' hp); clear hk2 hk3 hb2 hp hnd hf2 hf3 hl') | (go_at_call 55; (with_reducible refine (members_calls Wd free true st sl d B2 B3 k2 k3 _ wt ns' ys' HL'.out r ?wm ?gm (by rw [HWN.out]; exact hwt) HF.out HSN'.out HS'.out (fun _ => HLN'.out (by first | rfl | trivial)) ?f2 HK2.out ?f3 HK3.out HI.out).mono ?_); (case wm => exact H.out.below (below_set (below_set (below_step (below_alloc HB1.out _) HB2.out) HB1.out.size) HB1.out.size)); (case gm => exact HG.out.below (below_set (below_set (below_step (below_alloc HB1.out _) HB2.out) HB1.out.size) HB1.out.size) HL.out); (case f2 => exact far_obj H.out HB1.out.size HF2.out _ _); (case f3 => exact far_obj H.out HB1.out.size HF3.out _ _); intro e w9 hv; have HV := Aside0.mk hv; obtain ⟨rfl, _⟩ := hv))
  (try simp only [Exit.inBlock, Exit.then])
  refine ⟨rfl, .tuple #[], results_none rfl _ _ _, ?_⟩
  exact VEnds.from HV.out (below_set (below_set (below_step (below_alloc HB1.out _) HB2.out) HB1.out.size) HB1.out.size) HL.out (order_any free (fun y st h => valW_bad free true r y st h) _ HNY.out HL'.out HP.out HND.out)
theorem nodeOK_plain {f0 : Int} {f1 : ByteArray} {n2 n3 : Nat} (h : nodeOK f0 f1 n2 n3 = true) (h5 : ¬ f0 = 5) (h6 : ¬ f0 = 6) : f0 = 0 ∨ f0 = 1 ∨ f0 = 2 ∨ f0 = 3 ∨ f0 = 4 := by
  by_cases h0 : f0 = 0
  · exact .inl h0
  by_cases h1 : f0 = 1
  · exact .inr (.inl h1)
  by_cases h2 : f0 = 2
  · exact .inr (.inr (.inl h2))
  by_cases h3 : f0 = 3
  · exact .inr (.inr (.inr (.inl h3)))
  by_cases h4 : f0 = 4
  · exact .inr (.inr (.inr (.inr h4)))
  exfalso
  unfold nodeOK at h
  simp [h0, h1, h2, h3, h4, h5, h6] at h
theorem valW_plain (free canon : Bool) (r : Nat) (v : J) (st : St) (he : st.e = 0) (h5 : ¬ v.f0 = 5) (h6 : ¬ v.f0 = 6) :
    valW free canon r v st = if nodeOK v.f0 v.f1 v.f2.length v.f3.length = false then ⟨st.out, 47⟩ else if v.f0 = 3 then putF free st v.f1.data.toList else if v.f0 = 4 then putsF free st (quoteB v.f1) else putF free st (wordB v.f0.toNat).data.toList := by
  cases r with
  | zero => rw [valW, if_neg (by simp [he]), if_neg (by simp [h5, h6])]
  | succ r => rw [valW, if_neg (by simp [he])]; split <;> first | rfl | rw [if_neg h5, if_neg h6]
theorem plain_ok (free canon : Bool) (r : Nat) (d : Int) (hd : ¬ (32 : Int) < d) (Wd : Nat) (st : St) (sl : Value) (W : World) (v : J) (A2 A3 : Option Addr) (c2 c3 : Nat) (h : Wr Wd free st sl W) (hfit : Fit free st (wtJ r v)) (hz : v.f1.size ≤ 288230376151711743) (hG : Gl Wd W) (he : st.e = 0) (h5 : ¬ v.f0 = 5) (h6 : ¬ v.f0 = 6) :
    Calls Tryd.prog 33 #[ptr Wd, jVal v.f0 v.f1 A2 A3 v.f2.length c2 v.f3.length c3, .int .i64 d, .bool canon] W (VEnds Wd free canon st sl W (wtJ r v) (valW free canon r v st)) := by
  rw [valW_plain free canon r v st he h5 h6]
  have hw := wtJ_text r v
  cases hok : nodeOK v.f0 v.f1 v.f2.length v.f3.length with
  | false => rw [if_pos rfl]; exact value_nodeX Wd free canon st sl d v.f0 v.f1 A2 A3 _ c2 _ c3 W _ h he hd h5 h6 (by omega) hok hG
  | true =>
    rw [if_neg (by decide)]
    rcases nodeOK_plain hok h5 h6 with h0 | h0 | h0 | h0 | h0
    · rw [h0] at hok ⊢
      exact value_word0 Wd free canon st sl d v.f1 A2 A3 _ c2 _ c3 W _ h he hd hok hG (hfit.room (m := (wordB 0).size) (by show 4 ≤ _; omega) (by decide)) (by show 4 ≤ _; omega)
    · rw [h0] at hok ⊢
      exact value_word1 Wd free canon st sl d v.f1 A2 A3 _ c2 _ c3 W _ h he hd hok hG (hfit.room (m := (wordB 1).size) (by show 5 ≤ _; omega) (by decide)) (by show 5 ≤ _; omega)
    · rw [h0] at hok ⊢
      exact value_word2 Wd free canon st sl d v.f1 A2 A3 _ c2 _ c3 W _ h he hd hok hG (hfit.room (m := (wordB 2).size) (by show 4 ≤ _; omega) (by decide)) (by show 4 ≤ _; omega)
    · rw [h0] at hok ⊢
      exact value_word3 Wd free canon st sl d v.f1 A2 A3 _ c2 _ c3 W _ h he hd (by omega) hok hG (hfit.room (m := v.f1.size) (by omega) (by omega)) (by omega)
    · rw [h0] at hok ⊢
      exact value_text Wd free canon st sl d v.f1 A2 A3 _ c2 _ c3 W _ h he hd (by omega) hok hG hz (hfit.room (m := 12 * v.f1.size + 14) (by omega) (by omega)) (by omega)
theorem valW_succ (free canon : Bool) (r : Nat) (v : J) (st : St) (he : st.e = 0) : valW free canon (r + 1) v st =
    if nodeOK v.f0 v.f1 v.f2.length v.f3.length = false then ⟨st.out, 47⟩
    else if v.f0 = 5 then putF free (itemsW free (valW free canon r) 0 v.f3 (putF free st [91])) [93]
    else if v.f0 = 6 then putF free (membersW free (valW free canon r) [] 0 (namesOf canon v.f2 v.f3) (itemsOf canon v.f2 v.f3) (putF free st [123])) [125]
    else if v.f0 = 3 then putF free st v.f1.data.toList
    else if v.f0 = 4 then putsF free st (quoteB v.f1)
    else putF free st (wordB v.f0.toNat).data.toList := by
  rw [valW, if_neg (by simp [he])]
theorem node6_len {f1 : ByteArray} {n2 n3 : Nat} (h : nodeOK 6 f1 n2 n3 = true) : n2 = n3 := by
  unfold nodeOK at h
  simp at h
  exact h.2
theorem wvalue_ok (free canon : Bool) (hso : canon = true → SortedOK) : ∀ r, r ≤ 32 → WOK free canon r (32 - (r : Int))
  | 0, _ => by
    intro Wd st sl W v A2 A3 c2 c3 h hfit hsm _ hF2 hc2 hF3 hc3 hG
    by_cases he : st.e = 0
    · by_cases h5 : v.f0 = 5
      · rw [valW, if_neg (by simp [he]), if_pos (.inl h5), h5]
        exact value_deep5 Wd free canon st sl _ v.f1 A2 A3 _ c2 _ c3 W _ h he (by decide) (by decide)
      · by_cases h6 : v.f0 = 6
        · rw [valW, if_neg (by simp [he]), if_pos (.inr h6), h6]
          exact value_deep6 Wd free canon st sl _ v.f1 A2 A3 _ c2 _ c3 W _ h he (by decide) (by decide)
        · exact plain_ok free canon 0 _ (by decide) Wd st sl W v A2 A3 c2 c3 h hfit hsm.text hG he h5 h6
    · rw [valW_bad _ _ _ _ _ he]
      exact value_bad Wd free canon st sl _ v.f0 v.f1 A2 A3 _ c2 _ c3 W _ h he
  | r + 1, hr => by
    have IH := wvalue_ok free canon hso r (by omega)
    have ed : wrap64 ((32 - ((r + 1 : Nat) : Int)) + 1) = 32 - (r : Int) := by unfold wrap64; omega
    rw [← ed] at IH
    intro Wd st sl W v A2 A3 c2 c3 h hfit hsm hln hF2 hc2 hF3 hc3 hG
    have hd1 : ¬ (32 : Int) < 32 - ((r + 1 : Nat) : Int) := by omega
    have hd2 : ¬ (32 : Int) ≤ 32 - ((r + 1 : Nat) : Int) := by omega
    have hw : wtJ (r + 1) v = 12 * v.f1.size + 16 + wtN v.f2 + wtI r v.f3 := by rw [wtJ, wtN, wtI]
    obtain ⟨hz, hsn, hsy⟩ := (show v.f1.size ≤ 288230376151711743 ∧ (∀ s, s ∈ v.f2 → s.size ≤ 288230376151711743) ∧ ∀ y, y ∈ v.f3 → SmJ r y from hsm)
    by_cases he : st.e = 0
    · by_cases h5 : v.f0 = 5
      · rw [valW_succ free canon r v st he]
        rw [h5]
        cases hok : nodeOK 5 v.f1 v.f2.length v.f3.length with
        | false => rw [if_pos rfl]; exact value_node5 Wd free canon st sl _ v.f1 A2 A3 _ c2 _ c3 W _ h he hd1 hd2 (by omega) hok hG
        | true =>
          rw [if_neg (by decide), if_pos rfl]
          exact value_list Wd free canon st sl _ v.f1 A2 A3 _ c2 _ c3 W _ h v.f3 rfl r he hd1 hd2 hok hG (by omega) hfit hsy (fun hc => (show v.f3.length ≤ 1000000 ∧ ∀ y, y ∈ v.f3 → LnJ r y from hln hc).2) hF3 hc3 IH
      · by_cases h6 : v.f0 = 6
        · rw [valW_succ free canon r v st he]
          rw [h6]
          cases hok : nodeOK 6 v.f1 v.f2.length v.f3.length with
          | false => rw [if_pos rfl]; exact value_node6 Wd free canon st sl _ v.f1 A2 A3 _ c2 _ c3 W _ h he hd1 hd2 (by omega) hok hG
          | true =>
            rw [if_neg (by decide), if_neg (by decide), if_pos rfl]
            cases canon with
            | false => exact value_obj Wd free st sl _ v.f1 A2 A3 _ c2 _ c3 W _ h v.f2 v.f3 rfl rfl (node6_len hok) r he hd1 hd2 hok hG (by omega) hfit hsn hsy (fun hc => by cases hc) hF2 hc2 hF3 hc3 IH
            | true => exact value_objC Wd free st sl _ v.f1 A2 A3 _ c2 _ c3 W _ h v.f2 v.f3 rfl rfl (node6_len hok) r he hd1 hd2 hok hG (by omega) hfit hsn hsy (fun hc => hln hc) hF2 hc2 hF3 hc3 IH (hso rfl)
        · exact plain_ok free canon (r + 1) _ hd1 Wd st sl W v A2 A3 c2 c3 h hfit hz hG he h5 h6
    · rw [valW_bad _ _ _ _ _ he]
      exact value_bad Wd free canon st sl _ v.f0 v.f1 A2 A3 _ c2 _ c3 W _ h he
end Go.Proofs.YtaalajhmfdcalaaDoor.X
namespace Go.Proofs.YtaalajhmfdcalaaDoor.X
open Go.RowKit Go.Lib Go.Proofs.YtaalajhmfdcalaaDoorW.PrintWords Go.Proofs.YtaalajhmfdcalaaDoorW.PrintLast Go.Proofs.YtaalajhmfdcalaaDoorW.PrintMore
theorem heap25 : Kd.Heap k25 := Kd.heap_fix (fun _ hd => Kd.heap_iso _ (Kd.heap_pair (Kd.heap_int _) (Kd.heap_pair Kd.heap_string (Kd.heap_pair (Kd.heap_slice 9 Kd.heap_string) (Kd.heap_slice 25 hd)))))
def printS (v : J) : St := valW false false 32 v ⟨[], 0⟩
def printB (v : J) : ByteArray := if (printS v).e = 0 then bs (printS v).out else ⟨#[]⟩
theorem wr_new (free : Bool) (W : World) : Wr W.heap.size free ⟨[], 0⟩ (.slice none 0 0) (W.alloc (.cells #[.slice none 0 0, .bool free, .int .i64 0] 60)) :=
  ⟨heap_alloc_new W _, Own.nil _ _ (by rw [World.size_alloc]; omega)⟩
theorem fit_new (n : Nat) : Fit false ⟨[], 0⟩ n := ⟨(fun h => by cases h), (fun _ => by decide)⟩
set_option maxRecDepth 1000000 in
set_option maxHeartbeats 4000000 in
theorem print_calls (f0 : Int) (f1 : ByteArray) (l2 : List ByteArray) (l3 : List J) (A2 A3 : Option Addr) (c2 c3 : Nat) (W : World) (hsm : SmJ 32 ⟨f0, f1, l2, l3⟩) (hC2 : Kd.string.C W A2 l2.length l2) (hc2 : l2.length ≤ c2) (hC3 : k25.C W A3 l3.length l3) (hc3 : l3.length ≤ c3) (hG : GLw W) (hT : Tabs W) :
    Calls Tryd.prog 17 #[jVal f0 f1 A2 A3 l2.length c2 l3.length c3] W fun x W' => x = .returned (.tuple #[.string (printB ⟨f0, f1, l2, l3⟩), .int .i64 (printS ⟨f0, f1, l2, l3⟩).e]) ∧ Below W.heap.size W W' := by
  have hvo := wvalue_ok false false (fun h => by cases h) 32 (Nat.le_refl _)
  rw [show (32 : Int) - ((32 : Nat) : Int) = 0 by decide] at hvo
  have hval := fun (b : Obj) => hvo (W.alloc b).heap.size ⟨[], 0⟩ (.slice none 0 0) ((W.alloc b).alloc (.cells #[.slice none 0 0, .bool false, .int .i64 0] 60)) ⟨f0, f1, l2, l3⟩ A2 A3 c2 c3 (wr_new false _) (fit_new _) hsm (fun h => by cases h)
    (Kd.F_alloc (Kd.F_alloc (Kd.F_mono (Kd.C_F Kd.heap_string hC2) (fun k hk => ⟨by rw [World.size_alloc]; omega, by simp [Value.ownBlock]⟩)) b) _) hc2
    (Kd.F_alloc (Kd.F_alloc (Kd.F_mono (Kd.C_F heap25 hC3) (fun k hk => ⟨by rw [World.size_alloc]; omega, by simp [Value.ownBlock]⟩)) b) _) hc3
    (fun W' hb => have hb' : Below W.heap.size W W' := (below_alloc (below_alloc (Below.refl _ _) b) _).trans (hb.mono (by rw [World.size_alloc]; omega)); ⟨hG.below hb', hT.bel hb'⟩)
  simp only [World.size_alloc] at hval
  have HV := Aside0.mk hval
  clear hvo hval hsm hC2 hC3 hG hT hc2 hc3
  have HS := Aside0.mk (show printS ⟨f0, f1, l2, l3⟩ = valW false false 32 ⟨f0, f1, l2, l3⟩ ⟨[], 0⟩ from rfl)
  have HPB := Aside0.mk (show printB ⟨f0, f1, l2, l3⟩ = if (printS ⟨f0, f1, l2, l3⟩).e = 0 then bs (printS ⟨f0, f1, l2, l3⟩).out else ⟨#[]⟩ from rfl)
  generalize printS ⟨f0, f1, l2, l3⟩ = ps at *
  generalize printB ⟨f0, f1, l2, l3⟩ = pb at *
  by_cases he : ps.e = 0
  · have e0 : ((ps.e : Int) != 0) = false := by rw [he]; rfl
    have HP := Aside0.mk (show pb = bs ps.out by rw [HPB.out, if_pos he])
    have HE := Aside0.mk he
    clear he
    go_enter Tryd.func17, Tryd.ntmps17
    go_wp2_with (go_at_call 33; (with_reducible refine (HV.out _).mono ?_); rintro e w1 ⟨rfl, st1, sl1, hs, _, hw, ho⟩; have hs' := hs.eq; rw [← HS.out] at hs'; subst hs'; have c2' := (blk_cell hw.blk 2).trans rfl; have c0' := (blk_cell hw.blk 0).trans rfl; have hcv := own_string hw.own; have HB := Aside0.mk (show Below W.heap.size W w1 from (below_alloc (below_alloc (Below.refl _ _) _) _).trans (ho.low.mono (by omega))); clear hs hw ho; dsimp at c2' c0')
    go_ret2
    rw [HP.out, HE.out]
    exact ⟨rfl, by repeat (first | exact HB.out | apply below_drewN | apply below_drew1)⟩
  · have e0 : ((ps.e : Int) != 0) = true := by
      have : ¬ (ps.e : Int) = 0 := by omega
      simp only [bne_iff_ne, ne_eq]
      exact this
    have HP := Aside0.mk (show pb = ⟨#[]⟩ by rw [HPB.out, if_neg he])
    clear he
    go_enter Tryd.func17, Tryd.ntmps17
    go_wp2_with (go_at_call 33; (with_reducible refine (HV.out _).mono ?_); rintro e w1 ⟨rfl, st1, sl1, hs, _, hw, ho⟩; have hs' := hs.eq; rw [← HS.out] at hs'; subst hs'; have c2' := (blk_cell hw.blk 2).trans rfl; have c0' := (blk_cell hw.blk 0).trans rfl; have hcv := own_string hw.own; have HB := Aside0.mk (show Below W.heap.size W w1 from (below_alloc (below_alloc (Below.refl _ _) _) _).trans (ho.low.mono (by omega))); clear hs hw ho; dsimp at c2' c0')
    go_region
    go_wp2
    go_ret2
    rw [HP.out]
    exact ⟨rfl, by repeat (first | exact HB.out | apply below_drewN | apply below_drew1)⟩
end Go.Proofs.YtaalajhmfdcalaaDoor.X
namespace Go.Proofs.YtaalajhmfdcalaaDoor.X
open Go.RowKit
structure GL (w : World) : Prop where
  words : GLw w
  tabs : Tabs w
theorem GL_below {w W : World} (h : GL w) (hb : Below w.heap.size w W) : GL W := ⟨h.words.below hb, h.tabs.bel hb⟩
end Go.Proofs.YtaalajhmfdcalaaDoor.X
namespace Go.Proofs.YtaalajhmfdcalaaDoor.X
open Go.RowKit Go.Lib Go.Proofs.YtaalajhmfdcalaaDoorW.PrintWords Go.Proofs.YtaalajhmfdcalaaDoorW.PrintLast Go.Proofs.YtaalajhmfdcalaaDoorW.PrintMore
def jtext_Parse.f (a0 : ByteArray) : Option (Int × ByteArray × List ByteArray × (List (S25)) × Int × Int) :=
  match parseJ a0.data.toList (a0.size + 1) with
  | none => none
  | some (.err e p) => some (0, ⟨#[]⟩, [], [], (e : Int), (p : Int))
  | some (.val j _) => some (j.f0, j.f1, j.f2, j.f3, 0, 0)
theorem jtext_Parse.calls (a0 : ByteArray) (r1 : Int) (r2 : ByteArray) (r3 : List ByteArray) (r4 : List (S25)) (r5 r6 : Int) (w : World) (hG : GL w) (h : jtext_Parse.f a0 = some (r1, r2, r3, r4, r5, r6)) :
    Calls Tryd.prog 11 #[.string a0] w fun e w' => ∃ v2_ v3_ : Value, e = .returned (.tuple #[.agg #[.int .i64 r1, .string r2, v2_, v3_], .int .i64 r5, .int .i64 r6]) ∧ Kd.R Kd.string 9 w' w.heap.size (fun _ => True) v2_ r3 ∧ Kd.R k25 25 w' w.heap.size (fun k_ => some k_ ≠ (v2_ : Value).ownBlock) v3_ r4 ∧ Below w.heap.size w w' := by
  unfold jtext_Parse.f at h
  cases ho : parseJ a0.data.toList (a0.size + 1) with
  | none => rw [ho] at h; cases h
  | some o =>
    rw [ho] at h
    refine (parse_calls a0 _ o w hG.tabs ho).mono ?_
    rintro e w' ⟨he, hb⟩
    cases o with
    | err e1 p =>
      simp only [Option.some.injEq, Prod.mk.injEq] at h
      obtain ⟨rfl, rfl, rfl, rfl, rfl, rfl⟩ := h
      obtain ⟨v2, v3, rfl, h2, h3⟩ := he
      exact ⟨v2, v3, rfl, h2, h3, hb⟩
    | val j q =>
      simp only [Option.some.injEq, Prod.mk.injEq] at h
      obtain ⟨rfl, rfl, rfl, rfl, rfl, rfl⟩ := h
      obtain ⟨v2, v3, rfl, h2, h3⟩ := he
      exact ⟨v2, v3, rfl, h2, h3, hb⟩
def smB : Nat → J → Bool
  | 0, v => decide (v.f1.size ≤ 288230376151711743)
  | r + 1, v => decide (v.f1.size ≤ 288230376151711743) && v.f2.all (fun s => decide (s.size ≤ 288230376151711743)) && v.f3.all (fun y => smB r y)
theorem smB_iff : ∀ (r : Nat) (v : J), smB r v = true ↔ SmJ r v
  | 0, v => by simp [smB, SmJ]
  | r + 1, v => by
    simp only [smB, SmJ, Bool.and_eq_true, decide_eq_true_eq, List.all_eq_true, and_assoc]
    refine and_congr Iff.rfl (and_congr Iff.rfl ⟨fun h y hy => (smB_iff r y).1 (h y hy), fun h y hy => (smB_iff r y).2 (h y hy)⟩)
def jtext_Print.f (a0_0 : Int) (a0_1 : ByteArray) (l0_2 : List ByteArray) (l0_3 : List (S25)) : Option (ByteArray × Int) :=
  if smB 32 ⟨a0_0, a0_1, l0_2, l0_3⟩ = true then some (printB ⟨a0_0, a0_1, l0_2, l0_3⟩, ((printS ⟨a0_0, a0_1, l0_2, l0_3⟩).e : Int)) else none
theorem jtext_Print.calls (a0_0 : Int) (a0_1 : ByteArray) (A0_2 : Option Addr) (c0_2 : Nat) (l0_2 : List ByteArray) (A0_3 : Option Addr) (c0_3 : Nat) (l0_3 : List (S25)) (r1 : ByteArray) (r2 : Int) (w : World) (hr0_2 : Kd.C Kd.string w A0_2 l0_2.length l0_2) (hc0_2 : l0_2.length ≤ c0_2) (hr0_3 : Kd.C k25 w A0_3 l0_3.length l0_3) (hc0_3 : l0_3.length ≤ c0_3) (hG : GL w) (h : jtext_Print.f a0_0 a0_1 l0_2 l0_3 = some (r1, r2)) :
    Calls Tryd.prog 17 #[.agg #[.int .i64 a0_0, .string a0_1, .slice A0_2 l0_2.length c0_2, .slice A0_3 l0_3.length c0_3]] w fun e w' => e = .returned (.tuple #[.string r1, .int .i64 r2]) ∧ Below w.heap.size w w' := by
  unfold jtext_Print.f at h
  split at h
  · rename_i hs
    simp only [Option.some.injEq, Prod.mk.injEq] at h
    obtain ⟨rfl, rfl⟩ := h
    exact print_calls a0_0 a0_1 l0_2 l0_3 A0_2 A0_3 c0_2 c0_3 w ((smB_iff 32 _).1 hs) hr0_2 hc0_2 hr0_3 hc0_3 hG.words hG.tabs
  · cases h
end Go.Proofs.YtaalajhmfdcalaaDoor.X
namespace Go.Proofs.YtaalajhmfdcalaaDoor.X
open Go.RowKit Go.Lib Go.Proofs.YtaalajhmfdcalaaDoorW.PrintWords Go.Proofs.YtaalajhmfdcalaaDoorW.PrintLast Go.Proofs.YtaalajhmfdcalaaDoorW.PrintMore
def stepZ (s c : Int) : Int :=
  if s = 0 ∧ c = 45 then 1 else if s ≤ 1 ∧ c = 48 then 2 else if (s ≤ 1 ∧ 48 ≤ c ∧ c ≤ 57) ∨ (s = 3 ∧ 48 ≤ c ∧ c ≤ 57) then 3
  else if (s = 2 ∨ s = 3) ∧ c = 46 then 4 else if (s = 4 ∨ s = 5) ∧ 48 ≤ c ∧ c ≤ 57 then 5 else if (s = 2 ∨ s = 3 ∨ s = 5) ∧ (c = 101 ∨ c = 69) then 6
  else if s = 6 ∧ (c = 43 ∨ c = 45) then 7 else if 6 ≤ s ∧ 48 ≤ c ∧ c ≤ 57 then 8 else -1
set_option maxRecDepth 1000000 in
set_option maxHeartbeats 4000000 in
theorem step_calls (s c : Int) (w : World) (hs : s = 0 ∨ s = 1 ∨ s = 2 ∨ s = 3 ∨ s = 4 ∨ s = 5 ∨ s = 6 ∨ s = 7 ∨ s = 8)
    (hc : c = 43 ∨ c = 45 ∨ c = 46 ∨ c = 48 ∨ c = 69 ∨ c = 101 ∨ (48 < c ∧ c ≤ 57) ∨ (c < 48 ∧ c ≠ 43 ∧ c ≠ 45 ∧ c ≠ 46) ∨ (57 < c ∧ c ≠ 69 ∧ c ≠ 101)) :
    Calls Tryd.prog 71 #[.int .i64 s, .int .u8 c] w fun e w' => e = .returned (.int .i64 (stepZ s c)) ∧ w' = w := by
  rcases hs with rfl | rfl | rfl | rfl | rfl | rfl | rfl | rfl | rfl <;>
  (rcases hc with rfl | rfl | rfl | rfl | rfl | rfl | ⟨h1, h2⟩ | ⟨h1, h2, h3, h4⟩ | ⟨h1, h2, h3⟩)
  all_goals (
    try have b43 : (c == 43) = false := beq_eq_false_iff_ne.mpr (by omega)
    try have b45 : (c == 45) = false := beq_eq_false_iff_ne.mpr (by omega)
    try have b46 : (c == 46) = false := beq_eq_false_iff_ne.mpr (by omega)
    try have b48 : (c == 48) = false := beq_eq_false_iff_ne.mpr (by omega)
    try have b69 : (c == 69) = false := beq_eq_false_iff_ne.mpr (by omega)
    try have b101 : (c == 101) = false := beq_eq_false_iff_ne.mpr (by omega)
    try have d1 : decide (48 ≤ c) = true := decide_eq_true (by omega)
    try have d2 : decide (48 ≤ c) = false := decide_eq_false (by omega)
    try have d3 : decide (c ≤ 57) = true := decide_eq_true (by omega)
    try have d4 : decide (c ≤ 57) = false := decide_eq_false (by omega)
    go_enter Tryd.func71, Tryd.ntmps71
    go_wp2
    go_ret
    first
    | exact ⟨rfl, rfl⟩
    | (refine ⟨?_, rfl⟩; unfold stepZ; (repeat' split) <;> first | rfl | (exfalso; omega)))
end Go.Proofs.YtaalajhmfdcalaaDoor.X
namespace Go.Proofs.YtaalajhmfdcalaaDoor.X
open Go.RowKit Go.Lib Go.Proofs.YtaalajhmfdcalaaDoorW.PrintWords Go.Proofs.YtaalajhmfdcalaaDoorW.PrintLast Go.Proofs.YtaalajhmfdcalaaDoorW.PrintMore
abbrev Sts (s : Int) : Prop := s = 0 ∨ s = 1 ∨ s = 2 ∨ s = 3 ∨ s = 4 ∨ s = 5 ∨ s = 6 ∨ s = 7 ∨ s = 8
def doneZ (s : Int) : Bool := s == 2 || (s == 3 || (s == 5 || s == 8))
theorem class_of (c : Int) : c = 43 ∨ c = 45 ∨ c = 46 ∨ c = 48 ∨ c = 69 ∨ c = 101 ∨ (48 < c ∧ c ≤ 57) ∨ (c < 48 ∧ c ≠ 43 ∧ c ≠ 45 ∧ c ≠ 46) ∨ (57 < c ∧ c ≠ 69 ∧ c ≠ 101) := by omega
theorem stepZ_range (s c : Int) : stepZ s c = -1 ∨ (1 ≤ stepZ s c ∧ stepZ s c ≤ 8) := by
  unfold stepZ
  (repeat' split) <;> omega
theorem sts_step (s c : Int) (h : ¬ stepZ s c < 0) : Sts (stepZ s c) := by
  have := stepZ_range s c
  omega
theorem drop_at (s : ByteArray) (i : Nat) (h : i < s.size) : ∃ u : UInt8, s.data.toList.drop i = u :: s.data.toList.drop (i + 1) ∧ ∀ h : i < s.size, s[i]'h = u := by
  have hl : i < s.data.toList.length := by rw [size_data]; exact h
  exact ⟨s.data.toList[i], List.drop_eq_getElem_cons hl, fun _ => rfl⟩
theorem done_calls (s : Int) (w : World) (hs : Sts s) : Calls Tryd.prog 72 #[.int .i64 s] w fun e w' => e = .returned (.bool (doneZ s)) ∧ w' = w := by
  rcases hs with rfl | rfl | rfl | rfl | rfl | rfl | rfl | rfl | rfl
  all_goals (
    go_enter Tryd.func72, Tryd.ntmps72
    go_wp2
    go_ret
    exact ⟨rfl, rfl⟩)
end Go.Proofs.YtaalajhmfdcalaaDoor.X
namespace Go.Proofs.YtaalajhmfdcalaaDoor.X
open Go.RowKit Go.Lib Go.Proofs.YtaalajhmfdcalaaDoorW.PrintWords Go.Proofs.YtaalajhmfdcalaaDoorW.PrintLast Go.Proofs.YtaalajhmfdcalaaDoorW.PrintMore
def GotV (W W' : World) (k : Int) (t : ByteArray) (l2 : List ByteArray) (l3 : List J) (q er p : Int) (e : Ending) : Prop :=
  ∃ (A2 : Option Addr) (c2 : Nat) (A3 : Option Addr) (c3 : Nat), e = .returned (.agg #[.int .i64 k, .string t, .slice A2 l2.length c2, .slice A3 l3.length c3, .int .i64 q, .int .i64 er, .int .i64 p]) ∧
    Kd.string.R 9 W' W.heap.size (fun _ => True) (.slice A2 l2.length c2) l2 ∧ k25.R 25 W' W.heap.size (fun k => some k ≠ (Value.slice A2 l2.length c2).ownBlock) (.slice A3 l3.length c3) l3 ∧ Below W.heap.size W W'
def GotE (o : Out J) (W : World) (e : Ending) (W' : World) : Prop := match o with
  | .val j q => GotV W W' j.f0 j.f1 j.f2 j.f3 q 0 0 e
  | .err er p => er ≠ 0 ∧ GotV W W' 0 ⟨#[]⟩ [] [] 0 er p e
abbrev set7 (W : World) (g : Nat) (c0 c1 c2 c3 c4 c5 c6 : Value) : World := ((((((W.setCell ⟨g, 0, none⟩ c0).setCell ⟨g, 1, none⟩ c1).setCell ⟨g, 2, none⟩ c2).setCell ⟨g, 3, none⟩ c3).setCell ⟨g, 4, none⟩ c4).setCell ⟨g, 5, none⟩ c5).setCell ⟨g, 6, none⟩ c6
theorem blk_set7 {W : World} {g : Nat} {o0 o1 o2 o3 o4 o5 o6 : Value} (h : W.heap[g]? = some (.cells #[o0, o1, o2, o3, o4, o5, o6] 53 (0, 0))) (c0 c1 c2 c3 c4 c5 c6 : Value) :
    (set7 W g c0 c1 c2 c3 c4 c5 c6).heap[g]? = some (.cells #[c0, c1, c2, c3, c4, c5, c6] 53 (0, 0)) := by
  have h0 := blk_put h 0 c0 (cs' := #[c0, o1, o2, o3, o4, o5, o6]) rfl
  have h1 := blk_put h0 1 c1 (cs' := #[c0, c1, o2, o3, o4, o5, o6]) rfl
  have h2 := blk_put h1 2 c2 (cs' := #[c0, c1, c2, o3, o4, o5, o6]) rfl
  have h3 := blk_put h2 3 c3 (cs' := #[c0, c1, c2, c3, o4, o5, o6]) rfl
  have h4 := blk_put h3 4 c4 (cs' := #[c0, c1, c2, c3, c4, o5, o6]) rfl
  have h5 := blk_put h4 5 c5 (cs' := #[c0, c1, c2, c3, c4, c5, o6]) rfl
  exact blk_put h5 6 c6 rfl
theorem R_set7 {α : Type} {d : Kd α} {e base g : Nat} {w : World} {ok : Nat → Prop} {v : Value} {xs : List α} (h : d.R e w base ok v xs) (hok : ∀ k, ok k → k ≠ g) (c0 c1 c2 c3 c4 c5 c6 : Value) : d.R e (set7 w g c0 c1 c2 c3 c4 c5 c6) base ok v xs :=
  Kd.R_far (Kd.R_far (Kd.R_far (Kd.R_far (Kd.R_far (Kd.R_far (Kd.R_far h hok _) hok _) hok _) hok _) hok _) hok _) hok _
theorem below_set7 {W w : World} {g : Nat} (h : Below W.heap.size W w) (hg : W.heap.size ≤ g) (c0 c1 c2 c3 c4 c5 c6 : Value) : Below W.heap.size W (set7 w g c0 c1 c2 c3 c4 c5 c6) :=
  below_set (below_set (below_set (below_set (below_set (below_set (below_set h hg) hg) hg) hg) hg) hg) hg
theorem GotV.put {W w0 w1 : World} {k : Int} {t : ByteArray} {l2 : List ByteArray} {l3 : List J} {q er p : Int} {e : Ending} {g : Nat} {o0 o1 o2 o3 o4 o5 o6 : Value} (hW : Below W.heap.size W w0) (hg : W.heap.size ≤ g) (hb : w0.heap[g]? = some (.cells #[o0, o1, o2, o3, o4, o5, o6] 53 (0, 0))) (h : GotV w0 w1 k t l2 l3 q er p e) :
    ∃ (A2 : Option Addr) (c2 : Nat) (A3 : Option Addr) (c3 : Nat), e = .returned (.agg #[.int .i64 k, .string t, .slice A2 l2.length c2, .slice A3 l3.length c3, .int .i64 q, .int .i64 er, .int .i64 p]) ∧ w1.heap[g]? = some (.cells #[o0, o1, o2, o3, o4, o5, o6] 53 (0, 0)) ∧
      (set7 w1 g (.int .i64 k) (.string t) (.slice A2 l2.length c2) (.slice A3 l3.length c3) (.int .i64 q) (.int .i64 er) (.int .i64 p)).heap[g]? = some (.cells #[.int .i64 k, .string t, .slice A2 l2.length c2, .slice A3 l3.length c3, .int .i64 q, .int .i64 er, .int .i64 p] 53 (0, 0)) ∧
      GotV W (set7 w1 g (.int .i64 k) (.string t) (.slice A2 l2.length c2) (.slice A3 l3.length c3) (.int .i64 q) (.int .i64 er) (.int .i64 p)) k t l2 l3 q er p (.returned (.agg #[.int .i64 k, .string t, .slice A2 l2.length c2, .slice A3 l3.length c3, .int .i64 q, .int .i64 er, .int .i64 p])) := by
  obtain ⟨A2, c2, A3, c3, rfl, h2, h3, hbl⟩ := h
  have hlt := lt_of_block hb
  have hs := hW.size
  have hb1 := (hbl.block g hlt).trans hb
  refine ⟨A2, c2, A3, c3, rfl, hb1, blk_set7 hb1 _ _ _ _ _ _ _, A2, c2, A3, c3, rfl, ?_, ?_, below_set7 (below_step hW hbl) hg _ _ _ _ _ _ _⟩
  · exact Kd.R_mono (R_set7 (Kd.R_lower (Kd.R_bound h2) hs) (fun k hk => by have := hk.2.1; omega) _ _ _ _ _ _ _) (fun _ _ => trivial)
  · exact Kd.R_mono (R_set7 (Kd.R_lower (Kd.R_bound h3) hs) (fun k hk => by have := hk.2.1; omega) _ _ _ _ _ _ _) (fun _ hk => hk.1)
set_option maxHeartbeats 1000000 in
theorem rbad_calls (er p : Int) (W : World) : Calls Tryd.prog 45 #[.int .i64 er, .int .i64 p] W fun e W' => GotV W W' 0 ⟨#[]⟩ [] [] 0 er p e := by
  go_enter Tryd.func45, Tryd.ntmps45
  go_wp2
  refine bodyPost_ret (results_cell_row rfl _ _ W.heap.size 53 #[.int .i64 0, .string (⟨#[]⟩ : ByteArray), .slice none 0 0, .slice none 0 0, .int .i64 0, .int .i64 er, .int .i64 p] (0, 0) _ rfl (heap_alloc_new W _) Tryd.underlying53 rfl (by kernel_rfl)) rfl ?_
  exact ⟨none, 0, none, 0, rfl, Kd.R_nil _ _ _ _ _, Kd.R_nil _ _ _ _ _, below_alloc (Below.refl _ _) _⟩
def mustO (s : List UInt8) (p : Nat) : Out J := if s.length ≤ p then .err 3 s.length else .err 40 p
set_option maxRecDepth 100000 in
set_option maxHeartbeats 1000000 in
theorem rmust_calls (s : ByteArray) (p : Nat) (W : World) : Calls Tryd.prog 70 #[.string s, .int .i64 p] W (GotE (mustO s.data.toList p) W) := by
  have hl : s.data.toList.length = s.size := size_data s
  by_cases h : s.size ≤ p
  · have h1 : decide (s.size ≤ p) = true := decide_eq_true h
    have HO := Aside0.mk (show mustO s.data.toList p = .err 3 s.size by unfold mustO; rw [hl, if_pos h])
    clear h hl
    go_enter Tryd.func70, Tryd.ntmps70
    go_wp2_with (go_at_call 45; (with_reducible refine (rbad_calls _ _ _).mono ?_); intro e w1 hv; obtain ⟨A2, c2, A3, c3, rfl, hb1, hbk, hfin⟩ := GotV.put (below_alloc (Below.refl _ _) _) (Nat.le_refl _) (heap_alloc_new W _) hv; have HBK := Aside0.mk hbk; have HFIN := Aside0.mk hfin; have z0 := (blk_cell hb1 0).trans rfl; have z1 := (blk_cell hb1 1).trans rfl; have z2 := (blk_cell hb1 2).trans rfl; have z3 := (blk_cell hb1 3).trans rfl; have z4 := (blk_cell hb1 4).trans rfl; have z5 := (blk_cell hb1 5).trans rfl; have z6 := (blk_cell hb1 6).trans rfl; have g0 := blk_frozen hb1 0; have g1 := blk_frozen hb1 1; have g2 := blk_frozen hb1 2; have g3 := blk_frozen hb1 3; have g4 := blk_frozen hb1 4; have g5 := blk_frozen hb1 5; have g6 := blk_frozen hb1 6; clear hv hb1 hbk hfin)
    refine bodyPost_ret (results_cell_row rfl _ _ W.heap.size 53 _ (0, 0) _ rfl HBK.out Tryd.underlying53 rfl (by kernel_rfl)) rfl ?_
    rw [HO.out]
    exact ⟨by decide, HFIN.out⟩
  · have h1 : decide (s.size ≤ p) = false := decide_eq_false h
    have HO := Aside0.mk (show mustO s.data.toList p = .err 40 p by unfold mustO; rw [hl, if_neg h])
    clear h hl
    go_enter Tryd.func70, Tryd.ntmps70
    go_wp2_with (go_at_call 45; (with_reducible refine (rbad_calls _ _ _).mono ?_); intro e w1 hv; obtain ⟨A2, c2, A3, c3, rfl, hb1, hbk, hfin⟩ := GotV.put (below_alloc (Below.refl _ _) _) (Nat.le_refl _) (heap_alloc_new W _) hv; have HBK := Aside0.mk hbk; have HFIN := Aside0.mk hfin; have z0 := (blk_cell hb1 0).trans rfl; have z1 := (blk_cell hb1 1).trans rfl; have z2 := (blk_cell hb1 2).trans rfl; have z3 := (blk_cell hb1 3).trans rfl; have z4 := (blk_cell hb1 4).trans rfl; have z5 := (blk_cell hb1 5).trans rfl; have z6 := (blk_cell hb1 6).trans rfl; have g0 := blk_frozen hb1 0; have g1 := blk_frozen hb1 1; have g2 := blk_frozen hb1 2; have g3 := blk_frozen hb1 3; have g4 := blk_frozen hb1 4; have g5 := blk_frozen hb1 5; have g6 := blk_frozen hb1 6; clear hv hb1 hbk hfin)
    refine bodyPost_ret (results_cell_row rfl _ _ W.heap.size 53 _ (0, 0) _ rfl HBK.out Tryd.underlying53 rfl (by kernel_rfl)) rfl ?_
    rw [HO.out]
    exact ⟨by decide, HFIN.out⟩
theorem blanksF_on {l : List UInt8} {p : Nat} {u : UInt8} (h : l.drop p = u :: l.drop (p + 1)) (hb : isBl u = true) : blanksF l p = blanksF l (p + 1) := by
  unfold blanksF
  rw [h, List.takeWhile_cons, if_pos hb, List.length_cons]
  omega
theorem blanksF_off {l : List UInt8} {p : Nat} {u : UInt8} (h : l.drop p = u :: l.drop (p + 1)) (hb : isBl u = false) : blanksF l p = p := by
  unfold blanksF
  rw [h, List.takeWhile_cons, if_neg (by rw [hb]; decide)]
  rfl
theorem blanksF_end {l : List UInt8} {p : Nat} (h : l.length ≤ p) : blanksF l p = p := by
  unfold blanksF
  rw [List.drop_eq_nil_of_le h]
  rfl
theorem isBl_iff (u : UInt8) : isBl u = true ↔ (u.toNat : Int) = 32 ∨ (u.toNat : Int) = 9 ∨ (u.toNat : Int) = 10 ∨ (u.toNat : Int) = 13 := by
  unfold isBl
  simp only [Bool.or_eq_true, beq_iff_eq, ← UInt8.toNat_inj]
  simp
  omega
set_option maxRecDepth 1000000 in
set_option maxHeartbeats 4000000 in
theorem rblanks_calls (s : ByteArray) (p : Nat) (W : World) (hs : s.size ≤ 4611686018427387904) (hp : p ≤ 4611686018427387904) : Calls Tryd.prog 31 #[.string s, .int .i64 p] W fun e W' => e = .returned (.int .i64 (blanksF s.data.toList p)) ∧ W' = W := by
  go_enter Tryd.func31, Tryd.ntmps31
  go_wp2
  go_loopg [1] (s.size + 1 - p + 1) (fun g v1 wr => ∃ i : Nat, v1 = .int .i64 (i : Int) ∧ p ≤ i ∧ i ≤ max p s.size ∧ s.size + 2 ≤ i + g + (p - i) ∧ wr = W ∧ Aside0 (blanksF s.data.toList p = blanksF s.data.toList i))
  case atStart => exact ⟨p, rfl, by omega, by omega, by omega, rfl, ⟨rfl⟩⟩
  case round =>
    obtain ⟨i, rfl, hpi, hi, hg, rfl, HB⟩ := hrel
    by_cases hlt : i < s.size
    · cases gk with
      | zero => omega
      | succ g =>
        have p1 : (0 ≤ (i : Int)) = True := eq_true (by omega)
        have p2 : ((i : Int) < (s.size : Int)) = True := eq_true (by omega)
        obtain ⟨u, hu, hx⟩ := drop_at s i hlt
        have hwn := wrap_next i s.size hlt (by omega)
        have HWN := Aside0.mk hwn
        have hmx : i + 1 ≤ max p s.size := by omega
        clear hwn
        have HD := Aside0.mk hu
        clear hu
        by_cases hb : isBl u = true
        · have HN := Aside0.mk (show blanksF s.data.toList p = blanksF s.data.toList (i + 1) by rw [HB.out, blanksF_on HD.out hb])
          have hcl := (isBl_iff u).1 hb
          clear hb
          rcases hcl with h | h | h | h
          · have b1 : ((u.toNat : Int) == 32) = true := beq_iff_eq.mpr h
            clear h
            go_wp2
            go_roundg g
            case measure => omega
            case rel => exact ⟨i + 1, (by first | exact congrArg (Value.int .i64) HWN.out | exact congrArg (Value.int .i64) (show (i : Int) + 1 = ((i + 1 : Nat) : Int) by omega)), by omega, hmx, by omega, rfl, HN⟩
          · have b1 : ((u.toNat : Int) == 32) = false := beq_eq_false_iff_ne.mpr (by omega)
            have b2 : ((u.toNat : Int) == 9) = true := beq_iff_eq.mpr h
            clear h
            go_wp2
            go_roundg g
            case measure => omega
            case rel => exact ⟨i + 1, (by first | exact congrArg (Value.int .i64) HWN.out | exact congrArg (Value.int .i64) (show (i : Int) + 1 = ((i + 1 : Nat) : Int) by omega)), by omega, hmx, by omega, rfl, HN⟩
          · have b1 : ((u.toNat : Int) == 32) = false := beq_eq_false_iff_ne.mpr (by omega)
            have b2 : ((u.toNat : Int) == 9) = false := beq_eq_false_iff_ne.mpr (by omega)
            have b3 : ((u.toNat : Int) == 10) = true := beq_iff_eq.mpr h
            clear h
            go_wp2
            go_roundg g
            case measure => omega
            case rel => exact ⟨i + 1, (by first | exact congrArg (Value.int .i64) HWN.out | exact congrArg (Value.int .i64) (show (i : Int) + 1 = ((i + 1 : Nat) : Int) by omega)), by omega, hmx, by omega, rfl, HN⟩
          · have b1 : ((u.toNat : Int) == 32) = false := beq_eq_false_iff_ne.mpr (by omega)
            have b2 : ((u.toNat : Int) == 9) = false := beq_eq_false_iff_ne.mpr (by omega)
            have b3 : ((u.toNat : Int) == 10) = false := beq_eq_false_iff_ne.mpr (by omega)
            have b4 : ((u.toNat : Int) == 13) = true := beq_iff_eq.mpr h
            clear h
            go_wp2
            go_roundg g
            case measure => omega
            case rel => exact ⟨i + 1, (by first | exact congrArg (Value.int .i64) HWN.out | exact congrArg (Value.int .i64) (show (i : Int) + 1 = ((i + 1 : Nat) : Int) by omega)), by omega, hmx, by omega, rfl, HN⟩
        · have hb' : isBl u = false := Bool.eq_false_iff.2 hb
          have HN := Aside0.mk (show blanksF s.data.toList p = i by rw [HB.out, blanksF_off HD.out hb'])
          have hcl : ¬ _ := fun h => hb ((isBl_iff u).2 h)
          have b1 : ((u.toNat : Int) == 32) = false := beq_eq_false_iff_ne.mpr (by omega)
          have b2 : ((u.toNat : Int) == 9) = false := beq_eq_false_iff_ne.mpr (by omega)
          have b3 : ((u.toNat : Int) == 10) = false := beq_eq_false_iff_ne.mpr (by omega)
          have b4 : ((u.toNat : Int) == 13) = false := beq_eq_false_iff_ne.mpr (by omega)
          clear hb hb' hcl
          go_wp2
          go_ret
          exact ⟨by rw [HN.out]; rfl, rfl⟩
    · have p2 : ((i : Int) < (s.size : Int)) = False := eq_false (by omega)
      have HN := Aside0.mk (show blanksF s.data.toList p = i by rw [HB.out, blanksF_end (by rw [size_data]; omega)])
      go_wp2
      go_ret
      exact ⟨by rw [HN.out]; rfl, rfl⟩
end Go.Proofs.YtaalajhmfdcalaaDoor.X
namespace Go.Proofs.YtaalajhmfdcalaaDoor.X
open Go.RowKit Go.Lib Go.Proofs.YtaalajhmfdcalaaDoorW.PrintWords
theorem textF_total (s : List UInt8) : ∀ (k : Nat) (out : List UInt8) (p : Nat), p ≤ s.length → s.length < p + k → ∃ o, textF s k out p = some o
  | 0, out, p, h1, h2 => by omega
  | k + 1, out, p, h1, h2 => by
    cases hc : s[p]? with
    | none => exact ⟨_, textF_short _ _ _ _ hc⟩
    | some c =>
      have hlt := (List.getElem?_eq_some_iff.1 hc).1
      by_cases h34 : c = 34
      · exact ⟨_, textF_end _ _ _ _ _ hc h34⟩
      · by_cases h32 : c.toNat < 32
        · exact ⟨_, textF_low _ _ _ _ _ hc h32⟩
        · by_cases h92 : c = 92
          · rw [textF_esc _ _ _ _ _ hc h92]
            cases hes : escF s p with
            | err e q1 => exact ⟨_, rfl⟩
            | val r q1 =>
              obtain ⟨g1, g2, _⟩ := escF_val _ _ _ _ hes
              exact textF_total s k _ _ g2 (by omega)
          · by_cases h128 : c.toNat < 128
            · rw [textF_ascii _ _ _ _ _ hc h34 h32 h92 h128]
              exact textF_total s k _ _ (by omega) (by omega)
            · rw [textF_rune _ _ _ _ _ hc h128]
              have hw := dec_width ⟨(s.drop p).toArray⟩ (by show 0 < (s.drop p).toArray.size; simp; omega)
              have hsz : (ByteArray.mk (s.drop p).toArray).size = s.length - p := by show (s.drop p).toArray.size = _; simp
              split
              · split <;> exact ⟨_, rfl⟩
              · exact textF_total s k _ _ (by omega) (by omega)
section
variable {α : Type}
theorem sevL_total (s : List UInt8) (en : UInt8) {one : α → Nat → Option (Out α)} (ht : ∀ a q, q ≤ s.length → ∃ o, one a q = some o) (hv : ∀ a q a' q', q ≤ s.length → one a q = some (.val a' q') → q < q' ∧ q' ≤ s.length) :
    ∀ (k : Nat) (a : α) (q : Nat), q ≤ s.length → s.length < q + k → ∃ o, sevL one s en k a q = some o
  | 0, a, q, h1, h2 => by omega
  | k + 1, a, q, h1, h2 => by
    unfold sevL
    obtain ⟨o1, ho⟩ := ht a q h1
    rw [ho]
    cases o1 with
    | err e p => exact ⟨_, rfl⟩
    | val a' q1 =>
      simp only
      obtain ⟨g1, g2⟩ := hv _ _ _ _ h1 ho
      cases hc : s[blanksF s q1]? with
      | none => exact ⟨_, rfl⟩
      | some c =>
        simp only
        by_cases h3 : c = en
        · rw [if_pos h3]; exact ⟨_, rfl⟩
        · rw [if_neg h3]
          by_cases h4 : c = 44
          · rw [if_pos h4]
            have h5 := (List.getElem?_eq_some_iff.1 hc).1
            have h6 := blanks_ge s q1
            have h7 := blanks_ge s (blanksF s q1 + 1)
            have h8 := blanks_le s (blanksF s q1 + 1) (by omega)
            exact sevL_total s en ht hv k _ _ h8 (by omega)
          · rw [if_neg h4]; exact ⟨_, rfl⟩
theorem sevF_total (s : List UInt8) (en : UInt8) {one : α → Nat → Option (Out α)} (ht : ∀ a q, q ≤ s.length → ∃ o, one a q = some o) (hv : ∀ a q a' q', q ≤ s.length → one a q = some (.val a' q') → q < q' ∧ q' ≤ s.length) (k : Nat) (a : α) (p : Nat) (hp : p < s.length) (hk : s.length ≤ k) : ∃ o, sevF one s en k a p = some o := by
  unfold sevF
  have h1 := blanks_ge s (p + 1)
  have h2 := blanks_le s (p + 1) (by omega)
  split
  · exact ⟨_, rfl⟩
  · split
    · exact ⟨_, rfl⟩
    · exact sevL_total s en ht hv k a _ h2 (by omega)
end
theorem omap_total {α β : Type} (f : α → β) {x : Option (Out α)} (h : ∃ o, x = some o) : ∃ o, x.map (Out.map f) = some o := by
  obtain ⟨o, rfl⟩ := h
  exact ⟨_, rfl⟩
theorem oneM_total (s : List UInt8) {v : Nat → Option (Out J)} (hv : ∀ q, q ≤ s.length → ∃ o, v q = some o) {k : Nat} (hk : s.length < k) (a : List ByteArray × List J) (q : Nat) (hq : q ≤ s.length) : ∃ o, oneM v s k a q = some o := by
  unfold oneM
  cases hc : s[q]? with
  | none => exact ⟨_, rfl⟩
  | some c =>
    have hlt := (List.getElem?_eq_some_iff.1 hc).1
    simp only
    by_cases h34 : c = 34
    · rw [if_pos h34]
      obtain ⟨o1, ht⟩ := textF_total s k [] (q + 1) (by omega) (by omega)
      rw [ht]
      cases o1 with
      | err e p => exact ⟨_, rfl⟩
      | val nm q1 =>
        simp only
        split
        · exact ⟨_, rfl⟩
        · split
          · exact ⟨_, rfl⟩
          · rename_i hb
            have h5 := (List.getElem?_eq_some_iff.1 hb).1
            split
            · exact omap_total _ (hv _ (blanks_le _ _ (by omega)))
            · exact ⟨_, rfl⟩
    · rw [if_neg h34]; exact ⟨_, rfl⟩
theorem valueF_total (s : List UInt8) {k : Nat} (hk : s.length < k) : ∀ (r p : Nat), p ≤ s.length → ∃ o, valueF s k r p = some o
  | r, p, hp => by
    have ht : ∀ p', p' < s.length → ∃ o, textF s k [] (p' + 1) = some o := fun p' h => textF_total s k [] (p' + 1) (by omega) (by omega)
    unfold valueF
    cases hc : s[p]? with
    | none => exact ⟨_, rfl⟩
    | some c =>
      have hlt := (List.getElem?_eq_some_iff.1 hc).1
      simp only
      split
      · exact ⟨_, rfl⟩
      · split
        · exact ⟨_, rfl⟩
        · split
          · exact ⟨_, rfl⟩
          · split
            · exact ⟨_, rfl⟩
            · split
              · exact omap_total _ (ht p hlt)
              · split
                · cases r with
                  | zero => exact ⟨_, rfl⟩
                  | succ r =>
                    simp only
                    split
                    · exact omap_total _ (sevF_total s 93 (fun a q hq => omap_total _ (valueF_total s hk r q hq)) (fun a q a' q' hq h => oneI_val s _ (fun q j q' hq h => valueF_val s k r q q' j hq h) a q a' q' hq h) k _ p hlt (by omega))
                    · exact omap_total _ (sevF_total s 125 (fun a q hq => oneM_total s (valueF_total s hk r) hk a q hq) (fun a q a' q' hq h => oneM_val s k _ (fun q j q' hq h => valueF_val s k r q q' j hq h) a q a' q' hq h) k _ p hlt (by omega))
                · exact ⟨_, rfl⟩
theorem parseJ_total (s : List UInt8) {k : Nat} (hk : s.length < k) : ∃ o, parseJ s k = some o := by
  unfold parseJ
  split
  · exact ⟨_, rfl⟩
  · obtain ⟨o, ho⟩ := valueF_total s hk 32 (blanksF s 0) (blanks_le _ _ (Nat.zero_le _))
    rw [ho]
    cases o with
    | err e p => exact ⟨_, rfl⟩
    | val v q => simp only; split <;> exact ⟨_, rfl⟩
end Go.Proofs.YtaalajhmfdcalaaDoor.X
namespace Go.Proofs.YtaalajhmfdcalaaDoor.X
open Go.RowKit Go.Lib Go.Proofs.YtaalajhmfdcalaaDoorW.PrintWords
structure Ag (s t : List UInt8) (q : Nat) : Prop where
  len : q ≤ s.length
  at_ : ∀ i, i < q → t[i]? = s[i]?
  end_ : t[q]? = none ∨ t[q]? = s[q]? ∨ ∃ z : UInt8, z ∈ ([0, 44, 93, 125] : List UInt8) ∧ t[q]? = some z
theorem Ag.le {s t : List UInt8} {q q' : Nat} (h : Ag s t q) (hq : q' ≤ q) : Ag s t q' := by
  refine ⟨Nat.le_trans hq h.len, fun i hi => h.at_ i (by omega), ?_⟩
  by_cases hh : q' = q
  · subst hh; exact h.end_
  · exact .inr (.inl (h.at_ q' (by omega)))
theorem Ag.take (s : List UInt8) (n q : Nat) (hn : n ≤ s.length) (hq : q ≤ n) : Ag s (s.take n) q := by
  refine ⟨by omega, fun i hi => by rw [List.getElem?_take_of_lt (by omega)], ?_⟩
  by_cases h : q < n
  · exact .inr (.inl (by rw [List.getElem?_take_of_lt h]))
  · exact .inl (by rw [List.getElem?_eq_none_iff, List.length_take]; omega)
theorem Ag.drop {s t : List UInt8} {p m : Nat} (h : Ag s t (p + m)) : Ag (s.drop p) (t.drop p) m := by
  refine ⟨by rw [List.length_drop]; have := h.len; omega, fun i hi => by rw [List.getElem?_drop, List.getElem?_drop]; exact h.at_ _ (by omega), ?_⟩
  rw [List.getElem?_drop, List.getElem?_drop]
  exact h.end_
theorem Ag.not {s t : List UInt8} {q : Nat} (h : Ag s t q) (P : UInt8 → Prop) (h0 : ∀ z : UInt8, z ∈ ([0, 44, 93, 125] : List UInt8) → ¬ P z) (hs : ¬ ∃ c, s[q]? = some c ∧ P c) : ¬ ∃ c, t[q]? = some c ∧ P c := by
  rintro ⟨c, hc, hp⟩
  rcases h.end_ with h1 | h1 | ⟨z, hz, h1⟩
  · rw [h1] at hc; cases hc
  · exact hs ⟨c, h1 ▸ hc, hp⟩
  · rw [h1] at hc; injection hc with hc; subst hc; exact h0 _ hz hp
theorem Ag.ne {s t : List UInt8} {q : Nat} (h : Ag s t q) (c : UInt8) (h0 : c ∉ ([0, 44, 93, 125] : List UInt8)) (hs : ¬ s[q]? = some c) : ¬ t[q]? = some c := fun hh =>
  h.not (fun d => d = c) (fun z hz e => h0 (e ▸ hz)) (by rintro ⟨d, hd, rfl⟩; exact hs hd) ⟨c, hh, rfl⟩
theorem digs_ag {l l' : List UInt8} : ∀ (n i : Nat), digsF (l.drop i) = n → Ag l l' (i + n) → digsF (l'.drop i) = n
  | 0, i, h, ha => by
    refine digs_stop l' i fun c hc => ?_
    cases hb : isDg c with
    | false => rfl
    | true =>
      exfalso
      refine ha.not (fun d => isDg d = true) (by decide) ?_ ⟨c, hc, hb⟩
      rintro ⟨d, hd, hd2⟩
      have := digs_step l i d hd hd2
      omega
  | n + 1, i, h, ha => by
    cases hc : l[i]? with
    | none =>
      have := digs_stop l i (fun c h => by rw [hc] at h; cases h)
      omega
    | some c =>
      cases hb : isDg c with
      | false =>
        have := digs_stop l i (fun d h => by rw [hc] at h; injection h with h; rw [← h]; exact hb)
        omega
      | true =>
        have h1 := digs_step l i c hc hb
        rw [digs_step l' i c (by rw [ha.at_ i (by omega)]; exact hc) hb, digs_ag (l := l) n (i + 1) (by omega) (by rw [show i + 1 + n = i + (n + 1) by omega]; exact ha)]
theorem litX_ag {l l' : List UInt8} {i m : Nat} {b : Bool} (h : litX l i = (m, b)) (ha : Ag l l' m) : litX l' i = (m, b) := by
  by_cases hs : l[i + 1]? = some 43 ∨ l[i + 1]? = some 45
  · rw [litX_yes _ _ hs] at h
    by_cases hd : digsF (l.drop (i + 2)) = 0
    · rw [if_pos hd] at h
      injection h with h1 h2
      subst h1
      rw [litX_yes _ _ (by rw [ha.at_ (i + 1) (by omega)]; exact hs), if_pos (digs_ag 0 (i + 2) hd ha), h2]
    · rw [if_neg hd] at h
      injection h with h1 h2
      have e := digs_ag _ (i + 2) rfl (h1 ▸ ha)
      rw [litX_yes _ _ (by rw [ha.at_ (i + 1) (by omega)]; exact hs), e, if_neg hd, h1, h2]
  · rw [litX_no _ _ hs] at h
    by_cases hd : digsF (l.drop (i + 1)) = 0
    · rw [if_pos hd] at h
      injection h with h1 h2
      subst h1
      have h43 := ha.ne 43 (by decide) (fun hh => hs (.inl hh))
      have h45 := ha.ne 45 (by decide) (fun hh => hs (.inr hh))
      rw [litX_no _ _ (by rintro (hh | hh); exact h43 hh; exact h45 hh), if_pos (digs_ag 0 (i + 1) hd ha), h2]
    · rw [if_neg hd] at h
      injection h with h1 h2
      have e := digs_ag _ (i + 1) rfl (h1 ▸ ha)
      rw [litX_no _ _ (by rw [ha.at_ (i + 1) (by omega)]; exact hs), e, if_neg hd, h1, h2]
theorem litX_ge (l : List UInt8) (i : Nat) : i + 1 ≤ (litX l i).1 := by
  by_cases hs : l[i + 1]? = some 43 ∨ l[i + 1]? = some 45
  · rw [litX_yes _ _ hs]; split <;> simp only <;> omega
  · rw [litX_no _ _ hs]; split <;> simp only <;> omega
theorem litE_ag {l l' : List UInt8} {i m : Nat} {b : Bool} (h : litE l i = (m, b)) (ha : Ag l l' m) : litE l' i = (m, b) := by
  by_cases hs : l[i]? = some 101 ∨ l[i]? = some 69
  · rw [litE_yes _ _ hs] at h
    have hge := litX_ge l i
    rw [h] at hge
    simp only at hge
    rw [litE_yes _ _ (by rw [ha.at_ i (by omega)]; exact hs)]
    exact litX_ag h ha
  · rw [litE_no _ _ hs] at h
    injection h with h1 h2
    subst h1
    have h101 := ha.ne 101 (by decide) (fun hh => hs (.inl hh))
    have h69 := ha.ne 69 (by decide) (fun hh => hs (.inr hh))
    rw [litE_no _ _ (by rintro (hh | hh); exact h101 hh; exact h69 hh), h2]
theorem litD_ag {l l' : List UInt8} {i m : Nat} {b : Bool} (h : litD l i = (m, b)) (ha : Ag l l' m) : litD l' i = (m, b) := by
  unfold litD at h ⊢
  by_cases hp : l[i]? = some 46
  · rw [if_pos hp] at h
    by_cases hd : digsF (l.drop (i + 1)) = 0
    · rw [if_pos hd] at h
      injection h with h1 h2
      subst h1
      rw [if_pos (by rw [ha.at_ i (by omega)]; exact hp), if_pos (digs_ag 0 (i + 1) hd ha), h2]
    · rw [if_neg hd] at h
      have hge := litE_ge l (i + 1 + digsF (l.drop (i + 1)))
      rw [h] at hge
      simp only at hge
      have e := digs_ag _ (i + 1) rfl (ha.le hge)
      rw [if_pos (by rw [ha.at_ i (by omega)]; exact hp), e, if_neg hd]
      exact litE_ag h ha
  · rw [if_neg hp] at h
    have hge := litE_ge l i
    rw [h] at hge
    simp only at hge
    rw [if_neg ((ha.le hge).ne 46 (by decide) hp)]
    exact litE_ag h ha
theorem litF_ag {l l' : List UInt8} {m : Nat} {b : Bool} (h : litF l = (m, b)) (ha : Ag l l' m) : litF l' = (m, b) := by
  unfold litF at h ⊢
  by_cases h0 : l[0]? = some 45
  · simp only [if_pos h0] at h
    by_cases h48 : l[1]? = some 48
    · rw [if_pos h48] at h
      have hge := litD_ge l (1 + 1)
      rw [h] at hge
      simp only at hge
      simp only [if_pos (show l'[0]? = some 45 by rw [ha.at_ 0 (by omega)]; exact h0)]
      rw [if_pos (by rw [ha.at_ 1 (by omega)]; exact h48)]
      exact litD_ag h ha
    · rw [if_neg h48] at h
      by_cases hd : digsF (l.drop 1) = 0
      · rw [if_pos hd] at h
        injection h with h1 h2
        subst h1
        simp only [if_pos (show l'[0]? = some 45 by rw [ha.at_ 0 (by omega)]; exact h0)]
        rw [if_neg (ha.ne 48 (by decide) h48), if_pos (digs_ag 0 1 hd ha), h2]
      · rw [if_neg hd] at h
        have hge := litD_ge l (1 + digsF (l.drop 1))
        rw [h] at hge
        simp only at hge
        have e := digs_ag _ 1 rfl (ha.le hge)
        simp only [if_pos (show l'[0]? = some 45 by rw [ha.at_ 0 (by omega)]; exact h0)]
        rw [if_neg (by rw [ha.at_ 1 (by omega)]; exact h48), e, if_neg hd]
        exact litD_ag h ha
  · simp only [if_neg h0] at h
    by_cases h48 : l[0]? = some 48
    · rw [if_pos h48] at h
      have hge := litD_ge l (0 + 1)
      rw [h] at hge
      simp only at hge
      simp only [if_neg (show ¬ l'[0]? = some 45 by rw [ha.at_ 0 (by omega)]; exact h0)]
      rw [if_pos (by rw [ha.at_ 0 (by omega)]; exact h48)]
      exact litD_ag h ha
    · rw [if_neg h48] at h
      by_cases hd : digsF (l.drop 0) = 0
      · rw [if_pos hd] at h
        injection h with h1 h2
        subst h1
        simp only [if_neg (ha.ne 45 (by decide) h0)]
        rw [if_neg (ha.ne 48 (by decide) h48), if_pos (digs_ag 0 0 hd ha), h2]
      · rw [if_neg hd] at h
        have hge := litD_ge l (0 + digsF (l.drop 0))
        rw [h] at hge
        simp only at hge
        have e := digs_ag _ 0 rfl (ha.le hge)
        simp only [if_neg (show ¬ l'[0]? = some 45 by rw [ha.at_ 0 (by omega)]; exact h0)]
        rw [if_neg (by rw [ha.at_ 0 (by omega)]; exact h48), e, if_neg hd]
        exact litD_ag h ha
end Go.Proofs.YtaalajhmfdcalaaDoor.X
namespace Go.Proofs.YtaalajhmfdcalaaDoor.X
open Go.RowKit Go.Lib Go.Proofs.YtaalajhmfdcalaaDoorW.PrintWords
theorem isDg_iff (c : UInt8) : isDg c = true ↔ 48 ≤ (c.toNat : Int) ∧ (c.toNat : Int) ≤ 57 := by unfold isDg; simp; omega
theorem u8_eq (c d : UInt8) : c = d ↔ (c.toNat : Int) = (d.toNat : Int) := by
  constructor
  · rintro rfl; rfl
  · intro h; exact UInt8.toNat_inj.1 (by omega)
theorem digs_cons (c : UInt8) (l : List UInt8) (h : isDg c = true) : digsF (c :: l) = digsF l + 1 := by unfold digsF; rw [List.takeWhile_cons_of_pos h]; rfl
theorem digs_no (c : UInt8) (l : List UInt8) (h : isDg c = false) : digsF (c :: l) = 0 := by unfold digsF; rw [List.takeWhile_cons_of_neg (by rw [h]; decide)]; rfl
theorem e_nat (c : UInt8) : (c = 101 ∨ c = 69) ↔ ((c.toNat : Int) = 101 ∨ (c.toNat : Int) = 69) := by rw [u8_eq c 101, u8_eq c 69]; exact Iff.rfl
end Go.Proofs.YtaalajhmfdcalaaDoor.X
namespace Go.Proofs.YtaalajhmfdcalaaDoor.X
open Go.RowKit Go.Lib Go.Proofs.YtaalajhmfdcalaaDoorW.PrintWords Go.Proofs.YtaalajhmfdcalaaDoorW.PrintLast Go.Proofs.YtaalajhmfdcalaaDoorW.PrintMore
theorem GotV.mk0 {W w1 : World} {g : Nat} {o0 o1 o2 o3 o4 o5 o6 : Value} (hW : Below W.heap.size W w1) (hg : W.heap.size ≤ g) (hb : w1.heap[g]? = some (.cells #[o0, o1, o2, o3, o4, o5, o6] 53 (0, 0))) (k : Int) (t : ByteArray) (q er p : Int) :
    (set7 w1 g (.int .i64 k) (.string t) (.slice none 0 0) (.slice none 0 0) (.int .i64 q) (.int .i64 er) (.int .i64 p)).heap[g]? = some (.cells #[.int .i64 k, .string t, .slice none 0 0, .slice none 0 0, .int .i64 q, .int .i64 er, .int .i64 p] 53 (0, 0)) ∧
      GotV W (set7 w1 g (.int .i64 k) (.string t) (.slice none 0 0) (.slice none 0 0) (.int .i64 q) (.int .i64 er) (.int .i64 p)) k t [] [] q er p (.returned (.agg #[.int .i64 k, .string t, .slice none 0 0, .slice none 0 0, .int .i64 q, .int .i64 er, .int .i64 p])) :=
  ⟨blk_set7 hb _ _ _ _ _ _ _, none, 0, none, 0, rfl, Kd.R_nil _ _ _ _ _, Kd.R_nil _ _ _ _ _, below_set7 hW hg _ _ _ _ _ _ _⟩
theorem wdF_end {s : List UInt8} {w : List UInt8} {k q : Nat} (h : w.length ≤ k) : wordF s (w.drop k) q = .val () q := by rw [List.drop_eq_nil_of_le h]; rfl
theorem at_drop {s : List UInt8} {q : Nat} {u : UInt8} (h : s.drop q = u :: s.drop (q + 1)) : s[q]? = some u := by
  have := congrArg (fun l => l[0]?) h
  simpa using this
theorem wdF_short {s : List UInt8} {w : List UInt8} {k q : Nat} {c : UInt8} (h : w.drop k = c :: w.drop (k + 1)) (hq : s.length ≤ q) : wordF s (w.drop k) q = .err 3 s.length := by
  rw [h, wordF, List.getElem?_eq_none hq]
theorem wdF_yes {s : List UInt8} {w : List UInt8} {k q : Nat} {c u : UInt8} (h : w.drop k = c :: w.drop (k + 1)) (hq : s.drop q = u :: s.drop (q + 1)) (he : u = c) : wordF s (w.drop k) q = wordF s (w.drop (k + 1)) (q + 1) := by
  rw [h, wordF, at_drop hq]
  simp only [if_pos he]
theorem wdF_no {s : List UInt8} {w : List UInt8} {k q : Nat} {c u : UInt8} (h : w.drop k = c :: w.drop (k + 1)) (hq : s.drop q = u :: s.drop (q + 1)) (he : ¬ u = c) : wordF s (w.drop k) q = .err 40 q := by
  rw [h, wordF, at_drop hq]
  simp only [if_neg he]
theorem mustO_short {s : List UInt8} {q : Nat} (h : s.length ≤ q) : mustO s q = .err 3 s.length := by unfold mustO; rw [if_pos h]
theorem mustO_bad {s : List UInt8} {q : Nat} (h : ¬ s.length ≤ q) : mustO s q = .err 40 q := by unfold mustO; rw [if_neg h]
theorem i64w (x : Int) (h0 : 0 ≤ x) (h1 : x ≤ 9223372036854775807) : IntKind.i64.wrap x = x := IntWalk.i64_in _ (by omega)
set_option maxRecDepth 1000000 in
set_option maxHeartbeats 4000000 in
theorem rword_calls (s wd : ByteArray) (p : Nat) (kind : Int) (W : World) (hs : s.size ≤ 4611686018427387904) (hp : p ≤ s.size) (hwd : wd.size ≤ 16) :
    Calls Tryd.prog 46 #[.string s, .int .i64 p, .string wd, .int .i64 kind] W (GotE ((wordF s.data.toList wd.data.toList p).map fun _ => ⟨kind, ⟨#[]⟩, [], []⟩) W) := by
  go_enter Tryd.func46, Tryd.ntmps46
  go_wp2
  go_loopg [9] (wd.size + 1) (fun g v9 wr => ∃ k : Nat, v9 = .int .i64 (k : Int) ∧ k ≤ wd.size ∧ wd.size + 1 ≤ k + g ∧ Aside0 (wr.heap[W.heap.size]? = some (.cells #[.int .i64 0, .string (⟨#[]⟩ : ByteArray), .slice none 0 0, .slice none 0 0, .int .i64 0, .int .i64 0, .int .i64 0] 53 (0, 0))) ∧ Aside0 (Below W.heap.size W wr) ∧ Aside0 (wordF s.data.toList wd.data.toList p = wordF s.data.toList (wd.data.toList.drop k) (p + k)))
  case atStart => exact ⟨0, rfl, by omega, by omega, ⟨heap_alloc_new W _⟩, ⟨below_alloc (Below.refl _ _) _⟩, ⟨by rw [List.drop_zero]; rfl⟩⟩
  case round =>
    obtain ⟨k, rfl, hk, hg, HX, HB, HW⟩ := hrel
    have hb1 := HX.out
    have z0 := (blk_cell hb1 0).trans rfl
    have g0 := blk_frozen hb1 0
    have z1 := (blk_cell hb1 1).trans rfl
    have g1 := blk_frozen hb1 1
    have z2 := (blk_cell hb1 2).trans rfl
    have g2 := blk_frozen hb1 2
    have z3 := (blk_cell hb1 3).trans rfl
    have g3 := blk_frozen hb1 3
    have z4 := (blk_cell hb1 4).trans rfl
    have g4 := blk_frozen hb1 4
    have z5 := (blk_cell hb1 5).trans rfl
    have g5 := blk_frozen hb1 5
    have z6 := (blk_cell hb1 6).trans rfl
    have g6 := blk_frozen hb1 6
    clear hb1
    by_cases hlt : k < wd.size
    · cases gk with
      | zero => omega
      | succ g =>
        have p1 : (0 ≤ (k : Int)) = True := eq_true (by omega)
        have p2 : ((k : Int) < (wd.size : Int)) = True := eq_true (by omega)
        obtain ⟨c, hc, hy⟩ := drop_at wd k hlt
        have hwn := wrap_next k wd.size hlt (by omega)
        have HWN := Aside0.mk hwn
        have HC := Aside0.mk hc
        have hqe : IntKind.i64.wrap ((p : Int) + (k : Int)) = ((p + k : Nat) : Int) := by rw [i64w _ (by omega) (by omega)]; omega
        have hqe2 : wrap64 ((p : Int) + (k : Int)) = ((p + k : Nat) : Int) := by unfold wrap64; omega
        have hqe3 : (p : Int) + (k : Int) = ((p + k : Nat) : Int) := by omega
        clear hwn hc
        by_cases hq : s.size ≤ p + k
        · have HO := Aside0.mk (show wordF s.data.toList wd.data.toList p = .err 3 s.size by rw [HW.out, wdF_short HC.out (by rw [size_data]; exact hq), size_data])
          have HM := Aside0.mk (show mustO s.data.toList (p + k) = .err 3 s.size by rw [mustO_short (by rw [size_data]; exact hq), size_data])
          have d1 : decide (s.size ≤ p + k) = true := decide_eq_true hq
          have d2 : decide ((s.size : Int) ≤ ((p + k : Nat) : Int)) = true := decide_eq_true (by omega)
          clear hq
          generalize p + k = q at *
          go_wp2
          go_quiet (fail)
          go_wp2_with (go_at_call 70; (with_reducible refine (rmust_calls s q _).mono ?_); intro e w1 hv; rw [HM.out] at hv; obtain ⟨_, hv⟩ := hv; obtain ⟨A2, c2, A3, c3, rfl, hb1, hbk, hfin⟩ := GotV.put (by repeat (first | exact HB.out | apply pw_below_drewN | apply below_drew1)) (Nat.le_refl _) (by repeat (first | exact HX.out | refine blk_drewN ?_ _ | refine blk_drew ?_)) hv; have HBK := Aside0.mk hbk; have HFIN := Aside0.mk hfin; have z0 := (blk_cell hb1 0).trans rfl; have z1 := (blk_cell hb1 1).trans rfl; have z2 := (blk_cell hb1 2).trans rfl; have z3 := (blk_cell hb1 3).trans rfl; have z4 := (blk_cell hb1 4).trans rfl; have z5 := (blk_cell hb1 5).trans rfl; have z6 := (blk_cell hb1 6).trans rfl; have g0 := blk_frozen hb1 0; have g1 := blk_frozen hb1 1; have g2 := blk_frozen hb1 2; have g3 := blk_frozen hb1 3; have g4 := blk_frozen hb1 4; have g5 := blk_frozen hb1 5; have g6 := blk_frozen hb1 6; clear hv hb1 hbk hfin)
          refine bodyPost_ret (results_cell_row rfl _ _ W.heap.size 53 _ (0, 0) _ rfl HBK.out Tryd.underlying53 rfl (by kernel_rfl)) rfl ?_
          rw [HO.out]
          exact ⟨by decide, HFIN.out⟩
        · have d1 : decide (s.size ≤ p + k) = false := decide_eq_false hq
          have d2 : decide ((s.size : Int) ≤ ((p + k : Nat) : Int)) = false := decide_eq_false (by omega)
          obtain ⟨u, hu, hx⟩ := drop_at s (p + k) (by omega)
          have p3 : (0 ≤ ((p + k : Nat) : Int)) = True := eq_true (by omega)
          have p4 : (((p + k : Nat) : Int) < (s.size : Int)) = True := eq_true (by omega)
          have HU := Aside0.mk hu
          clear hu
          by_cases he : u = c
          · have HO := Aside0.mk (show wordF s.data.toList wd.data.toList p = wordF s.data.toList (wd.data.toList.drop (k + 1)) (p + (k + 1)) by rw [HW.out, wdF_yes HC.out HU.out he]; rfl)
            have e1 : ((u.toNat : Int) != (c.toNat : Int)) = false := by rw [he]; exact bne_self_eq_false _
            have e2 : (u.toNat != c.toNat) = false := by rw [he]; exact bne_self_eq_false _
            clear he hq
            generalize p + k = q at *
            go_wp2
            go_quiet (fail)
            go_wp2
            go_roundg g
            case measure => omega
            case rel => exact ⟨k + 1, (by first | exact congrArg (Value.int .i64) HWN.out | exact congrArg (Value.int .i64) (show (k : Int) + 1 = ((k + 1 : Nat) : Int) by omega)), by omega, by omega, ⟨by repeat (first | exact HX.out | refine blk_drewN ?_ _ | refine blk_drew ?_)⟩, ⟨by repeat (first | exact HB.out | apply pw_below_drewN | apply below_drew1)⟩, HO⟩
          · have HO := Aside0.mk (show wordF s.data.toList wd.data.toList p = .err 40 (p + k) by rw [HW.out, wdF_no HC.out HU.out he])
            have HM := Aside0.mk (show mustO s.data.toList (p + k) = .err 40 (p + k) by rw [mustO_bad (by rw [size_data]; exact hq)])
            have hne : u.toNat ≠ c.toNat := fun h => he (UInt8.toNat_inj.1 h)
            have e1 : ((u.toNat : Int) != (c.toNat : Int)) = true := bne_iff_ne.mpr (by omega)
            have e2 : (u.toNat != c.toNat) = true := bne_iff_ne.mpr hne
            clear he hq hne
            generalize p + k = q at *
            go_wp2
            go_quiet (fail)
            go_wp2_with (go_at_call 70; (with_reducible refine (rmust_calls s q _).mono ?_); intro e w1 hv; rw [HM.out] at hv; obtain ⟨_, hv⟩ := hv; obtain ⟨A2, c2, A3, c3, rfl, hb1, hbk, hfin⟩ := GotV.put (by repeat (first | exact HB.out | apply pw_below_drewN | apply below_drew1)) (Nat.le_refl _) (by repeat (first | exact HX.out | refine blk_drewN ?_ _ | refine blk_drew ?_)) hv; have HBK := Aside0.mk hbk; have HFIN := Aside0.mk hfin; have z0 := (blk_cell hb1 0).trans rfl; have z1 := (blk_cell hb1 1).trans rfl; have z2 := (blk_cell hb1 2).trans rfl; have z3 := (blk_cell hb1 3).trans rfl; have z4 := (blk_cell hb1 4).trans rfl; have z5 := (blk_cell hb1 5).trans rfl; have z6 := (blk_cell hb1 6).trans rfl; have g0 := blk_frozen hb1 0; have g1 := blk_frozen hb1 1; have g2 := blk_frozen hb1 2; have g3 := blk_frozen hb1 3; have g4 := blk_frozen hb1 4; have g5 := blk_frozen hb1 5; have g6 := blk_frozen hb1 6; clear hv hb1 hbk hfin)
            refine bodyPost_ret (results_cell_row rfl _ _ W.heap.size 53 _ (0, 0) _ rfl HBK.out Tryd.underlying53 rfl (by kernel_rfl)) rfl ?_
            rw [HO.out]
            exact ⟨by decide, HFIN.out⟩
    · have p2 : ((k : Int) < (wd.size : Int)) = False := eq_false (by omega)
      obtain rfl : k = wd.size := by omega
      have HO := Aside0.mk (show wordF s.data.toList wd.data.toList p = .val () (p + wd.size) by rw [HW.out, wdF_end (by rw [size_data]; omega)])
      obtain ⟨hbk, hfin⟩ := GotV.mk0 HB.out (Nat.le_refl _) HX.out kind ⟨#[]⟩ ((p : Int) + (wd.size : Int)) 0 0
      have HBK := Aside0.mk hbk
      have HFIN := Aside0.mk hfin
      clear hbk hfin
      go_wp2
      refine bodyPost_ret (results_cell_row rfl _ _ W.heap.size 53 _ (0, 0) _ rfl HBK.out Tryd.underlying53 rfl (by kernel_rfl)) rfl ?_
      rw [HO.out]
      show GotV _ _ _ _ _ _ _ _ _ _
      rw [show ((p + wd.size : Nat) : Int) = (p : Int) + (wd.size : Int) by omega]
      exact HFIN.out
end Go.Proofs.YtaalajhmfdcalaaDoor.X
namespace Go.Proofs.YtaalajhmfdcalaaDoor.X
open Go.RowKit Go.Lib Go.Proofs.YtaalajhmfdcalaaDoorW.PrintWords
def runZ : List UInt8 → Int → Nat × Int
  | [], s => (0, s)
  | c :: l, s => if stepZ s c.toNat < 0 then (0, s) else ((runZ l (stepZ s c.toNat)).1 + 1, (runZ l (stepZ s c.toNat)).2)
theorem run_same (s : Int) (h : ∀ c : UInt8, isDg c = true → stepZ s c.toNat = s) (hs : 0 ≤ s) : ∀ l, runZ l s = (digsF l + (runZ (l.drop (digsF l)) s).1, (runZ (l.drop (digsF l)) s).2)
  | [] => by simp [digsF]
  | c :: l => by
    cases hd : isDg c with
    | true =>
      have ih := run_same s h hs l
      rw [digs_cons c l hd, List.drop_succ_cons, runZ, h c hd, if_neg (by omega), ih]
      simp only [Prod.mk.injEq, and_true]
      omega
    | false => rw [digs_no c l hd, List.drop_zero]; simp
theorem run_first (s t : Int) (h1 : ∀ c : UInt8, isDg c = true → stepZ s c.toNat = t) (h2 : ∀ c : UInt8, isDg c = true → stepZ t c.toNat = t) (ht : 0 ≤ t) (l : List UInt8) (hn : digsF l ≠ 0) : runZ l s = (digsF l + (runZ (l.drop (digsF l)) t).1, (runZ (l.drop (digsF l)) t).2) := by
  cases l with
  | nil => exact absurd rfl hn
  | cons c l =>
    cases hd : isDg c with
    | true =>
      rw [digs_cons c l hd, List.drop_succ_cons, runZ, h1 c hd, if_neg (by omega), run_same t h2 ht l]
      simp only [Prod.mk.injEq, and_true]
      omega
    | false => exact absurd (digs_no c l hd) hn
theorem run_stop (s : Int) (l : List UInt8) (h : ∀ c : UInt8, l[0]? = some c → stepZ s c.toNat < 0) : runZ l s = (0, s) := by
  cases l with
  | nil => rfl
  | cons c l => rw [runZ, if_pos (h c rfl)]
theorem digs_endz : ∀ (l : List UInt8) (c : UInt8), (l.drop (digsF l))[0]? = some c → isDg c = false
  | [], c, h => by simp [digsF] at h
  | d :: l, c, h => by
    cases hd : isDg d with
    | true => rw [digs_cons d l hd, List.drop_succ_cons] at h; exact digs_endz l c h
    | false =>
      rw [digs_no d l hd, List.drop_zero] at h
      simp at h
      rw [← h]; exact hd
theorem digs_zero {l : List UInt8} (h : digsF l = 0) (c : UInt8) (hc : l[0]? = some c) : isDg c = false := digs_endz l c (by rw [h, List.drop_zero]; exact hc)
theorem no_dg {c : UInt8} (h : isDg c = false) : ¬ (48 ≤ (c.toNat : Int) ∧ (c.toNat : Int) ≤ 57) := fun hh => by rw [(isDg_iff c).2 hh] at h; cases h
theorem step_dg (s t : Int) (hs : (s = 3 ∧ t = 3) ∨ (s = 4 ∧ t = 5) ∨ (s = 5 ∧ t = 5) ∨ (s = 6 ∧ t = 8) ∨ (s = 7 ∧ t = 8) ∨ (s = 8 ∧ t = 8)) (c : UInt8) (h : isDg c = true) : stepZ s c.toNat = t := by
  have := (isDg_iff c).1 h
  unfold stepZ
  rcases hs with ⟨rfl, rfl⟩ | ⟨rfl, rfl⟩ | ⟨rfl, rfl⟩ | ⟨rfl, rfl⟩ | ⟨rfl, rfl⟩ | ⟨rfl, rfl⟩ <;> (repeat' split) <;> omega
theorem run7 (l : List UInt8) : runZ l 7 = if digsF l = 0 then (0, 7) else (digsF l, 8) := by
  split
  · rename_i h
    exact run_stop 7 l (fun c hc => by have := no_dg (digs_zero h c hc); unfold stepZ; (repeat' split) <;> omega)
  · rename_i h
    rw [run_first 7 8 (step_dg 7 8 (by simp)) (step_dg 8 8 (by simp)) (by omega) l h, run_stop 8 _ (fun c hc => by
      have := no_dg (digs_endz l c hc)
      unfold stepZ; (repeat' split) <;> omega)]
    rfl
theorem head_drop (l : List UInt8) (i : Nat) : (l.drop i)[0]? = l[i]? := by simp
theorem drop_cons {l : List UInt8} {i : Nat} {c : UInt8} (h : l[i]? = some c) : l.drop i = c :: l.drop (i + 1) := by
  obtain ⟨hl, rfl⟩ := List.getElem?_eq_some_iff.1 h
  exact List.drop_eq_getElem_cons hl
theorem step8_no {c : UInt8} (h : isDg c = false) : stepZ 8 c.toNat < 0 := by
  have := no_dg h
  unfold stepZ; (repeat' split) <;> omega
theorem step6_no {d : UInt8} (hsg : ¬ (d = 43 ∨ d = 45)) (h : isDg d = false) : stepZ 6 d.toNat < 0 := by
  have := no_dg h
  have h1 : ¬ (d.toNat : Int) = 43 := fun h => hsg (.inl ((u8_eq d 43).2 h))
  have h2 : ¬ (d.toNat : Int) = 45 := fun h => hsg (.inr ((u8_eq d 45).2 h))
  unfold stepZ; (repeat' split) <;> omega
theorem step4_no {c : UInt8} (h : isDg c = false) : stepZ 4 c.toNat < 0 := by
  have := no_dg h
  unfold stepZ; (repeat' split) <;> omega
theorem stepE_6 {s : Int} (hs : s = 2 ∨ s = 3 ∨ s = 5) {c : UInt8} (he : c = 101 ∨ c = 69) : stepZ s c.toNat = 6 := by
  have h1 := (e_nat c).1 he
  unfold stepZ; rcases hs with rfl | rfl | rfl <;> (repeat' split) <;> omega
theorem stepE_no {s : Int} (hs : s = 2 ∨ s = 3 ∨ s = 5) {c : UInt8} (he : ¬ (c = 101 ∨ c = 69)) (n1 : s ≠ 2 → isDg c = false) (n2 : s ≠ 5 → ¬ c = 46) : stepZ s c.toNat < 0 := by
  have h1 : ¬ ((c.toNat : Int) = 101 ∨ (c.toNat : Int) = 69) := fun h => he ((e_nat c).2 h)
  have h3 : s ≠ 5 → ¬ (c.toNat : Int) = 46 := fun h5 h => n2 h5 ((u8_eq c 46).2 h)
  have h4 : s ≠ 2 → ¬ (48 ≤ (c.toNat : Int) ∧ (c.toNat : Int) ≤ 57) := fun h2 => no_dg (n1 h2)
  unfold stepZ; rcases hs with rfl | rfl | rfl <;> (repeat' split) <;> omega
theorem run_on {l : List UInt8} {i : Nat} {c : UInt8} {s t : Int} (hc : l[i]? = some c) (ht : stepZ s c.toNat = t) (h0 : 0 ≤ t) : runZ (l.drop i) s = ((runZ (l.drop (i + 1)) t).1 + 1, (runZ (l.drop (i + 1)) t).2) := by
  rw [drop_cons hc, runZ, ht, if_neg (by omega)]
theorem litE_run (l : List UInt8) (i : Nat) (s : Int) (hs : s = 2 ∨ s = 3 ∨ s = 5) (hn : ∀ c, l[i]? = some c → (s ≠ 2 → isDg c = false) ∧ (s ≠ 5 → ¬ c = 46)) : litE l i = (i + (runZ (l.drop i) s).1, doneZ (runZ (l.drop i) s).2) := by
  have hdone : doneZ s = true := by rcases hs with rfl | rfl | rfl <;> rfl
  unfold litE
  cases hc : l[i]? with
  | none =>
    rw [List.drop_eq_nil_of_le (List.getElem?_eq_none_iff.1 hc)]
    simp only [runZ, hdone]
    rfl
  | some c =>
    obtain ⟨n1, n2⟩ := hn c hc
    simp only
    by_cases he : c = 101 ∨ c = 69
    · rw [if_pos he, run_on hc (stepE_6 hs he) (by decide)]
      cases hd : l[i + 1]? with
      | none =>
        have hl := List.getElem?_eq_none_iff.1 hd
        have e0 : l.drop (i + 1) = [] := List.drop_eq_nil_of_le hl
        simp only [e0]
        rfl
      | some d =>
        simp only
        by_cases hsg : d = 43 ∨ d = 45
        · have e7 : stepZ 6 d.toNat = 7 := by rcases hsg with rfl | rfl <;> rfl
          simp only [if_pos hsg]
          rw [run_on hd e7 (by decide), show i + 1 + 1 = i + 2 from rfl, run7]
          by_cases hz : digsF (l.drop (i + 2)) = 0
          · rw [if_pos hz, if_pos hz]; rfl
          · rw [if_neg hz, if_neg hz]
            simp only [Prod.mk.injEq]
            exact ⟨by omega, rfl⟩
        · simp only [if_neg hsg]
          by_cases hz : digsF (l.drop (i + 1)) = 0
          · rw [if_pos hz, run_stop 6 _ (fun c hc => by
              rw [head_drop, hd] at hc
              injection hc with hc
              subst hc
              exact step6_no hsg (digs_zero hz d (by rw [head_drop, hd])))]
            rfl
          · rw [if_neg hz, run_first 6 8 (step_dg 6 8 (by simp)) (step_dg 8 8 (by simp)) (by omega) _ hz, run_stop 8 _ (fun c hc => step8_no (digs_endz _ c hc))]
            simp only [Prod.mk.injEq]
            exact ⟨by omega, rfl⟩
    · rw [if_neg he, run_stop s _ (fun d hd => by
        rw [head_drop, hc] at hd
        injection hd with hd
        subst hd
        exact stepE_no hs he n1 n2), hdone]
      rfl
theorem litD_run (l : List UInt8) (i : Nat) (s : Int) (hs : s = 2 ∨ s = 3) (hn : ∀ c, l[i]? = some c → s ≠ 2 → isDg c = false) : litD l i = (i + (runZ (l.drop i) s).1, doneZ (runZ (l.drop i) s).2) := by
  unfold litD
  by_cases h46 : l[i]? = some 46
  · have e4 : stepZ s ((46 : UInt8).toNat : Int) = 4 := by rcases hs with rfl | rfl <;> rfl
    rw [if_pos h46, run_on h46 e4 (by decide)]
    by_cases hz : digsF (l.drop (i + 1)) = 0
    · rw [if_pos hz, run_stop 4 _ (fun c hc => step4_no (digs_zero hz c hc))]
      rfl
    · rw [if_neg hz, run_first 4 5 (step_dg 4 5 (by simp)) (step_dg 5 5 (by simp)) (by omega) _ hz, litE_run l _ 5 (by simp) (fun c hc => ⟨fun _ => digs_endz (l.drop (i + 1)) c (by rw [List.drop_drop, head_drop]; exact hc), fun h => absurd rfl h⟩), List.drop_drop]
      simp only [Prod.mk.injEq, and_true]
      omega
  · rw [if_neg h46]
    refine litE_run l i s (by rcases hs with rfl | rfl <;> simp) (fun c hc => ⟨fun h => hn c hc h, fun _ h => h46 (by rw [hc, h])⟩)
theorem litF_run (l : List UInt8) : litF l = ((runZ l 0).1, doneZ (runZ l 0).2) := by
  have key : ∀ (i : Nat) (s : Int), (s = 0 ∧ ¬ l[i]? = some 45 ∨ s = 1) → (if l[i]? = some 48 then litD l (i + 1) else if digsF (l.drop i) = 0 then (i, false) else litD l (i + digsF (l.drop i))) = (i + (runZ (l.drop i) s).1, doneZ (runZ (l.drop i) s).2) := by
    intro i s hs
    have hd0 : doneZ s = false := by rcases hs with ⟨rfl, _⟩ | rfl <;> rfl
    by_cases h48 : l[i]? = some 48
    · have e2 : stepZ s ((48 : UInt8).toNat : Int) = 2 := by rcases hs with ⟨rfl, _⟩ | rfl <;> rfl
      rw [if_pos h48, litD_run l (i + 1) 2 (by simp) (fun c hc h => absurd rfl h), run_on h48 e2 (by decide)]
      simp only [Prod.mk.injEq, and_true]
      omega
    · rw [if_neg h48]
      by_cases hz : digsF (l.drop i) = 0
      · rw [if_pos hz, run_stop s _ (fun c hc => by
          have h1 := no_dg (digs_zero hz c hc)
          rw [head_drop] at hc
          have h2 : s = 0 → ¬ (c.toNat : Int) = 45 := fun h0 h => by
            rcases hs with ⟨_, hh⟩ | hh
            · exact hh (by rw [hc, (u8_eq c 45).2 h])
            · omega
          unfold stepZ; rcases hs with ⟨rfl, _⟩ | rfl <;> (repeat' split) <;> omega), hd0]
        rfl
      · rw [if_neg hz]
        cases hc : l[i]? with
        | none => rw [List.drop_eq_nil_of_le (List.getElem?_eq_none_iff.1 hc)] at hz; exact absurd rfl hz
        | some c =>
          have hdg : isDg c = true := by
            cases h : isDg c with
            | true => rfl
            | false => rw [drop_cons hc, digs_no c _ h] at hz; exact absurd rfl hz
          have h1 := (isDg_iff c).1 hdg
          have h2 : ¬ (c.toNat : Int) = 48 := fun h => h48 (by rw [hc, (u8_eq c 48).2 h])
          have e3 : stepZ s c.toNat = 3 := by unfold stepZ; rcases hs with ⟨rfl, _⟩ | rfl <;> (repeat' split) <;> omega
          rw [litD_run l _ 3 (by simp) (fun d hd _ => digs_endz (l.drop i) d (by rw [List.drop_drop, head_drop]; exact hd)), run_on hc e3 (by decide), run_same 3 (step_dg 3 3 (by simp)) (by omega) (l.drop (i + 1)), List.drop_drop]
          have ed : digsF (l.drop i) = digsF (l.drop (i + 1)) + 1 := by rw [drop_cons hc, digs_cons c _ hdg]
          rw [ed, show i + (digsF (l.drop (i + 1)) + 1) = i + 1 + digsF (l.drop (i + 1)) by omega]
          simp only [Prod.mk.injEq, and_true]
          omega
  unfold litF
  by_cases h45 : l[0]? = some 45
  · rw [if_pos h45]
    have h1 := key 1 1 (.inr rfl)
    simp only at h1 ⊢
    rw [h1]
    have e1 : stepZ 0 ((45 : UInt8).toNat : Int) = 1 := rfl
    have er := run_on (s := 0) h45 e1 (by decide)
    rw [List.drop_zero, Nat.zero_add] at er
    rw [er]
    simp only [Prod.mk.injEq, and_true]
    omega
  · rw [if_neg h45]
    have h1 := key 0 0 (.inl ⟨rfl, h45⟩)
    rw [List.drop_zero] at h1
    simp only [Nat.zero_add] at h1
    simp only [List.drop_zero, Nat.zero_add]
    exact h1
end Go.Proofs.YtaalajhmfdcalaaDoor.X
namespace Go.Proofs.YtaalajhmfdcalaaDoor.X
open Go.RowKit Go.Lib Go.Proofs.YtaalajhmfdcalaaDoorW.PrintWords Go.Proofs.YtaalajhmfdcalaaDoorW.PrintLast Go.Proofs.YtaalajhmfdcalaaDoorW.PrintMore
theorem numberF_at {s : List UInt8} {p n : Nat} {st : Int} (h : runZ (s.drop p) 0 = (n + (runZ (s.drop (p + n)) st).1, (runZ (s.drop (p + n)) st).2)) (hs : runZ (s.drop (p + n)) st = (0, st)) (hd : doneZ st = true) : numberF s p = .val ((s.drop p).take n) (p + n) := by
  unfold numberF
  rw [litF_run, h, hs]
  simp only [Nat.add_zero]
  rw [if_pos hd]
theorem numberF_err {s : List UInt8} {p n : Nat} {st : Int} (h : runZ (s.drop p) 0 = (n + (runZ (s.drop (p + n)) st).1, (runZ (s.drop (p + n)) st).2)) (hs : runZ (s.drop (p + n)) st = (0, st)) (hd : doneZ st = false) : numberF s p = if s.length ≤ p + n then .err 3 s.length else .err 44 (p + n) := by
  unfold numberF
  rw [litF_run, h, hs]
  simp only [Nat.add_zero]
  rw [if_neg (by rw [hd]; decide)]
theorem ext_take (s : ByteArray) (p n at_ : Nat) (h : p + n = at_) : s.extract p at_ = bsJ ((s.data.toList.drop p).take n) := by
  apply ByteArray.ext
  apply Array.ext'
  subst h
  simp [bsJ, List.take_drop, Nat.add_comm]
set_option maxRecDepth 1000000 in
set_option maxHeartbeats 4000000 in
theorem rnumber_calls (s : ByteArray) (p : Nat) (W : World) (hs : s.size ≤ 4611686018427387904) (hp : p ≤ s.size) :
    Calls Tryd.prog 47 #[.string s, .int .i64 p] W (GotE ((numberF s.data.toList p).map fun t => ⟨3, bsJ t, [], []⟩) W) := by
  go_enter Tryd.func47, Tryd.ntmps47
  go_wp2
  go_loopg [5, 6] (s.size - p + 1) (fun g v5 v6 wr => ∃ (n at_ : Nat) (st : Int), v5 = .int .i64 st ∧ v6 = .int .i64 (at_ : Int) ∧ p + n = at_ ∧ at_ ≤ s.size ∧ s.size + 1 ≤ at_ + g ∧ Aside0 (Sts st) ∧ Aside0 (wr.heap[W.heap.size]? = some (.cells #[.int .i64 0, .string (⟨#[]⟩ : ByteArray), .slice none 0 0, .slice none 0 0, .int .i64 0, .int .i64 0, .int .i64 0] 53 (0, 0))) ∧ Aside0 (Below W.heap.size W wr) ∧ Aside0 (runZ (s.data.toList.drop p) 0 = (n + (runZ (s.data.toList.drop (p + n)) st).1, (runZ (s.data.toList.drop (p + n)) st).2)))
  case atStart => exact ⟨0, p, 0, rfl, rfl, rfl, by omega, by omega, ⟨.inl rfl⟩, ⟨heap_alloc_new W _⟩, ⟨below_alloc (Below.refl _ _) _⟩, ⟨by simp⟩⟩
  case round =>
    obtain ⟨n, at_, st, rfl, rfl, hat, hk, hg, HST, HX, HB, HR⟩ := hrel
    have hb1 := HX.out
    have z0 := (blk_cell hb1 0).trans rfl
    have g0 := blk_frozen hb1 0
    have z1 := (blk_cell hb1 1).trans rfl
    have g1 := blk_frozen hb1 1
    have z2 := (blk_cell hb1 2).trans rfl
    have g2 := blk_frozen hb1 2
    have z3 := (blk_cell hb1 3).trans rfl
    have g3 := blk_frozen hb1 3
    have z4 := (blk_cell hb1 4).trans rfl
    have g4 := blk_frozen hb1 4
    have z5 := (blk_cell hb1 5).trans rfl
    have g5 := blk_frozen hb1 5
    have z6 := (blk_cell hb1 6).trans rfl
    have g6 := blk_frozen hb1 6
    clear hb1
    have q1 : (0 ≤ (p : Int)) = True := eq_true (by omega)
    have q2 : ((p : Int) ≤ (at_ : Int)) = True := eq_true (by omega)
    have q3 : ((at_ : Int) ≤ (s.size : Int)) = True := eq_true (by omega)
    have q4 : (p ≤ at_) = True := eq_true (by omega)
    have q5 : (at_ ≤ s.size) = True := eq_true (by omega)
    by_cases hlt : at_ < s.size
    · cases gk with
      | zero => omega
      | succ g =>
        have p1 : (0 ≤ (at_ : Int)) = True := eq_true (by omega)
        have p2 : ((at_ : Int) < (s.size : Int)) = True := eq_true (by omega)
        have p3 : (at_ == s.size) = false := beq_eq_false_iff_ne.mpr (by omega)
        have p4 : ((at_ : Int) == (s.size : Int)) = false := beq_eq_false_iff_ne.mpr (by omega)
        have p5 : (at_ < s.size) = True := eq_true hlt
        obtain ⟨u, hu, hx⟩ := drop_at s at_ hlt
        have hwn := wrap_next at_ s.size hlt (by omega)
        have HWN := Aside0.mk hwn
        have HCL := Aside0.mk (class_of (u.toNat : Int))
        clear hwn
        by_cases hn : stepZ st (u.toNat : Int) < 0
        · have hn1 : decide (0 ≤ stepZ st (u.toNat : Int)) = false := decide_eq_false (by omega)
          have HSTOP := Aside0.mk (show runZ (s.data.toList.drop (p + n)) st = (0, st) by rw [hat, hu]; exact run_stop st _ (fun c hc => by simp at hc; rw [← hc]; exact hn))
          clear hn hu
          by_cases hdn : doneZ st = true
          · skip
            have HDN := Aside0.mk hdn
            have HO := Aside0.mk (show numberF s.data.toList p = .val ((s.data.toList.drop p).take n) at_ by rw [numberF_at HR.out HSTOP.out hdn, hat])
            obtain ⟨hbk, hfin⟩ := GotV.mk0 HB.out (Nat.le_refl _) HX.out 3 (s.extract p at_) (at_ : Int) 0 0
            have HBK := Aside0.mk hbk
            have HFIN := Aside0.mk hfin
            clear hbk hfin hdn
            go_wp2_with (first | (go_at_call 71; (with_reducible refine (step_calls st (u.toNat : Int) _ HST.out HCL.out).mono ?_); rintro e w1 ⟨rfl, rfl⟩) | (go_at_call 72; (with_reducible refine (done_calls st _ HST.out).mono ?_); rintro e w1 ⟨rfl, rfl⟩; rw [HDN.out]))
            refine bodyPost_ret (results_cell_row rfl _ _ W.heap.size 53 _ (0, 0) _ rfl HBK.out Tryd.underlying53 rfl (by kernel_rfl)) rfl ?_
            rw [HO.out]
            show GotV _ _ _ (bsJ ((s.data.toList.drop p).take n)) _ _ _ _ _ _
            rw [← ext_take s p n at_ hat]
            exact HFIN.out
          · have hdn' : doneZ st = false := Bool.eq_false_iff.2 hdn
            have HDN := Aside0.mk hdn'
            have HO := Aside0.mk (show numberF s.data.toList p = .err 44 at_ by rw [numberF_err HR.out HSTOP.out hdn', if_neg (by rw [size_data]; omega), hat])
            clear hdn hdn'
            go_wp2_with (first | (go_at_call 71; (with_reducible refine (step_calls st (u.toNat : Int) _ HST.out HCL.out).mono ?_); rintro e w1 ⟨rfl, rfl⟩) | (go_at_call 72; (with_reducible refine (done_calls st _ HST.out).mono ?_); rintro e w1 ⟨rfl, rfl⟩; rw [HDN.out]) | (go_at_call 45; (with_reducible refine (rbad_calls _ _ _).mono ?_); intro e w1 hv; obtain ⟨A2, c2, A3, c3, rfl, hb1, hbk, hfin⟩ := GotV.put HB.out (Nat.le_refl _) HX.out hv; have HBK := Aside0.mk hbk; have HFIN := Aside0.mk hfin; have z0 := (blk_cell hb1 0).trans rfl; have z1 := (blk_cell hb1 1).trans rfl; have z2 := (blk_cell hb1 2).trans rfl; have z3 := (blk_cell hb1 3).trans rfl; have z4 := (blk_cell hb1 4).trans rfl; have z5 := (blk_cell hb1 5).trans rfl; have z6 := (blk_cell hb1 6).trans rfl; have g0 := blk_frozen hb1 0; have g1 := blk_frozen hb1 1; have g2 := blk_frozen hb1 2; have g3 := blk_frozen hb1 3; have g4 := blk_frozen hb1 4; have g5 := blk_frozen hb1 5; have g6 := blk_frozen hb1 6; clear hv hb1 hbk hfin))
            refine bodyPost_ret (results_cell_row rfl _ _ W.heap.size 53 _ (0, 0) _ rfl HBK.out Tryd.underlying53 rfl (by kernel_rfl)) rfl ?_
            rw [HO.out]
            exact ⟨by decide, HFIN.out⟩
        · have hn1 : decide (0 ≤ stepZ st (u.toNat : Int)) = true := decide_eq_true (by omega)
          have HR2 := Aside0.mk (show runZ (s.data.toList.drop p) 0 = (n + 1 + (runZ (s.data.toList.drop (p + (n + 1))) (stepZ st (u.toNat : Int))).1, (runZ (s.data.toList.drop (p + (n + 1))) (stepZ st (u.toNat : Int))).2) by
            have e1 : p + (n + 1) = at_ + 1 := by omega
            rw [HR.out, hat, hu, runZ, if_neg hn, e1]
            simp only [Prod.mk.injEq, and_true]
            omega)
          have HS2 := Aside0.mk (sts_step _ _ hn)
          clear hn hu
          go_wp2_with (go_at_call 71; (with_reducible refine (step_calls st (u.toNat : Int) _ HST.out HCL.out).mono ?_); rintro e w1 ⟨rfl, rfl⟩)
          go_roundg g
          case measure => omega
          case rel => exact ⟨n + 1, at_ + 1, _, rfl, (by first | exact congrArg (Value.int .i64) HWN.out | exact congrArg (Value.int .i64) (show (at_ : Int) + 1 = ((at_ + 1 : Nat) : Int) by omega)), by omega, by omega, by omega, HS2, HX, HB, HR2⟩
    · have p2 : ((at_ : Int) < (s.size : Int)) = False := eq_false (by omega)
      have p3 : (at_ == s.size) = true := beq_iff_eq.mpr (by omega)
      have p4 : ((at_ : Int) == (s.size : Int)) = true := beq_iff_eq.mpr (by omega)
      have p5 : (at_ < s.size) = False := eq_false hlt
      have HSTOP := Aside0.mk (show runZ (s.data.toList.drop (p + n)) st = (0, st) by rw [hat, List.drop_eq_nil_of_le (by rw [size_data]; omega)]; rfl)
      by_cases hdn : doneZ st = true
      · skip
        have HDN := Aside0.mk hdn
        have HO := Aside0.mk (show numberF s.data.toList p = .val ((s.data.toList.drop p).take n) at_ by rw [numberF_at HR.out HSTOP.out hdn, hat])
        obtain ⟨hbk, hfin⟩ := GotV.mk0 HB.out (Nat.le_refl _) HX.out 3 (s.extract p at_) (at_ : Int) 0 0
        have HBK := Aside0.mk hbk
        have HFIN := Aside0.mk hfin
        clear hbk hfin hdn
        go_wp2_with (first | (go_at_call 72; (with_reducible refine (done_calls st _ HST.out).mono ?_); rintro e w1 ⟨rfl, rfl⟩; rw [HDN.out]))
        refine bodyPost_ret (results_cell_row rfl _ _ W.heap.size 53 _ (0, 0) _ rfl HBK.out Tryd.underlying53 rfl (by kernel_rfl)) rfl ?_
        rw [HO.out]
        show GotV _ _ _ (bsJ ((s.data.toList.drop p).take n)) _ _ _ _ _ _
        rw [← ext_take s p n at_ hat]
        exact HFIN.out
      · have hdn' : doneZ st = false := Bool.eq_false_iff.2 hdn
        have HDN := Aside0.mk hdn'
        have HO := Aside0.mk (show numberF s.data.toList p = .err 3 at_ by rw [numberF_err HR.out HSTOP.out hdn', if_pos (by rw [size_data]; omega), size_data, show s.size = at_ by omega])
        clear hdn hdn'
        go_wp2_with (first | (go_at_call 72; (with_reducible refine (done_calls st _ HST.out).mono ?_); rintro e w1 ⟨rfl, rfl⟩; rw [HDN.out]) | (go_at_call 45; (with_reducible refine (rbad_calls _ _ _).mono ?_); intro e w1 hv; obtain ⟨A2, c2, A3, c3, rfl, hb1, hbk, hfin⟩ := GotV.put HB.out (Nat.le_refl _) HX.out hv; have HBK := Aside0.mk hbk; have HFIN := Aside0.mk hfin; have z0 := (blk_cell hb1 0).trans rfl; have z1 := (blk_cell hb1 1).trans rfl; have z2 := (blk_cell hb1 2).trans rfl; have z3 := (blk_cell hb1 3).trans rfl; have z4 := (blk_cell hb1 4).trans rfl; have z5 := (blk_cell hb1 5).trans rfl; have z6 := (blk_cell hb1 6).trans rfl; have g0 := blk_frozen hb1 0; have g1 := blk_frozen hb1 1; have g2 := blk_frozen hb1 2; have g3 := blk_frozen hb1 3; have g4 := blk_frozen hb1 4; have g5 := blk_frozen hb1 5; have g6 := blk_frozen hb1 6; clear hv hb1 hbk hfin))
        refine bodyPost_ret (results_cell_row rfl _ _ W.heap.size 53 _ (0, 0) _ rfl HBK.out Tryd.underlying53 rfl (by kernel_rfl)) rfl ?_
        rw [HO.out]
        exact ⟨by decide, HFIN.out⟩
end Go.Proofs.YtaalajhmfdcalaaDoor.X
namespace Go.Proofs.YtaalajhmfdcalaaDoor.X
open Go.RowKit Go.Lib Go.Proofs.YtaalajhmfdcalaaDoorW.PrintWords Go.Proofs.YtaalajhmfdcalaaDoorW.PrintLast Go.Proofs.YtaalajhmfdcalaaDoorW.PrintMore
def contZ : Nat → List UInt8 → Int → Int → Int → Int
  | 0, _, _, _, n => n
  | _ + 1, [], _, _, _ => -1
  | k + 1, x :: r, lo, hi, n => if (x.toNat : Int) < lo ∨ hi < (x.toNat : Int) then 0 else contZ k r 128 191 n
def cntZ (c : Int) : Nat := if c < 128 then 1 else if 194 ≤ c ∧ c ≤ 223 then 2 else if 224 ≤ c ∧ c ≤ 239 then 3 else if 240 ≤ c ∧ c ≤ 244 then 4 else 0
def loZ (c : Int) : Int := if c = 224 then 160 else if c = 240 then 144 else 128
def hiZ (c : Int) : Int := if c = 237 then 159 else if c = 244 then 143 else 191
def charZ : List UInt8 → Int
  | [] => 0
  | c :: r => if cntZ c.toNat ≤ 1 then cntZ c.toNat else contZ (cntZ c.toNat - 1) r (loZ c.toNat) (hiZ c.toNat) (cntZ c.toNat)
theorem wrap_byte (x : Int) (h0 : 0 ≤ x) (h1 : x ≤ 255) : wrap64 x = x := by unfold wrap64; omega
theorem wrap_sum (p k n : Nat) (h : p < n) (hn : n ≤ 4611686018427387904) (hk : k ≤ 4) : wrap64 ((p : Int) + (k : Int)) = ((p + k : Nat) : Int) := by unfold wrap64; omega
set_option maxRecDepth 1000000 in
set_option maxHeartbeats 8000000 in
theorem char_calls (s : ByteArray) (p : Nat) (w : World) (hsz : s.size ≤ 4611686018427387904) (hp : p < s.size) : Calls Tryd.prog 60 #[.string s, .int .i64 (p : Int)] w fun e w' => e = .returned (.int .i64 (charZ (s.data.toList.drop p))) ∧ w' = w := by
  obtain ⟨u, e1, hx⟩ := drop_at s p hp
  rw [e1]
  have p1 : (0 ≤ (p : Int)) = True := eq_true (by omega)
  have p2 : ((p : Int) < (s.size : Int)) = True := eq_true (by omega)
  have hu := u.toNat_lt
  clear e1
  obtain ⟨c, hc⟩ : ∃ c : Int, c = (u.toNat : Int) := ⟨_, rfl⟩
  have hb : 0 ≤ c ∧ c ≤ 255 := by omega
  have hcu := hc.symm
  have hwb := wrap_byte _ hb.1 hb.2
  have HV := Aside0.mk (show charZ (u :: s.data.toList.drop (p + 1)) = if cntZ c ≤ 1 then (cntZ c : Int) else contZ (cntZ c - 1) (s.data.toList.drop (p + 1)) (loZ c) (hiZ c) (cntZ c) by rw [charZ, ← hc])
  clear hc hu
  have HB := Aside0.mk hb
  clear hb
  generalize charZ (u :: s.data.toList.drop (p + 1)) = res at *
  go_enter Tryd.func60, Tryd.ntmps60
  go_upto_block 0 with (fail)
  go_cut [6] (fun v6 wc => v6 = .int .i64 (cntZ c : Int) ∧ Aside0 (2 ≤ cntZ c) ∧ w = wc)
  case first =>
    rcases (by have := HB.out; omega : c < 128 ∨ (128 ≤ c ∧ c < 194) ∨ 244 < c ∨ (194 ≤ c ∧ c ≤ 223) ∨ (224 ≤ c ∧ c ≤ 239) ∨ (240 ≤ c ∧ c ≤ 244)) with h | h | h | h | h | h
    · have HN := Aside0.mk (show cntZ c = 1 by unfold cntZ; repeat (first | rw [if_pos (by omega)] | rw [if_neg (by omega)]))
      have a0 : decide (c < 128) = true := decide_eq_true (by omega)
      have a1 : decide (194 ≤ c) = false := decide_eq_false (by omega)
      have a2 : decide (c ≤ 223) = true := decide_eq_true (by omega)
      have a3 : decide (224 ≤ c) = false := decide_eq_false (by omega)
      have a4 : decide (c ≤ 239) = true := decide_eq_true (by omega)
      have a5 : decide (240 ≤ c) = false := decide_eq_false (by omega)
      have a6 : decide (c ≤ 244) = true := decide_eq_true (by omega)
      have HV2 := Aside0.mk HV.out
      clear h
      go_wp2
      go_ret
      exact ⟨by rw [HV.out, if_pos (by rw [HN.out]; decide), HN.out]; rfl, rfl⟩
    · have HN := Aside0.mk (show cntZ c = 0 by unfold cntZ; repeat (first | rw [if_pos (by omega)] | rw [if_neg (by omega)]))
      have a0 : decide (c < 128) = false := decide_eq_false (by omega)
      have a1 : decide (194 ≤ c) = false := decide_eq_false (by omega)
      have a2 : decide (c ≤ 223) = true := decide_eq_true (by omega)
      have a3 : decide (224 ≤ c) = false := decide_eq_false (by omega)
      have a4 : decide (c ≤ 239) = true := decide_eq_true (by omega)
      have a5 : decide (240 ≤ c) = false := decide_eq_false (by omega)
      have a6 : decide (c ≤ 244) = true := decide_eq_true (by omega)
      have HV2 := Aside0.mk HV.out
      clear h
      go_wp2
      go_ret
      exact ⟨by rw [HV.out, if_pos (by rw [HN.out]; decide), HN.out]; rfl, rfl⟩
    · have HN := Aside0.mk (show cntZ c = 0 by unfold cntZ; repeat (first | rw [if_pos (by omega)] | rw [if_neg (by omega)]))
      have a0 : decide (c < 128) = false := decide_eq_false (by omega)
      have a1 : decide (194 ≤ c) = true := decide_eq_true (by omega)
      have a2 : decide (c ≤ 223) = false := decide_eq_false (by omega)
      have a3 : decide (224 ≤ c) = true := decide_eq_true (by omega)
      have a4 : decide (c ≤ 239) = false := decide_eq_false (by omega)
      have a5 : decide (240 ≤ c) = true := decide_eq_true (by omega)
      have a6 : decide (c ≤ 244) = false := decide_eq_false (by omega)
      have HV2 := Aside0.mk HV.out
      clear h
      go_wp2
      go_ret
      exact ⟨by rw [HV.out, if_pos (by rw [HN.out]; decide), HN.out]; rfl, rfl⟩
    · have HN := Aside0.mk (show cntZ c = 2 by unfold cntZ; repeat (first | rw [if_pos (by omega)] | rw [if_neg (by omega)]))
      have a0 : decide (c < 128) = false := decide_eq_false (by omega)
      have a1 : decide (194 ≤ c) = true := decide_eq_true (by omega)
      have a2 : decide (c ≤ 223) = true := decide_eq_true (by omega)
      have a3 : decide (224 ≤ c) = false := decide_eq_false (by omega)
      have a4 : decide (c ≤ 239) = true := decide_eq_true (by omega)
      have a5 : decide (240 ≤ c) = false := decide_eq_false (by omega)
      have a6 : decide (c ≤ 244) = true := decide_eq_true (by omega)
      have HV2 := Aside0.mk HV.out
      clear h
      go_wp2
      go_meet
      case rel => exact ⟨by rw [HN.out]; rfl, ⟨by rw [HN.out]; decide⟩, rfl⟩
    · have HN := Aside0.mk (show cntZ c = 3 by unfold cntZ; repeat (first | rw [if_pos (by omega)] | rw [if_neg (by omega)]))
      have a0 : decide (c < 128) = false := decide_eq_false (by omega)
      have a1 : decide (194 ≤ c) = true := decide_eq_true (by omega)
      have a2 : decide (c ≤ 223) = false := decide_eq_false (by omega)
      have a3 : decide (224 ≤ c) = true := decide_eq_true (by omega)
      have a4 : decide (c ≤ 239) = true := decide_eq_true (by omega)
      have a5 : decide (240 ≤ c) = false := decide_eq_false (by omega)
      have a6 : decide (c ≤ 244) = true := decide_eq_true (by omega)
      have HV2 := Aside0.mk HV.out
      clear h
      go_wp2
      go_meet
      case rel => exact ⟨by rw [HN.out]; rfl, ⟨by rw [HN.out]; decide⟩, rfl⟩
    · have HN := Aside0.mk (show cntZ c = 4 by unfold cntZ; repeat (first | rw [if_pos (by omega)] | rw [if_neg (by omega)]))
      have a0 : decide (c < 128) = false := decide_eq_false (by omega)
      have a1 : decide (194 ≤ c) = true := decide_eq_true (by omega)
      have a2 : decide (c ≤ 223) = false := decide_eq_false (by omega)
      have a3 : decide (224 ≤ c) = true := decide_eq_true (by omega)
      have a4 : decide (c ≤ 239) = false := decide_eq_false (by omega)
      have a5 : decide (240 ≤ c) = true := decide_eq_true (by omega)
      have a6 : decide (c ≤ 244) = true := decide_eq_true (by omega)
      have HV2 := Aside0.mk HV.out
      clear h
      go_wp2
      go_meet
      case rel => exact ⟨by rw [HN.out]; rfl, ⟨by rw [HN.out]; decide⟩, rfl⟩
  case rest =>
    obtain ⟨rfl, HN, rfl⟩ := hcut
    go_upto_block 1 with (fail)
    go_cut [7, 8] (fun v7 v8 wc => v7 = .int .i64 (loZ c) ∧ v8 = .int .i64 (hiZ c) ∧ w = wc)
    case first =>
      rcases (by omega : c = 224 ∨ c = 237 ∨ c = 240 ∨ c = 244 ∨ (c ≠ 224 ∧ c ≠ 237 ∧ c ≠ 240 ∧ c ≠ 244)) with h | h | h | h | h
      · have HLO := Aside0.mk (show loZ c = 160 by unfold loZ; repeat (first | rw [if_pos (by omega)] | rw [if_neg (by omega)]))
        have HHI := Aside0.mk (show hiZ c = 191 by unfold hiZ; repeat (first | rw [if_pos (by omega)] | rw [if_neg (by omega)]))
        have b224 : (c == 224) = true := beq_iff_eq.mpr h
        have b237 : (c == 237) = false := beq_eq_false_iff_ne.mpr (by omega)
        have b240 : (c == 240) = false := beq_eq_false_iff_ne.mpr (by omega)
        have b244 : (c == 244) = false := beq_eq_false_iff_ne.mpr (by omega)
        clear h
        go_wp2
        go_meet
        case rel => exact ⟨by rw [HLO.out], by rw [HHI.out], rfl⟩
      · have HLO := Aside0.mk (show loZ c = 128 by unfold loZ; repeat (first | rw [if_pos (by omega)] | rw [if_neg (by omega)]))
        have HHI := Aside0.mk (show hiZ c = 159 by unfold hiZ; repeat (first | rw [if_pos (by omega)] | rw [if_neg (by omega)]))
        have b224 : (c == 224) = false := beq_eq_false_iff_ne.mpr (by omega)
        have b237 : (c == 237) = true := beq_iff_eq.mpr h
        have b240 : (c == 240) = false := beq_eq_false_iff_ne.mpr (by omega)
        have b244 : (c == 244) = false := beq_eq_false_iff_ne.mpr (by omega)
        clear h
        go_wp2
        go_meet
        case rel => exact ⟨by rw [HLO.out], by rw [HHI.out], rfl⟩
      · have HLO := Aside0.mk (show loZ c = 144 by unfold loZ; repeat (first | rw [if_pos (by omega)] | rw [if_neg (by omega)]))
        have HHI := Aside0.mk (show hiZ c = 191 by unfold hiZ; repeat (first | rw [if_pos (by omega)] | rw [if_neg (by omega)]))
        have b224 : (c == 224) = false := beq_eq_false_iff_ne.mpr (by omega)
        have b237 : (c == 237) = false := beq_eq_false_iff_ne.mpr (by omega)
        have b240 : (c == 240) = true := beq_iff_eq.mpr h
        have b244 : (c == 244) = false := beq_eq_false_iff_ne.mpr (by omega)
        clear h
        go_wp2
        go_meet
        case rel => exact ⟨by rw [HLO.out], by rw [HHI.out], rfl⟩
      · have HLO := Aside0.mk (show loZ c = 128 by unfold loZ; repeat (first | rw [if_pos (by omega)] | rw [if_neg (by omega)]))
        have HHI := Aside0.mk (show hiZ c = 143 by unfold hiZ; repeat (first | rw [if_pos (by omega)] | rw [if_neg (by omega)]))
        have b224 : (c == 224) = false := beq_eq_false_iff_ne.mpr (by omega)
        have b237 : (c == 237) = false := beq_eq_false_iff_ne.mpr (by omega)
        have b240 : (c == 240) = false := beq_eq_false_iff_ne.mpr (by omega)
        have b244 : (c == 244) = true := beq_iff_eq.mpr h
        clear h
        go_wp2
        go_meet
        case rel => exact ⟨by rw [HLO.out], by rw [HHI.out], rfl⟩
      · have HLO := Aside0.mk (show loZ c = 128 by unfold loZ; repeat (first | rw [if_pos (by omega)] | rw [if_neg (by omega)]))
        have HHI := Aside0.mk (show hiZ c = 191 by unfold hiZ; repeat (first | rw [if_pos (by omega)] | rw [if_neg (by omega)]))
        have b224 : (c == 224) = false := beq_eq_false_iff_ne.mpr (by omega)
        have b237 : (c == 237) = false := beq_eq_false_iff_ne.mpr (by omega)
        have b240 : (c == 240) = false := beq_eq_false_iff_ne.mpr (by omega)
        have b244 : (c == 244) = false := beq_eq_false_iff_ne.mpr (by omega)
        clear h
        go_wp2
        go_meet
        case rel => exact ⟨by rw [HLO.out], by rw [HHI.out], rfl⟩
    case rest =>
      obtain ⟨rfl, rfl, rfl⟩ := hcut
      clear hcu p1 p2 hx hwb
      have HRES := Aside0.mk (show res = contZ (cntZ c - 1) (s.data.toList.drop (p + 1)) (loZ c) (hiZ c) (cntZ c) by have := HV.out; rw [if_neg (by have := HN.out; omega)] at this; exact this)
      clear HV
      have hn4 : cntZ c ≤ 4 := by unfold cntZ; (repeat' split) <;> omega
      have hn2 := HN.out
      generalize cntZ c = n at *
      generalize loZ c = lo0 at *
      generalize hiZ c = hi0 at *
      go_wp2
      go_loopg [7, 8, 9] (n + 1) (fun g v7 v8 v9 wr => ∃ (k : Nat) (lo hi : Int), v7 = .int .i64 lo ∧ v8 = .int .i64 hi ∧ v9 = .int .i64 (k : Int) ∧ 1 ≤ k ∧ k ≤ n ∧ n + 1 ≤ k + g ∧ w = wr ∧ Aside0 (res = contZ (n - k) (s.data.toList.drop (p + k)) lo hi n))
      case atStart => exact ⟨1, _, _, rfl, rfl, rfl, by omega, by omega, by omega, rfl, HRES⟩
      case round =>
        obtain ⟨k, lo, hi, rfl, rfl, rfl, hk1, hk, hg, rfl, HR⟩ := hrel
        clear HRES
        by_cases hlt : k < n
        · cases gk with
          | zero => omega
          | succ g =>
            have q0 : ((k : Int) < (n : Int)) = True := eq_true (by omega)
            have hws := wrap_sum p k s.size hp hsz (by omega)
            have hwk : wrap64 ((k : Int) + 1) = ((k + 1 : Nat) : Int) := by unfold wrap64; omega
            have HWK := Aside0.mk hwk
            clear hwk
            have HC1 := Aside0.mk (show n - k = (n - (k + 1)) + 1 by omega)
            by_cases hps : p + k < s.size
            · obtain ⟨x, hxu, hx⟩ := drop_at s (p + k) hps
              have q1 : ((s.size : Int) ≤ ((p + k : Nat) : Int)) = False := eq_false (by omega)
              have q2 : (0 ≤ ((p + k : Nat) : Int)) = True := eq_true (by omega)
              have q3 : (((p + k : Nat) : Int) < (s.size : Int)) = True := eq_true (by omega)
              have hxr := x.toNat_lt
              have hwx := wrap_byte (x.toNat : Int) (by omega) (by omega)
              have HX := Aside0.mk (show res = if (x.toNat : Int) < lo ∨ hi < (x.toNat : Int) then 0 else contZ (n - (k + 1)) (s.data.toList.drop (p + (k + 1))) 128 191 n by rw [HR.out, HC1.out, hxu, contZ]; rfl)
              clear hxu hxr
              by_cases c1 : (x.toNat : Int) < lo
              · have d1 : decide ((x.toNat : Int) < lo) = true := decide_eq_true c1
                have HF := Aside0.mk (show res = 0 by rw [HX.out, if_pos (.inl c1)])
                go_wp2
                go_ret
                exact ⟨by rw [HF.out]; rfl, rfl⟩
              · have d1 : decide ((x.toNat : Int) < lo) = false := decide_eq_false c1
                by_cases c2 : hi < (x.toNat : Int)
                · have d2 : decide (hi < (x.toNat : Int)) = true := decide_eq_true c2
                  have HF := Aside0.mk (show res = 0 by rw [HX.out, if_pos (.inr c2)])
                  go_wp2
                  go_ret
                  exact ⟨by rw [HF.out]; rfl, rfl⟩
                · have d2 : decide (hi < (x.toNat : Int)) = false := decide_eq_false c2
                  have HF := Aside0.mk (show res = contZ (n - (k + 1)) (s.data.toList.drop (p + (k + 1))) 128 191 n by rw [HX.out, if_neg (fun h => h.elim c1 c2)])
                  go_wp2
                  go_roundg g
                  case measure => omega
                  case rel => exact ⟨k + 1, 128, 191, rfl, rfl, (by first | exact congrArg (Value.int .i64) HWK.out | exact congrArg (Value.int .i64) (show (k : Int) + 1 = ((k + 1 : Nat) : Int) by omega)), by omega, by omega, by omega, rfl, HF⟩
            · have q1 : ((s.size : Int) ≤ ((p + k : Nat) : Int)) = True := eq_true (by omega)
              have HF := Aside0.mk (show res = -1 by rw [HR.out, HC1.out, List.drop_eq_nil_of_le (by rw [size_data]; omega), contZ])
              go_wp2
              go_ret
              exact ⟨by rw [HF.out]; rfl, rfl⟩
        · have q0 : ((k : Int) < (n : Int)) = False := eq_false (by omega)
          obtain rfl : k = n := by omega
          have HF := Aside0.mk (show res = (k : Int) by rw [HR.out, Nat.sub_self, contZ])
          go_wp2
          go_ret
          exact ⟨by rw [HF.out]; rfl, rfl⟩
end Go.Proofs.YtaalajhmfdcalaaDoor.X



namespace Go.Proofs
open Go.Shelf Go.RowKit
def Tryd.sl6_ren : Go.Shelf.Ren := ⟨fun | 6 => 77 | 10 => 90 | 11 => 91 | 12 => 92 | 13 => 93 | 14 => 94 | 24 => 106 | 25 => 107 | 26 => 108 | 27 => 109 | 28 => 110 | 29 => 111 | 30 => 112 | 31 => 113 | 32 => 114 | 33 => 115 | 34 => 116 | 35 => 117 | 36 => 118 | 37 => 119 | 38 => 120 | 39 => 121 | n => n, fun | 0 => 0 | 3 => 3 | 4 => 4 | 5 => 5 | 9 => 9 | 12 => 12 | 17 => 17 | 20 => 20 | 26 => 109 | 32 => 125 | 33 => 126 | 35 => 128 | 37 => 130 | 41 => 106 | 44 => 135 | 49 => 114 | 51 => 137 | 53 => 144 | 54 => 145 | 58 => 90 | 60 => 150 | 64 => 154 | 66 => 156 | 67 => 157 | 75 => 164 | 76 => 165 | 77 => 166 | 78 => 167 | 79 => 168 | 80 => 169 | 82 => 171 | n => n, fun n => n⟩
set_option maxRecDepth 100000 in
theorem Tryd.sl6 : LaysGg.n6 Tryd.prog Tryd.sl6_ren := {
  mixed := by kernel_rfl
  f6 := Tryd.func77.trans (congrArg some (by kernel_rfl))
  f10 := Tryd.func90.trans (congrArg some (by kernel_rfl))
  f11 := Tryd.func91.trans (congrArg some (by kernel_rfl))
  f12 := Tryd.func92.trans (congrArg some (by kernel_rfl))
  f13 := Tryd.func93.trans (congrArg some (by kernel_rfl))
  f14 := Tryd.func94.trans (congrArg some (by kernel_rfl))
  f24 := Tryd.func106.trans (congrArg some (by kernel_rfl))
  f25 := Tryd.func107.trans (congrArg some (by kernel_rfl))
  f26 := Tryd.func108.trans (congrArg some (by kernel_rfl))
  f27 := Tryd.func109.trans (congrArg some (by kernel_rfl))
  f28 := Tryd.func110.trans (congrArg some (by kernel_rfl))
  f29 := Tryd.func111.trans (congrArg some (by kernel_rfl))
  f30 := Tryd.func112.trans (congrArg some (by kernel_rfl))
  f31 := Tryd.func113.trans (congrArg some (by kernel_rfl))
  f32 := Tryd.func114.trans (congrArg some (by kernel_rfl))
  f33 := Tryd.func115.trans (congrArg some (by kernel_rfl))
  f34 := Tryd.func116.trans (congrArg some (by kernel_rfl))
  f35 := Tryd.func117.trans (congrArg some (by kernel_rfl))
  f36 := Tryd.func118.trans (congrArg some (by kernel_rfl))
  f37 := Tryd.func119.trans (congrArg some (by kernel_rfl))
  f38 := Tryd.func120.trans (congrArg some (by kernel_rfl))
  f39 := Tryd.func121.trans (congrArg some (by kernel_rfl))
  t0 := Tryd.underlying0
  a0 := fun _ => by kernel_rfl
  z0 := fun _ => by kernel_rfl
  v0 := fun _ => by kernel_rfl
  i0 := by kernel_rfl
  t3 := Tryd.underlying3
  a3 := fun _ => by kernel_rfl
  z3 := fun _ => by kernel_rfl
  v3 := fun _ => by kernel_rfl
  i3 := by kernel_rfl
  t4 := Tryd.underlying4
  a4 := fun _ => by kernel_rfl
  z4 := fun _ => by kernel_rfl
  v4 := fun _ => by kernel_rfl
  i4 := by kernel_rfl
  t5 := Tryd.underlying5
  a5 := fun _ => by kernel_rfl
  z5 := fun _ => by kernel_rfl
  v5 := fun _ => by kernel_rfl
  i5 := by kernel_rfl
  t9 := Tryd.underlying9
  a9 := fun _ => by kernel_rfl
  z9 := fun _ => by kernel_rfl
  v9 := fun _ => by kernel_rfl
  i9 := by kernel_rfl
  t12 := Tryd.underlying12
  a12 := fun _ => by kernel_rfl
  z12 := fun _ => by kernel_rfl
  v12 := fun _ => by kernel_rfl
  i12 := by kernel_rfl
  t17 := Tryd.underlying17
  a17 := fun _ => by kernel_rfl
  z17 := fun _ => by kernel_rfl
  v17 := fun _ => by kernel_rfl
  i17 := by kernel_rfl
  t20 := Tryd.underlying20
  a20 := fun _ => by kernel_rfl
  z20 := fun _ => by kernel_rfl
  v20 := fun _ => by kernel_rfl
  i20 := by kernel_rfl
  t26 := Tryd.underlying109
  a26 := fun _ => by kernel_rfl
  z26 := fun _ => by kernel_rfl
  v26 := fun _ => by kernel_rfl
  i26 := by kernel_rfl
  t32 := Tryd.underlying125
  a32 := fun _ => by kernel_rfl
  z32 := fun _ => by kernel_rfl
  v32 := fun _ => by kernel_rfl
  i32 := by kernel_rfl
  t33 := Tryd.underlying126
  a33 := fun _ => by kernel_rfl
  z33 := fun _ => by kernel_rfl
  v33 := fun _ => by kernel_rfl
  i33 := by kernel_rfl
  t35 := Tryd.underlying128
  a35 := fun _ => by kernel_rfl
  z35 := fun _ => by kernel_rfl
  v35 := fun _ => by kernel_rfl
  i35 := by kernel_rfl
  t37 := Tryd.underlying130
  a37 := fun _ => by kernel_rfl
  z37 := fun _ => by kernel_rfl
  v37 := fun _ => by kernel_rfl
  i37 := by kernel_rfl
  t41 := Tryd.underlying106
  a41 := fun _ => by kernel_rfl
  z41 := fun _ => by kernel_rfl
  v41 := fun _ => by kernel_rfl
  i41 := by kernel_rfl
  t44 := Tryd.underlying135
  a44 := fun _ => by kernel_rfl
  z44 := fun _ => by kernel_rfl
  v44 := fun _ => by kernel_rfl
  i44 := by kernel_rfl
  t49 := Tryd.underlying114
  a49 := fun _ => by kernel_rfl
  z49 := fun _ => by kernel_rfl
  v49 := fun _ => by kernel_rfl
  i49 := by kernel_rfl
  t51 := Tryd.underlying137
  a51 := fun _ => by kernel_rfl
  z51 := fun _ => by kernel_rfl
  v51 := fun _ => by kernel_rfl
  i51 := by kernel_rfl
  t53 := Tryd.underlying144
  a53 := fun _ => by kernel_rfl
  z53 := fun _ => by kernel_rfl
  v53 := fun _ => by kernel_rfl
  i53 := by kernel_rfl
  t54 := Tryd.underlying145
  a54 := fun _ => by kernel_rfl
  z54 := fun _ => by kernel_rfl
  v54 := fun _ => by kernel_rfl
  i54 := by kernel_rfl
  t58 := Tryd.underlying90
  a58 := fun _ => by kernel_rfl
  z58 := fun _ => by kernel_rfl
  v58 := fun _ => by kernel_rfl
  i58 := by kernel_rfl
  t60 := Tryd.underlying150
  a60 := fun _ => by kernel_rfl
  z60 := fun _ => by kernel_rfl
  v60 := fun _ => by kernel_rfl
  i60 := by kernel_rfl
  t64 := Tryd.underlying154
  a64 := fun _ => by kernel_rfl
  z64 := fun _ => by kernel_rfl
  v64 := fun _ => by kernel_rfl
  i64 := by kernel_rfl
  t66 := Tryd.underlying156
  a66 := fun _ => by kernel_rfl
  z66 := fun _ => by kernel_rfl
  v66 := fun _ => by kernel_rfl
  i66 := by kernel_rfl
  t67 := Tryd.underlying157
  a67 := fun _ => by kernel_rfl
  z67 := fun _ => by kernel_rfl
  v67 := fun _ => by kernel_rfl
  i67 := by kernel_rfl
  t75 := Tryd.underlying164
  a75 := fun _ => by kernel_rfl
  z75 := fun _ => by kernel_rfl
  v75 := fun _ => by kernel_rfl
  i75 := by kernel_rfl
  t76 := Tryd.underlying165
  a76 := fun _ => by kernel_rfl
  z76 := fun _ => by kernel_rfl
  v76 := fun _ => by kernel_rfl
  i76 := by kernel_rfl
  t77 := Tryd.underlying166
  a77 := fun _ => by kernel_rfl
  z77 := fun _ => by kernel_rfl
  v77 := fun _ => by kernel_rfl
  i77 := by kernel_rfl
  t78 := Tryd.underlying167
  a78 := fun _ => by kernel_rfl
  z78 := fun _ => by kernel_rfl
  v78 := fun _ => by kernel_rfl
  i78 := by kernel_rfl
  t79 := Tryd.underlying168
  a79 := fun _ => by kernel_rfl
  z79 := fun _ => by kernel_rfl
  v79 := fun _ => by kernel_rfl
  i79 := by kernel_rfl
  t80 := Tryd.underlying169
  a80 := fun _ => by kernel_rfl
  z80 := fun _ => by kernel_rfl
  v80 := fun _ => by kernel_rfl
  i80 := by kernel_rfl
  t82 := Tryd.underlying171
  a82 := fun _ => by kernel_rfl
  z82 := fun _ => by kernel_rfl
  v82 := fun _ => by kernel_rfl
  i82 := by kernel_rfl }
end Go.Proofs
namespace Go.Proofs.YtaalajhmfdcalaaDoor.X
open Go.RowKit Go.Lib Go.Shelf Go.Proofs.YtaalajhmfdcalaaDoorW.PrintWords Go.Proofs.YtaalajhmfdcalaaDoorW.PrintLast Go.Proofs.YtaalajhmfdcalaaDoorW.PrintMore
def ltN (ns : List ByteArray) (a b : Nat) : Bool := Op.bytesLess (nmAt ns a).toList (nmAt ns b).toList
end Go.Proofs.YtaalajhmfdcalaaDoor.X
namespace Go.Proofs.YtaalajhmfdcalaaDoor.X
open Go.RowKit Go.Lib Go.Proofs.YtaalajhmfdcalaaDoorW.PrintWords Go.Proofs.YtaalajhmfdcalaaDoorW.PrintLast Go.Proofs.YtaalajhmfdcalaaDoorW.PrintMore
structure SGeo (B Bo Br Ba blk Bp : Nat) : Prop where
  o : B ≤ Bo
  r : B ≤ Br
  a : B ≤ Ba
  k : B ≤ blk
  p : B ≤ Bp
  po : Bo ≠ Bp
  pr : Br ≠ Bp
  pa : Ba ≠ Bp
  pk : blk ≠ Bp
def okS (B Bp Br : Nat) (ok : Nat → Prop) (k : Nat) : Prop := (ok k ∧ k < B) ∨ (B ≤ k ∧ k ≠ Bp ∧ k ≠ Br)
structure SI (W : World) (Bo Br Ba blk Bp : Nat) (ok : Nat → Prop) (v2 v3 va : Value) (C : Array Value) (sn sv : Value) (ln : List ByteArray) (li : List J) (w : World) : Prop where
  o : w.heap[Bo]? = some (.cells #[v2, v3] 84 (0, 0))
  r : w.heap[Br]? = some (.cells #[.slice none 0 0, .slice none 0 0] 84 (0, 0))
  a : w.heap[Ba]? = some (.cells #[va] 107 (0, 0))
  k : w.heap[blk]? = some (.cells C 3 (0, 0))
  p : w.heap[Bp]? = some (.cells #[sn, sv] 84 (0, 0))
  names : Kd.string.R 9 w W.heap.size (fun k => k ≠ Bp ∧ k ≠ Br) sn ln
  items : Kd.N k25 25 w W.heap.size (fun k => okS W.heap.size Bp Br ok k ∧ some k ≠ sn.ownBlock) sv li
  bel : Below W.heap.size W w
section
variable {W w w' : World} {Bo Br Ba blk Bp : Nat} {ok : Nat → Prop} {v2 v3 va : Value} {C : Array Value} {sn sv : Value} {ln : List ByteArray} {li : List J}
theorem SI.below (h : SI W Bo Br Ba blk Bp ok v2 v3 va C sn sv ln li w) (hb : Below w.heap.size w w') : SI W Bo Br Ba blk Bp ok v2 v3 va C sn sv ln li w' :=
  ⟨(hb.block _ (lt_of_block h.o)).trans h.o, (hb.block _ (lt_of_block h.r)).trans h.r, (hb.block _ (lt_of_block h.a)).trans h.a, (hb.block _ (lt_of_block h.k)).trans h.k, (hb.block _ (lt_of_block h.p)).trans h.p, Kd.R_below h.names hb, Kd.N_below h.items hb, below_step h.bel hb⟩
theorem SI.name {v1 : Value} {w6 : World} {nm : ByteArray} (h : SI W Bo Br Ba blk Bp ok v2 v3 va C sn sv ln li w) (g : SGeo W.heap.size Bo Br Ba blk Bp) (ho : Kd.string.R 9 w6 W.heap.size (fun k => k ≠ Bp ∧ k ≠ Br) v1 (ln ++ [nm])) (hb : Below W.heap.size W w6) (hg : w.grownBy w6 sn.ownBlock)
    (hat : v1.ownBlock = sn.ownBlock ∨ ∃ b, v1.ownBlock = some b ∧ w.heap.size ≤ b) : SI W Bo Br Ba blk Bp ok v2 v3 va C v1 sv (ln ++ [nm]) li (w6.setCell ⟨Bp, 0, none⟩ v1) := by
  have key : ∀ {b : Nat} {c : Array Value} {t : TypeId}, w.heap[b]? = some (.cells c t (0, 0)) → 9 ≠ t → w6.heap[b]? = some (.cells c t (0, 0)) := fun hk ht => blk_grown hk hg (Kd.R_ne h.names hk ht)
  have far : ∀ {b : Nat} {o : Obj}, b ≠ Bp → w6.heap[b]? = some o → (w6.setCell ⟨Bp, 0, none⟩ v1).heap[b]? = some o := fun hne hk => (Below.heap_setCell _ _ _ _ hne).trans hk
  refine ⟨far g.po (key h.o (by decide)), far g.pr (key h.r (by decide)), far g.pa (key h.a (by decide)), far g.pk (key h.k (by decide)), (blk_set 0 v1 (key h.p (by decide))).trans rfl, Kd.R_far ho (fun _ hk => hk.1) _, Kd.N_far (Kd.N_after h.items hg hat) (fun k hk => ?_) _, below_set hb g.p⟩
  rcases hk.1 with ⟨_, h1⟩ | ⟨_, h1, _⟩
  · have := g.p; show k ≠ Bp; omega
  · exact h1
theorem SI.item {v1 : Value} {w6 : World} {y : J} (h : SI W Bo Br Ba blk Bp ok v2 v3 va C sn sv ln li w) (g : SGeo W.heap.size Bo Br Ba blk Bp) (ho : Kd.N k25 25 w6 W.heap.size (fun k => okS W.heap.size Bp Br ok k ∧ some k ≠ sn.ownBlock) v1 (li ++ [y])) (hb : Below W.heap.size W w6) (hg : w.grownBy w6 sv.ownBlock) :
    SI W Bo Br Ba blk Bp ok v2 v3 va C sn v1 ln (li ++ [y]) (w6.setCell ⟨Bp, 1, none⟩ v1) := by
  have key : ∀ {b : Nat} {c : Array Value} {t : TypeId}, w.heap[b]? = some (.cells c t (0, 0)) → 25 ≠ t → w6.heap[b]? = some (.cells c t (0, 0)) := fun hk ht => blk_grown hk hg (Kd.N_ne h.items hk ht)
  have far : ∀ {b : Nat} {o : Obj}, b ≠ Bp → w6.heap[b]? = some o → (w6.setCell ⟨Bp, 1, none⟩ v1).heap[b]? = some o := fun hne hk => (Below.heap_setCell _ _ _ _ hne).trans hk
  refine ⟨far g.po (key h.o (by decide)), far g.pr (key h.r (by decide)), far g.pa (key h.a (by decide)), far g.pk (key h.k (by decide)), (blk_set 1 v1 (key h.p (by decide))).trans rfl, Kd.R_far (Kd.R_over' h.names (Kd.N_typed h.items) (by decide) hg) (fun _ hk => hk.1) _, Kd.N_far ho (fun k hk => ?_) _, below_set hb g.p⟩
  rcases hk.1 with ⟨_, h1⟩ | ⟨_, h1, _⟩
  · have := g.p; show k ≠ Bp; omega
  · exact h1
end
end Go.Proofs.YtaalajhmfdcalaaDoor.X

namespace Go.Proofs.YtaalajhmfdcalaaDoor.X
open Go.RowKit Go.Lib Go.Proofs.YtaalajhmfdcalaaDoorW.PrintWords Go.Proofs.YtaalajhmfdcalaaDoorW.PrintLast Go.Proofs.YtaalajhmfdcalaaDoorW.PrintMore
def atC (n i : Nat) : Array Value := ((List.range n).map fun k : Nat => if k < i then Value.int .i64 (k : Int) else .int .i64 0).toArray
theorem atC_zero (n : Nat) : madeCells #[.int .i64 0] n = atC n 0 := by
  apply Array.ext
  · simp [atC, madeCells]
  · intro i h1 h2
    simp [atC, madeCells, Nat.mod_one]
theorem atC_set (n i : Nat) : (atC n i).setIfInBounds i (.int .i64 (i : Int)) = atC n (i + 1) := by
  apply Array.ext
  · simp [atC]
  · intro k h1 h2
    rw [Array.getElem_setIfInBounds]
    · simp only [atC, List.getElem_toArray, List.getElem_map, List.getElem_range]
      by_cases hk : i = k
      · subst hk; simp
      · rw [if_neg hk]
        by_cases h3 : k < i
        · rw [if_pos h3, if_pos (by omega)]
        · rw [if_neg h3, if_neg (by omega)]
    · simpa [atC] using h1
structure S1 (W : World) (Bo Br Ba blk n : Nat) (v2 v3 : Value) (i : Nat) (w : World) : Prop where
  o : w.heap[Bo]? = some (.cells #[v2, v3] 84 (0, 0))
  r : w.heap[Br]? = some (.cells #[.slice none 0 0, .slice none 0 0] 84 (0, 0))
  a : w.heap[Ba]? = some (.cells #[.slice (some ⟨blk, 0, none⟩) n n] 107 (0, 0))
  k : w.heap[blk]? = some (.cells (atC n i) 3 (0, 0))
  bel : Below W.heap.size W w
theorem S1.start (W : World) (n : Nat) (v2 v3 : Value) : S1 W W.heap.size (W.heap.size + 1) (W.heap.size + 1 + 1 + 1) (W.heap.size + 1 + 1) n v2 v3 0
    ((((W.alloc (.cells #[v2, v3] 84)).alloc (.cells #[.slice none 0 0, .slice none 0 0] 84)).alloc (.cells (madeCells #[.int .i64 0] n) 3)).alloc (.cells #[.slice (some ⟨W.heap.size + 1 + 1, 0, none⟩) n n] 107)) := by
  have e1 : (W.alloc (.cells #[v2, v3] 84)).heap.size = W.heap.size + 1 := by simp
  have e2 : ((W.alloc (.cells #[v2, v3] 84)).alloc (.cells #[.slice none 0 0, .slice none 0 0] 84)).heap.size = W.heap.size + 1 + 1 := by simp
  have e3 : (((W.alloc (.cells #[v2, v3] 84)).alloc (.cells #[.slice none 0 0, .slice none 0 0] 84)).alloc (.cells (madeCells #[.int .i64 0] n) 3)).heap.size = W.heap.size + 1 + 1 + 1 := by simp
  refine ⟨Below.alloc_at (Below.alloc_at (Below.alloc_at (heap_alloc_new _ _))), ?_, ?_, ?_, below_alloc (below_alloc (below_alloc (below_alloc (Below.refl _ _) _) _) _) _⟩
  · have := heap_alloc_new (W.alloc (.cells #[v2, v3] 84)) (.cells #[.slice none 0 0, .slice none 0 0] 84)
    rw [e1] at this
    exact Below.alloc_at (Below.alloc_at this)
  · have := heap_alloc_new (((W.alloc (.cells #[v2, v3] 84)).alloc (.cells #[.slice none 0 0, .slice none 0 0] 84)).alloc (.cells (madeCells #[.int .i64 0] n) 3)) (.cells #[.slice (some ⟨W.heap.size + 1 + 1, 0, none⟩) n n] 107)
    rw [e3] at this
    exact this
  · have := heap_alloc_new ((W.alloc (.cells #[v2, v3] 84)).alloc (.cells #[.slice none 0 0, .slice none 0 0] 84)) (.cells (madeCells #[.int .i64 0] n) 3)
    rw [e2] at this
    rw [← atC_zero]
    exact Below.alloc_at this
section
variable {W w w' : World} {Bo Br Ba blk n : Nat} {v2 v3 : Value} {i : Nat}
theorem S1.drew (h : S1 W Bo Br Ba blk n v2 v3 i w) (q : Nat) : S1 W Bo Br Ba blk n v2 v3 i (w.drewN q) := ⟨h.o, h.r, h.a, h.k, pw_below_drewN h.bel q⟩
theorem S1.set (h : S1 W Bo Br Ba blk n v2 v3 i w) (hB : W.heap.size ≤ blk) (ho : Bo ≠ blk) (hr : Br ≠ blk) (ha : Ba ≠ blk) : S1 W Bo Br Ba blk n v2 v3 (i + 1) (w.setCell ⟨blk, i, none⟩ (.int .i64 (i : Int))) :=
  ⟨(Below.heap_setCell _ _ _ _ ho).trans h.o, (Below.heap_setCell _ _ _ _ hr).trans h.r, (Below.heap_setCell _ _ _ _ ha).trans h.a, by rw [← atC_set]; exact blk_set _ _ h.k, below_set h.bel hB⟩
end
def CellOf (W : World) (a : Addr) (v : Value) : Prop := W.cell? a = some v
theorem CellOf.at {W w : World} {a : Addr} {v : Value} (h : CellOf W a v) (hb : Below W.heap.size W w) : w.cell? a = some v := (hb.cell (World.block_lt_of_cell? W _ h)).trans h
theorem name_at {W : World} {ok : Nat → Prop} {A : Option Addr} {xs : List ByteArray} (h : Kd.F Kd.string W ok A xs.length xs) (k : Nat) (hk : k < xs.length) : ∃ ad : Addr, A = some ad ∧ CellOf W (ad.add k) (.string (nmAt xs k)) := by
  obtain ⟨ad, e, q0⟩ := Kd.at_string (Kd.F_now h) (k : Int) (by omega) (by omega)
  exact ⟨ad, e, q0⟩
theorem SI.fin {W w : World} {Bo Br Ba blk Bp : Nat} {ok : Nat → Prop} {v2 v3 va : Value} {C : Array Value} {An Ai : Option Addr} {cn ci : Nat} {ln : List ByteArray} {li : List J} (h : SI W Bo Br Ba blk Bp ok v2 v3 va C (.slice An ln.length cn) (.slice Ai li.length ci) ln li w) (g : SGeo W.heap.size Bo Br Ba blk Bp) :
    Below W.heap.size W ((w.setCell ⟨Br, 0, none⟩ (.slice An ln.length cn)).setCell ⟨Br, 1, none⟩ (.slice Ai li.length ci)) ∧ ((w.setCell ⟨Br, 0, none⟩ (.slice An ln.length cn)).setCell ⟨Br, 1, none⟩ (.slice Ai li.length ci)).heap[Br]? = some (.cells #[.slice An ln.length cn, .slice Ai li.length ci] 84 (0, 0)) ∧ ln.length ≤ cn ∧ li.length ≤ ci ∧
      Kd.F Kd.string ((w.setCell ⟨Br, 0, none⟩ (.slice An ln.length cn)).setCell ⟨Br, 1, none⟩ (.slice Ai li.length ci)) (fun k => ok k ∨ W.heap.size ≤ k) An ln.length ln ∧ Kd.F k25 ((w.setCell ⟨Br, 0, none⟩ (.slice An ln.length cn)).setCell ⟨Br, 1, none⟩ (.slice Ai li.length ci)) (fun k => ok k ∨ W.heap.size ≤ k) Ai li.length li := by
  have hn := Kd.R_far (p := ⟨Br, 1, none⟩) (Kd.R_far (p := ⟨Br, 0, none⟩) h.names (fun _ hk => hk.2) (.slice An ln.length cn)) (fun _ hk => hk.2) (.slice Ai li.length ci)
  have far : ∀ k, okS W.heap.size Bp Br ok k ∧ some k ≠ (Value.slice An ln.length cn).ownBlock → k ≠ Br := fun k hk => by
    rcases hk.1 with ⟨_, h1⟩ | ⟨_, _, h1⟩
    · have := g.r; omega
    · exact h1
  have hi := Kd.N_far (p := ⟨Br, 1, none⟩) (Kd.N_far (p := ⟨Br, 0, none⟩) h.items far (.slice An ln.length cn)) far (.slice Ai li.length ci)
  refine ⟨below_set (below_set h.bel g.r) g.r, (blk_set 1 _ (blk_set 0 _ h.r)).trans rfl, (Kd.R_reads' h.names).2.1, (Kd.N_reads' h.items).2.1, Kd.F_mono (Kd.R_F (Kd.R_bound hn)) (fun k hk => Or.inr hk.2.1), Kd.F_mono (Kd.N_F hi) (fun k hk => ?_)⟩
  rcases hk.1 with ⟨h1, _⟩ | ⟨h1, _, _⟩
  · exact Or.inl h1
  · exact Or.inr h1
structure S2 (W : World) (Bo Br Ba blk : Nat) (ns : List ByteArray) (v2 v3 : Value) (l : List Nat) (C : Array Value) (w : World) : Prop where
  o : w.heap[Bo]? = some (.cells #[v2, v3] 84 (0, 0))
  r : w.heap[Br]? = some (.cells #[.slice none 0 0, .slice none 0 0] 84 (0, 0))
  a : w.heap[Ba]? = some (.cells #[.slice (some ⟨blk, 0, none⟩) ns.length ns.length] 107 (0, 0))
  k : w.heap[blk]? = some (.cells C 3 (0, 0))
  bel : Below W.heap.size W w
  row : ∀ k, k < ns.length → C[k]? = some (.int .i64 ((l.getD k 0 : Nat) : Int))
  perm : l.Perm (List.range ns.length)
  ord : ∀ i j, i < j → j < ns.length → ltN ns (l.getD j 0) (l.getD i 0) = false
theorem S2.drew {W w : World} {Bo Br Ba blk : Nat} {ns : List ByteArray} {v2 v3 : Value} {l : List Nat} {C : Array Value} (h : S2 W Bo Br Ba blk ns v2 v3 l C w) (q : Nat) : S2 W Bo Br Ba blk ns v2 v3 l C (w.drewN q) := ⟨h.o, h.r, h.a, h.k, pw_below_drewN h.bel q, h.row, h.perm, h.ord⟩
theorem S2.start {W w : World} {Bo Br Ba blk : Nat} {ns : List ByteArray} {v2 v3 : Value} {l : List Nat} {C : Array Value} (h : S2 W Bo Br Ba blk ns v2 v3 l C w) (ok : Nat → Prop) :
    SI W Bo Br Ba blk w.heap.size ok v2 v3 (.slice (some ⟨blk, 0, none⟩) ns.length ns.length) C (.slice none 0 0) (.slice none 0 0) [] [] (w.alloc (.cells #[.slice none 0 0, .slice none 0 0] 84)) :=
  ⟨Below.alloc_at h.o, Below.alloc_at h.r, Below.alloc_at h.a, Below.alloc_at h.k, heap_alloc_new _ _, Kd.R_nil _ _ _ _ _, Kd.N_nil _ _ _ _ _, below_alloc h.bel _⟩
end Go.Proofs.YtaalajhmfdcalaaDoor.X
namespace Go.Proofs.YtaalajhmfdcalaaDoor.X
open Go.RowKit Go.Lib Go.Proofs.YtaalajhmfdcalaaDoorW.PrintWords
def OKJ : Nat → J → Prop
  | 0, v => nodeOK v.f0 v.f1 v.f2.length v.f3.length = true ∧ ¬ v.f0 = 5 ∧ ¬ v.f0 = 6
  | r + 1, v => nodeOK v.f0 v.f1 v.f2.length v.f3.length = true ∧ ((v.f0 = 5 ∨ v.f0 = 6) → ∀ y, y ∈ v.f3 → OKJ r y) ∧ (v.f0 = 6 → (∀ s, s ∈ v.f2 → validD s.data.toList = true) ∧ (v.f2.map (fun b => b.data.toList)).Nodup)
end Go.Proofs.YtaalajhmfdcalaaDoor.X
namespace Go.Proofs.YtaalajhmfdcalaaDoor.X
open Go.RowKit Go.Lib Go.Proofs.YtaalajhmfdcalaaDoorW.PrintWords
inductive Bd (B L : Nat) : J → Prop
  | mk (f0 : Int) (f1 : ByteArray) (f2 : List ByteArray) (f3 : List J) : f1.size ≤ B → (∀ s, s ∈ f2 → s.size ≤ B) → f2.length ≤ L → f3.length ≤ L → (∀ y, y ∈ f3 → Bd B L y) → Bd B L ⟨f0, f1, f2, f3⟩
theorem rd_nat (xs : List J) (i : Nat) (h : i < xs.length) : rd_T25 xs (i : Int) = xs[i] := by
  unfold rd_T25
  rw [show ((i : Int)).toNat = i from Int.toNat_natCast i, List.getD_eq_getElem?_getD, List.getElem?_eq_getElem h]
  rfl
theorem wrap_id (x : Int) (h0 : -9223372036854775808 ≤ x) (h1 : x ≤ 9223372036854775807) : wrap64 x = x := by unfold wrap64; omega
theorem ge_succ {K k : Nat} (h : K + 1 ≤ k) : ∃ k', k = k' + 1 ∧ K ≤ k' := ⟨k - 1, by omega, by omega⟩
end Go.Proofs.YtaalajhmfdcalaaDoor.X
namespace Go.Proofs.YtaalajhmfdcalaaDoor.X
open Go.RowKit Go.Lib Go.Proofs.YtaalajhmfdcalaaDoorW.PrintWords
def Rm (free : Bool) (n : Nat) : Prop := free = false → n ≤ 16384
theorem Rm.le {free : Bool} {n m : Nat} (h : Rm free m) (hm : n ≤ m) : Rm free n := fun hf => Nat.le_trans hm (h hf)
end Go.Proofs.YtaalajhmfdcalaaDoor.X
namespace Go.Proofs.YtaalajhmfdcalaaDoor.X
open Go.RowKit Go.Lib Go.Proofs.YtaalajhmfdcalaaDoorW.PrintWords
theorem get_list (l : List UInt8) (i : Nat) : (ByteArray.mk l.toArray).get! i = (l[i]?).getD 0 := by
  show l.toArray[i]! = _
  by_cases h : i < l.length
  · rw [List.getElem?_eq_getElem h]; simp [h]
  · rw [List.getElem?_eq_none_iff.2 (by omega)]
    simp [h]
    rfl
theorem decG_eq (l : List UInt8) (h : 0 < l.length) : decodeGo ⟨l.toArray⟩ = decodeN l.length ((l[0]?).getD 0).toNat ((l[1]?).getD 0).toNat ((l[2]?).getD 0).toNat ((l[3]?).getD 0).toNat := by
  unfold decodeGo
  rw [if_neg (by show ¬ l.toArray.size = 0; simp; intro hh; rw [hh] at h; simp at h), decode_at]
  rw [get_list, get_list, get_list, get_list]
  show decodeN (l.toArray.size - 0) _ _ _ _ = _
  simp
section
variable {α : Type}
end
end Go.Proofs.YtaalajhmfdcalaaDoor.X
namespace Go.Proofs.YtaalajhmfdcalaaDoor.X
open Go.RowKit Go.Lib Go.Proofs.YtaalajhmfdcalaaDoorW.PrintWords
def Has (s : List UInt8) (p : Nat) (l : List UInt8) : Prop := ∃ post, s.drop p = l ++ post
theorem Has.at {s l : List UInt8} {p i : Nat} (h : Has s p l) (hi : i < l.length) : s[p + i]? = l[i]? := by
  obtain ⟨post, h⟩ := h
  rw [← List.getElem?_drop, h, List.getElem?_append_left hi]
theorem Has.left {s a b : List UInt8} {p : Nat} (h : Has s p (a ++ b)) : Has s p a := by
  obtain ⟨post, h⟩ := h
  exact ⟨b ++ post, by rw [h, List.append_assoc]⟩
theorem Has.right {s a b : List UInt8} {p : Nat} (h : Has s p (a ++ b)) : Has s (p + a.length) b := by
  obtain ⟨post, h⟩ := h
  exact ⟨post, by rw [← List.drop_drop, h, List.append_assoc, List.drop_left]⟩
theorem Has.cons {s l : List UInt8} {p : Nat} {c : UInt8} (h : Has s p (c :: l)) : s[p]? = some c ∧ Has s (p + 1) l :=
  ⟨by have := h.at (i := 0) (by simp); simpa using this, Has.right (a := [c]) h⟩
theorem Has.len {s l : List UInt8} {p : Nat} (h : Has s p l) (hl : 0 < l.length) : p + l.length ≤ s.length := by
  obtain ⟨post, h⟩ := h
  have := congrArg List.length h
  rw [List.length_drop, List.length_append] at this
  omega
def Stop (s : List UInt8) (q : Nat) : Prop := s[q]? = none ∨ ∃ z : UInt8, z ∈ ([0, 44, 93, 125] : List UInt8) ∧ s[q]? = some z
theorem Stop.of {s : List UInt8} {q : Nat} {z : UInt8} (h : s[q]? = some z) (hz : z ∈ ([0, 44, 93, 125] : List UInt8)) : Stop s q := .inr ⟨z, hz, h⟩
end Go.Proofs.YtaalajhmfdcalaaDoor.X

namespace Go.Proofs.YtaalajhmfdcalaaDoor.X
open Go.RowKit Go.Lib Go.Proofs.YtaalajhmfdcalaaDoorW.PrintWords
def pm (f : J → J) (p : ByteArray × J) : ByteArray × J := (p.1, f p.2)
end Go.Proofs.YtaalajhmfdcalaaDoor.X
namespace Go.Proofs.YtaalajhmfdcalaaDoor.X
open Go.RowKit Go.Lib Go.Proofs.YtaalajhmfdcalaaDoorW.PrintWords
def Pr (l : List UInt8) : Prop := ∀ b, b ∈ l → 32 ≤ b.toNat ∧ b.toNat ≤ 126
theorem Pr.app {a b : List UInt8} (ha : Pr a) (hb : Pr b) : Pr (a ++ b) := fun x hx => (List.mem_append.1 hx).elim (ha x) (hb x)
theorem Pr.cons {c : UInt8} {b : List UInt8} (hc : 32 ≤ c.toNat ∧ c.toNat ≤ 126) (hb : Pr b) : Pr (c :: b) := fun x hx => (List.mem_cons.1 hx).elim (fun e => e ▸ hc) (hb x)
theorem Pr.nil : Pr [] := fun _ h => by cases h
def Nm (l : List UInt8) (i : Nat) : Prop := ∀ k, k < i → ∀ c : UInt8, l[k]? = some c → 32 ≤ c.toNat ∧ c.toNat ≤ 126
theorem Nm.more {l : List UInt8} {i j : Nat} (h : Nm l i) (hij : ∀ k, i ≤ k → k < j → ∀ c : UInt8, l[k]? = some c → 32 ≤ c.toNat ∧ c.toNat ≤ 126) : Nm l j := fun k hk c hc => by
  by_cases h1 : k < i
  · exact h k h1 c hc
  · exact hij k (by omega) hk c hc
theorem Nm.one {l : List UInt8} {i : Nat} {d : UInt8} (h : Nm l i) (hd : l[i]? = some d) (hp : 32 ≤ d.toNat ∧ d.toNat ≤ 126) : Nm l (i + 1) := h.more (fun k h1 h2 c hc => by
  obtain rfl : k = i := by omega
  rw [hd] at hc; injection hc with hc; exact hc ▸ hp)
end Go.Proofs.YtaalajhmfdcalaaDoor.X
namespace Go.Proofs.YtaalajhmfdcalaaDoor.X
open Go.RowKit Go.Lib Go.Proofs.YtaalajhmfdcalaaDoorW.PrintWords Go.Proofs.YtaalajhmfdcalaaDoorW.PrintLast Go.Proofs.YtaalajhmfdcalaaDoorW.PrintMore
def NmOK (ns : List ByteArray) (i : Nat) : Prop := (∀ s, s ∈ ns.take i → validD s.data.toList = true) ∧ ((ns.take i).map (fun b => b.data.toList)).Nodup
theorem NmOK.zero (ns : List ByteArray) : NmOK ns 0 := by
  refine ⟨fun s hs => ?_, ?_⟩
  · rw [List.take_zero] at hs; cases hs
  · rw [List.take_zero]; exact List.nodup_nil
theorem NmOK.next {ns : List ByteArray} {i : Nat} (h : NmOK ns i) (hi : i < ns.length) (hv : validD (nmAt ns i).data.toList = true) (hd : ∀ m, m < i → ¬ (nmAt ns m).data.toList = (nmAt ns i).data.toList) : NmOK ns (i + 1) := by
  have e := take_nm ns i hi
  refine ⟨fun s hs => ?_, ?_⟩
  · rw [e] at hs
    rcases List.mem_append.1 hs with hs | hs
    · exact h.1 s hs
    · rw [List.mem_singleton] at hs; rw [hs]; exact hv
  · rw [e, List.map_append, List.nodup_append]
    refine ⟨h.2, by simp, fun a ha b hb => ?_⟩
    simp only [List.map_cons, List.map_nil, List.mem_singleton] at hb
    rw [hb]
    rintro rfl
    obtain ⟨s, hs, he⟩ := List.mem_map.1 ha
    obtain ⟨m, hm, rfl⟩ := List.getElem_of_mem hs
    rw [List.length_take] at hm
    refine hd m (by omega) ?_
    rw [nmAt_eq ns m (by omega)]
    rw [List.getElem_take] at he
    exact he
end Go.Proofs.YtaalajhmfdcalaaDoor.X
namespace Go.Proofs.YtaalajhmfdcalaaDoor.X
open Go.RowKit Go.Lib Go.Proofs.YtaalajhmfdcalaaDoorW.PrintWords Go.Proofs.YtaalajhmfdcalaaDoorW.PrintLast Go.Proofs.YtaalajhmfdcalaaDoorW.PrintMore
def memF (s : List UInt8) (k : Nat) (names : List (List UInt8)) (q : Nat) : Option (Out (List UInt8)) :=
  match s[q]? with
  | none => some (.err 3 s.length)
  | some c =>
    if c = 34 then
      match textF s k [] (q + 1) with
      | none => none
      | some (.err e p) => some (.err e p)
      | some (.val nm q1) =>
        if nm ∈ names then some (.err 45 q)
        else match s[blanksF s q1]? with
          | none => some (.err 3 s.length)
          | some c => if c = 58 then some (.val nm (blanksF s (blanksF s q1 + 1))) else some (.err 40 (blanksF s q1))
    else some (.err 40 q)
theorem oneM_mem (v : Nat → Option (Out J)) (s : List UInt8) (k : Nat) (a : List ByteArray × List J) (q : Nat) : oneM v s k a q = match memF s k (a.1.map (fun b => b.data.toList)) q with
    | none => none
    | some (.err e p) => some (.err e p)
    | some (.val nm q2) => (v q2).map (Out.map fun x => (a.1 ++ [bsJ nm], a.2 ++ [x])) := by
  unfold oneM memF
  cases s[q]? with
  | none => rfl
  | some c =>
    simp only
    by_cases h34 : c = 34
    · rw [if_pos h34, if_pos h34]
      cases textF s k [] (q + 1) with
      | none => rfl
      | some ot =>
        cases ot with
        | err e p => rfl
        | val nm q1 =>
          simp only
          by_cases hm : nm ∈ a.1.map (fun b => b.data.toList)
          · rw [if_pos hm, if_pos hm]
          · rw [if_neg hm, if_neg hm]
            cases s[blanksF s q1]? with
            | none => rfl
            | some c =>
              simp only
              by_cases h58 : c = 58
              · rw [if_pos h58, if_pos h58]
              · rw [if_neg h58, if_neg h58]
    · rw [if_neg h34, if_neg h34]
theorem got_cells {w : World} {g : Nat} {d0 d1 d2 d3 d4 d5 d6 : Value} (h : w.heap[g]? = some (.cells #[d0, d1, d2, d3, d4, d5, d6] 53 (0, 0))) :
    w.cell? ⟨g, 0, none⟩ = some d0 ∧ w.cell? ⟨g, 1, none⟩ = some d1 ∧ w.cell? ⟨g, 2, none⟩ = some d2 ∧ w.cell? ⟨g, 3, none⟩ = some d3 ∧ w.cell? ⟨g, 4, none⟩ = some d4 ∧ w.cell? ⟨g, 5, none⟩ = some d5 ∧ w.cell? ⟨g, 6, none⟩ = some d6 :=
  ⟨(blk_cell h 0).trans rfl, (blk_cell h 1).trans rfl, (blk_cell h 2).trans rfl, (blk_cell h 3).trans rfl, (blk_cell h 4).trans rfl, (blk_cell h 5).trans rfl, (blk_cell h 6).trans rfl⟩
theorem got_thaw {w : World} {g : Nat} {cs : Array Value} (h : w.heap[g]? = some (.cells cs 53 (0, 0))) :
    w.frozen? ⟨g, 0, none⟩ = false ∧ w.frozen? ⟨g, 1, none⟩ = false ∧ w.frozen? ⟨g, 2, none⟩ = false ∧ w.frozen? ⟨g, 3, none⟩ = false ∧ w.frozen? ⟨g, 4, none⟩ = false ∧ w.frozen? ⟨g, 5, none⟩ = false ∧ w.frozen? ⟨g, 6, none⟩ = false :=
  ⟨blk_frozen h 0, blk_frozen h 1, blk_frozen h 2, blk_frozen h 3, blk_frozen h 4, blk_frozen h 5, blk_frozen h 6⟩
theorem GotV.mkR {W w1 : World} {g B2 B3 : Nat} {o0 o1 o2 o3 o4 o5 o6 : Value} (hW : Below W.heap.size W w1) (hg : W.heap.size ≤ g) (hb : w1.heap[g]? = some (.cells #[o0, o1, o2, o3, o4, o5, o6] 53 (0, 0))) (k : Int) (t : ByteArray) {l2 : List ByteArray} {l3 : List J} {A2 A3 : Option Addr} {c2 c3 : Nat} (q er p : Int)
    (h2 : Kd.string.R 9 w1 B2 (fun _ => True) (.slice A2 l2.length c2) l2) (h3 : k25.R 25 w1 B3 (fun k => some k ≠ (Value.slice A2 l2.length c2).ownBlock) (.slice A3 l3.length c3) l3) (hB2 : g < B2) (hB3 : g < B3) :
    (set7 w1 g (.int .i64 k) (.string t) (.slice A2 l2.length c2) (.slice A3 l3.length c3) (.int .i64 q) (.int .i64 er) (.int .i64 p)).heap[g]? = some (.cells #[.int .i64 k, .string t, .slice A2 l2.length c2, .slice A3 l3.length c3, .int .i64 q, .int .i64 er, .int .i64 p] 53 (0, 0)) ∧
      GotV W (set7 w1 g (.int .i64 k) (.string t) (.slice A2 l2.length c2) (.slice A3 l3.length c3) (.int .i64 q) (.int .i64 er) (.int .i64 p)) k t l2 l3 q er p (.returned (.agg #[.int .i64 k, .string t, .slice A2 l2.length c2, .slice A3 l3.length c3, .int .i64 q, .int .i64 er, .int .i64 p])) := by
  refine ⟨blk_set7 hb _ _ _ _ _ _ _, A2, c2, A3, c3, rfl, ?_, ?_, below_set7 hW hg _ _ _ _ _ _ _⟩
  · exact Kd.R_mono (R_set7 (Kd.R_lower (Kd.R_bound h2) (by omega)) (fun k hk => by have := hk.2.1; omega) _ _ _ _ _ _ _) (fun _ _ => trivial)
  · exact Kd.R_mono (R_set7 (Kd.R_lower (Kd.R_bound h3) (by omega)) (fun k hk => by have := hk.2.1; omega) _ _ _ _ _ _ _) (fun _ hk => hk.1)
theorem GotV.drew {W w : World} {k : Int} {t : ByteArray} {l2 : List ByteArray} {l3 : List J} {q er p : Int} {e : Ending} (h : GotV W w k t l2 l3 q er p e) : GotV W w.drew k t l2 l3 q er p e := by
  obtain ⟨A2, c2, A3, c3, he, h2, h3, hb⟩ := h
  exact ⟨A2, c2, A3, c3, he, Kd.R_drew h2, Kd.R_drew h3, below_drew1 hb⟩
def MemE (o : Out (List UInt8)) (W : World) (e : Ending) (W' : World) : Prop := match o with
  | .val nm q => ∃ x, e = .returned (.tuple #[.string (bsJ nm), x]) ∧ GotV W W' 0 ⟨#[]⟩ [] [] q 0 0 (.returned x)
  | .err er p => er ≠ 0 ∧ ∃ x, e = .returned (.tuple #[.string ⟨#[]⟩, x]) ∧ GotV W W' 0 ⟨#[]⟩ [] [] 0 er p (.returned x)
theorem mem_results (B : Nat) (tmps : Array Value) (w : World) (nm : ByteArray) (d0 d1 d2 d3 d4 d5 d6 : Value) (t6 : tmps.getD 6 undef = .string nm) (t7 : tmps.getD 7 undef = .pointer (some ⟨B, 0, none⟩)) (h0 : w.heap[B]? = some (.cells #[d0, d1, d2, d3, d4, d5, d6] 53 (0, 0))) :
    (results Tryd.f74 tmps).run Tryd.prog w = .ok (.tuple #[.string nm, .agg #[d0, d1, d2, d3, d4, d5, d6]]) w := by
  have c0 : w.cell? ⟨B, 0, none⟩ = some d0 := (blk_cell h0 0).trans rfl
  have c1 : w.cell? ⟨B, 1, none⟩ = some d1 := (blk_cell h0 1).trans rfl
  have c2 : w.cell? ⟨B, 2, none⟩ = some d2 := (blk_cell h0 2).trans rfl
  have c3 : w.cell? ⟨B, 3, none⟩ = some d3 := (blk_cell h0 3).trans rfl
  have c4 : w.cell? ⟨B, 4, none⟩ = some d4 := (blk_cell h0 4).trans rfl
  have c5 : w.cell? ⟨B, 5, none⟩ = some d5 := (blk_cell h0 5).trans rfl
  have c6 : w.cell? ⟨B, 6, none⟩ = some d6 := (blk_cell h0 6).trans rfl
  have t6' : tmps[6]?.getD undef = .string nm := by simpa using t6
  have t7' : tmps[7]?.getD undef = .pointer (some ⟨B, 0, none⟩) := by simpa using t7
  unfold results
  rw [Tryd.results74]
  simp [t6', t7', asAddr, go_sem, c0, c1, c2, c3, c4, c5, c6]
def StrC (s : ByteArray) (k p : Nat) : Prop := ∀ ot, textF s.data.toList k [] (p + 1) = some ot → ∀ w, Calls Tryd.prog 48 #[.string s, .int .i64 (p : Int)] w (GotE (ot.map fun t => ⟨4, bsJ t, [], []⟩) w)
set_option maxRecDepth 1000000 in
set_option maxHeartbeats 4000000 in
theorem rmember_none (s : ByteArray) (p : Nat) (A : Option Addr) (n c : Nat) (W : World) (h : s.size ≤ p) :
    Calls Tryd.prog 74 #[.string s, .int .i64 p, .slice A n c] W (MemE (.err 3 s.size) W) := by
  have h1 : decide (s.size ≤ p) = true := decide_eq_true h
  have HM := Aside0.mk (show mustO s.data.toList p = .err 3 s.size by rw [mustO_short (by rw [size_data]; exact h), size_data])
  clear h
  go_enter Tryd.func74, Tryd.ntmps74
  go_wp2_with (go_at_call 70; (with_reducible refine (rmust_calls s p _).mono ?_); intro e w1 hv; rw [HM.out] at hv; obtain ⟨_, hv⟩ := hv; obtain ⟨A2, c2, A3, c3, rfl, hb1, hbk, hfin⟩ := GotV.put (below_alloc (Below.refl _ _) _) (Nat.le_refl _) (heap_alloc_new W _) hv; have HBK := Aside0.mk hbk; have HFIN := Aside0.mk hfin; have z0 := (blk_cell hb1 0).trans rfl; have z1 := (blk_cell hb1 1).trans rfl; have z2 := (blk_cell hb1 2).trans rfl; have z3 := (blk_cell hb1 3).trans rfl; have z4 := (blk_cell hb1 4).trans rfl; have z5 := (blk_cell hb1 5).trans rfl; have z6 := (blk_cell hb1 6).trans rfl; have g0 := blk_frozen hb1 0; have g1 := blk_frozen hb1 1; have g2 := blk_frozen hb1 2; have g3 := blk_frozen hb1 3; have g4 := blk_frozen hb1 4; have g5 := blk_frozen hb1 5; have g6 := blk_frozen hb1 6; clear hv hb1 hbk hfin)
  refine bodyPost_ret (mem_results W.heap.size _ _ _ _ _ _ _ _ _ _ rfl rfl HBK.out) rfl ?_
  exact ⟨by decide, _, rfl, HFIN.out⟩
set_option maxRecDepth 1000000 in
set_option maxHeartbeats 4000000 in
theorem rmember_other (s : ByteArray) (p : Nat) (A : Option Addr) (n c : Nat) (W : World) (h : p < s.size) (u : UInt8) (hx : ∀ h : p < s.size, s[p]'h = u) (hu : ¬ u = 34) :
    Calls Tryd.prog 74 #[.string s, .int .i64 p, .slice A n c] W (MemE (.err 40 p) W) := by
  have h1 : decide (s.size ≤ p) = false := decide_eq_false (by omega)
  have p1 : (0 ≤ (p : Int)) = True := eq_true (by omega)
  have p2 : ((p : Int) < (s.size : Int)) = True := eq_true (by omega)
  have h2 : ((u.toNat : Int) != 34) = true := bne_iff_ne.mpr (fun hh => hu ((u8_eq u 34).2 hh))
  have HM := Aside0.mk (show mustO s.data.toList p = .err 40 p by rw [mustO_bad (by rw [size_data]; omega)])
  go_enter Tryd.func74, Tryd.ntmps74
  go_wp2_with (go_at_call 70; (with_reducible refine (rmust_calls s p _).mono ?_); intro e w1 hv; rw [HM.out] at hv; obtain ⟨_, hv⟩ := hv; obtain ⟨A2, c2, A3, c3, rfl, hb1, hbk, hfin⟩ := GotV.put (below_alloc (Below.refl _ _) _) (Nat.le_refl _) (heap_alloc_new W _) hv; have HBK := Aside0.mk hbk; have HFIN := Aside0.mk hfin; have z0 := (blk_cell hb1 0).trans rfl; have z1 := (blk_cell hb1 1).trans rfl; have z2 := (blk_cell hb1 2).trans rfl; have z3 := (blk_cell hb1 3).trans rfl; have z4 := (blk_cell hb1 4).trans rfl; have z5 := (blk_cell hb1 5).trans rfl; have z6 := (blk_cell hb1 6).trans rfl; have g0 := blk_frozen hb1 0; have g1 := blk_frozen hb1 1; have g2 := blk_frozen hb1 2; have g3 := blk_frozen hb1 3; have g4 := blk_frozen hb1 4; have g5 := blk_frozen hb1 5; have g6 := blk_frozen hb1 6; clear hv hb1 hbk hfin)
  refine bodyPost_ret (mem_results W.heap.size _ _ _ _ _ _ _ _ _ _ rfl rfl HBK.out) rfl ?_
  exact ⟨by decide, _, rfl, HFIN.out⟩
set_option maxRecDepth 1000000 in
set_option maxHeartbeats 4000000 in
theorem rmember_err (s : ByteArray) (p k : Nat) (A : Option Addr) (n c : Nat) (W : World) (h : p < s.size) (hx : ∀ h : p < s.size, s[p]'h = 34) (hS : StrC s k p) (er q : Nat) (ht : textF s.data.toList k [] (p + 1) = some (.err er q)) (her : er ≠ 0) :
    Calls Tryd.prog 74 #[.string s, .int .i64 p, .slice A n c] W (MemE (.err er q) W) := by
  have h1 : decide (s.size ≤ p) = false := decide_eq_false (by omega)
  have p1 : (0 ≤ (p : Int)) = True := eq_true (by omega)
  have p2 : ((p : Int) < (s.size : Int)) = True := eq_true (by omega)
  have e1 : ((er : Int) != 0) = true := bne_iff_ne.mpr (by omega)
  have HS := Aside0.mk (hS _ ht)
  have HER := Aside0.mk her
  clear hS ht her h
  go_enter Tryd.func74, Tryd.ntmps74
  go_wp2_with (go_at_call 48; (with_reducible refine (HS.out _).mono ?_); intro e w1 hv; obtain ⟨_, A2, c2, A3, c3, rfl, hr2, hr3, hbl⟩ := hv; have hb1 := (hbl.block W.heap.size (by rw [World.size_alloc]; omega)).trans (heap_alloc_new W _); have HR2 := Aside0.mk hr2; have HR3 := Aside0.mk hr3; have HB := Aside0.mk (below_step (below_alloc (Below.refl W.heap.size W) _) hbl); have HX := Aside0.mk hb1; clear hr2 hr3 hb1 hbl)
  generalize hw2 : w1.alloc (Obj.cells #[.int .i64 0, .string (⟨#[]⟩ : ByteArray), .slice A2 ([] : List ByteArray).length c2, .slice A3 ([] : List J).length c3, .int .i64 0, .int .i64 (er : Int), .int .i64 (q : Int)] 53) = w2
  have HW2 := Aside0.mk hw2
  obtain ⟨y0, y1, y2, y3, y4, y5, y6⟩ := got_cells (show w2.heap[w1.heap.size]? = some (.cells #[.int .i64 0, .string (⟨#[]⟩ : ByteArray), .slice A2 ([] : List ByteArray).length c2, .slice A3 ([] : List J).length c3, .int .i64 0, .int .i64 (er : Int), .int .i64 (q : Int)] 53 (0, 0)) by rw [← hw2]; exact heap_alloc_new w1 _)
  have HX2 := Aside0.mk (show w2.heap[W.heap.size]? = some (.cells #[.int .i64 0, .string (⟨#[]⟩ : ByteArray), .slice none 0 0, .slice none 0 0, .int .i64 0, .int .i64 0, .int .i64 0] 53 (0, 0)) by rw [← hw2]; exact blk_alloc HX.out _)
  obtain ⟨z0, z1, z2, z3, z4, z5, z6⟩ := got_cells HX2.out
  obtain ⟨g0, g1, g2, g3, g4, g5, g6⟩ := got_thaw HX2.out
  have HB2 := Aside0.mk (show Below W.heap.size W w2 by rw [← hw2]; exact below_alloc HB.out _)
  clear hw2
  obtain ⟨hbk, hfin⟩ := GotV.mkR HB2.out (Nat.le_refl _) HX2.out 0 ⟨#[]⟩ 0 (er : Int) (q : Int) (by rw [← HW2.out]; exact Kd.R_alloc HR2.out _) (by rw [← HW2.out]; exact Kd.R_alloc HR3.out _) (by rw [World.size_alloc]; omega) (by rw [World.size_alloc]; omega)
  have HBK := Aside0.mk hbk
  have HFIN := Aside0.mk hfin
  clear hbk hfin
  go_region
  all_goals (try go_wp2)
  all_goals (
    refine bodyPost_ret (mem_results W.heap.size _ _ _ _ _ _ _ _ _ _ rfl rfl (blk_drew HBK.out)) rfl ?_
    exact ⟨HER.out, _, rfl, HFIN.out.drew⟩)
set_option maxRecDepth 1000000 in
set_option maxHeartbeats 8000000 in
theorem rmember_val (s : ByteArray) (p k : Nat) (A : Option Addr) (c : Nat) (names : List ByteArray) (W : World) (hs : s.size ≤ 4611686018427387904) (hC : Kd.string.C W A names.length names) (hnl : names.length ≤ 4611686018427387904) (h : p < s.size) (hx : ∀ h : p < s.size, s[p]'h = 34) (hS : StrC s k p) (nm : List UInt8) (q1 : Nat) (hq1 : q1 ≤ s.size) (ht : textF s.data.toList k [] (p + 1) = some (.val nm q1)) (o : Out (List UInt8)) (ho : memF s.data.toList k (names.map (fun b => b.data.toList)) p = some o) :
    Calls Tryd.prog 74 #[.string s, .int .i64 p, .slice A names.length c] W (MemE o W) := by
  have hsp : s.data.toList[p]? = some 34 := by
    rw [List.getElem?_eq_getElem (by rw [size_data]; exact h)]
    exact congrArg some (hx h)
  have hO : o = if nm ∈ names.map (fun b => b.data.toList) then .err 45 p else match s.data.toList[blanksF s.data.toList q1]? with
      | none => .err 3 s.data.toList.length
      | some c => if c = 58 then .val nm (blanksF s.data.toList (blanksF s.data.toList q1 + 1)) else .err 40 (blanksF s.data.toList q1) := by
    unfold memF at ho
    simp only [hsp, if_true, ht] at ho
    by_cases hm : nm ∈ names.map (fun b => b.data.toList)
    · rw [if_pos hm] at ho ⊢
      exact (Option.some.inj ho).symm
    · rw [if_neg hm] at ho ⊢
      cases hc : s.data.toList[blanksF s.data.toList q1]? with
      | none => rw [hc] at ho; exact (Option.some.inj ho).symm
      | some c =>
        rw [hc] at ho
        simp only at ho ⊢
        by_cases h58 : c = 58
        · rw [if_pos h58] at ho ⊢; exact (Option.some.inj ho).symm
        · rw [if_neg h58] at ho ⊢; exact (Option.some.inj ho).symm
  have HO := Aside0.mk hO
  have HF2 := Aside0.mk (Kd.C_F Kd.heap_string hC)
  have hbl := blanks_le s.data.toList q1 (by rw [size_data]; exact hq1)
  rw [size_data] at hbl
  have h1 : decide (s.size ≤ p) = false := decide_eq_false (by omega)
  have p1 : (0 ≤ (p : Int)) = True := eq_true (by omega)
  have p2 : ((p : Int) < (s.size : Int)) = True := eq_true (by omega)
  have HS := Aside0.mk (hS _ ht)
  clear hS ht ho hO hsp hC
  go_enter Tryd.func74, Tryd.ntmps74
  go_wp2_with (go_at_call 48; (with_reducible refine (HS.out _).mono ?_); intro e w1 hv; obtain ⟨A2, c2, A3, c3, rfl, hr2, hr3, hbl1⟩ := hv; have hb1 := (hbl1.block W.heap.size (by rw [World.size_alloc]; omega)).trans (heap_alloc_new W _); have HB := Aside0.mk (below_step (below_alloc (Below.refl W.heap.size W) _) hbl1); have HX := Aside0.mk hb1; clear hr2 hr3 hb1 hbl1)
  generalize hw2 : w1.alloc (Obj.cells #[.int .i64 4, .string (bsJ nm), .slice A2 ([] : List ByteArray).length c2, .slice A3 ([] : List J).length c3, .int .i64 (q1 : Int), .int .i64 0, .int .i64 0] 53) = w2
  have HG2 := Aside0.mk (show w2.heap[w1.heap.size]? = some (.cells #[.int .i64 4, .string (bsJ nm), .slice A2 ([] : List ByteArray).length c2, .slice A3 ([] : List J).length c3, .int .i64 (q1 : Int), .int .i64 0, .int .i64 0] 53 (0, 0)) by rw [← hw2]; exact heap_alloc_new w1 _)
  have HX2 := Aside0.mk (show w2.heap[W.heap.size]? = some (.cells #[.int .i64 0, .string (⟨#[]⟩ : ByteArray), .slice none 0 0, .slice none 0 0, .int .i64 0, .int .i64 0, .int .i64 0] 53 (0, 0)) by rw [← hw2]; exact blk_alloc HX.out _)
  have HB2 := Aside0.mk (show Below W.heap.size W w2 by rw [← hw2]; exact below_alloc HB.out _)
  clear hw2 HX HB
  generalize w1.heap.size = G at *
  go_loopg [9] (names.length + 1) (fun g v9 wr => ∃ i : Nat, v9 = .int .i64 (i : Int) ∧ i ≤ names.length ∧ names.length + 1 ≤ i + g ∧ Aside0 (wr.heap[G]? = some (.cells #[.int .i64 4, .string (bsJ nm), .slice A2 ([] : List ByteArray).length c2, .slice A3 ([] : List J).length c3, .int .i64 (q1 : Int), .int .i64 0, .int .i64 0] 53 (0, 0))) ∧ Aside0 (wr.heap[W.heap.size]? = some (.cells #[.int .i64 0, .string (⟨#[]⟩ : ByteArray), .slice none 0 0, .slice none 0 0, .int .i64 0, .int .i64 0, .int .i64 0] 53 (0, 0))) ∧ Aside0 (Below W.heap.size W wr) ∧ Aside0 (∀ j, j < i → ¬ (nmAt names j).data.toList = nm))
  case atStart => exact ⟨0, rfl, by omega, by omega, HG2, HX2, HB2, ⟨fun j hj => by omega⟩⟩
  case round =>
    obtain ⟨i, rfl, hi, hg, HG, HX, HB, HD⟩ := hrel
    clear HG2 HX2 HB2
    obtain ⟨y0, y1, y2, y3, y4, y5, y6⟩ := got_cells HG.out
    obtain ⟨z0, z1, z2, z3, z4, z5, z6⟩ := got_cells HX.out
    obtain ⟨g0, g1, g2, g3, g4, g5, g6⟩ := got_thaw HX.out
    by_cases hlt : i < names.length
    · cases gk with
      | zero => omega
      | succ g =>
        have q1' : (0 ≤ (i : Int)) = True := eq_true (by omega)
        have q2 : ((i : Int) < (names.length : Int)) = True := eq_true (by omega)
        have hwn := wrap_next i names.length hlt (by omega)
        have HWN := Aside0.mk hwn
        clear hwn
        obtain ⟨ad, e8, hnk⟩ := name_at HF2.out i hlt
        subst e8
        have ci := CellOf.at hnk HB.out
        clear hnk
        by_cases he : (nmAt names i).data.toList = nm
        · have h1 : ((nmAt names i).toList == (bsJ nm).toList) = true := by rw [toList_data, toList_data]; exact beq_iff_eq.mpr he
          have HOE := Aside0.mk (show o = .err 45 p by rw [HO.out, if_pos (List.mem_map.2 ⟨nmAt names i, mem_nm names i hlt, he⟩)])
          clear he
          go_wp2
          go_quiet (fail)
          go_wp2_with (go_at_call 45; (with_reducible refine (rbad_calls _ _ _).mono ?_); intro e w1 hv; obtain ⟨A2, c2, A3, c3, rfl, hb1, hbk, hfin⟩ := GotV.put (by repeat (first | exact HB.out | apply pw_below_drewN | apply below_drew1 | apply below_alloc)) (Nat.le_refl _) (by repeat (first | exact HX.out | refine blk_drewN ?_ _ | refine blk_drew ?_ | refine blk_alloc ?_ _)) hv; have HBK := Aside0.mk hbk; have HFIN := Aside0.mk hfin; have z0 := (blk_cell hb1 0).trans rfl; have z1 := (blk_cell hb1 1).trans rfl; have z2 := (blk_cell hb1 2).trans rfl; have z3 := (blk_cell hb1 3).trans rfl; have z4 := (blk_cell hb1 4).trans rfl; have z5 := (blk_cell hb1 5).trans rfl; have z6 := (blk_cell hb1 6).trans rfl; have g0 := blk_frozen hb1 0; have g1 := blk_frozen hb1 1; have g2 := blk_frozen hb1 2; have g3 := blk_frozen hb1 3; have g4 := blk_frozen hb1 4; have g5 := blk_frozen hb1 5; have g6 := blk_frozen hb1 6; clear hv hb1 hbk hfin)
          refine bodyPost_ret (mem_results W.heap.size _ _ _ _ _ _ _ _ _ _ rfl rfl HBK.out) rfl ?_
          rw [HOE.out]
          exact ⟨by decide, _, rfl, HFIN.out⟩
        · have h1 : ((nmAt names i).toList == (bsJ nm).toList) = false := by rw [toList_data, toList_data]; exact beq_eq_false_iff_ne.mpr he
          have HD2 := Aside0.mk (show ∀ j, j < i + 1 → ¬ (nmAt names j).data.toList = nm from fun j hj => by
            by_cases hji : j < i
            · exact HD.out j hji
            · obtain rfl : j = i := by omega
              exact he)
          clear he
          go_wp2
          go_quiet (fail)
          go_wp2
          go_roundg g
          case measure => omega
          case rel => exact ⟨i + 1, (by first | exact congrArg (Value.int .i64) HWN.out | exact congrArg (Value.int .i64) (show (i : Int) + 1 = ((i + 1 : Nat) : Int) by omega)), by omega, by omega, ⟨by repeat (first | exact HG.out | refine blk_drewN ?_ _ | refine blk_drew ?_ | refine blk_alloc ?_ _)⟩, ⟨by repeat (first | exact HX.out | refine blk_drewN ?_ _ | refine blk_drew ?_ | refine blk_alloc ?_ _)⟩, ⟨by repeat (first | exact HB.out | apply pw_below_drewN | apply below_drew1 | apply below_alloc)⟩, HD2⟩
    · have q2 : ((i : Int) < (names.length : Int)) = False := eq_false (by omega)
      obtain rfl : i = names.length := by omega
      have hnm : ¬ nm ∈ names.map (fun b => b.data.toList) := fun hm => by
        obtain ⟨b, hb, he⟩ := List.mem_map.1 hm
        obtain ⟨j, hj, rfl⟩ := List.getElem_of_mem hb
        exact HD.out j hj (by rw [nmAt_eq names j hj]; exact he)
      have HO2 := Aside0.mk ((HO.out).trans (if_neg hnm))
      clear hnm
      have HBQ := Aside0.mk (show q1 ≤ 4611686018427387904 by omega)
      by_cases hend : s.size ≤ blanksF s.data.toList q1
      · have HOE := Aside0.mk (show o = .err 3 s.size by rw [HO2.out, List.getElem?_eq_none (by rw [size_data]; exact hend), size_data])
        have HM := Aside0.mk (show mustO s.data.toList (blanksF s.data.toList q1) = .err 3 s.size by rw [mustO_short (by rw [size_data]; exact hend), size_data])
        generalize hbq : blanksF s.data.toList q1 = bq at *
        have HBE := Aside0.mk hbq
        clear hbq
        have h2 : decide (s.size ≤ bq) = true := decide_eq_true hend
        go_wp2_with (first | (go_at_call 31; (with_reducible refine (rblanks_calls s q1 _ hs HBQ.out).mono ?_); rintro e w3 ⟨rfl, rfl⟩; rw [HBE.out]) | (go_at_call 70; (with_reducible refine (rmust_calls s bq _).mono ?_); intro e w1 hv; rw [HM.out] at hv; obtain ⟨_, hv⟩ := hv; obtain ⟨A2, c2, A3, c3, rfl, hb1, hbk, hfin⟩ := GotV.put (by repeat (first | exact HB.out | apply pw_below_drewN | apply below_drew1 | apply below_alloc)) (Nat.le_refl _) (by repeat (first | exact HX.out | refine blk_drewN ?_ _ | refine blk_drew ?_ | refine blk_alloc ?_ _)) hv; have HBK := Aside0.mk hbk; have HFIN := Aside0.mk hfin; have z0 := (blk_cell hb1 0).trans rfl; have z1 := (blk_cell hb1 1).trans rfl; have z2 := (blk_cell hb1 2).trans rfl; have z3 := (blk_cell hb1 3).trans rfl; have z4 := (blk_cell hb1 4).trans rfl; have z5 := (blk_cell hb1 5).trans rfl; have z6 := (blk_cell hb1 6).trans rfl; have g0 := blk_frozen hb1 0; have g1 := blk_frozen hb1 1; have g2 := blk_frozen hb1 2; have g3 := blk_frozen hb1 3; have g4 := blk_frozen hb1 4; have g5 := blk_frozen hb1 5; have g6 := blk_frozen hb1 6; clear hv hb1 hbk hfin))
        refine bodyPost_ret (mem_results W.heap.size _ _ _ _ _ _ _ _ _ _ rfl rfl HBK.out) rfl ?_
        rw [HOE.out]
        exact ⟨by decide, _, rfl, HFIN.out⟩
      · obtain ⟨u, hu, hxu⟩ := drop_at s (blanksF s.data.toList q1) (by omega)
        have hbu := at_drop hu
        clear hu
        by_cases h58 : u = 58
        · have HOE := Aside0.mk (show o = .val nm (blanksF s.data.toList (blanksF s.data.toList q1 + 1)) by rw [HO2.out, hbu]; simp only [if_pos h58])
          subst h58
          clear hbu
          generalize hbq : blanksF s.data.toList q1 = bq at *
          have HBE := Aside0.mk hbq
          clear hbq
          have h2 : decide (s.size ≤ bq) = false := decide_eq_false hend
          have p3 : (0 ≤ (bq : Int)) = True := eq_true (by omega)
          have p4 : ((bq : Int) < (s.size : Int)) = True := eq_true (by omega)
          have w1e : IntKind.i64.wrap ((bq : Int) + 1) = ((bq + 1 : Nat) : Int) := by rw [i64w _ (by omega) (by omega)]; omega
          have w2e : wrap64 ((bq : Int) + 1) = ((bq + 1 : Nat) : Int) := by unfold wrap64; omega
          have w3e : (bq : Int) + 1 = ((bq + 1 : Nat) : Int) := by omega
          have HB1 := Aside0.mk (show bq + 1 ≤ 4611686018427387904 by omega)
          have w4e : IntKind.i64.wrap ((bq + 1 : Nat) : Int) = ((bq + 1 : Nat) : Int) := i64w _ (by omega) (by omega)
          generalize bq + 1 = b1 at *
          go_wp2_with (first | (go_at_call 31; (with_reducible refine (rblanks_calls s q1 _ hs HBQ.out).mono ?_); rintro e w3 ⟨rfl, rfl⟩; rw [HBE.out]))
          generalize hb2 : blanksF s.data.toList b1 = b2 at *
          obtain ⟨hbk, hfin⟩ := GotV.mk0 HB.out (Nat.le_refl _) HX.out 0 ⟨#[]⟩ (b2 : Int) 0 0
          have HBK := Aside0.mk hbk
          have HFIN := Aside0.mk hfin
          have HB2E := Aside0.mk hb2
          clear hbk hfin hb2
          go_region_with (go_at_call 31; (with_reducible refine (rblanks_calls s b1 _ hs HB1.out).mono ?_); rintro e w3 ⟨rfl, rfl⟩; rw [HB2E.out])
          all_goals (try go_wp2)
          all_goals trace_state
          all_goals (
            refine bodyPost_ret (mem_results W.heap.size _ _ _ _ _ _ _ _ _ _ rfl rfl (blk_drew HBK.out)) rfl ?_
            rw [HOE.out]
            exact ⟨_, rfl, HFIN.out.drew⟩)
        · have HOE := Aside0.mk (show o = .err 40 (blanksF s.data.toList q1) by rw [HO2.out, hbu]; simp only [if_neg h58])
          have HM := Aside0.mk (show mustO s.data.toList (blanksF s.data.toList q1) = .err 40 (blanksF s.data.toList q1) by rw [mustO_bad (by rw [size_data]; exact hend)])
          clear hbu
          generalize hbq : blanksF s.data.toList q1 = bq at *
          have HBE := Aside0.mk hbq
          clear hbq
          have h2 : decide (s.size ≤ bq) = false := decide_eq_false hend
          have p3 : (0 ≤ (bq : Int)) = True := eq_true (by omega)
          have p4 : ((bq : Int) < (s.size : Int)) = True := eq_true (by omega)
          have u1 : ((u.toNat : Int) != 58) = true := bne_iff_ne.mpr (fun hh => h58 ((u8_eq u 58).2 hh))
          clear h58
          go_wp2_with (first | (go_at_call 31; (with_reducible refine (rblanks_calls s q1 _ hs HBQ.out).mono ?_); rintro e w3 ⟨rfl, rfl⟩; rw [HBE.out]) | (go_at_call 70; (with_reducible refine (rmust_calls s bq _).mono ?_); intro e w1 hv; rw [HM.out] at hv; obtain ⟨_, hv⟩ := hv; obtain ⟨A2, c2, A3, c3, rfl, hb1, hbk, hfin⟩ := GotV.put (by repeat (first | exact HB.out | apply pw_below_drewN | apply below_drew1 | apply below_alloc)) (Nat.le_refl _) (by repeat (first | exact HX.out | refine blk_drewN ?_ _ | refine blk_drew ?_ | refine blk_alloc ?_ _)) hv; have HBK := Aside0.mk hbk; have HFIN := Aside0.mk hfin; have z0 := (blk_cell hb1 0).trans rfl; have z1 := (blk_cell hb1 1).trans rfl; have z2 := (blk_cell hb1 2).trans rfl; have z3 := (blk_cell hb1 3).trans rfl; have z4 := (blk_cell hb1 4).trans rfl; have z5 := (blk_cell hb1 5).trans rfl; have z6 := (blk_cell hb1 6).trans rfl; have g0 := blk_frozen hb1 0; have g1 := blk_frozen hb1 1; have g2 := blk_frozen hb1 2; have g3 := blk_frozen hb1 3; have g4 := blk_frozen hb1 4; have g5 := blk_frozen hb1 5; have g6 := blk_frozen hb1 6; clear hv hb1 hbk hfin))
          refine bodyPost_ret (mem_results W.heap.size _ _ _ _ _ _ _ _ _ _ rfl rfl HBK.out) rfl ?_
          rw [HOE.out]
          exact ⟨by decide, _, rfl, HFIN.out⟩
  skip
end Go.Proofs.YtaalajhmfdcalaaDoor.X
namespace Go.Proofs.YtaalajhmfdcalaaDoor.X
open Go.RowKit Go.Lib Go.Proofs.YtaalajhmfdcalaaDoorW.PrintWords Go.Proofs.YtaalajhmfdcalaaDoorW.PrintLast Go.Proofs.YtaalajhmfdcalaaDoorW.PrintMore
structure ISt (W wr : World) (kd : Int) (ns : List ByteArray) (ys : List J) (sn sv : Value) : Prop where
  box : wr.heap[W.heap.size]? = some (.cells #[.int .i64 kd, .string (⟨#[]⟩ : ByteArray), sn, sv] 25 (0, 0))
  res : wr.heap[W.heap.size + 1]? = some (.cells #[.int .i64 0, .string (⟨#[]⟩ : ByteArray), .slice none 0 0, .slice none 0 0, .int .i64 0, .int .i64 0, .int .i64 0] 53 (0, 0))
  rn : Kd.string.R 9 wr W.heap.size (fun k => W.heap.size + 2 ≤ k) sn ns
  rv : k25.R 25 wr W.heap.size (fun k => W.heap.size + 2 ≤ k ∧ some k ≠ sn.ownBlock) sv ys
  bel : Below W.heap.size W wr
  big : W.heap.size + 2 ≤ wr.heap.size
variable {W wr w1 w3 : World} {kd : Int} {ns : List ByteArray} {ys : List J} {sn sv v1 : Value}
theorem ISt.below (h : ISt W wr kd ns ys sn sv) (hb : Below wr.heap.size wr w1) : ISt W w1 kd ns ys sn sv :=
  ⟨(hb.block _ (lt_of_block h.box)).trans h.box, (hb.block _ (lt_of_block h.res)).trans h.res, Kd.R_below h.rn hb, Kd.R_below h.rv hb, below_step h.bel hb, Nat.le_trans h.big hb.size⟩
theorem ISt.alloc (h : ISt W wr kd ns ys sn sv) (o : Obj) : ISt W (wr.alloc o) kd ns ys sn sv := h.below (below_alloc (Below.refl _ _) o)
theorem ISt.cell (h : ISt W wr kd ns ys sn sv) (i : Nat) (v : Value) (hi : (#[.int .i64 kd, .string (⟨#[]⟩ : ByteArray), sn, sv] : Array Value)[i]? = some v) : wr.cell? ⟨W.heap.size, i, none⟩ = some v := (blk_cell h.box i).trans hi
theorem ISt.cellA (h : ISt W wr kd ns ys sn sv) (o : Obj) (i : Nat) (v : Value) (hi : (#[.int .i64 kd, .string (⟨#[]⟩ : ByteArray), sn, sv] : Array Value)[i]? = some v) : (wr.alloc o).cell? ⟨W.heap.size, i, none⟩ = some v := (h.alloc o).cell i v hi
theorem le_of_alloc {n k : Nat} {ob : Obj} (h : n ≤ w1.heap.size) (hk : (w1.alloc ob).heap.size ≤ k) : n ≤ k := by rw [World.size_alloc] at hk; omega
theorem ISt.fresh (h : ISt W wr kd ns ys sn sv) {k : Nat} (hk : wr.heap.size ≤ k) : (W.heap.size + 2 ≤ k ∧ some k ≠ sn.ownBlock) ∧ some k ≠ sv.ownBlock := by
  have h1 := h.big
  refine ⟨⟨by omega, fun hh => ?_⟩, fun hh => ?_⟩
  · have := ((Kd.R_bound h.rn).1 k hh.symm).2.2.1; omega
  · have := ((Kd.R_bound h.rv).1 k hh.symm).2.2.1; omega
theorem string_grown {w : World} {B : Nat} {ok : Nat → Prop} {v : Value} {l : List ByteArray} {o : Option Nat} (h : Kd.string.R 9 w B ok v l) (hg : w.grownBy w3 o) (hne : ∀ k, o = some k → some k ≠ v.ownBlock) : Kd.string.R 9 w3 B ok v l := by
  cases o with
  | none => exact Kd.R_mono (Kd.R_move (Kd.R_bound h) (fun k hk => hg.block k hk.2.2.1 (by simp))) (fun k hk => hk.1)
  | some g => exact Kd.R_mono (Kd.R_move (Kd.R_bound (Kd.R_far1 h rfl (hne g rfl))) (fun k hk => hg.block k hk.2.2.1 (by intro hh; injection hh with hh; exact hk.1.2 hh))) (fun k hk => hk.1.1)
theorem ISt.sv_ne (h : ISt W wr kd ns ys sn sv) {k : Nat} (hk : sv.ownBlock = some k) : W.heap.size + 2 ≤ k ∧ some k ≠ sn.ownBlock := h.rv.1 k hk
theorem ISt.item_old (h : ISt W wr kd ns ys sn sv) (hg : wr.grownBy w3 sv.ownBlock) : w3.heap[W.heap.size]? = some (.cells #[.int .i64 kd, .string (⟨#[]⟩ : ByteArray), sn, sv] 25 (0, 0)) :=
  (hg.block _ (lt_of_block h.box) (fun hh => by have := (h.sv_ne hh.symm).1; omega)).trans h.box
theorem ISt.item {j : J} (h : ISt W wr kd ns ys sn sv) (hr : k25.R 25 w3 W.heap.size (fun k => W.heap.size + 2 ≤ k ∧ some k ≠ sn.ownBlock) v1 (ys ++ [j])) (hb : Below W.heap.size W w3) (hg : wr.grownBy w3 sv.ownBlock) :
    ISt W (w3.setCell ⟨W.heap.size, 3, none⟩ v1) kd ns (ys ++ [j]) sn v1 := by
  refine ⟨blk_put (h.item_old hg) 3 v1 rfl, ?_, ?_, ?_, below_set hb (Nat.le_refl _), by rw [World.size_setCell]; exact Nat.le_trans h.big hg.size⟩
  · exact (Below.heap_setCell _ _ _ _ (by show W.heap.size + 1 ≠ W.heap.size; omega)).trans ((hg.block _ (lt_of_block h.res) (fun hh => by have := (h.sv_ne hh.symm).1; omega)).trans h.res)
  · exact Kd.R_far (string_grown h.rn hg (fun k hk => (h.sv_ne hk).2)) (fun k hk => by show k ≠ W.heap.size; omega) _
  · exact Kd.R_far hr (fun k hk => by show k ≠ W.heap.size; omega) _
theorem ISt.item_box {G : Nat} {o : Obj} {w0 : World} (h : ISt W wr kd ns ys sn sv) (hG : wr.heap[G]? = some o) (hw : w0.heap.size ≤ G) (h0 : ISt W w0 kd ns ys sn sv) (hg : wr.grownBy w3 sv.ownBlock) (v : Value) : (w3.setCell ⟨W.heap.size, 3, none⟩ v).heap[G]? = some o := by
  have h1 := h0.big
  exact (Below.heap_setCell _ _ _ _ (by show G ≠ W.heap.size; omega)).trans ((hg.block _ (lt_of_block hG) (h0.fresh hw).2).trans hG)
theorem ISt.name_old (h : ISt W wr kd ns ys sn sv) (hg : wr.grownBy w3 sn.ownBlock) : w3.heap[W.heap.size]? = some (.cells #[.int .i64 kd, .string (⟨#[]⟩ : ByteArray), sn, sv] 25 (0, 0)) :=
  (hg.block _ (lt_of_block h.box) (fun hh => by have := h.rn.1 _ hh.symm; omega)).trans h.box
theorem ISt.name {nm : ByteArray} (h : ISt W wr kd ns ys sn sv) (hr : Kd.string.R 9 w3 W.heap.size (fun k => W.heap.size + 2 ≤ k) v1 (ns ++ [nm])) (hb : Below W.heap.size W w3) (hg : wr.grownBy w3 sn.ownBlock) (hat : v1.ownBlock = sn.ownBlock ∨ ∃ b, v1.ownBlock = some b ∧ wr.heap.size ≤ b) :
    ISt W (w3.setCell ⟨W.heap.size, 2, none⟩ v1) kd (ns ++ [nm]) ys v1 sv := by
  refine ⟨blk_put (h.name_old hg) 2 v1 rfl, ?_, ?_, ?_, below_set hb (Nat.le_refl _), by rw [World.size_setCell]; exact Nat.le_trans h.big hg.size⟩
  · exact (Below.heap_setCell _ _ _ _ (by show W.heap.size + 1 ≠ W.heap.size; omega)).trans ((hg.block _ (lt_of_block h.res) (fun hh => by have := h.rn.1 _ hh.symm; omega)).trans h.res)
  · exact Kd.R_far hr (fun k hk => by show k ≠ W.heap.size; omega) _
  · refine Kd.R_far (Kd.R_mono (Kd.R_move (Kd.R_bound h.rv) (fun k hk => hg.block k hk.2.2.1 hk.1.2)) (fun k hk => ⟨hk.1.1, ?_⟩)) (fun k hk => by show k ≠ W.heap.size; omega) _
    rcases hat with hat | ⟨b, hb1, hb2⟩
    · rw [hat]; exact hk.1.2
    · rw [hb1]
      intro hh
      injection hh with hh
      have := hk.2.2.1
      omega
theorem ISt.final {An Av : Option Addr} {nn cn nv cv : Nat} (h : ISt W wr kd ns ys (.slice An nn cn) (.slice Av nv cv)) (q : Int) :
    (set7 wr (W.heap.size + 1) (.int .i64 kd) (.string (⟨#[]⟩ : ByteArray)) (.slice An nn cn) (.slice Av nv cv) (.int .i64 q) (.int .i64 0) (.int .i64 0)).heap[W.heap.size + 1]? = some (.cells #[.int .i64 kd, .string (⟨#[]⟩ : ByteArray), .slice An nn cn, .slice Av nv cv, .int .i64 q, .int .i64 0, .int .i64 0] 53 (0, 0)) ∧
      GotV W (set7 wr (W.heap.size + 1) (.int .i64 kd) (.string (⟨#[]⟩ : ByteArray)) (.slice An nn cn) (.slice Av nv cv) (.int .i64 q) (.int .i64 0) (.int .i64 0)) kd ⟨#[]⟩ ns ys q 0 0 (.returned (.agg #[.int .i64 kd, .string (⟨#[]⟩ : ByteArray), .slice An nn cn, .slice Av nv cv, .int .i64 q, .int .i64 0, .int .i64 0])) := by
  obtain rfl := (Kd.R_reads' h.rn).1
  obtain rfl := (Kd.R_reads' h.rv).1
  refine ⟨blk_set7 h.res _ _ _ _ _ _ _, An, cn, Av, cv, rfl, ?_, ?_, below_set7 h.bel (Nat.le_succ _) _ _ _ _ _ _ _⟩
  · exact Kd.R_mono (R_set7 h.rn (fun k hk => by omega) _ _ _ _ _ _ _) (fun _ _ => trivial)
  · exact Kd.R_mono (R_set7 h.rv (fun k hk => by omega) _ _ _ _ _ _ _) (fun _ hk => hk.2)
theorem ISt.start (W : World) (kd : Int) : ISt W ((W.alloc (.cells #[.int .i64 kd, .string (⟨#[]⟩ : ByteArray), .slice none 0 0, .slice none 0 0] 25)).alloc (.cells #[.int .i64 0, .string (⟨#[]⟩ : ByteArray), .slice none 0 0, .slice none 0 0, .int .i64 0, .int .i64 0, .int .i64 0] 53 (0, 0))) kd [] [] (.slice none 0 0) (.slice none 0 0) := by
  refine ⟨blk_alloc (heap_alloc_new W _) _, ?_, Kd.R_nil _ _ _ _ _, Kd.R_nil _ _ _ _ _, below_alloc (below_alloc (Below.refl _ _) _) _, by rw [World.size_alloc, World.size_alloc]; omega⟩
  have := heap_alloc_new (W.alloc (.cells #[.int .i64 kd, .string (⟨#[]⟩ : ByteArray), .slice none 0 0, .slice none 0 0] 25)) (.cells #[.int .i64 0, .string (⟨#[]⟩ : ByteArray), .slice none 0 0, .slice none 0 0, .int .i64 0, .int .i64 0, .int .i64 0] 53 (0, 0))
  rwa [World.size_alloc] at this
theorem sevF_in {α : Type} {one : α → Nat → Option (Out α)} {s : List UInt8} {en : UInt8} {k : Nat} {a : α} {p : Nat} {o : Out α} (h : sevF one s en (k + 1) a p = some o) (hone : s[blanksF s (p + 1)]? = none → one a (blanksF s (p + 1)) = some (.err 3 s.length)) :
    (s[blanksF s (p + 1)]? = some en ∧ o = .val a (blanksF s (p + 1) + 1)) ∨ (¬ s[blanksF s (p + 1)]? = some en ∧ sevL one s en (k + 1) a (blanksF s (p + 1)) = some o) := by
  unfold sevF at h
  cases hc : s[blanksF s (p + 1)]? with
  | none =>
    rw [hc] at h
    refine .inr ⟨by simp, ?_⟩
    rw [sevL, hone hc]
    exact h
  | some c =>
    rw [hc] at h
    simp only at h
    by_cases he : c = en
    · rw [if_pos he] at h
      exact .inl ⟨by rw [he], (Option.some.inj h).symm⟩
    · rw [if_neg he] at h
      exact .inr ⟨fun hh => he (Option.some.inj hh), h⟩
end Go.Proofs.YtaalajhmfdcalaaDoor.X
