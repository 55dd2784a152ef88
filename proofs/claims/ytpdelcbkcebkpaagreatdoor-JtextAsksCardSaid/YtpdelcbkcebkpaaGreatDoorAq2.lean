/- The texts of this work, put together: K35, Ly, K103, M1, M2, K104, K101, K102, N80, K105, K106. -/
import Derived.Test.YtpdelcbkcebkpaaGreatDoorAq1
import Derived.Shelf.Strconv.ParseIntPublic10
import Derived.Shelf.Strconv.ParseUint10At
import Derived.Shelf.Strconv.Itoa4
import Derived.Test.YtpdelcbkcebkpaaGreatDoorProg
import Derived.Test.YtpdelcbkcebkpaaGreatDoorAq0
import Derived.WalkSmall
import Derived.Sort.Grow
import Derived.Lib.Walk
import Derived.Lib.ItoaMem
import Derived.BigCall
import Derived.BigGuard
import Derived.Lib.ParseIntB
import Derived.Lib.ItoaNum
import Derived.Deep.RegionHeld3
set_option linter.unusedVariables false
set_option linter.unusedSimpArgs false
namespace Go.Proofs.YtpdelcbkcebkpaaGreatDoor.X
open Go.RowKit Go.Lib Go.Proofs.YtpdelcbkcebkpaaGreatDoorW.PrintWords Go.Proofs.YtpdelcbkcebkpaaGreatDoorW.PrintLast Go.Proofs.YtpdelcbkcebkpaaGreatDoorW.PrintMore
def insF (x : ByteArray × J) : List (ByteArray × J) → List (ByteArray × J)
 | [] => [x]
 | y :: l => if Op.bytesLess y.1.toList x.1.toList = true then y :: insF x l else x :: y :: l
def sortF (l : List (ByteArray × J)) : List (ByteArray × J) := l.foldl (fun a x => insF x a) []
def itemsW (free : Bool) (one : J → St → St) : Nat → List J → St → St
 | _, [], st => st
 | i, y :: l, st => itemsW free one (i + 1) l (one y (if i = 0 then st else putF free st [44]))
def membersW (free : Bool) (one : J → St → St) : List ByteArray → Nat → List ByteArray → List J → St → St
 | seen, i, nm :: ns, y :: ys, st =>
  let st1 := if i = 0 then st else putF free st [44]
  if st1.e ≠ 0 then st1
  else if validD nm.data.toList = false then failF st1 47
  else if nm.data.toList ∈ seen.map (fun b => b.data.toList) then failF st1 45
  else membersW free one (seen ++ [nm]) (i + 1) ns ys (one y (putF free (putsF free st1 (quoteB nm)) [58]))
 | _, _, _, _, st => st
def namesOf (canon : Bool) (ns : List ByteArray) (ys : List J) : List ByteArray := if canon then (sortF (ns.zip ys)).map Prod.fst else ns
def itemsOf (canon : Bool) (ns : List ByteArray) (ys : List J) : List J := if canon then (sortF (ns.zip ys)).map Prod.snd else ys
def valW (free canon : Bool) : Nat → J → St → St
 | 0, v, st =>
  if st.e ≠ 0 then st
  else if v.f0 = 5 ∨ v.f0 = 6 then ⟨st.out, 46⟩
  else if nodeOK v.f0 v.f1 v.f2.length v.f3.length = false then ⟨st.out, 47⟩
  else if v.f0 = 3 then putF free st v.f1.data.toList
  else if v.f0 = 4 then putsF free st (quoteB v.f1)
  else putF free st (wordB v.f0.toNat).data.toList
 | r + 1, v, st =>
  if st.e ≠ 0 then st
  else if nodeOK v.f0 v.f1 v.f2.length v.f3.length = false then ⟨st.out, 47⟩
  else if v.f0 = 5 then putF free (itemsW free (valW free canon r) 0 v.f3 (putF free st [91])) [93]
  else if v.f0 = 6 then putF free (membersW free (valW free canon r) [] 0 (namesOf canon v.f2 v.f3) (itemsOf canon v.f2 v.f3) (putF free st [123])) [125]
  else if v.f0 = 3 then putF free st v.f1.data.toList
  else if v.f0 = 4 then putsF free st (quoteB v.f1)
  else putF free st (wordB v.f0.toNat).data.toList
def wtJ : Nat → J → Nat
 | 0, v => 12 * v.f1.size + 16
 | r + 1, v => 12 * v.f1.size + 16 + (v.f2.map (fun s => 12 * s.size + 16)).sum + (v.f3.map (fun y => wtJ r y + 1)).sum
def SmJ : Nat → J → Prop
 | 0, v => v.f1.size ≤ 288230376151711743
 | r + 1, v => v.f1.size ≤ 288230376151711743 ∧ (∀ s, s ∈ v.f2 → s.size ≤ 288230376151711743) ∧ ∀ y, y ∈ v.f3 → SmJ r y
def LnJ : Nat → J → Prop
 | 0, _ => True
 | r + 1, v => v.f3.length ≤ 1000000 ∧ ∀ y, y ∈ v.f3 → LnJ r y
theorem SmJ.text {r : Nat} {v : J} (h : SmJ r v) : v.f1.size ≤ 288230376151711743 := by
 cases r with
 | zero => exact h
 | succ r => exact h.1
theorem wtJ_text (r : Nat) (v : J) : 12 * v.f1.size + 16 ≤ wtJ r v := by
 cases r with
 | zero => exact Nat.le_refl _
 | succ r => unfold wtJ; omega
structure Fit (free : Bool) (st : St) (n : Nat) : Prop where
 fre : free = true → st.out.length + n ≤ 140737488355328
 bnd : free = false → st.out.length ≤ 16384
theorem Fit.room {free : Bool} {st : St} {n m : Nat} (h : Fit free st n) (hm : m ≤ n) (hb : m ≤ 4611686018427371520) : Room free st m := by
 refine ⟨?_, fun hf => by have := h.fre hf; omega, h.bnd⟩
 cases free with
 | true => have := h.fre rfl; omega
 | false => have := h.bnd rfl; omega
theorem Fit.less {free : Bool} {st : St} {n m : Nat} (h : Fit free st n) (hm : m ≤ n) : Fit free st m := ⟨fun hf => by have := h.fre hf; omega, h.bnd⟩
theorem Fit.put {free : Bool} {st : St} {n m : Nat} (s : List UInt8) (h : Fit free st m) (hm : s.length + n ≤ m) : Fit free (putF free st s) n := by
 have h1 := putF_len free st s
 refine ⟨fun hf => by have := h.fre hf; omega, fun hf => ?_⟩
 have h2 := h.bnd hf
 unfold putF
 repeat' split
 ·exact h2
 ·exact h2
 ·rename_i h3 h4
  show (st.out ++ s).length ≤ _
  rw [List.length_append]
  have : ¬ 16384 < st.out.length + s.length := fun hh => h4 ⟨hf, hh⟩
  omega
def lensL (l : List (List UInt8)) : Nat := (l.map List.length).sum
theorem Fit.puts {free : Bool} {n : Nat} : ∀ (l : List (List UInt8)) {st : St} {m : Nat}, Fit free st m → lensL l + n ≤ m → Fit free (putsF free st l) n
 | [], st, m, h, hm => h.less (by omega)
 | a :: l, st, m, h, hm => Fit.puts l (h.put (n := lensL l + n) a (by simp only [lensL, List.map_cons, List.sum_cons] at hm ⊢; omega)) (Nat.le_refl _)
theorem runeB_lens (c : Nat) : lensL (runeB c) ≤ 12 := by
 unfold runeB
 repeat' split
 all_goals simp [lensL, unitB]
theorem quoteL_lens (s : ByteArray) : ∀ (k pos : Nat), lensL (quoteL s k pos) ≤ 12 * (s.size - pos)
 | 0, pos => by simp [quoteL, lensL]
 | k + 1, pos => by
  by_cases h : pos < s.size
  ·rw [quoteL_on s k pos h]
   have h1 := runeB_lens (Utf8.decode s pos).1
   have h2 := quoteL_lens s k (pos + (Utf8.decode s pos).2)
   have h3 := (dec_small s pos).2
   have e : lensL (runeB (Utf8.decode s pos).1 ++ quoteL s k (pos + (Utf8.decode s pos).2)) = lensL (runeB (Utf8.decode s pos).1) + lensL (quoteL s k (pos + (Utf8.decode s pos).2)) := by simp [lensL]
   omega
  ·rw [quoteL_end s (k + 1) pos h]
   simp [lensL]
theorem quoteB_lens (s : ByteArray) : lensL (quoteB s) ≤ 12 * s.size + 2 := by
 have h := quoteL_lens s (s.size + 1) 0
 have e : lensL (quoteB s) = 1 + (lensL (quoteL s (s.size + 1) 0) + 1) := by simp [lensL, quoteB]
 omega
theorem Fit.quote {free : Bool} {st : St} {n m : Nat} (s : ByteArray) (h : Fit free st m) (hm : 12 * s.size + 2 + n ≤ m) : Fit free (putsF free st (quoteB s)) n :=
 h.puts (quoteB s) (by have := quoteB_lens s; omega)
theorem Fit.failF {free : Bool} {st : St} {n : Nat} (e : Nat) (h : Fit free st n) : Fit free (failF st e) n := by
 unfold X.failF
 split
 ·exact ⟨h.fre, h.bnd⟩
 ·exact h
theorem Fit.err {free : Bool} {st : St} {n : Nat} (e : Nat) (h : Fit free st n) : Fit free ⟨st.out, e⟩ n := ⟨h.fre, h.bnd⟩
def Sm (canon : Bool) (a b : St) : Prop := a = b ∨ (canon = true ∧ a.e ≠ 0 ∧ b.e ≠ 0)
theorem Sm.refl (canon : Bool) (a : St) : Sm canon a a := .inl rfl
theorem Sm.trans {canon : Bool} {a b c : St} (h : Sm canon a b) (h' : Sm canon b c) : Sm canon a c := by
 rcases h with rfl | ⟨h1, h2, h3⟩
 ·exact h'
 ·rcases h' with rfl | ⟨_, h5, h6⟩
  ·exact .inr ⟨h1, h2, h3⟩
  ·exact .inr ⟨h1, h2, h6⟩
theorem Sm.eq {a b : St} (h : Sm false a b) : a = b := by
 rcases h with h | ⟨h, _⟩
 ·exact h
 ·cases h
theorem putF_bad (free : Bool) (st : St) (s : List UInt8) (h : st.e ≠ 0) : putF free st s = st := by unfold putF; rw [if_pos h]
theorem failF_e (st : St) (e : Nat) (h : e ≠ 0) : (failF st e).e ≠ 0 := by
 unfold failF
 split
 ·exact h
 ·rename_i h1; exact h1
theorem valW_bad (free canon : Bool) (r : Nat) (v : J) (st : St) (h : st.e ≠ 0) : valW free canon r v st = st := by
 cases r with
 | zero => unfold valW; rw [if_pos h]
 | succ r => unfold valW; rw [if_pos h]
def Quits (one : J → St → St) : Prop := ∀ y st, st.e ≠ 0 → one y st = st
theorem comma_bad (free : Bool) (i : Nat) (st : St) (h : st.e ≠ 0) : (if i = 0 then st else putF free st [44]) = st := by
 split
 ·rfl
 ·exact putF_bad _ _ _ h
theorem itemsW_bad (free : Bool) {one : J → St → St} (ho : Quits one) : ∀ (l : List J) (i : Nat) (st : St), st.e ≠ 0 → itemsW free one i l st = st
 | [], i, st, h => rfl
 | y :: l, i, st, h => by unfold itemsW; rw [comma_bad free i st h, ho y st h]; exact itemsW_bad free ho l (i + 1) st h
theorem membersW_bad (free : Bool) {one : J → St → St} (seen : List ByteArray) (i : Nat) (ns : List ByteArray) (ys : List J) (st : St) (h : st.e ≠ 0) : membersW free one seen i ns ys st = st := by
 cases ns with
 | nil => unfold membersW; rfl
 | cons nm ns =>
  cases ys with
  | nil => unfold membersW; rfl
  | cons y ys => unfold membersW; rw [comma_bad free i st h]; simp only [if_pos h]
theorem Sm.put {canon : Bool} {a b : St} (free : Bool) (s : List UInt8) (h : Sm canon a b) : Sm canon (putF free a s) (putF free b s) := by
 rcases h with rfl | ⟨h1, h2, h3⟩
 ·exact .inl rfl
 ·rw [putF_bad _ _ _ h2, putF_bad _ _ _ h3]; exact .inr ⟨h1, h2, h3⟩
theorem Sm.items {canon : Bool} {a b : St} (free : Bool) {one : J → St → St} (ho : Quits one) (i : Nat) (l : List J) (h : Sm canon a b) : Sm canon (itemsW free one i l a) (itemsW free one i l b) := by
 rcases h with rfl | ⟨h1, h2, h3⟩
 ·exact .inl rfl
 ·rw [itemsW_bad free ho _ _ _ h2, itemsW_bad free ho _ _ _ h3]; exact .inr ⟨h1, h2, h3⟩
theorem Sm.members {canon : Bool} {a b : St} (free : Bool) {one : J → St → St} (seen : List ByteArray) (i : Nat) (ns : List ByteArray) (ys : List J) (h : Sm canon a b) : Sm canon (membersW free one seen i ns ys a) (membersW free one seen i ns ys b) := by
 rcases h with rfl | ⟨h1, h2, h3⟩
 ·exact .inl rfl
 ·rw [membersW_bad _ _ _ _ _ _ h2, membersW_bad _ _ _ _ _ _ h3]; exact .inr ⟨h1, h2, h3⟩
theorem membersW_twice (free : Bool) {one : J → St → St} (ho : Quits one) : ∀ (ns : List ByteArray) (ys : List J) (seen : List ByteArray) (i : Nat) (st : St), ns.length = ys.length → seen.Nodup → ¬ (seen ++ ns).Nodup → (membersW free one seen i ns ys st).e ≠ 0
 | [], ys, seen, i, st, hl, hs, hn => by rw [List.append_nil] at hn; exact absurd hs hn
 | nm :: ns, [], seen, i, st, hl, hs, hn => by simp at hl
 | nm :: ns, y :: ys, seen, i, st, hl, hs, hn => by
  unfold membersW
  by_cases h1 : (if i = 0 then st else putF free st [44]).e ≠ 0
  ·simp only [if_pos h1]; exact h1
  ·simp only [if_neg h1]
   by_cases h2 : validD nm.data.toList = false
   ·rw [if_pos h2]; exact failF_e _ _ (by decide)
   ·rw [if_neg h2]
    by_cases h3 : nm.data.toList ∈ seen.map (fun b => b.data.toList)
    ·rw [if_pos h3]; exact failF_e _ _ (by decide)
    ·rw [if_neg h3]
     have hnm : nm ∉ seen := fun hh => h3 (List.mem_map.2 ⟨nm, hh, rfl⟩)
     refine membersW_twice free ho ns ys (seen ++ [nm]) (i + 1) _ (by simpa using hl) ?_ ?_
     ·rw [List.nodup_append]
      exact ⟨hs, by simp, fun a ha b hb => by rw [List.mem_singleton.1 hb]; rintro rfl; exact hnm ha⟩
     ·rw [List.append_assoc]; exact hn
end Go.Proofs.YtpdelcbkcebkpaaGreatDoor.X
namespace Go.Proofs
open Go.Shelf Go.RowKit
def Tryz.lays174_ren : Go.Shelf.Ren := ⟨fun | 129 => 180 | 171 => 186 | 173 => 65 | 174 => 64 | 205 => 185 | 243 => 207 | 245 => 113 | 246 => 114 | 247 => 112 | 279 => 154 | 280 => 155 | 281 => 156 | 282 => 157 | 283 => 150 | 284 => 151 | 285 => 152 | 286 => 153 | 287 => 115 | 316 => 184 | 317 => 179 | 318 => 181 | 319 => 182 | 320 => 183 | 321 => 158 | 322 => 159 | 337 => 205 | 338 => 206 | n => n, fun | 0 => 0 | 2 => 2 | 3 => 3 | 4 => 4 | 5 => 5 | 9 => 9 | 20 => 20 | 21 => 21 | 37 => 73 | 46 => 140 | 51 => 182 | 53 => 39 | 75 => 116 | 80 => 155 | 85 => 117 | 127 => 286 | 143 => 287 | 145 => 289 | 167 => 221 | 168 => 222 | 171 => 216 | 173 => 219 | 175 => 120 | 210 => 263 | 212 => 258 | 213 => 259 | 232 => 83 | 233 => 143 | n => n, fun | 15 => 7 | 16 => 8 | 17 => 6 | 18 => 9 | 19 => 10 | n => n⟩
theorem Tryz.lays174 : Go.Proofs.LaysC.n174 Tryz.prog Tryz.lays174_ren := {
 mixed := by kernel_rfl
 f129 := Tryz.func180.trans (congrArg some (by kernel_rfl))
 f171 := Tryz.func186.trans (congrArg some (by kernel_rfl))
 f174 := Tryz.func64.trans (congrArg some (by kernel_rfl))
 f205 := Tryz.func185.trans (congrArg some (by kernel_rfl))
 f243 := Tryz.func207.trans (congrArg some (by kernel_rfl))
 f245 := Tryz.func113.trans (congrArg some (by kernel_rfl))
 f246 := Tryz.func114.trans (congrArg some (by kernel_rfl))
 f247 := Tryz.func112.trans (congrArg some (by kernel_rfl))
 f279 := Tryz.func154.trans (congrArg some (by kernel_rfl))
 f280 := Tryz.func155.trans (congrArg some (by kernel_rfl))
 f281 := Tryz.func156.trans (congrArg some (by kernel_rfl))
 f282 := Tryz.func157.trans (congrArg some (by kernel_rfl))
 f283 := Tryz.func150.trans (congrArg some (by kernel_rfl))
 f284 := Tryz.func151.trans (congrArg some (by kernel_rfl))
 f285 := Tryz.func152.trans (congrArg some (by kernel_rfl))
 f286 := Tryz.func153.trans (congrArg some (by kernel_rfl))
 f287 := Tryz.func115.trans (congrArg some (by kernel_rfl))
 f316 := Tryz.func184.trans (congrArg some (by kernel_rfl))
 f317 := Tryz.func179.trans (congrArg some (by kernel_rfl))
 f318 := Tryz.func181.trans (congrArg some (by kernel_rfl))
 f319 := Tryz.func182.trans (congrArg some (by kernel_rfl))
 f320 := Tryz.func183.trans (congrArg some (by kernel_rfl))
 f321 := Tryz.func158.trans (congrArg some (by kernel_rfl))
 f322 := Tryz.func159.trans (congrArg some (by kernel_rfl))
 f337 := Tryz.func205.trans (congrArg some (by kernel_rfl))
 f338 := Tryz.func206.trans (congrArg some (by kernel_rfl))
 t0 := Tryz.underlying0
 a0 := Tryz.isAgg0
 z0 := Tryz.sizeOf0
 v0 := Tryz.zeroValue0
 t2 := Tryz.underlying2
 a2 := Tryz.isAgg2
 z2 := Tryz.sizeOf2
 v2 := Tryz.zeroValue2
 t3 := Tryz.underlying3
 a3 := Tryz.isAgg3
 z3 := Tryz.sizeOf3
 v3 := Tryz.zeroValue3
 t4 := Tryz.underlying4
 a4 := Tryz.isAgg4
 z4 := Tryz.sizeOf4
 v4 := Tryz.zeroValue4
 t5 := Tryz.underlying5
 a5 := Tryz.isAgg5
 z5 := Tryz.sizeOf5
 v5 := Tryz.zeroValue5
 t9 := Tryz.underlying9
 a9 := Tryz.isAgg9
 z9 := Tryz.sizeOf9
 v9 := Tryz.zeroValue9
 t20 := Tryz.underlying20
 a20 := Tryz.isAgg20
 z20 := Tryz.sizeOf20
 v20 := Tryz.zeroValue20
 t21 := Tryz.underlying21
 a21 := Tryz.isAgg21
 z21 := Tryz.sizeOf21
 v21 := Tryz.zeroValue21
 t37 := Tryz.underlying73
 a37 := Tryz.isAgg73
 z37 := Tryz.sizeOf73
 v37 := Tryz.zeroValue73
 t46 := Tryz.underlying140
 a46 := Tryz.isAgg140
 z46 := Tryz.sizeOf140
 v46 := Tryz.zeroValue140
 t51 := Tryz.underlying182
 a51 := Tryz.isAgg182
 z51 := Tryz.sizeOf182
 v51 := Tryz.zeroValue182
 t53 := Tryz.underlying39
 a53 := Tryz.isAgg39
 z53 := Tryz.sizeOf39
 v53 := Tryz.zeroValue39
 t75 := Tryz.underlying116
 a75 := Tryz.isAgg116
 z75 := Tryz.sizeOf116
 v75 := Tryz.zeroValue116
 t85 := Tryz.underlying117
 a85 := Tryz.isAgg117
 z85 := Tryz.sizeOf117
 v85 := Tryz.zeroValue117
 t127 := Tryz.underlying286
 a127 := Tryz.isAgg286
 z127 := Tryz.sizeOf286
 v127 := Tryz.zeroValue286
 t143 := Tryz.underlying287
 a143 := Tryz.isAgg287
 z143 := Tryz.sizeOf287
 v143 := Tryz.zeroValue287
 t145 := Tryz.underlying289
 a145 := Tryz.isAgg289
 z145 := Tryz.sizeOf289
 v145 := Tryz.zeroValue289
 t167 := Tryz.underlying221
 a167 := Tryz.isAgg221
 z167 := Tryz.sizeOf221
 v167 := Tryz.zeroValue221
 t168 := Tryz.underlying222
 a168 := Tryz.isAgg222
 z168 := Tryz.sizeOf222
 v168 := Tryz.zeroValue222
 t171 := Tryz.underlying216
 a171 := Tryz.isAgg216
 z171 := Tryz.sizeOf216
 v171 := Tryz.zeroValue216
 t173 := Tryz.underlying219
 a173 := Tryz.isAgg219
 z173 := Tryz.sizeOf219
 v173 := Tryz.zeroValue219
 t175 := Tryz.underlying120
 a175 := Tryz.isAgg120
 z175 := Tryz.sizeOf120
 v175 := Tryz.zeroValue120
 t210 := Tryz.underlying263
 a210 := Tryz.isAgg263
 z210 := Tryz.sizeOf263
 v210 := Tryz.zeroValue263
 t212 := Tryz.underlying258
 a212 := Tryz.isAgg258
 z212 := Tryz.sizeOf258
 v212 := Tryz.zeroValue258
 t213 := Tryz.underlying259
 a213 := Tryz.isAgg259
 z213 := Tryz.sizeOf259
 t232 := Tryz.underlying83
 a232 := Tryz.isAgg83
 z232 := Tryz.sizeOf83
 v232 := Tryz.zeroValue83
 t233 := Tryz.underlying143
 a233 := Tryz.isAgg143
 z233 := Tryz.sizeOf143
 v233 := Tryz.zeroValue143
 g15 := by kernel_rfl
 g16 := by kernel_rfl
 g17 := by kernel_rfl
 g18 := by kernel_rfl
 g19 := by kernel_rfl
 t80 := Tryz.underlying155
 a80 := Tryz.isAgg155
 z80 := Tryz.sizeOf155
 v80 := Tryz.zeroValue155
 i0 := by kernel_rfl
 i2 := by kernel_rfl
 i3 := by kernel_rfl
 i4 := by kernel_rfl
 i5 := by kernel_rfl
 i9 := by kernel_rfl
 i20 := by kernel_rfl
 i21 := by kernel_rfl
 i37 := by kernel_rfl
 i46 := by kernel_rfl
 i51 := by kernel_rfl
 i53 := by kernel_rfl
 i75 := by kernel_rfl
 i80 := by kernel_rfl
 i85 := by kernel_rfl
 i127 := by kernel_rfl
 i143 := by kernel_rfl
 i145 := by kernel_rfl
 i167 := by kernel_rfl
 i168 := by kernel_rfl
 i171 := by kernel_rfl
 i173 := by kernel_rfl
 i175 := by kernel_rfl
 i210 := by kernel_rfl
 i212 := by kernel_rfl
 i232 := by kernel_rfl
 i233 := by kernel_rfl
 m15 := by kernel_rfl
 m16 := by kernel_rfl
 m17 := by kernel_rfl
 m18 := by kernel_rfl
 m19 := by kernel_rfl
 c0 := by kernel_rfl
 c2 := by kernel_rfl
 c3 := by kernel_rfl
 c4 := by kernel_rfl
 c5 := by kernel_rfl
 c9 := by kernel_rfl
 c20 := by kernel_rfl
 c21 := by kernel_rfl
 c37 := by kernel_rfl
 c46 := by kernel_rfl
 c51 := by kernel_rfl
 c53 := by kernel_rfl
 c75 := by kernel_rfl
 c80 := by kernel_rfl
 c85 := by kernel_rfl
 c127 := by kernel_rfl
 c143 := by kernel_rfl
 c145 := by kernel_rfl
 c167 := by kernel_rfl
 c168 := by kernel_rfl
 c171 := by kernel_rfl
 c173 := by kernel_rfl
 c175 := by kernel_rfl
 c210 := by kernel_rfl
 c212 := by kernel_rfl
 c213 := by kernel_rfl
 c232 := by kernel_rfl
 c233 := by kernel_rfl }
theorem Tryz.lays173 : Go.Proofs.LaysM.n173 Tryz.prog Tryz.lays174_ren := { Tryz.lays174 with f173 := Tryz.func65.trans (congrArg some (by kernel_rfl)) }
end Go.Proofs
namespace Go.Proofs.YtpdelcbkcebkpaaGreatDoor.X
open Go.RowKit Go.Lib Go.Sort Go.Proofs.YtpdelcbkcebkpaaGreatDoorW.PrintWords
theorem below_grow (w : World) (os : Array Obj) : Below w.heap.size w (grow w os) :=
 ⟨rfl, rfl, rfl, by simp [grow], fun k hk => heap_grow_old w os hk⟩
theorem below_grow_n (w : World) (k : Nat) (os : Array Obj) : Below w.heap.size w (grow (w.drewN k) os) :=
 (pw_below_drewN (Below.refl w.heap.size w) k).trans ((below_grow (w.drewN k) os).mono (pw_below_drewN (Below.refl w.heap.size w) k).size)
def IfaceAt (g : Nat) (W : World) : Prop := ∃ ev, W.cell? ⟨g, 0, none⟩ = some ev ∧ (ev = .nilIface ∨ ∃ te pe, ev = .iface te pe)
structure NumT (W : World) : Prop where
 syn : IfaceAt 7 W
 ran : IfaceAt 8 W
 pow : Lib.TabIs Tryz.prog W "internal/strconv.uint64pow10" .u64 Lib.pow10Tab
theorem IfaceAt.below {g : Nat} {W W' : World} (h : IfaceAt g W) (hb : Below W.heap.size W W') : IfaceAt g W' := by
 obtain ⟨ev, h1, h2⟩ := h
 exact ⟨ev, (hb.cell (World.block_lt_of_cell? W _ h1)).trans h1, h2⟩
theorem pow_named : Tryz.prog.globalNamed "internal/strconv.uint64pow10" = some 6 := by kernel_rfl
theorem pow_below {W W' : World} (h : Lib.TabIs Tryz.prog W "internal/strconv.uint64pow10" .u64 Lib.pow10Tab) (hb : Below W.heap.size W W') : Lib.TabIs Tryz.prog W' "internal/strconv.uint64pow10" .u64 Lib.pow10Tab := by
 have hlt : 6 < W.heap.size := by
  rcases Nat.lt_or_ge 6 W.heap.size with h1 | h1
  ·exact h1
  ·unfold Lib.TabIs World.var? at h
   simp [pow_named, Array.getElem?_eq_none h1] at h
 exact var?_below hb pow_named hlt h
theorem NumT.below {W W' : World} (h : NumT W) (hb : Below W.heap.size W W') : NumT W' := ⟨h.syn.below hb, h.ran.below hb, pow_below h.pow hb⟩
theorem iparseUint (s : ByteArray) (hs : s.size ≤ 9223372036854775806) (w : World) :
  Calls Tryz.prog 115 #[.string s, .int .i64 10, .int .i64 64] w fun e w' => e = .returned (Lib.uintTupleM 221 18446744073709551615 (Lib.parseUintB 64 s.data.toList)) ∧ (w' = w ∨ w' = Lib.bytesWorld w 5 s) :=
 Any.internal_strconv_ParseUint_10_at64 (P := Tryz.prog) (ρ := Tryz.lays174_ren) { Tryz.lays174 with } s hs w
theorem toErr_syntax (fn s : ByteArray) (base bits : Int) (ev : Value) (w : World) (hlim : s.size ≤ 281474976710656) (hv : w.cell? ⟨7, 0, none⟩ = some ev) (hev : ev = .nilIface ∨ ∃ te pe, ev = .iface te pe) :
  Calls Tryz.prog 113 #[.string fn, .string s, .int .i64 base, .int .i64 bits, .iface 221 (.int .i64 2)] w fun e w' => (∃ N : Nat, e = .returned (.iface 222 (.pointer (some ⟨N, 0, none⟩)))) ∧ Below w.heap.size w w' :=
 (Any.strconv_toError_syntax (P := Tryz.prog) (ρ := Tryz.lays174_ren) { Tryz.lays174 with } fn s base bits ev w hlim hv hev).mono fun _ _ ⟨N, h1, _, _, h4⟩ => ⟨⟨N, h1⟩, h4⟩
theorem toErr_range (fn s : ByteArray) (base bits : Int) (ev : Value) (w : World) (hlim : s.size ≤ 281474976710656) (hv : w.cell? ⟨8, 0, none⟩ = some ev) (hev : ev = .nilIface ∨ ∃ te pe, ev = .iface te pe) :
  Calls Tryz.prog 113 #[.string fn, .string s, .int .i64 base, .int .i64 bits, .iface 221 (.int .i64 1)] w fun e w' => (∃ N : Nat, e = .returned (.iface 222 (.pointer (some ⟨N, 0, none⟩)))) ∧ Below w.heap.size w w' :=
 (Any.strconv_toError_range (P := Tryz.prog) (ρ := Tryz.lays174_ren) { Tryz.lays174 with } fn s base bits ev w hlim hv hev).mono fun _ _ ⟨N, h1, _, _, h4⟩ => ⟨⟨N, h1⟩, h4⟩
theorem bytes_below {w w' : World} {s : ByteArray} {t : TypeId} (h : w' = w ∨ w' = Lib.bytesWorld w t s) : Below w.heap.size w w' := by
 rcases h with rfl | rfl
 ·exact Below.refl _ _
 ·exact Lib.bytesWorld_below _ _ _
def NumOut {α : Type} (enc : α → Value) (o : NumEnd α) (W : World) (e : Ending) (W' : World) : Prop := ∃ v ev, e = .returned (.tuple #[v, ev]) ∧ (match o with | .ok n => v = enc n ∧ ev = .nilIface | _ => ∃ t p, ev = .iface t p) ∧ Below W.heap.size W W'
set_option maxRecDepth 100000 in
theorem parseUint_calls (s : ByteArray) (W : World) (hN : NumT W) (hs : s.size ≤ 281474976710656) :
  Calls Tryz.prog 66 #[.string s, .int .i64 10, .int .i64 64] W (NumOut (fun n : Nat => .int .u64 (n : Int)) (parseUintB 64 s.data.toList) W) := by
 have HI := am (fun w => iparseUint s (by omega) w)
 generalize parseUintB 64 s.data.toList = o at HI ⊢
 have HN := am hN
 clear hN
 cases o with
 | ok n =>
  have HI : Aside0 (∀ w, Calls Tryz.prog 115 #[.string s, .int .i64 10, .int .i64 64] w fun e w' => e = .returned (.tuple #[.int .u64 (n : Int), .nilIface]) ∧ (w' = w ∨ w' = Lib.bytesWorld w 5 s)) := HI
  go_enter Tryz.func66, Tryz.ntmps66
  go_wp2_with (first | (go_at_call 115; (with_reducible refine (HI.out _).mono ?_); rintro e W1 ⟨rfl, hW⟩))
  go_wp2
  go_ret2
  exact ⟨_, _, rfl, ⟨rfl, rfl⟩, bytes_below hW⟩
 | range =>
  have HI : Aside0 (∀ w, Calls Tryz.prog 115 #[.string s, .int .i64 10, .int .i64 64] w fun e w' => e = .returned (.tuple #[.int .u64 18446744073709551615, .iface 221 (.int .i64 1)]) ∧ (w' = w ∨ w' = Lib.bytesWorld w 5 s)) := HI
  go_enter Tryz.func66, Tryz.ntmps66
  go_wp2_with (first | (go_at_call 115; (with_reducible refine (HI.out _).mono ?_); rintro e W1 ⟨rfl, hW⟩))
  have hb := bytes_below hW
  obtain ⟨ev, h1, h2⟩ := (HN.out.below hb).ran
  have HT := am (toErr_range ⟨#[80, 97, 114, 115, 101, 85, 105, 110, 116]⟩ s 10 64 ev W1 hs h1 h2)
  have HB := am hb
  clear hW hb h1 h2
  go_wp2_with (first | (go_at_call 113; (with_reducible refine HT.out.mono ?_); rintro e W2 ⟨⟨N, rfl⟩, hb2⟩))
  go_wp2
  go_ret2
  exact ⟨_, _, rfl, ⟨_, _, rfl⟩, HB.out.trans (hb2.mono HB.out.size)⟩
 | _ =>
  have HI : Aside0 (∀ w, Calls Tryz.prog 115 #[.string s, .int .i64 10, .int .i64 64] w fun e w' => e = .returned (.tuple #[.int .u64 0, .iface 221 (.int .i64 2)]) ∧ (w' = w ∨ w' = Lib.bytesWorld w 5 s)) := HI
  go_enter Tryz.func66, Tryz.ntmps66
  go_wp2_with (first | (go_at_call 115; (with_reducible refine (HI.out _).mono ?_); rintro e W1 ⟨rfl, hW⟩))
  have hb := bytes_below hW
  obtain ⟨ev, h1, h2⟩ := (HN.out.below hb).syn
  have HT := am (toErr_syntax ⟨#[80, 97, 114, 115, 101, 85, 105, 110, 116]⟩ s 10 64 ev W1 hs h1 h2)
  have HB := am hb
  clear hW hb h1 h2
  go_wp2_with (first | (go_at_call 113; (with_reducible refine HT.out.mono ?_); rintro e W2 ⟨⟨N, rfl⟩, hb2⟩))
  go_wp2
  go_ret2
  exact ⟨_, _, rfl, ⟨_, _, rfl⟩, HB.out.trans (hb2.mono HB.out.size)⟩
end Go.Proofs.YtpdelcbkcebkpaaGreatDoor.X
namespace Go.Proofs.YtpdelcbkcebkpaaGreatDoor.X
open Go.RowKit Go.Lib Go.Proofs.YtpdelcbkcebkpaaGreatDoorW.PrintWords
section
variable {α : Type}
end
end Go.Proofs.YtpdelcbkcebkpaaGreatDoor.X
namespace Go.Proofs.YtpdelcbkcebkpaaGreatDoor.X
open Go.RowKit Go.Lib Go.Proofs.YtpdelcbkcebkpaaGreatDoorW.PrintWords
structure Ag (s t : List UInt8) (q : Nat) : Prop where
 len : q ≤ s.length
 at_ : ∀ i, i < q → t[i]? = s[i]?
 end_ : t[q]? = none ∨ t[q]? = s[q]? ∨ ∃ z : UInt8, z ∈ ([0, 44, 93, 125] : List UInt8) ∧ t[q]? = some z
theorem Ag.take (s : List UInt8) (n q : Nat) (hn : n ≤ s.length) (hq : q ≤ n) : Ag s (s.take n) q := by
 refine ⟨by omega, fun i hi => by rw [List.getElem?_take_of_lt (by omega)], ?_⟩
 by_cases h : q < n
 ·exact .inr (.inl (by rw [List.getElem?_take_of_lt h]))
 ·exact .inl (by rw [List.getElem?_eq_none_iff, List.length_take]; omega)
theorem Ag.drop {s t : List UInt8} {p m : Nat} (h : Ag s t (p + m)) : Ag (s.drop p) (t.drop p) m := by
 refine ⟨by rw [List.length_drop]; have := h.len; omega, fun i hi => by rw [List.getElem?_drop, List.getElem?_drop]; exact h.at_ _ (by omega), ?_⟩
 rw [List.getElem?_drop, List.getElem?_drop]
 exact h.end_
theorem Ag.not {s t : List UInt8} {q : Nat} (h : Ag s t q) (P : UInt8 → Prop) (h0 : ∀ z : UInt8, z ∈ ([0, 44, 93, 125] : List UInt8) → ¬ P z) (hs : ¬ ∃ c, s[q]? = some c ∧ P c) : ¬ ∃ c, t[q]? = some c ∧ P c := by
 rintro ⟨c, hc, hp⟩
 rcases h.end_ with h1 | h1 | ⟨z, hz, h1⟩
 ·rw [h1] at hc; cases hc
 ·exact hs ⟨c, h1 ▸ hc, hp⟩
 ·rw [h1] at hc; injection hc with hc; subst hc; exact h0 _ hz hp
theorem Ag.ne {s t : List UInt8} {q : Nat} (h : Ag s t q) (c : UInt8) (h0 : c ∉ ([0, 44, 93, 125] : List UInt8)) (hs : ¬ s[q]? = some c) : ¬ t[q]? = some c := fun hh =>
 h.not (fun d => d = c) (fun z hz e => h0 (e ▸ hz)) (by rintro ⟨d, hd, rfl⟩; exact hs hd) ⟨c, hh, rfl⟩
end Go.Proofs.YtpdelcbkcebkpaaGreatDoor.X
namespace Go.Proofs.YtpdelcbkcebkpaaGreatDoor.X
open Go.RowKit Go.Lib Go.Sort Go.Proofs.YtpdelcbkcebkpaaGreatDoorW.PrintWords
theorem parseInt_calls (s : ByteArray) (W : World) (hN : NumT W) (hs : s.size ≤ 281474976710656) :
  Calls Tryz.prog 64 #[.string s, .int .i64 10, .int .i64 64] W (NumOut (fun n : Int => .int .i64 n) (parseIntB 64 s.data.toList) W) := by
 cases ho : parseIntB 64 s.data.toList with
 | ok n => exact (Any.strconv_ParseInt_10_at64_ok (P := Tryz.prog) (ρ := Tryz.lays174_ren) Tryz.lays174 s (by omega) n ho W).mono fun e w' ⟨he, hw⟩ => ⟨_, _, he, ⟨rfl, rfl⟩, by
   rcases hw with rfl | ⟨t, rfl⟩
   ·exact Below.refl _ _
   ·exact Lib.bytesWorld_below _ _ _⟩
 | range =>
  obtain ⟨ev, h1, h2⟩ := hN.ran
  exact (Any.strconv_ParseInt_10_at64_range (P := Tryz.prog) (ρ := Tryz.lays174_ren) Tryz.lays174 s hs ho ev W h1 h2).mono fun e w' ⟨N, he, _, _, hb⟩ => ⟨_, _, he, ⟨_, _, rfl⟩, hb⟩
 | _ =>
  obtain ⟨ev, h1, h2⟩ := hN.syn
  exact (Any.strconv_ParseInt_10_at64_syntax (P := Tryz.prog) (ρ := Tryz.lays174_ren) Tryz.lays174 s hs ho ev W h1 h2).mono fun e w' ⟨N, he, _, _, hb⟩ => ⟨_, _, he, ⟨_, _, rfl⟩, hb⟩
theorem formatInt_calls (n : Int) (h0 : -9223372036854775808 ≤ n) (h1 : n ≤ 9223372036854775807) (W : World) (hN : NumT W) :
  Calls Tryz.prog 65 #[.int .i64 n, .int .i64 10] W fun e W' => e = .returned (.string (bs (itoa n))) ∧ Below W.heap.size W W' :=
 (Any.strconv_FormatInt_10 (P := Tryz.prog) (ρ := Tryz.lays174_ren) Tryz.lays173 n h0 h1 W hN.pow).mono fun e w' ⟨he, k, os, hw⟩ => ⟨he, by rw [hw]; exact below_grow_n _ _ _⟩
theorem small_calls (i : Nat) (h : i < 100) (w : World) :
  Calls Tryz.prog 150 #[.int .i64 (i : Int)] w fun e w' => e = .returned (.string (bs (decDigits i))) ∧ w' = w :=
 Any.internal_strconv_small (P := Tryz.prog) (ρ := Tryz.lays174_ren) { Tryz.lays174 with } i h w
theorem numDigits_calls (u : Nat) (h1 : 1 ≤ u) (h2 : u < 18446744073709551616) (w : World) (ht : Lib.TabIs Tryz.prog w "internal/strconv.uint64pow10" .u64 Lib.pow10Tab) :
  Calls Tryz.prog 151 #[.int .u64 (u : Int)] w fun e w' => e = .returned (.int .i64 (Lib.nDigits u : Int)) ∧ w' = w :=
 Any.internal_strconv_numDigits (P := Tryz.prog) (ρ := Tryz.lays174_ren) { Tryz.lays174 with } u h1 h2 w ht
theorem fmt10_calls (blk off cap : Nat) (u : Nat) (d : Array UInt8) (w : World) (hH : Holds (fun (b : UInt8) => Value.int .u8 (b.toNat : Int)) w blk off d) (hu : u < 10 ^ d.size) (hu64 : u < 18446744073709551616) (hsz : d.size < 4611686018427387904) :
  Calls Tryz.prog 152 #[.slice (some ⟨blk, off, none⟩) d.size cap, .int .u64 (u : Int)] w fun e w' =>
   e = .returned (.tuple #[]) ∧ ∃ (n v' : Nat) (dk : Array UInt8), w' = (putRow (fun (b : UInt8) => Value.int .u8 (b.toNat : Int)) w blk off dk).drewN n ∧ FmtInv d.size u 0 v' dk :=
 Any.internal_strconv_formatBase10 (P := Tryz.prog) (ρ := Tryz.lays174_ren) { Tryz.lays174 with } blk off cap u d w hH hu hu64 hsz
theorem holds_zero0 (w : World) (T : TypeId) (nd : Nat) (hs : nd ≤ 24) : Holds (fun (b : UInt8) => Value.int .u8 (b.toNat : Int)) (w.alloc (.cells Lib.zeros24 T)) w.heap.size 0 (Array.replicate nd (0 : UInt8)) := by
 intro j hj
 have hj' : j < nd := by simpa using hj
 refine ⟨?_, World.frozen?_alloc_new _ _ _ _⟩
 rw [World.cell?_alloc_new, Lib.zeros24_at _ (by omega), getElem!_pos _ j hj]
 simp
theorem fin_row (w : World) (o : Obj) (dk : Array UInt8) (k : Nat) : ∃ os, (putRow (fun (b : UInt8) => Value.int .u8 (b.toNat : Int)) (w.alloc o) w.heap.size 0 dk).drewN k = grow (w.drewN k) os := by
 rw [alloc_eq_grow]
 obtain ⟨os', _, e⟩ := putRow_grow_new (fun (b : UInt8) => Value.int .u8 (b.toNat : Int)) w #[o] w.heap.size 0 dk (Nat.le_refl _)
 exact ⟨os', by rw [e]; rfl⟩
set_option maxHeartbeats 6400000 in
set_option maxRecDepth 100000 in
theorem iformatUint_calls (u : Nat) (hu64 : u < 18446744073709551616) (w : World) (hN : NumT w) :
  Calls Tryz.prog 111 #[.int .u64 (u : Int), .int .i64 10] w fun e w' => e = .returned (.string (bs (decDigits u))) ∧ Below w.heap.size w w' := by
 by_cases hs : u < 100
 ·have hlt : decide ((u : Int) < 100) = true := decide_eq_true (by omega)
  go_enter Tryz.func111, Tryz.ntmps111
  go_wp2_with (go_at_call 150; (with_reducible refine (small_calls u hs _).mono ?_); rintro e w' ⟨rfl, rfl⟩)
  go_ret
  exact ⟨rfl, Below.refl _ _⟩
 ·have hlt : decide ((u : Int) < 100) = false := decide_eq_false (by omega)
  have hu1 : 1 ≤ u := by omega
  have hnd20 : Lib.nDigits u ≤ 20 := by have := Lib.numDigits_eq u hu1 hu64; split at this <;> omega
  have hal : Tryz.prog.arrayLen 216 = 24 := by simp [Program.arrayLen, Tryz.underlying216]
  have hsl1 : ∀ W, (Instr.sliceAt 216 (.pointer (some ⟨w.heap.size, 0, none⟩)) none (some (.int .i64 (Lib.nDigits u : Int))) none).run Tryz.prog W = .ok (.slice (some ⟨w.heap.size, 0, none⟩) (Lib.nDigits u) 24) W := fun W => by
   rw [run_sliceAt_array_h W 216 ⟨w.heap.size, 0, none⟩ (by simp [Program.arrayLen, Program.elem, Tryz.underlying216]) .i64 (Lib.nDigits u : Int) (by omega) (by rw [hal]; omega)]
   go_simp
  have hH0 := holds_zero0 w 216 (Lib.nDigits u) (by omega)
  have hfmt := fmt10_calls w.heap.size 0 24 u (Array.replicate (Lib.nDigits u) 0) (w.alloc (.cells Lib.zeros24 216)) hH0 (by rw [Array.size_replicate]; exact Lib.lt_pow_nDigits u) hu64 (by rw [Array.size_replicate]; omega)
  rw [Array.size_replicate] at hfmt
  have HH0 := am hH0
  have HF := am hfmt
  have HT := am (Lib.tabIs_alloc hN.pow (.cells Lib.zeros24 216))
  clear hH0 hal hfmt hN
  go_enter Tryz.func111, Tryz.ntmps111
  go_wp2_with (first
   | (go_at_call 151; (with_reducible refine (numDigits_calls u hu1 hu64 _ ?tb).mono ?_); (case tb => exact HT.out); rintro e w' ⟨rfl, rfl⟩))
  go_at_call 152
  refine HF.out.mono ?_
  rintro e w' ⟨rfl, k, v', dk, rfl, hF⟩
  have hcv : (convert 73 9 (.slice (some ⟨w.heap.size, 0, none⟩) (Lib.nDigits u) 24)).run Tryz.prog ((putRow (fun (b : UInt8) => Value.int .u8 (b.toNat : Int)) (w.alloc (.cells Lib.zeros24 216)) w.heap.size 0 dk).drewN k) = .ok (.string (bs (Lib.decDigits u))) ((putRow (fun (b : UInt8) => Value.int .u8 (b.toNat : Int)) (w.alloc (.cells Lib.zeros24 216)) w.heap.size 0 dk).drewN k) := by
   have h := run_convert_bytes_back (P := Tryz.prog) ((putRow (fun (b : UInt8) => Value.int .u8 (b.toNat : Int)) (w.alloc (.cells Lib.zeros24 216)) w.heap.size 0 dk).drewN k) 73 9 5 ⟨w.heap.size, 0, none⟩ 24 (Lib.decDigits u) Tryz.underlying73 Tryz.underlying5 Tryz.underlying9 (fun j hj => by
    rw [Lib.row_is_numeral hF j hj, Lib.add_plain, World.cell?_drewN]
    exact cell?_putRow (fun (b : UInt8) => Value.int .u8 (b.toNat : Int)) _ w.heap.size 0 _ dk HH0.out (by rw [hF.size, Array.size_replicate]) j (by rw [hF.size]; rw [Lib.decDigits_length] at hj; exact hj))
   rw [Lib.decDigits_length] at h
   exact h
  go_wp2
  go_ret
  obtain ⟨os, eo⟩ := fin_row w (.cells Lib.zeros24 216) dk k
  exact ⟨rfl, by rw [eo]; exact below_grow_n _ _ _⟩
set_option maxRecDepth 100000 in
theorem formatUint_calls (u : Nat) (hu64 : u < 18446744073709551616) (w : World) (hN : NumT w) :
  Calls Tryz.prog 62 #[.int .u64 (u : Int), .int .i64 10] w fun e w' => e = .returned (.string (bs (decDigits u))) ∧ Below w.heap.size w w' := by
 have HI := am (iformatUint_calls u hu64 w hN)
 clear hN
 go_enter Tryz.func62, Tryz.ntmps62
 go_wp2_with (go_at_call 111; (with_reducible refine HI.out.mono ?_); rintro e w' ⟨rfl, hb⟩)
 go_ret
 exact ⟨rfl, hb⟩
end Go.Proofs.YtpdelcbkcebkpaaGreatDoor.X
namespace Go.Proofs.YtpdelcbkcebkpaaGreatDoor.X
open Go.RowKit Go.Lib Go.Proofs.YtpdelcbkcebkpaaGreatDoorW.PrintWords Go.Proofs.YtpdelcbkcebkpaaGreatDoorW.PrintLast Go.Proofs.YtpdelcbkcebkpaaGreatDoorW.PrintMore
theorem drop_atU (s : ByteArray) (i : Nat) (h : i < s.size) : ∃ u : UInt8, s.data.toList.drop i = u :: s.data.toList.drop (i + 1) ∧ ∀ h : i < s.size, s[i]'h = u := by
 have hl : i < s.data.toList.length := by simpa using h
 refine ⟨s.data.toList[i], List.drop_eq_getElem_cons hl, fun h => ?_⟩
 rfl
def uintL : Nat → List UInt8 → Option Nat
 | n, [] => some n
 | n, c :: r => if c.toNat < 48 ∨ 57 < c.toNat then none else if 1844674407370955161 < n ∨ (n = 1844674407370955161 ∧ 53 < c.toNat) then none else uintL (10 * n + (c.toNat - 48)) r
def uintP (k : Int) (s : List UInt8) : Option Nat := if k ≠ 3 ∨ s = [] ∨ (s.head? = some 48 ∧ 1 < s.length) then none else uintL 0 s
def UEnd (o : Option Nat) (W : World) (e : Ending) (W' : World) : Prop := e = .returned (.tuple #[.int .u64 ((o.getD 0 : Nat) : Int), .bool o.isSome]) ∧ Below W.heap.size W W'
theorem ruint_results (tmps : Array Value) (w : World) (a b : Value) (t2 : tmps.getD 2 undef = a) (t3 : tmps.getD 3 undef = b) : (results Tryz.f34 tmps).run Tryz.prog w = .ok (.tuple #[a, b]) w := by
 have t2' : tmps[2]?.getD undef = a := by simpa using t2
 have t3' : tmps[3]?.getD undef = b := by simpa using t3
 unfold results
 rw [Tryz.results34]
 simp [t2', t3', go_sem]
theorem uint_facts {n k : Nat} {c : UInt8} (h1 : ¬ c.toNat < 48) (h2 : ¬ 57 < c.toNat) (hn : ¬ (1844674407370955161 < n ∨ (n = 1844674407370955161 ∧ 53 < c.toNat))) (hk : k < 4611686018427387904) :
  IntKind.u64.wrap (IntKind.u64.wrap (10 * (n : Int)) + ((c.toNat : Int) - 48) % 256) = ((10 * n + (c.toNat - 48) : Nat) : Int) ∧ (k : Int) + 1 = ((k + 1 : Nat) : Int) := by
 have := c.toNat_lt
 refine ⟨?_, by omega⟩
 simp only [IntKind.wrap, IntKind.signed, IntKind.bits, Bool.false_and, Bool.false_eq_true, if_false]
 omega
set_option maxRecDepth 1000000 in
set_option maxHeartbeats 8000000 in
theorem ruint_calls (f0 : Int) (s : ByteArray) (v2 v3 : Value) (W : World) (hs : s.size ≤ 4611686018427387904) :
  Calls Tryz.prog 34 #[.agg #[.int .i64 f0, .string s, v2, v3]] W (UEnd (uintP f0 s.data.toList) W) := by
 by_cases hk : f0 = 3
 ·subst hk
  by_cases h0 : s.size = 0
  ·have e0 : s = ⟨#[]⟩ := by
    cases s with | mk d => exact congrArg ByteArray.mk (Array.eq_empty_of_size_eq_zero h0)
   subst e0
   have HP := am (show uintP 3 (⟨#[]⟩ : ByteArray).data.toList = none from rfl)
   rw [HP.out]
   go_enter Tryz.func34, Tryz.ntmps34
   go_wp2
   refine bodyPost_ret (ruint_results _ _ _ _ rfl rfl) rfl ?_
   exact ⟨rfl, below_alloc (Below.refl _ _) _⟩
  ·have hne : s.toList.isEmpty = false := by
    rw [ByteArray.toList_eq]
    cases hl : s.data.toList with
    | nil => exact absurd (by simpa using congrArg List.length hl) h0
    | cons _ _ => rfl
   obtain ⟨u, e1, hx⟩ := drop_atU s 0 (by omega)
   have p2 : ((0 : Int) < (s.size : Int)) = True := eq_true (by omega)
   have e2 : s.data.toList = u :: s.data.toList.drop 1 := by simpa using e1
   by_cases hz : u.toNat = 48 ∧ 1 < s.size
   ·have hu : u = 48 := UInt8.toNat_inj.1 hz.1
    have HP := am (show uintP 3 s.data.toList = none from by
     unfold uintP
     rw [if_pos (.inr (.inr ⟨by rw [e2, hu]; rfl, by simpa using hz.2⟩))])
    rw [HP.out]
    have d1 : decide ((1 : Int) < (s.size : Int)) = true := decide_eq_true (by omega)
    subst hu
    clear hz e1 e2
    go_enter Tryz.func34, Tryz.ntmps34
    go_wp2
    refine bodyPost_ret (ruint_results _ _ _ _ rfl rfl) rfl ?_
    exact ⟨rfl, below_alloc (Below.refl _ _) _⟩
   ·have HP := am (show uintP 3 s.data.toList = uintL 0 (s.data.toList.drop 0) from by
     unfold uintP
     rw [if_neg (by
      rintro (h | h | ⟨h, h2⟩)
      ·exact h rfl
      ·rw [h] at e2; exact absurd e2 (by simp)
      ·rw [e2] at h
       exact hz ⟨by rw [Option.some.inj h]; rfl, by simpa using h2⟩), List.drop_zero])
    generalize uintP 3 s.data.toList = o at HP
    have HL0 := am (show (0 : Nat) ≤ 18446744073709551615 ∧ uintL 0 (s.data.toList.drop 0) = o from ⟨by decide, HP.out.symm⟩)
    have hcase : (u = 48 ∧ decide ((1 : Int) < (s.size : Int)) = false) ∨ ((u.toNat : Int) == 48) = false := by
     by_cases h48 : u.toNat = 48
     ·exact .inl ⟨UInt8.toNat_inj.1 h48, decide_eq_false (by omega)⟩
     ·exact .inr (by rw [beq_eq_false_iff_ne]; omega)
    clear e1 e2 hz HP
    rcases hcase with ⟨rfl, d1⟩ | d1
    all_goals
     go_enter Tryz.func34, Tryz.ntmps34
     go_wp2
     go_loopg [5, 6] (s.size + 1) (fun g v5 v6 wr => ∃ n k : Nat, v5 = .int .u64 (n : Int) ∧ v6 = .int .i64 (k : Int) ∧ k ≤ s.size ∧ s.size + 1 ≤ k + g ∧ wr = W.alloc (.cells #[.int .i64 3, .string s, v2, v3] 25) ∧ Aside0 (n ≤ 18446744073709551615 ∧ uintL n (s.data.toList.drop k) = o))
     case atStart => exact ⟨0, 0, rfl, rfl, Nat.zero_le _, by omega, rfl, HL0⟩
     case round =>
      obtain ⟨n, k, rfl, rfl, hk1, hg, rfl, HK⟩ := hrel
      by_cases hlt : k < s.size
      ·cases gk with
       | zero => omega
       | succ g =>
        obtain ⟨x, ex, hy⟩ := drop_atU s k hlt
        have hxl := x.toNat_lt
        have HU := HK.out.2
        rw [ex, uintL] at HU
        have q1 : (0 ≤ (k : Int)) = True := eq_true (by omega)
        have q2 : ((k : Int) < (s.size : Int)) = True := eq_true (by omega)
        clear ex hx
        by_cases hd : x.toNat < 48 ∨ 57 < x.toNat
        ·rw [if_pos hd] at HU
         have HO := am HU.symm
         rw [HO.out]
         have hcs : decide ((x.toNat : Int) < 48) = true ∨ (decide ((x.toNat : Int) < 48) = false ∧ decide ((57 : Int) < (x.toNat : Int)) = true) := by
          by_cases h : x.toNat < 48
          ·exact .inl (decide_eq_true (by omega))
          ·exact .inr ⟨decide_eq_false (by omega), decide_eq_true (by omega)⟩
         clear hd HU
         rcases hcs with g1 | ⟨g1, g2⟩
         all_goals
          go_wp2
          refine bodyPost_ret (ruint_results _ _ _ _ rfl rfl) rfl ?_
          exact ⟨rfl, below_alloc (Below.refl _ _) _⟩
        ·rw [if_neg hd] at HU
         have g1 : decide ((x.toNat : Int) < 48) = false := decide_eq_false (by omega)
         have g2 : decide ((57 : Int) < (x.toNat : Int)) = false := decide_eq_false (by omega)
         by_cases hv : 1844674407370955161 < n ∨ (n = 1844674407370955161 ∧ 53 < x.toNat)
         ·rw [if_pos hv] at HU
          have HO := am HU.symm
          rw [HO.out]
          have hcs : decide ((1844674407370955161 : Int) < (n : Int)) = true ∨ (decide ((1844674407370955161 : Int) < (n : Int)) = false ∧ ((n : Int) == 1844674407370955161) = true ∧ decide ((5 : Int) < ((x.toNat : Int) - 48) % 256) = true) := by
           by_cases h : 1844674407370955161 < n
           ·exact .inl (decide_eq_true (by omega))
           ·exact .inr ⟨decide_eq_false (by omega), by rw [beq_iff_eq]; omega, decide_eq_true (by omega)⟩
          clear HU
          have w1 : wrap64 (x.toNat : Int) = (x.toNat : Int) := by unfold wrap64; omega
          clear hd hv
          rcases hcs with g3 | ⟨g3, g4, g5⟩
          all_goals
           go_wp2
           refine bodyPost_ret (ruint_results _ _ _ _ rfl rfl) rfl ?_
           exact ⟨rfl, below_alloc (Below.refl _ _) _⟩
         ·rw [if_neg hv] at HU
          have HN := am (show 10 * n + (x.toNat - 48) ≤ 18446744073709551615 ∧ uintL (10 * n + (x.toNat - 48)) (s.data.toList.drop (k + 1)) = o from ⟨by omega, HU⟩)
          have HF := am (uint_facts (n := n) (k := k) (c := x) (by omega) (by omega) hv (by omega))
          have g3 : decide ((1844674407370955161 : Int) < (n : Int)) = false := decide_eq_false (by omega)
          have hcs : ((n : Int) == 1844674407370955161) = false ∨ (((n : Int) == 1844674407370955161) = true ∧ decide ((5 : Int) < ((x.toNat : Int) - 48) % 256) = false) := by
           by_cases h : n = 1844674407370955161
           ·exact .inr ⟨by rw [beq_iff_eq]; omega, decide_eq_false (by omega)⟩
           ·exact .inl (by rw [beq_eq_false_iff_ne]; omega)
          clear HU hd hv HK
          rcases hcs with g4 | ⟨g4, g5⟩
          all_goals
           go_wp2
           go_roundg g
           case measure => omega
           case rel => exact ⟨10 * n + (x.toNat - 48), k + 1, congrArg (Value.int .u64) HF.out.1, by first | rfl | exact congrArg (Value.int .i64) HF.out.2, by omega, by omega, rfl, HN⟩
      ·have hke : k = s.size := by omega
       subst hke
       have HO := am (show some n = o from by
        have := HK.out.2
        rwa [List.drop_eq_nil_of_le (by simp)] at this)
       rw [← HO.out]
       go_wp2
       refine bodyPost_ret (ruint_results _ _ (.int .u64 (n : Int)) (.bool true) rfl rfl) rfl ?_
       exact ⟨by first | rfl | (rw [← HO.out]; rfl), below_alloc (Below.refl _ _) _⟩
 ·have HP := am (show uintP f0 s.data.toList = none from by simp [uintP, hk])
  rw [HP.out]
  have hkb : (f0 == 3) = false := by simpa using hk
  go_enter Tryz.func34, Tryz.ntmps34
  go_wp2
  refine bodyPost_ret (ruint_results _ _ _ _ rfl rfl) rfl ?_
  exact ⟨rfl, below_alloc (Below.refl _ _) _⟩
def intUp : Option Nat → Option Int
 | some n => if 9223372036854775807 < n then none else some n
 | none => none
def intDown : Option Nat → Option Int
 | some n => if n = 0 ∨ 9223372036854775808 < n then none else some (-(n : Int))
 | none => none
def intP (k : Int) (s : List UInt8) : Option Int := if s.head? = some 45 then intDown (uintP k s.tail) else intUp (uintP k s)
def IEnd (o : Option Int) (W : World) (e : Ending) (W' : World) : Prop := e = .returned (.tuple #[.int .i64 (o.getD 0), .bool o.isSome]) ∧ Below W.heap.size W W'
theorem rint_results (tmps : Array Value) (w : World) (a b : Value) (t2 : tmps.getD 2 undef = a) (t3 : tmps.getD 3 undef = b) : (results Tryz.f32 tmps).run Tryz.prog w = .ok (.tuple #[a, b]) w := by
 have t2' : tmps[2]?.getD undef = a := by simpa using t2
 have t3' : tmps[3]?.getD undef = b := by simpa using t3
 unfold results
 rw [Tryz.results32]
 simp [t2', t3', go_sem]
theorem up_cases (o : Option Nat) : (o = none ∧ intUp o = none) ∨ (∃ n, o = some n ∧ intUp o = none ∧ decide ((9223372036854775807 : Int) < (n : Int)) = true) ∨ (∃ n, o = some n ∧ intUp o = some (n : Int) ∧ decide ((9223372036854775807 : Int) < (n : Int)) = false ∧ n ≤ 9223372036854775807) := by
 cases o with
 | none => exact .inl ⟨rfl, rfl⟩
 | some n =>
  by_cases h : 9223372036854775807 < n
  ·exact .inr (.inl ⟨n, rfl, if_pos h, decide_eq_true (by omega)⟩)
  ·exact .inr (.inr ⟨n, rfl, if_neg h, decide_eq_false (by omega), by omega⟩)
theorem down_cases (o : Option Nat) : (o = none ∧ intDown o = none) ∨ (∃ n, o = some n ∧ intDown o = none ∧ ((n : Int) == 0) = true) ∨ (∃ n, o = some n ∧ intDown o = none ∧ ((n : Int) == 0) = false ∧ decide ((9223372036854775808 : Int) < (n : Int)) = true) ∨
  (∃ n, o = some n ∧ intDown o = some (-(n : Int)) ∧ ((n : Int) == 0) = false ∧ decide ((9223372036854775808 : Int) < (n : Int)) = false ∧ 1 ≤ n ∧ n ≤ 9223372036854775808) := by
 cases o with
 | none => exact .inl ⟨rfl, rfl⟩
 | some n =>
  by_cases h0 : n = 0
  ·exact .inr (.inl ⟨n, rfl, if_pos (.inl h0), by rw [h0]; rfl⟩)
  ·have e : ((n : Int) == 0) = false := by
    rw [beq_eq_false_iff_ne]
    omega
   by_cases h : 9223372036854775808 < n
   ·exact .inr (.inr (.inl ⟨n, rfl, if_pos (.inr h), e, decide_eq_true (by omega)⟩))
   ·exact .inr (.inr (.inr ⟨n, rfl, if_neg (by omega), e, decide_eq_false (by omega), by omega, by omega⟩))
set_option maxRecDepth 1000000 in
set_option maxHeartbeats 8000000 in
theorem rint_calls (f0 : Int) (s : ByteArray) (v2 v3 : Value) (W : World) (hs : s.size ≤ 4611686018427387904) :
  Calls Tryz.prog 32 #[.agg #[.int .i64 f0, .string s, v2, v3]] W (IEnd (intP f0 s.data.toList) W) := by
 have b0 := below_alloc (Below.refl W.heap.size W) (.cells #[.int .i64 f0, .string s, v2, v3] 25)
 by_cases h0 : s.size = 0
 ·have hE : s.toList.isEmpty = true := by
   rw [ByteArray.toList_eq, List.isEmpty_iff]
   exact List.length_eq_zero_iff.1 (by simpa using h0)
  have HU := am (fun w => ruint_calls f0 s v2 v3 w hs)
  have HP := am (show intP f0 s.data.toList = intUp (uintP f0 s.data.toList) from by
   have e : s.data.toList = [] := List.length_eq_zero_iff.1 (by simpa using h0)
   rw [e]
   rfl)
  rw [HP.out]
  clear HP
  generalize uintP f0 s.data.toList = o at HU ⊢
  rcases up_cases o with ⟨rfl, e2⟩ | ⟨n, rfl, e2, d1⟩ | ⟨n, rfl, e2, d1, hn⟩
  all_goals
   have E2 := am e2
   clear e2
   rw [E2.out]
   go_enter Tryz.func32, Tryz.ntmps32
   go_wp2_with (first | (go_at_call 34; (with_reducible refine (HU.out _).mono ?_); (intro e w5 hq; obtain ⟨he, hb⟩ := hq; subst he)))
   refine bodyPost_ret (rint_results _ _ _ _ rfl rfl) rfl ?_
   exact ⟨rfl, below_step b0 hb⟩
 ·have hE : s.toList.isEmpty = false := by
   rw [ByteArray.toList_eq]
   cases hl : s.data.toList with
   | nil => exact absurd (by simpa using congrArg List.length hl) h0
   | cons _ _ => rfl
  obtain ⟨u, e1, hx⟩ := drop_atU s 0 (by omega)
  have p2 : ((0 : Int) < (s.size : Int)) = True := eq_true (by omega)
  have e2 : s.data.toList = u :: s.data.toList.drop 1 := by simpa using e1
  by_cases hm : u = 45
  ·subst hm
   have HU := am (fun w => ruint_calls f0 (s.extract 1 s.size) (.slice none 0 0) (.slice none 0 0) w (by rw [ByteArray.size_extract]; omega))
   have p3 : ((1 : Int) ≤ (s.size : Int)) = True := eq_true (by omega)
   have HP := am (show intP f0 s.data.toList = intDown (uintP f0 (s.extract 1 s.size).data.toList) from by
    unfold intP
    rw [if_pos (by rw [e2]; rfl), show (s.extract 1 s.size).data.toList = s.data.toList.tail from by rw [← List.drop_one]; simp; exact List.take_of_length_le (by simp)])
   rw [HP.out]
   clear HP e1 e2
   generalize uintP f0 (s.extract 1 s.size).data.toList = o at HU ⊢
   rcases down_cases o with ⟨rfl, e2⟩ | ⟨n, rfl, e2, d1⟩ | ⟨n, rfl, e2, d1, d2⟩ | ⟨n, rfl, e2, d1, d2, hn, hm⟩
   all_goals
    have E2 := am e2
    clear e2
    rw [E2.out]
    go_enter Tryz.func32, Tryz.ntmps32
    go_wp2_with (first | (go_at_call 34; (with_reducible refine (HU.out _).mono ?_); (intro e w5 hq; obtain ⟨he, hb⟩ := hq; subst he)))
    have hA := heap_alloc_new W (.cells #[.int .i64 f0, .string s, v2, v3] 25)
    refine start_ (n := 12) (S := fun w' => w'.cell? ⟨W.heap.size, 0, none⟩ = some (.int .i64 f0) ∧ w'.cell? ⟨W.heap.size, 1, none⟩ = some (.string s)) (ds := []) #[false, false, false, false, false, false, false, false, false, false, false, false] (by kernel_rfl) rfl rfl ⟨(blk_cell hA 0).trans rfl, (blk_cell hA 1).trans rfl⟩ (fun hHeld => ?_)
    have HF := am (below_drew1 b0)
    have HA := am (blk_below hA (below_drew1 (Below.refl _ _)))
    clear b0 hA
    generalize World.drew _ = w2 at HF HA hHeld ⊢
    refine pure_ (i := 0) (N := some 31) (v := ?_) (a' := ?_) #[true, false, false, false, false, false, false, false, false, false, false, false] rfl rfl (by kernel_rfl) (fun _ _ _ h => h) (Or.inl ⟨by rfl, ?_⟩) ?_ ?_
    rotate_left
    ·intro w'
     go_simp
     with_reducible rfl
    rotate_left
    ·simp only [Act.put, sAx, sZx, sSx, i64_w, i32_w]
     rfl
    refine pure_ (i := 2) (N := some 33) (v := ?_) (a' := ?_) #[true, false, true, false, false, false, false, false, false, false, false, false] rfl rfl (by kernel_rfl) (fun _ _ _ h => h) (Or.inl ⟨by rfl, ?_⟩) ?_ ?_
    rotate_left
    ·intro w'
     go_simp
     with_reducible rfl
    rotate_left
    ·simp only [Act.put, sAx, sZx, sSx, i64_w, i32_w]
     rfl
    refine take_ (i := 1) (N := some 32) (v := ?_) (a' := ?_) #[true, true, true, false, false, false, false, false, false, false, false, false] rfl rfl (by kernel_rfl) (fun _ _ _ h => h) (Or.inl ⟨by rfl, ?_⟩) hHeld ?_ ?_
    rotate_left
    ·rintro w' ⟨s0, s1⟩
     go_simp
     with_reducible rfl
    rotate_left
    ·simp only [Act.put, sAx, sZx, sSx, i64_w, i32_w]
     rfl
    refine take_ (i := 3) (N := some 34) (v := ?_) (a' := ?_) #[true, true, true, true, false, false, false, false, false, false, false, false] rfl rfl (by kernel_rfl) (fun _ _ _ h => h) (Or.inl ⟨by rfl, ?_⟩) hHeld ?_ ?_
    rotate_left
    ·rintro w' ⟨s0, s1⟩
     go_simp
     with_reducible rfl
    rotate_left
    ·simp only [Act.put, sAx, sZx, sSx, i64_w, i32_w]
     rfl
    refine pure_ (i := 4) (N := some 35) (v := ?_) (a' := ?_) #[true, true, true, true, true, false, false, false, false, false, false, false] rfl rfl (by kernel_rfl) (fun _ _ _ h => h) (Or.inl ⟨by rfl, ?_⟩) ?_ ?_
    rotate_left
    ·intro w'
     go_simp
     with_reducible rfl
    rotate_left
    ·simp only [Act.put, sAx, sZx, sSx, i64_w, i32_w]
     rfl
    refine pure_ (i := 5) (N := some 36) (v := ?_) (a' := ?_) #[true, true, true, true, true, true, false, false, false, false, false, false] rfl rfl (by kernel_rfl) (fun _ _ _ h => h) (Or.inl ⟨by rfl, ?_⟩) ?_ ?_
    rotate_left
    ·intro w'
     go_simp
     with_reducible rfl
    rotate_left
    ·simp only [Act.put, sAx, sZx, sSx, i64_w, i32_w]
     rfl
    refine one_ (i := 6) (N := some 37) #[true, true, true, true, true, true, true, false, false, false, false, false] rfl rfl (by kernel_rfl) (by decide) (fun K hK => ?_)
    refine goes_ Tryz.func34 (by kernel_rfl) rfl #[.agg #[.int .i64 f0, .string (s.extract 1 s.size), .slice none 0 0, .slice none 0 0]] (by rfl) rfl rfl (by (try simp only [List.map_toArray, List.map_cons, List.map_nil]); first | done | rfl) ?_
    refine (HU.out _).mono ?_
    intro e w5 hq
    obtain ⟨he, hb⟩ := hq
    subst he
    refine ⟨_, rfl, ?_⟩
    have HG := am (below_step HF.out hb)
    have H0 := am hb
    clear hb
    refine hK.out _ _ ⟨(blk_cell (blk_below HA.out H0.out) 0).trans rfl, (blk_cell (blk_below HA.out H0.out) 1).trans rfl⟩ (fun hHeld => ?_)
    clear hK K
    refine norm_ (a' := ?_) ?_ ?_
    rotate_left
    ·show Act.put _ (some 37) _ = _
     simp only [Act.put, sAx, sZx, sSx, i64_w, i32_w]
     rfl
    refine pure_ (i := 7) (N := some 30) (v := ?_) (a' := ?_) #[true, true, true, true, true, true, true, true, false, false, false, false] rfl rfl (by kernel_rfl) (fun _ _ _ h => h) (Or.inl ⟨by rfl, ?_⟩) ?_ ?_
    rotate_left
    ·intro w'
     go_simp
     with_reducible rfl
    rotate_left
    ·simp only [Act.put, sAx, sZx, sSx, i64_w, i32_w]
     rfl
    refine pure_ (i := 8) (N := some 38) (v := ?_) (a' := ?_) #[true, true, true, true, true, true, true, true, true, false, false, false] rfl rfl (by kernel_rfl) (fun _ _ _ h => h) (Or.inl ⟨by rfl, ?_⟩) ?_ ?_
    rotate_left
    ·intro w'
     go_simp
     with_reducible rfl
    rotate_left
    ·simp only [Act.put, sAx, sZx, sSx, i64_w, i32_w]
     rfl
    refine pure_ (i := 9) (N := some 39) (v := ?_) (a' := ?_) #[true, true, true, true, true, true, true, true, true, true, false, false] rfl rfl (by kernel_rfl) (fun _ _ _ h => h) (Or.inl ⟨by rfl, ?_⟩) ?_ ?_
    rotate_left
    ·intro w'
     go_simp
     with_reducible rfl
    rotate_left
    ·simp only [Act.put, sAx, sZx, sSx, i64_w, i32_w]
     rfl
    refine pure_ (i := 10) (N := some 6) (v := ?_) (a' := ?_) #[true, true, true, true, true, true, true, true, true, true, true, false] rfl rfl (by kernel_rfl) (fun _ _ _ h => h) (Or.inl ⟨by rfl, ?_⟩) ?_ ?_
    rotate_left
    ·intro w'
     go_simp
     with_reducible rfl
    rotate_left
    ·simp only [Act.put, sAx, sZx, sSx, i64_w, i32_w]
     rfl
    refine pure_ (i := 11) (N := some 7) (v := ?_) (a' := ?_) #[true, true, true, true, true, true, true, true, true, true, true, true] rfl rfl (by kernel_rfl) (fun _ _ _ h => h) (Or.inl ⟨by rfl, ?_⟩) ?_ ?_
    rotate_left
    ·intro w'
     go_simp
     with_reducible rfl
    rotate_left
    ·simp only [Act.put, sAx, sZx, sSx, i64_w, i32_w]
     rfl
    refine done_ (by kernel_rfl) ?_
    clear hHeld
    go_wp2
    refine bodyPost_ret (rint_results _ _ _ _ rfl rfl) rfl ?_
    exact ⟨by first | rfl | exact congrArg (fun x => Ending.returned (.tuple #[.int .i64 x, .bool true])) (show -((n : Int) - 1) - 1 = -(n : Int) by omega), HG.out⟩
  ·have hu : ((u.toNat : Int) == 45) = false := by
    rw [beq_eq_false_iff_ne]
    intro h
    exact hm (UInt8.toNat_inj.1 (by show u.toNat = 45; omega))
   have HU := am (fun w => ruint_calls f0 s v2 v3 w hs)
   have HP := am (show intP f0 s.data.toList = intUp (uintP f0 s.data.toList) from by
    unfold intP
    rw [if_neg (by rw [e2]; simpa using hm)])
   rw [HP.out]
   clear HP e1 e2
   generalize uintP f0 s.data.toList = o at HU ⊢
   rcases up_cases o with ⟨rfl, e2⟩ | ⟨n, rfl, e2, d1⟩ | ⟨n, rfl, e2, d1, hn⟩
   all_goals
    have E2 := am e2
    clear e2
    rw [E2.out]
    go_enter Tryz.func32, Tryz.ntmps32
    go_wp2_with (first | (go_at_call 34; (with_reducible refine (HU.out _).mono ?_); (intro e w5 hq; obtain ⟨he, hb⟩ := hq; subst he)))
    refine bodyPost_ret (rint_results _ _ _ _ rfl rfl) rfl ?_
    exact ⟨rfl, below_step b0 hb⟩
end Go.Proofs.YtpdelcbkcebkpaaGreatDoor.X
namespace Go.Proofs.YtpdelcbkcebkpaaGreatDoor.X
open Go.Lib
def okOf {α : Type} : NumEnd α → Option α
 | .ok n => some n
 | _ => none
theorem uintL_M : ∀ (l : List UInt8) (n : Nat), uintL n l = okOf (parseUintM (2 ^ 64 - 1) n l)
 | [], n => rfl
 | c :: r, n => by
  have h64 : (2 : Nat) ^ 64 - 1 = 18446744073709551615 := by decide
  rw [uintL, parseUintM]
  by_cases hd : c.toNat < 48 ∨ 57 < c.toNat
  ·rw [if_pos hd, if_neg (show ¬ (48 ≤ c.toNat ∧ c.toNat ≤ 57) by omega)]; rfl
  ·rw [if_neg hd, if_pos (show 48 ≤ c.toNat ∧ c.toNat ≤ 57 by omega), h64]
   by_cases hv : 1844674407370955161 < n ∨ (n = 1844674407370955161 ∧ 53 < c.toNat)
   ·rw [if_pos hv]
    by_cases h1 : 1844674407370955162 ≤ n
    ·rw [if_pos h1]; rfl
    ·rw [if_neg h1, if_pos (show 18446744073709551615 < n * 10 + (c.toNat - 48) by omega)]; rfl
   ·rw [if_neg hv, if_neg (show ¬ 1844674407370955162 ≤ n by omega), if_neg (show ¬ 18446744073709551615 < n * 10 + (c.toNat - 48) by omega), Nat.mul_comm 10 n, ← h64]
    exact uintL_M r _
theorem dig_byte (c : UInt8) (h1 : 48 ≤ c.toNat) (h2 : c.toNat ≤ 57) : UInt8.ofNat (48 + (c.toNat - 48)) = c := by
 apply UInt8.toNat_inj.1
 simp
 omega
theorem dec_step {a d : Nat} (ha : 0 < a) (hd : d < 10) : decDigits (10 * a + d) = decDigits a ++ [UInt8.ofNat (48 + d)] := by
 rw [decDigits, dif_neg (by omega), show (10 * a + d) / 10 = a by omega, show (10 * a + d) % 10 = d by omega]
theorem uintL_dec : ∀ (l : List UInt8) (a n : Nat), 0 < a → uintL a l = some n → decDigits n = decDigits a ++ l ∧ n ≤ 18446744073709551615 ∨ l = [] ∧ n = a
 | [], a, n, _, h => by rw [uintL] at h; injection h with h; exact .inr ⟨rfl, h.symm⟩
 | c :: r, a, n, ha, h => by
  rw [uintL] at h
  split at h
  ·cases h
  ·split at h
   ·cases h
   ·rename_i h1 h2
    have hs := dec_step ha (show c.toNat - 48 < 10 by omega)
    rw [dig_byte c (by omega) (by omega)] at hs
    rcases uintL_dec r _ n (by omega) h with ⟨e, hl⟩ | ⟨rfl, rfl⟩
    ·exact .inl ⟨by rw [e, hs, List.append_assoc]; rfl, hl⟩
    ·exact .inl ⟨hs, by omega⟩
theorem dec_head : ∀ (n : Nat), 0 < n → ∃ c r, decDigits n = c :: r ∧ c ≠ 48 := by
 intro n
 induction n using Nat.strongRecOn with
 | _ n ih =>
  intro hn
  by_cases h : n < 10
  ·refine ⟨_, [], by rw [decDigits, dif_pos h], fun hh => ?_⟩
   have := congrArg UInt8.toNat hh
   simp at this
   omega
  ·obtain ⟨c, r, e, hc⟩ := ih (n / 10) (by omega) (by omega)
   exact ⟨c, r ++ [UInt8.ofNat (48 + n % 10)], by rw [decDigits, dif_neg h, e]; rfl, hc⟩
theorem uint_canon (l : List UInt8) : uintP 3 l = match parseUintB 64 l with | .ok n => if decDigits n = l then some n else none | _ => none := by
 unfold uintP parseUintB
 by_cases h0 : l = []
 ·subst h0; rfl
 ·rw [if_neg h0]
  cases l with
  | nil => exact absurd rfl h0
  | cons c r =>
   rw [show parseUintM (2 ^ 64 - 1) 0 (c :: r) = parseUintM (2 ^ 64 - 1) 0 (c :: r) from rfl]
   have hM := uintL_M (c :: r) 0
   by_cases hz : c = 48 ∧ 1 < (c :: r).length
   ·rw [if_pos (.inr (.inr ⟨by rw [hz.1]; rfl, hz.2⟩))]
    cases hp : parseUintM (2 ^ 64 - 1) 0 (c :: r) with
    | ok n =>
     show none = if decDigits n = c :: r then some n else none
     rw [if_neg]
     intro hd
     by_cases hn : 0 < n
     ·obtain ⟨c', r', e, hc⟩ := dec_head n hn
      rw [e] at hd
      injection hd with h1 _
      exact hc (h1.trans hz.1)
     ·obtain rfl : n = 0 := by omega
      rw [decDigits, dif_pos (by decide)] at hd
      injection hd with _ h2
      have := hz.2
      rw [← h2] at this
      simp at this
    | range => rfl
    | _ => rfl
   ·rw [if_neg (by rintro (h | h | ⟨h, h2⟩); exact h rfl; exact h0 h; exact hz ⟨Option.some.inj h, h2⟩), hM]
    cases hp : parseUintM (2 ^ 64 - 1) 0 (c :: r) with
    | range => rfl
    | ok n =>
     show some n = if decDigits n = c :: r then some n else none
     rw [if_pos]
     rw [hp] at hM
     have hM : uintL 0 (c :: r) = some n := hM
     rw [uintL] at hM
     split at hM
     ·cases hM
     ·rename_i h1
      rw [if_neg (by omega)] at hM
      rw [show 10 * 0 + (c.toNat - 48) = c.toNat - 48 by omega] at hM
      by_cases hc : c.toNat = 48
      ·have hr : r = [] := by
        by_cases hr : r = []
        ·exact hr
        ·exact absurd ⟨UInt8.toNat_inj.1 hc, by have := List.length_pos_iff.2 hr; simp; omega⟩ hz
       subst hr
       rw [uintL] at hM
       injection hM with hM
       subst hM
       rw [decDigits, dif_pos (by omega), dig_byte c (by omega) (by omega)]
      ·have hd : decDigits (c.toNat - 48) = [c] := by rw [decDigits, dif_pos (by omega), dig_byte c (by omega) (by omega)]
       rcases uintL_dec r _ n (by omega) hM with ⟨e, _⟩ | ⟨rfl, rfl⟩
       ·rw [e, hd]; rfl
       ·exact hd
    | _ => rfl
theorem dec_ne (n : Nat) : ∃ c r, decDigits n = c :: r ∧ 48 ≤ c.toNat := by
 by_cases h : 0 < n
 ·induction n using Nat.strongRecOn with
  | _ n ih =>
   by_cases h9 : n < 10
   ·exact ⟨_, [], by rw [decDigits, dif_pos h9], by simp; omega⟩
   ·obtain ⟨c, r, e, hc⟩ := ih (n / 10) (by omega) (by omega)
    exact ⟨c, r ++ [UInt8.ofNat (48 + n % 10)], by rw [decDigits, dif_neg h9, e]; rfl, hc⟩
 ·obtain rfl : n = 0 := by omega
  exact ⟨48, [], by rw [decDigits, dif_pos (by decide)]; rfl, by decide⟩
theorem int_canon (l : List UInt8) : intP 3 l = match parseIntB 64 l with | .ok v => if itoa v = l then some v else none | _ => none := by
 have h63 : (2 : Nat) ^ (64 - 1) = 9223372036854775808 := by decide
 cases l with
 | nil => rfl
 | cons c r =>
  unfold intP parseIntB
  simp only [List.head?_cons, Option.some.injEq, List.tail_cons, h63]
  by_cases hm : c = 45
  ·subst hm
   rw [if_pos rfl, uint_canon]
   simp only [show (45 : UInt8).toNat = 45 from rfl, or_true, if_true]
   cases hp : parseUintB 64 r with
   | range => rfl
   | ok u =>
    simp only [not_true_eq_false, false_and, if_false, true_and]
    by_cases hu : 9223372036854775808 < u
    ·rw [if_pos hu]
     by_cases hd : decDigits u = r
     ·rw [if_pos hd]; exact if_pos (.inr hu)
     ·rw [if_neg hd]; rfl
    ·rw [if_neg hu]
     show _ = if itoa (-(u : Int)) = 45 :: r then some (-(u : Int)) else none
     by_cases h0 : u = 0
     ·subst h0
      rw [if_neg (show ¬ itoa (-((0 : Nat) : Int)) = 45 :: r from by
       rw [itoa, if_neg (by decide)]
       rw [show (-((0 : Nat) : Int)).toNat = 0 from rfl, decDigits, dif_pos (by decide)]
       intro h
       injection h with h _
       exact absurd h (by decide))]
      by_cases hd : decDigits 0 = r
      ·rw [if_pos hd]; rfl
      ·rw [if_neg hd]; rfl
     ·have hi : itoa (-(u : Int)) = 45 :: decDigits u := by rw [itoa, if_pos (by omega), show (-(u : Int)).natAbs = u by omega]
      rw [hi]
      by_cases hd : decDigits u = r
      ·rw [if_pos hd, if_pos (by rw [hd])]; exact if_neg (by omega)
      ·rw [if_neg hd, if_neg (fun h => hd (List.cons.inj h).2)]; rfl
   | _ => rfl
  ·rw [if_neg hm]
   have hm' : ¬ c.toNat = 45 := fun h => hm (UInt8.toNat_inj.1 h)
   by_cases hpl : c.toNat = 43
   ·have hz : uintP 3 (c :: r) = none := by
     unfold uintP
     split
     ·rfl
     ·rw [uintL, if_pos (.inl (by omega))]
    rw [hz, if_pos (.inl hpl)]
    cases hp : parseUintB 64 r with
    | range => rfl
    | ok u =>
     simp only [hm', not_false_eq_true, true_and, false_and, if_false]
     by_cases hu : 9223372036854775808 ≤ u
     ·rw [if_pos hu]; rfl
     ·rw [if_neg hu]
      show none = if itoa (u : Int) = c :: r then some (u : Int) else none
      rw [if_neg]
      intro h
      rw [itoa, if_neg (by omega), show ((u : Int)).toNat = u by omega] at h
      obtain ⟨c', r', e, hc⟩ := dec_ne u
      rw [e] at h
      injection h with h _
      rw [h] at hc
      omega
    | _ => rfl
   ·rw [if_neg (by omega), uint_canon]
    cases hp : parseUintB 64 (c :: r) with
    | range => rfl
    | ok u =>
     simp only [hm', not_false_eq_true, true_and, false_and, if_false]
     have hi : itoa (u : Int) = decDigits u := by rw [itoa, if_neg (by omega), show ((u : Int)).toNat = u by omega]
     by_cases hu : 9223372036854775808 ≤ u
     ·rw [if_pos hu]
      by_cases hd : decDigits u = c :: r
      ·rw [if_pos hd]; exact if_pos (by omega)
      ·rw [if_neg hd]; rfl
     ·rw [if_neg hu]
      show _ = if itoa (u : Int) = c :: r then some (u : Int) else none
      rw [hi]
      by_cases hd : decDigits u = c :: r
      ·rw [if_pos hd, if_pos hd]; exact if_neg (by omega)
      ·rw [if_neg hd, if_neg hd]; rfl
    | _ => rfl
end Go.Proofs.YtpdelcbkcebkpaaGreatDoor.X
namespace Go.Proofs.YtpdelcbkcebkpaaGreatDoor.X
open Go.RowKit Go.Lib Go.Sort Go.Proofs.YtpdelcbkcebkpaaGreatDoorW.PrintWords
theorem juint_results (tmps : Array Value) (w : World) (a b : Value) (t2 : tmps.getD 2 undef = a) (t3 : tmps.getD 3 undef = b) : (results Tryz.f33 tmps).run Tryz.prog w = .ok (.tuple #[a, b]) w := by
 have t2' : tmps[2]?.getD undef = a := by simpa using t2
 have t3' : tmps[3]?.getD undef = b := by simpa using t3
 unfold results
 rw [Tryz.results33]
 simp [t2', t3', go_sem]
theorem parseM_le : ∀ (l : List UInt8) (a n : Nat), a ≤ 18446744073709551615 → parseUintM 18446744073709551615 a l = .ok n → n ≤ 18446744073709551615
 | [], a, n, ha, h => by
  rw [parseUintM] at h
  injection h with h
  omega
 | c :: r, a, n, ha, h => by
  rw [parseUintM] at h
  split at h
  ·split at h
   ·cases h
   ·split at h
    ·cases h
    ·exact parseM_le r _ n (by omega) h
  ·cases h
theorem parseB_le {l : List UInt8} {n : Nat} (h : parseUintB 64 l = .ok n) : n ≤ 18446744073709551615 := by
 unfold parseUintB at h
 split at h
 ·cases h
 ·exact parseM_le l 0 n (by omega) h
theorem uintP_ne {f0 : Int} (h : ¬ f0 = 3) (l : List UInt8) : uintP f0 l = none := if_pos (.inl h)
set_option maxRecDepth 1000000 in
set_option maxHeartbeats 4000000 in
theorem juint_calls (f0 : Int) (s : ByteArray) (v2 v3 : Value) (W : World) (hN : NumT W) (hs : s.size ≤ 281474976710656) :
  Calls Tryz.prog 33 #[.agg #[.int .i64 f0, .string s, v2, v3]] W (UEnd (uintP f0 s.data.toList) W) := by
 have b0 := below_alloc (Below.refl W.heap.size W) (.cells #[.int .i64 f0, .string s, v2, v3] 25)
 have HP := am (fun w h => parseUint_calls s w (hN.below h) hs)
 have HA := am (heap_alloc_new W (.cells #[.int .i64 f0, .string s, v2, v3] 25))
 by_cases hk : f0 = 3
 ·subst hk
  have hc := uint_canon s.data.toList
  have hn : ∀ n, parseUintB 64 s.data.toList = .ok n → n ≤ 18446744073709551615 := fun n h => parseB_le h
  generalize parseUintB 64 s.data.toList = o at HP hc hn
  cases o with
  | ok n =>
   have hc : uintP 3 s.data.toList = if decDigits n = s.data.toList then some n else none := hc
   have hn64 : n < 18446744073709551616 := by
    have h := hn n rfl
    omega
   have HF := am (fun w h => formatUint_calls n hn64 w (hN.below h))
   by_cases hd : decDigits n = s.data.toList
   ·have he : bs (decDigits n) = s := by rw [hd]; exact bs_eq s
    have HC := am (show uintP 3 s.data.toList = some n by rw [hc, if_pos hd])
    rw [HC.out]
    rw [he] at HF
    clear hc hd he hn hN
    go_enter Tryz.func33, Tryz.ntmps33
    go_wp2_with (first | (go_at_call 66; (refine (HP.out _ b0).mono ?_); rintro e W1 ⟨v, ev, rfl, ⟨rfl, rfl⟩, hb⟩; have c0 := (blk_cell (blk_below HA.out hb) 0).trans rfl; have c1 := (blk_cell (blk_below HA.out hb) 1).trans rfl; have HH := am (blk_below HA.out hb); have HB := am (below_step b0 hb); clear b0 hb))
    go_region_with ((go_at_call 62; (with_reducible refine (HF.out _ ?tb).mono ?_); (case tb => exact pw_below_drewN HB.out _); rintro e W2 ⟨rfl, hb⟩; have d1 := (blk_cell (blk_below (blk_below HH.out (pw_below_drewN (Below.refl _ _) _)) hb) 1).trans rfl; have HB2 := am (below_step (pw_below_drewN HB.out _) hb); clear hb))
    all_goals
     go_wp2
     refine bodyPost_ret (juint_results _ _ _ _ rfl rfl) rfl ?_
     exact ⟨rfl, HB2.out⟩
   ·have HC := am (show uintP 3 s.data.toList = none by rw [hc, if_neg hd])
    rw [HC.out]
    have k1 : ((bs (decDigits n)).toList == s.toList) = false := by rw [toList_data, toList_data]; exact beq_eq_false_iff_ne.mpr hd
    have k2 : ((bs (decDigits n)).toList != s.toList) = true := by rw [bne, k1]; rfl
    generalize bs (decDigits n) = q at HF k1 k2
    clear hc hd hn hN
    go_enter Tryz.func33, Tryz.ntmps33
    go_wp2_with (first | (go_at_call 66; (refine (HP.out _ b0).mono ?_); rintro e W1 ⟨v, ev, rfl, ⟨rfl, rfl⟩, hb⟩; have c0 := (blk_cell (blk_below HA.out hb) 0).trans rfl; have c1 := (blk_cell (blk_below HA.out hb) 1).trans rfl; have HH := am (blk_below HA.out hb); have HB := am (below_step b0 hb); clear b0 hb))
    go_region_with ((go_at_call 62; (with_reducible refine (HF.out _ ?tb).mono ?_); (case tb => exact pw_below_drewN HB.out _); rintro e W2 ⟨rfl, hb⟩; have d1 := (blk_cell (blk_below (blk_below HH.out (pw_below_drewN (Below.refl _ _) _)) hb) 1).trans rfl; have HB2 := am (below_step (pw_below_drewN HB.out _) hb); clear hb))
    all_goals
     go_wp2
     refine bodyPost_ret (juint_results _ _ _ _ rfl rfl) rfl ?_
     exact ⟨rfl, HB2.out⟩
  | range =>
   have HC := am (show uintP 3 s.data.toList = none from hc)
   rw [HC.out]
   clear hc
   go_enter Tryz.func33, Tryz.ntmps33
   go_wp2_with (first | (go_at_call 66; (refine (HP.out _ b0).mono ?_); rintro e W1 ⟨v, ev, rfl, ⟨t_, p_, rfl⟩, hb⟩; have c0 := (blk_cell (blk_below HA.out hb) 0).trans rfl; have c1 := (blk_cell (blk_below HA.out hb) 1).trans rfl; have HB := am (below_step b0 hb); clear b0 hb))
   go_quiet (fail)
   go_wp2
   refine bodyPost_ret (juint_results _ _ _ _ rfl rfl) rfl ?_
   exact ⟨rfl, pw_below_drewN HB.out _⟩
  | _ =>
   have HC := am (show uintP 3 s.data.toList = none from hc)
   rw [HC.out]
   clear hc
   go_enter Tryz.func33, Tryz.ntmps33
   go_wp2_with (first | (go_at_call 66; (refine (HP.out _ b0).mono ?_); rintro e W1 ⟨v, ev, rfl, ⟨t_, p_, rfl⟩, hb⟩; have c0 := (blk_cell (blk_below HA.out hb) 0).trans rfl; have c1 := (blk_cell (blk_below HA.out hb) 1).trans rfl; have HB := am (below_step b0 hb); clear b0 hb))
   go_quiet (fail)
   go_wp2
   refine bodyPost_ret (juint_results _ _ _ _ rfl rfl) rfl ?_
   exact ⟨rfl, pw_below_drewN HB.out _⟩
 ·have HC := am (uintP_ne hk s.data.toList)
  rw [HC.out]
  have hkb : (f0 != 3) = true := by simpa using hk
  go_enter Tryz.func33, Tryz.ntmps33
  go_wp2_with (first | (go_at_call 66; (refine (HP.out _ b0).mono ?_); rintro e W1 ⟨v, ev, rfl, ho, hb⟩; have c0 := (blk_cell (blk_below HA.out hb) 0).trans rfl; have c1 := (blk_cell (blk_below HA.out hb) 1).trans rfl; have HB := am (below_step b0 hb); clear b0 hb ho))
  go_quiet (fail)
  go_wp2
  refine bodyPost_ret (juint_results _ _ _ _ rfl rfl) rfl ?_
  exact ⟨rfl, pw_below_drewN HB.out _⟩
theorem jint_results (tmps : Array Value) (w : World) (a b : Value) (t2 : tmps.getD 2 undef = a) (t3 : tmps.getD 3 undef = b) : (results Tryz.f31 tmps).run Tryz.prog w = .ok (.tuple #[a, b]) w := by
 have t2' : tmps[2]?.getD undef = a := by simpa using t2
 have t3' : tmps[3]?.getD undef = b := by simpa using t3
 unfold results
 rw [Tryz.results31]
 simp [t2', t3', go_sem]
theorem parseI_in {l : List UInt8} {n : Int} (h : parseIntB 64 l = .ok n) : -9223372036854775808 ≤ n ∧ n ≤ 9223372036854775807 := by
 have h63 : (2 : Nat) ^ (64 - 1) = 9223372036854775808 := by decide
 cases l with
 | nil => cases h
 | cons c r =>
  simp only [parseIntB, h63] at h
  generalize parseUintB 64 _ = o at h
  cases o with
  | range => cases h
  | ok u =>
   simp only at h
   split at h
   ·cases h
   ·split at h
    ·cases h
    ·injection h with h
     split at h <;> omega
  | _ => cases h
theorem intP_ne {f0 : Int} (h : ¬ f0 = 3) (l : List UInt8) : intP f0 l = none := by
 unfold intP
 rw [uintP_ne h, uintP_ne h]
 split <;> rfl
set_option maxRecDepth 1000000 in
set_option maxHeartbeats 4000000 in
theorem jint_calls (f0 : Int) (s : ByteArray) (v2 v3 : Value) (W : World) (hN : NumT W) (hs : s.size ≤ 281474976710656) :
  Calls Tryz.prog 31 #[.agg #[.int .i64 f0, .string s, v2, v3]] W (IEnd (intP f0 s.data.toList) W) := by
 have b0 := below_alloc (Below.refl W.heap.size W) (.cells #[.int .i64 f0, .string s, v2, v3] 25)
 have HP := am (fun w h => parseInt_calls s w (hN.below h) hs)
 have HA := am (heap_alloc_new W (.cells #[.int .i64 f0, .string s, v2, v3] 25))
 by_cases hk : f0 = 3
 ·subst hk
  have hc := int_canon s.data.toList
  have hn : ∀ n, parseIntB 64 s.data.toList = .ok n → -9223372036854775808 ≤ n ∧ n ≤ 9223372036854775807 := fun n h => parseI_in h
  generalize parseIntB 64 s.data.toList = o at HP hc hn
  cases o with
  | ok n =>
   have hc : intP 3 s.data.toList = if itoa n = s.data.toList then some n else none := hc
   obtain ⟨hn1, hn2⟩ := hn n rfl
   have HF := am (fun w h => formatInt_calls n hn1 hn2 w (hN.below h))
   by_cases hd : itoa n = s.data.toList
   ·have he : bs (itoa n) = s := by rw [hd]; exact bs_eq s
    have HC := am (show intP 3 s.data.toList = some n by rw [hc, if_pos hd])
    rw [HC.out]
    rw [he] at HF
    clear hc hd he hn hN
    go_enter Tryz.func31, Tryz.ntmps31
    go_wp2_with (first | (go_at_call 64; (refine (HP.out _ b0).mono ?_); rintro e W1 ⟨v, ev, rfl, ⟨rfl, rfl⟩, hb⟩; have c0 := (blk_cell (blk_below HA.out hb) 0).trans rfl; have c1 := (blk_cell (blk_below HA.out hb) 1).trans rfl; have HH := am (blk_below HA.out hb); have HB := am (below_step b0 hb); clear b0 hb))
    go_region_with ((go_at_call 65; (with_reducible refine (HF.out _ ?tb).mono ?_); (case tb => exact pw_below_drewN HB.out _); rintro e W2 ⟨rfl, hb⟩; have d1 := (blk_cell (blk_below (blk_below HH.out (pw_below_drewN (Below.refl _ _) _)) hb) 1).trans rfl; have HB2 := am (below_step (pw_below_drewN HB.out _) hb); clear hb))
    all_goals
     go_wp2
     refine bodyPost_ret (jint_results _ _ _ _ rfl rfl) rfl ?_
     exact ⟨rfl, HB2.out⟩
   ·have HC := am (show intP 3 s.data.toList = none by rw [hc, if_neg hd])
    rw [HC.out]
    have k1 : ((bs (itoa n)).toList == s.toList) = false := by rw [toList_data, toList_data]; exact beq_eq_false_iff_ne.mpr hd
    have k2 : ((bs (itoa n)).toList != s.toList) = true := by rw [bne, k1]; rfl
    generalize bs (itoa n) = q at HF k1 k2
    clear hc hd hn hN
    go_enter Tryz.func31, Tryz.ntmps31
    go_wp2_with (first | (go_at_call 64; (refine (HP.out _ b0).mono ?_); rintro e W1 ⟨v, ev, rfl, ⟨rfl, rfl⟩, hb⟩; have c0 := (blk_cell (blk_below HA.out hb) 0).trans rfl; have c1 := (blk_cell (blk_below HA.out hb) 1).trans rfl; have HH := am (blk_below HA.out hb); have HB := am (below_step b0 hb); clear b0 hb))
    go_region_with ((go_at_call 65; (with_reducible refine (HF.out _ ?tb).mono ?_); (case tb => exact pw_below_drewN HB.out _); rintro e W2 ⟨rfl, hb⟩; have d1 := (blk_cell (blk_below (blk_below HH.out (pw_below_drewN (Below.refl _ _) _)) hb) 1).trans rfl; have HB2 := am (below_step (pw_below_drewN HB.out _) hb); clear hb))
    all_goals
     go_wp2
     refine bodyPost_ret (jint_results _ _ _ _ rfl rfl) rfl ?_
     exact ⟨rfl, HB2.out⟩
  | range =>
   have HC := am (show intP 3 s.data.toList = none from hc)
   rw [HC.out]
   clear hc
   go_enter Tryz.func31, Tryz.ntmps31
   go_wp2_with (first | (go_at_call 64; (refine (HP.out _ b0).mono ?_); rintro e W1 ⟨v, ev, rfl, ⟨t_, p_, rfl⟩, hb⟩; have c0 := (blk_cell (blk_below HA.out hb) 0).trans rfl; have c1 := (blk_cell (blk_below HA.out hb) 1).trans rfl; have HB := am (below_step b0 hb); clear b0 hb))
   go_quiet (fail)
   go_wp2
   refine bodyPost_ret (jint_results _ _ _ _ rfl rfl) rfl ?_
   exact ⟨rfl, pw_below_drewN HB.out _⟩
  | _ =>
   have HC := am (show intP 3 s.data.toList = none from hc)
   rw [HC.out]
   clear hc
   go_enter Tryz.func31, Tryz.ntmps31
   go_wp2_with (first | (go_at_call 64; (refine (HP.out _ b0).mono ?_); rintro e W1 ⟨v, ev, rfl, ⟨t_, p_, rfl⟩, hb⟩; have c0 := (blk_cell (blk_below HA.out hb) 0).trans rfl; have c1 := (blk_cell (blk_below HA.out hb) 1).trans rfl; have HB := am (below_step b0 hb); clear b0 hb))
   go_quiet (fail)
   go_wp2
   refine bodyPost_ret (jint_results _ _ _ _ rfl rfl) rfl ?_
   exact ⟨rfl, pw_below_drewN HB.out _⟩
 ·have HC := am (intP_ne hk s.data.toList)
  rw [HC.out]
  have hkb : (f0 != 3) = true := by simpa using hk
  go_enter Tryz.func31, Tryz.ntmps31
  go_wp2_with (first | (go_at_call 64; (refine (HP.out _ b0).mono ?_); rintro e W1 ⟨v, ev, rfl, ho, hb⟩; have c0 := (blk_cell (blk_below HA.out hb) 0).trans rfl; have c1 := (blk_cell (blk_below HA.out hb) 1).trans rfl; have HB := am (below_step b0 hb); clear b0 hb ho))
  go_quiet (fail)
  go_wp2
  refine bodyPost_ret (jint_results _ _ _ _ rfl rfl) rfl ?_
  exact ⟨rfl, pw_below_drewN HB.out _⟩
end Go.Proofs.YtpdelcbkcebkpaaGreatDoor.X
