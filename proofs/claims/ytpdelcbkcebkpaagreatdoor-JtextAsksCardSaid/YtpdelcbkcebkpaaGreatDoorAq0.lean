/- The texts of this work, put together: X0, Jp, K0, K1, K2, K3, K4, K5, K6, K7, X1, K8, U0, U1, U2, K9, K10, K11, K12, K13. -/
import Derived.Test.YtpdelcbkcebkpaaGreatDoorProg
import Derived.Below
import Derived.Deep.Draws
import Derived.Deep.AppendLies
import Derived.Maps.AppendAt
import Derived.OwnWalk
import Derived.Laws.BytesArg
import Derived.Laws.MakeOwn
import Derived.Laws.OwnMore
import Derived.Deep.OwnRows
import Derived.Tactics
import Derived.Lib.ConvBytes
import Derived.Laws.Slices
import Derived.WalkKit
import Derived.KernelRfl
import Derived.RowKit3
import Derived.Deep.LoopGhost
import Derived.Deep.QuietTactic
import Derived.BigQuiet
import Derived.WideLaws
import Derived.Deep.DeepCutAuto
import Derived.Deep.CutBlock
import Derived.Deep.RegionHeld3
import Derived.Laws.Rows
import Derived.Lib.AppendStr
import Derived.ArgAppend
import Derived.Laws.IdiomCopy
import Derived.OrdersHeld
import Derived.Laws.BitsLemmas
import Derived.RowKit
import Derived.Test.YtpdelcbkcebkpaaGreatDoorWq
import Derived.Shelf.Unicode.DecodeAny
import Derived.Lib.RuneBytes
import Derived.IntWalk
import Derived.Lib.Bytes2
import Derived.LoopTactic
import Derived.WalkLawsBesides
import Derived.WalkSmall
import Derived.RegionTactic
import Derived.RegionCalls
import Derived.Lib.SlBytesConst
import Derived.Shelf.Utf8.AppendRunePlain
import Derived.Laws.IdiomStrings
set_option linter.unusedVariables false
set_option linter.unusedSimpArgs false
namespace Go.Proofs.YtpdelcbkcebkpaaGreatDoor.X
theorem am {p : Prop} (h : p) : Go.Proofs.YtpdelcbkcebkpaaGreatDoorW.PrintWords.Aside0 p := ⟨h⟩
theorem sAx {α : Type _} (l : List α) (i : Nat) (a : α) : l.toArray.setIfInBounds i a = (l.set i a).toArray := List.setIfInBounds_toArray ..
theorem sZx {α : Type _} (x : α) (l : List α) (a : α) : (x :: l).set 0 a = a :: l := rfl
theorem sSx {α : Type _} (x : α) (l : List α) (i : Nat) (a : α) : (x :: l).set (i + 1) a = x :: l.set i a := rfl
end Go.Proofs.YtpdelcbkcebkpaaGreatDoor.X
namespace Go.Proofs.YtpdelcbkcebkpaaGreatDoor.X
open Go.RowKit Go.Proofs.YtpdelcbkcebkpaaGreatDoorW.PrintWords Go.Proofs.YtpdelcbkcebkpaaGreatDoorW.PrintLast Go.Proofs.YtpdelcbkcebkpaaGreatDoorW.PrintMore
attribute [local go_sem] max2_int min2_int max_two min_two max_three min_three max_four min_four   -- for this text's walks alone
set_option linter.unusedVariables false
set_option linter.unusedSimpArgs false
def errW : Option Int → Value
 | none => .nilIface
 | some c => .iface 221 (.int .i64 c)
theorem errW_none : errW none = .nilIface := rfl
theorem errW_some (c : Int) : errW (some c) = .iface 221 (.int .i64 c) := rfl
theorem info5 : (Tryz.prog.info? 5).map (fun i => (i.zero, i.size, i.bytes)) = some (some (.int .u8 0), 1, 1) := by kernel_rfl
theorem info9 : (Tryz.prog.info? 9).map (fun i => (i.zero, i.size, i.bytes)) = some (some (.string ⟨#[]⟩), 1, 16) := by kernel_rfl
theorem info25 : (Tryz.prog.info? 25).map (fun i => (i.zero, i.size, i.bytes)) = some (some (.agg #[(.int .i64 0), (.string ⟨#[]⟩), (.slice none 0 0), (.slice none 0 0)]), 4, 72) := by kernel_rfl
structure S25 where
 f0 : Int
 f1 : ByteArray
 f2 : (List ByteArray)
 f3 : (List S25)
def z25 : S25 := ⟨(0 : Int), (⟨#[]⟩ : ByteArray), ([] : List ByteArray), ([] : List S25)⟩
def F25 (d : Kd S25) : Kd S25 := Kd.iso (Kd.pair (Kd.int .i64) (Kd.pair Kd.string (Kd.pair (Kd.slice 9 Kd.string) (Kd.slice 25 d)))) (fun x : S25 => (x.f0, x.f1, x.f2, x.f3))
theorem mono25 : Kd.Mono F25 := Kd.mono_iso _ (Kd.mono_pair (Kd.mono_const _) (Kd.mono_pair (Kd.mono_const _) (Kd.mono_pair (Kd.mono_const _) (Kd.mono_slice 25 Kd.mono_id))))
theorem sub25 : Kd.Sub F25 [9, 25] := Kd.sub_iso _ (Kd.sub_pair (Kd.sub_const _ (by decide)) (Kd.sub_pair (Kd.sub_const _ (by decide)) (Kd.sub_pair (Kd.sub_const _ (by decide)) (Kd.sub_slice 25 (by decide) Kd.sub_id))))
theorem sz25 : ∀ n, (Kd.upto F25 4 [9, 25] n).sz = 4 := Kd.upto_sz (fun _ => rfl)
def k25 : Kd S25 := Kd.fix F25 4 [9, 25] sz25 (Kd.upto_E sub25)
theorem k25_open {w : World} {x : S25} {cs : List Value} (h : k25.K w x cs) : ∃ A2 c2 A3 c3, cs = [.int .i64 x.f0, .string x.f1, .slice A2 x.f2.length c2, .slice A3 x.f3.length c3] ∧ x.f2.length ≤ c2 ∧ Kd.string.C w A2 x.f2.length x.f2 ∧ x.f3.length ≤ c3 ∧ k25.C w A3 x.f3.length x.f3 := by
 obtain ⟨n, h⟩ := h
 cases n with
 | zero => exact h.elim
 | succ n =>
  obtain ⟨_, _, rfl, rfl, ⟨_, _, rfl, rfl, ⟨_, _, rfl, ⟨A2, c2, rfl, l2, g2⟩, ⟨A3, c3, rfl, l3, g3⟩⟩⟩⟩ := h
  exact ⟨A2, c2, A3, c3, rfl, l2, g2, l3, Kd.fix_C g3⟩
theorem k25_openM {w : World} {base : Nat} {ok : Nat → Prop} {x : S25} {cs : List Value} (h : k25.M w base ok x cs) : ∃ v2 v3, cs = [.int .i64 x.f0, .string x.f1, v2, v3] ∧ Kd.string.R 9 w base ok v2 x.f2 ∧ k25.R 25 w base ok v3 x.f3 := by
 obtain ⟨n, h⟩ := h
 cases n with
 | zero => exact h.elim
 | succ n =>
  obtain ⟨_, _, rfl, rfl, ⟨_, _, rfl, rfl, ⟨_, _, rfl, ⟨v2, rfl, g2⟩, ⟨v3, rfl, g3⟩⟩⟩⟩ := h
  exact ⟨v2, v3, rfl, g2, Kd.fix_R g3⟩
theorem k25_mk (w : World) (x : S25) {A2 : Option Addr} {c2 : Nat} (l2 : x.f2.length ≤ c2) (g2 : Kd.string.C w A2 x.f2.length x.f2) {A3 : Option Addr} {c3 : Nat} (l3 : x.f3.length ≤ c3) (g3 : k25.C w A3 x.f3.length x.f3) : k25.K w x [.int .i64 x.f0, .string x.f1, .slice A2 x.f2.length c2, .slice A3 x.f3.length c3] := by
 obtain ⟨n3, q3⟩ := Kd.fix_C_back mono25 g3
 have r3 := Kd.upto_C_le mono25 sz25 (show n3 ≤ n3 by omega) q3
 exact ⟨n3 + 1, ⟨[.int .i64 x.f0], [.string x.f1, .slice A2 x.f2.length c2, .slice A3 x.f3.length c3], rfl, rfl, ⟨[.string x.f1], [.slice A2 x.f2.length c2, .slice A3 x.f3.length c3], rfl, rfl, ⟨[.slice A2 x.f2.length c2], [.slice A3 x.f3.length c3], rfl, ⟨A2, c2, rfl, l2, g2⟩, ⟨A3, c3, rfl, l3, r3⟩⟩⟩⟩⟩
theorem k25_mkM (w : World) (base : Nat) (ok : Nat → Prop) (x : S25) {v2 : Value} (g2 : Kd.string.R 9 w base ok v2 x.f2) {v3 : Value} (g3 : k25.R 25 w base ok v3 x.f3) : k25.M w base ok x [.int .i64 x.f0, .string x.f1, v2, v3] := by
 obtain ⟨n3, q3⟩ := Kd.fix_R_back mono25 g3
 have r3 := Kd.upto_R_le mono25 sz25 (show n3 ≤ n3 by omega) q3
 exact ⟨n3 + 1, ⟨[.int .i64 x.f0], [.string x.f1, v2, v3], rfl, rfl, ⟨[.string x.f1], [v2, v3], rfl, rfl, ⟨[v2], [v3], rfl, ⟨v2, rfl, g2⟩, ⟨v3, rfl, r3⟩⟩⟩⟩⟩
theorem k25_openF {W : World} {ok : Nat → Prop} {x : S25} {cs : List Value} (h : Kd.FK k25 W ok x cs) : ∃ A2 c2 A3 c3, cs = [.int .i64 x.f0, .string x.f1, .slice A2 x.f2.length c2, .slice A3 x.f3.length c3] ∧ x.f2.length ≤ c2 ∧ Kd.F Kd.string W ok A2 x.f2.length x.f2 ∧ x.f3.length ≤ c3 ∧ Kd.F k25 W ok A3 x.f3.length x.f3 := by
 obtain ⟨A2, c2, A3, c3, rfl, l2, _, l3, _⟩ := k25_open (Kd.FK_now h)
 exact ⟨A2, c2, A3, c3, rfl, l2, (fun W' hW => by obtain ⟨A2_, c2_, A3_, c3_, he, l2_, g2_, l3_, g3_⟩ := k25_open (h W' hW); injection (Option.some.inj (show some (Value.slice A2 x.f2.length c2) = some (Value.slice A2_ x.f2.length c2_) from congrArg (fun l => l[2]?) he)) with ha_ _ _; rw [ha_]; exact g2_), l3, (fun W' hW => by obtain ⟨A2_, c2_, A3_, c3_, he, l2_, g2_, l3_, g3_⟩ := k25_open (h W' hW); injection (Option.some.inj (show some (Value.slice A3 x.f3.length c3) = some (Value.slice A3_ x.f3.length c3_) from congrArg (fun l => l[3]?) he)) with ha_ _ _; rw [ha_]; exact g3_)⟩
def rd_T25 (xs : List S25) (i : Int) : S25 := xs.getD i.toNat z25
theorem at_T25 {w : World} {A : Option Addr} {n : Nat} {xs : List S25} (h : Kd.C k25 w A n xs) (i : Int) (h0 : 0 ≤ i) (h1 : i < n) : ∃ ad A2 c2 A3 c3, A = some ad ∧ w.cell? (ad.add (i.toNat * 4)) = some (.int .i64 (rd_T25 xs i).f0) ∧ w.cell? ⟨(ad.add (i.toNat * 4)).block, (ad.add (i.toNat * 4)).off + 1, none⟩ = some (.string (rd_T25 xs i).f1) ∧ w.cell? ⟨(ad.add (i.toNat * 4)).block, (ad.add (i.toNat * 4)).off + 2, none⟩ = some (.slice A2 (rd_T25 xs i).f2.length c2) ∧ w.cell? ⟨(ad.add (i.toNat * 4)).block, (ad.add (i.toNat * 4)).off + 3, none⟩ = some (.slice A3 (rd_T25 xs i).f3.length c3) ∧ (rd_T25 xs i).f2.length ≤ c2 ∧ Kd.string.C w A2 (rd_T25 xs i).f2.length (rd_T25 xs i).f2 ∧ (rd_T25 xs i).f3.length ≤ c3 ∧ k25.C w A3 (rd_T25 xs i).f3.length (rd_T25 xs i).f3 := by
 obtain ⟨ad, c, e, _, hK, hc0⟩ := Kd.C_get h z25 i h0 h1
 have hc : ∀ j u, c[j]? = some u → w.cell? (ad.add (i.toNat * 4 + j)) = some u := hc0
 obtain ⟨A2, c2, A3, c3, rfl, l2, g2, l3, g3⟩ := k25_open hK
 exact ⟨ad, A2, c2, A3, c3, e, hc 0 _ rfl, by rw [← add_field _ _ 1 (by omega)]; exact hc 1 _ rfl, by rw [← add_field _ _ 2 (by omega)]; exact hc 2 _ rfl, by rw [← add_field _ _ 3 (by omega)]; exact hc 3 _ rfl, l2, g2, l3, g3⟩
end Go.Proofs.YtpdelcbkcebkpaaGreatDoor.X
namespace Go.Proofs.YtpdelcbkcebkpaaGreatDoor.X
abbrev J := S25
inductive Out (α : Type)
 | val (a : α) (p : Nat)
 | err (e p : Nat)
def isBl (c : UInt8) : Bool := c == 32 || c == 9 || c == 10 || c == 13
def isDg (c : UInt8) : Bool := decide (48 ≤ c.toNat ∧ c.toNat ≤ 57)
def blanksF (s : List UInt8) (p : Nat) : Nat := p + ((s.drop p).takeWhile isBl).length
def wordF (s : List UInt8) : List UInt8 → Nat → Out Unit
 | [], p => .val () p
 | c :: w, p => match s[p]? with
  | none => .err 3 s.length
  | some x => if x = c then wordF s w (p + 1) else .err 40 p
def digsF (l : List UInt8) : Nat := (l.takeWhile isDg).length
def litE (l : List UInt8) (i : Nat) : Nat × Bool :=
 match l[i]? with
 | some c =>
  if c = 101 ∨ c = 69 then
   (let j := match l[i + 1]? with | some d => if d = 43 ∨ d = 45 then i + 2 else i + 1 | none => i + 1
    if digsF (l.drop j) = 0 then (j, false) else (j + digsF (l.drop j), true))
  else (i, true)
 | none => (i, true)
def litD (l : List UInt8) (i : Nat) : Nat × Bool :=
 if l[i]? = some 46 then (if digsF (l.drop (i + 1)) = 0 then (i + 1, false) else litE l (i + 1 + digsF (l.drop (i + 1)))) else litE l i
def litF (l : List UInt8) : Nat × Bool :=
 let i := if l[0]? = some 45 then 1 else 0
 if l[i]? = some 48 then litD l (i + 1) else if digsF (l.drop i) = 0 then (i, false) else litD l (i + digsF (l.drop i))
def numberF (s : List UInt8) (p : Nat) : Out (List UInt8) :=
 if (litF (s.drop p)).2 = true then .val ((s.drop p).take (litF (s.drop p)).1) (p + (litF (s.drop p)).1)
 else if s.length ≤ p + (litF (s.drop p)).1 then .err 3 s.length else .err 44 (p + (litF (s.drop p)).1)
def hexF (c : UInt8) : Option Nat :=
 if 48 ≤ c.toNat ∧ c.toNat ≤ 57 then some (c.toNat - 48) else if 97 ≤ c.toNat ∧ c.toNat ≤ 102 then some (c.toNat - 87) else if 65 ≤ c.toNat ∧ c.toNat ≤ 70 then some (c.toNat - 55) else none
def fourF (s : List UInt8) : Nat → Nat → Nat → Out Nat
 | 0, x, p => .val x p
 | k + 1, x, p => match s[p]? with
  | none => .err 3 s.length
  | some c => match hexF c with
   | none => .err 42 p
   | some h => fourF s k (x * 16 + h) (p + 1)
def escdF (c : UInt8) : Option Nat :=
 if c = 34 ∨ c = 92 ∨ c = 47 then some c.toNat else if c = 98 then some 8 else if c = 102 then some 12 else if c = 110 then some 10 else if c = 114 then some 13 else if c = 116 then some 9 else none
def mustF (s : List UInt8) (from_ : Nat) : List UInt8 → Nat → Out Unit
 | [], p => .val () p
 | c :: w, p => match s[p]? with
  | none => .err 3 s.length
  | some x => if x = c then mustF s from_ w (p + 1) else .err 43 from_
def escF (s : List UInt8) (from_ : Nat) : Out Nat :=
 match s[from_ + 1]? with
 | none => .err 3 s.length
 | some c => match escdF c with
  | some x => .val x (from_ + 2)
  | none =>
   if c = 117 then
    match fourF s 4 0 (from_ + 2) with
    | .err e p => .err e p
    | .val x p =>
     if 0xdc00 ≤ x ∧ x ≤ 0xdfff then .err 43 from_
     else if 0xd800 ≤ x ∧ x ≤ 0xdbff then
      match mustF s from_ [92, 117] p with
      | .err e p => .err e p
      | .val _ p => match fourF s 4 0 p with
       | .err e p => .err e p
       | .val y p => if y < 0xdc00 ∨ 0xdfff < y then .err 43 from_ else .val (0x10000 + (x - 0xd800) * 0x400 + (y - 0xdc00)) p
     else .val x p
   else .err 42 (from_ + 1)
def fullF (l : List UInt8) : Bool :=
 match l with
 | [] => false
 | c :: r =>
  let n := if c.toNat < 194 then 1 else if c.toNat < 224 then 2 else if c.toNat < 240 then 3 else if c.toNat < 245 then 4 else 1
  if n ≤ l.length then true
  else
   let lo := if c.toNat = 224 then 160 else if c.toNat = 240 then 144 else 128
   let hi := if c.toNat = 237 then 159 else if c.toNat = 244 then 143 else 191
   match r with
   | [] => false
   | d :: r2 => if d.toNat < lo ∨ hi < d.toNat then true else match r2 with
    | [] => false
    | e :: _ => decide (e.toNat < 128 ∨ 191 < e.toNat)
def textF (s : List UInt8) : Nat → List UInt8 → Nat → Option (Out (List UInt8))
 | 0, _, _ => none
 | k + 1, out, p => match s[p]? with
  | none => some (.err 3 s.length)
  | some c =>
   if c = 34 then some (.val out (p + 1))
   else if c.toNat < 32 then some (.err 41 p)
   else if c = 92 then
    match escF s p with
    | .err e q => some (.err e q)
    | .val r q => textF s k (out ++ Lib.encodeRune r) q
   else if c.toNat < 128 then textF s k (out ++ [c]) (p + 1)
   else if (Lib.decodeGo ⟨(s.drop p).toArray⟩).1 = 65533 ∧ (Lib.decodeGo ⟨(s.drop p).toArray⟩).2 < 2 then
    (if fullF (s.drop p) = true then some (.err 43 p) else some (.err 3 s.length))
   else textF s k (out ++ (s.drop p).take (Lib.decodeGo ⟨(s.drop p).toArray⟩).2) (p + (Lib.decodeGo ⟨(s.drop p).toArray⟩).2)
def sevL {α : Type} (one : α → Nat → Option (Out α)) (s : List UInt8) (en : UInt8) : Nat → α → Nat → Option (Out α)
 | 0, _, _ => none
 | k + 1, a, q => match one a q with
  | none => none
  | some (.err e p) => some (.err e p)
  | some (.val a' q1) => match s[blanksF s q1]? with
   | none => some (.err 3 s.length)
   | some c =>
    if c = en then some (.val a' (blanksF s q1 + 1))
    else if c = 44 then sevL one s en k a' (blanksF s (blanksF s q1 + 1))
    else some (.err 40 (blanksF s q1))
def sevF {α : Type} (one : α → Nat → Option (Out α)) (s : List UInt8) (en : UInt8) (k : Nat) (a : α) (p : Nat) : Option (Out α) :=
 match s[blanksF s (p + 1)]? with
 | none => some (.err 3 s.length)
 | some c => if c = en then some (.val a (blanksF s (p + 1) + 1)) else sevL one s en k a (blanksF s (p + 1))
def Out.map {α β : Type} (f : α → β) : Out α → Out β
 | .val a p => .val (f a) p
 | .err e p => .err e p
def bsJ (l : List UInt8) : ByteArray := ⟨l.toArray⟩
def oneI (v : Nat → Option (Out J)) (a : List J) (q : Nat) : Option (Out (List J)) := (v q).map (Out.map fun x => a ++ [x])
def oneM (v : Nat → Option (Out J)) (s : List UInt8) (k : Nat) (a : List ByteArray × List J) (q : Nat) : Option (Out (List ByteArray × List J)) :=
 match s[q]? with
 | none => some (.err 3 s.length)
 | some c =>
  if c = 34 then
   match textF s k [] (q + 1) with
   | none => none
   | some (.err e p) => some (.err e p)
   | some (.val nm q1) =>
    if nm ∈ a.1.map (fun b => b.data.toList) then some (.err 45 q)
    else match s[blanksF s q1]? with
     | none => some (.err 3 s.length)
     | some c =>
      if c = 58 then (v (blanksF s (blanksF s q1 + 1))).map (Out.map fun x => (a.1 ++ [bsJ nm], a.2 ++ [x]))
      else some (.err 40 (blanksF s q1))
  else some (.err 40 q)
def valueF (s : List UInt8) (k : Nat) : Nat → Nat → Option (Out J)
 | r, p => match s[p]? with
  | none => some (.err 3 s.length)
  | some c =>
   if c = 110 then some ((wordF s [110, 117, 108, 108] p).map fun _ => ⟨0, bsJ [], [], []⟩)
   else if c = 116 then some ((wordF s [116, 114, 117, 101] p).map fun _ => ⟨2, bsJ [], [], []⟩)
   else if c = 102 then some ((wordF s [102, 97, 108, 115, 101] p).map fun _ => ⟨1, bsJ [], [], []⟩)
   else if c = 45 ∨ isDg c = true then some ((numberF s p).map fun t => ⟨3, bsJ t, [], []⟩)
   else if c = 34 then (textF s k [] (p + 1)).map (Out.map fun t => ⟨4, bsJ t, [], []⟩)
   else if c = 91 ∨ c = 123 then
    match r with
    | 0 => some (.err 46 p)
    | r + 1 =>
     if c = 91 then (sevF (oneI (valueF s k r)) s 93 k [] p).map (Out.map fun a => ⟨5, bsJ [], [], a⟩)
     else (sevF (oneM (valueF s k r) s k) s 125 k ([], []) p).map (Out.map fun a => ⟨6, bsJ [], a.1, a.2⟩)
   else some (.err 40 p)
def parseJ (s : List UInt8) (k : Nat) : Option (Out J) :=
 if 16384 < s.length then some (.err 1 0)
 else match valueF s k 32 (blanksF s 0) with
  | none => none
  | some (.err e p) => some (.err e p)
  | some (.val v q) => if blanksF s q < s.length then some (.err 4 (blanksF s q)) else some (.val v 0)
end Go.Proofs.YtpdelcbkcebkpaaGreatDoor.X
namespace Go.Proofs.YtpdelcbkcebkpaaGreatDoor.X
open Go.RowKit Go.Proofs.YtpdelcbkcebkpaaGreatDoorW.PrintWords
def bs (l : List UInt8) : ByteArray := ⟨l.toArray⟩
theorem bs_size (l : List UInt8) : (bs l).size = l.length := by simp [bs, ByteArray.size]
theorem size_data (b : ByteArray) : b.data.toList.length = b.size := by rw [Array.length_toList]; rfl
theorem toList_data (b : ByteArray) : b.toList = b.data.toList := ByteArray.toList_eq b
theorem data_bs (l : List UInt8) : (bs l).data.toList = l := rfl
theorem bs_eq (a : ByteArray) : bs a.data.toList = a := by simp [bs]
theorem extract_bs (a : ByteArray) (i j : Nat) : a.extract i j = bs ((a.data.toList.drop i).take (j - i)) := by
 rw [← bs_eq (a.extract i j), Lib.extract_data]
theorem wr (n : Int) (h : -9223372036854775808 ≤ n ∧ n ≤ 9223372036854775807) : wrap64 n = n := (IntWalk.i64_left n).symm.trans (IntWalk.i64_in n h)
theorem tw_le (p : UInt8 → Bool) (l : List UInt8) : (l.takeWhile p).length ≤ l.length := (List.takeWhile_prefix p).length_le
theorem blk_free {w : World} {b : Nat} {c : Array Value} {t : TypeId} (h : w.heap[b]? = some (.cells c t (0, 0))) (k : Nat) : w.frozen? ⟨b, k, none⟩ = false := by simp [World.frozen?, h]
theorem blk_set {w : World} {b : Nat} {c : Array Value} {t : TypeId} {f : Nat × Nat} (k : Nat) (v : Value) (h : w.heap[b]? = some (.cells c t f)) : (w.setCell ⟨b, k, none⟩ v).heap[b]? = some (.cells (c.setIfInBounds k v) t f) := by
 obtain ⟨hlt, he⟩ := Array.getElem?_eq_some_iff.1 h
 show (w.heap.modify b _)[b]? = _
 rw [Array.getElem?_eq_getElem (by rw [Array.size_modify]; exact hlt), Array.getElem_modify_self, he]
 rfl
theorem own_slice {w : World} {base : Nat} {e : TypeId} {size n : Nat} {v : Value} {xs : List Value} (h : w.ownsRow base e size v n xs) : ∃ A c, v = .slice A n c := by
 rcases h.2 with ⟨rfl, rfl⟩ | ⟨g, cap, cur, rfl, _⟩
 ·exact ⟨_, _, rfl⟩
 ·exact ⟨_, _, rfl⟩
structure On (R : Nat) (W W' : World) : Prop where
 below : Below R W W'
 kept : ∀ b, b ≠ R → b < W.heap.size → W'.heap[b]? = W.heap[b]?
 size : W.heap.size ≤ W'.heap.size
theorem On.refl (R : Nat) (W : World) : On R W W := ⟨Below.refl _ _, fun _ _ _ => rfl, Nat.le_refl _⟩
theorem On.trans {R : Nat} {W W1 W2 : World} (h : On R W W1) (h' : On R W1 W2) : On R W W2 :=
 ⟨h.below.trans h'.below, fun b hb hl => (h'.kept b hb (Nat.lt_of_lt_of_le hl h.size)).trans (h.kept b hb hl), Nat.le_trans h.size h'.size⟩
theorem On.of_below {R : Nat} {W W' : World} (hR : R ≤ W.heap.size) (h : Below W.heap.size W W') : On R W W' := ⟨h.mono hR, fun b _ hl => h.block b hl, h.size⟩
theorem On.set {R : Nat} {W W' : World} (h : On R W W') (k : Nat) (v : Value) : On R W (W'.setCell ⟨R, k, none⟩ v) :=
 ⟨h.below.setCell (Nat.le_refl _) _, fun b hb hl => (Below.heap_setCell _ _ _ _ hb).trans (h.kept b hb hl), by rw [World.size_setCell]; exact h.size⟩
theorem On.drewN {R : Nat} {W W' : World} (h : On R W W') (n : Nat) : On R W (W'.drewN n) := ⟨below_drewN h.below n, h.kept, h.size⟩
def RdB (R : Nat) (s : ByteArray) (p : Int) (W : World) : Prop := W.heap[R]? = some (.cells #[.string s, .int .i64 p] 107 (0, 0))
theorem RdB.lt {R : Nat} {s : ByteArray} {p : Int} {W : World} (h : RdB R s p W) : R < W.heap.size := lt_of_block h
theorem RdB.below {R : Nat} {s : ByteArray} {p : Int} {W W' : World} (h : RdB R s p W) (hb : Below W.heap.size W W') : RdB R s p W' := (hb.block R h.lt).trans h
theorem RdB.set {R : Nat} {s : ByteArray} {p : Int} {W : World} (h : RdB R s p W) (q : Int) : RdB R s q (W.setCell ⟨R, 1, none⟩ (.int .i64 q)) := by
 unfold RdB at h ⊢
 rw [blk_set _ _ h]
 rfl
abbrev flt (e a : Int) : Value := .iface 103 (.agg #[.int .i64 e, .int .i64 a])
abbrev pan (e a : Int) : Ending := .panicked [{ v := flt e a, recovered := false }]
abbrev ptr (R : Nat) : Value := .pointer (some ⟨R, 0, none⟩)
theorem dr_trans {w w1 w2 : World} (h : Drawn0 w w1) (k : Drawn0 w1 w2) : Drawn0 w w2 := by
 obtain ⟨n, rfl⟩ := k
 exact h.step n
theorem RdB.drawn {R : Nat} {s : ByteArray} {p : Int} {W W' : World} (h : RdB R s p W) (hb : Drawn0 W W') : RdB R s p W' := by
 obtain ⟨n, rfl⟩ := hb
 exact h
theorem RdB.drewN {R : Nat} {s : ByteArray} {p : Int} {W : World} (h : RdB R s p W) (n : Nat) : RdB R s p (W.drewN n) := h
theorem RdB.drew {R : Nat} {s : ByteArray} {p : Int} {W : World} (h : RdB R s p W) : RdB R s p W.drew := h
theorem On.drawn {R : Nat} {W W' W1 : World} (h : On R W W') (hb : Drawn0 W' W1) : On R W W1 := by
 obtain ⟨n, rfl⟩ := hb
 exact h.drewN n
theorem fail_calls (r : Value) (e a : Int) (W : World) : Calls Tryz.prog 57 #[r, .int .i64 e, .int .i64 a] W fun x W' => x = pan e a ∧ Drawn0 W W' := by
 go_enter Tryz.func57, Tryz.ntmps57
 go_wp2
 exact ⟨rfl, rfl, Drawn0.refl _⟩
theorem short_calls (R : Nat) (s : ByteArray) (p : Int) (W : World) (h : RdB R s p W) : Calls Tryz.prog 135 #[ptr R] W fun x W' => x = pan 3 s.size ∧ Drawn0 W W' := by
 have d0 := blk_cell h 0
 dsimp at d0
 go_enter Tryz.func135, Tryz.ntmps135
 go_wp2_with (go_at_call 57; (with_reducible refine (fail_calls _ _ _ _).mono ?_); rintro e w1 ⟨rfl, hb⟩; have HB := am hb; clear hb)
 exact ⟨rfl, rfl, HB.out⟩
theorem peek_short (R : Nat) (s : ByteArray) (p : Nat) (hp : s.size ≤ p) (W : World) (h : RdB R s p W) : Calls Tryz.prog 104 #[ptr R] W fun x W' => x = pan 3 s.size ∧ Drawn0 W W' := by
 have H := am h
 have d0 := blk_cell h 0
 have d1 := blk_cell h 1
 dsimp at d0 d1
 clear h
 have hge : (s.size : Int) ≤ (p : Int) := by omega
 have hge1 : decide ((s.size : Int) ≤ (p : Int)) = true := decide_eq_true hge
 go_enter Tryz.func104, Tryz.ntmps104
 go_wp2
 go_quiet (fail)
 go_wp2_with (go_at_call 135; (with_reducible refine (short_calls R s p _ ?rd).mono ?_); (case rd => exact H.out.drawn ((Drawn0.refl _).step _)); rintro e w1 ⟨rfl, hb⟩; have HB := am hb; clear hb)
 exact ⟨rfl, rfl, dr_trans ((Drawn0.refl W).step _) HB.out⟩
theorem byte_at (s : ByteArray) (p : Nat) (c : UInt8) (h : s.data.toList[p]? = some c) : ∃ hp : p < s.size, s[p]'hp = c := by
 obtain ⟨h1, h2⟩ := List.getElem?_eq_some_iff.1 h
 exact ⟨by rw [size_data] at h1; exact h1, h2⟩
theorem peek_ok (R : Nat) (s : ByteArray) (p : Nat) (c : UInt8) (hc : s.data.toList[p]? = some c) (W : World) (h : RdB R s p W) : Calls Tryz.prog 104 #[ptr R] W fun x W' => x = .returned (.int .u8 c.toNat) ∧ Drawn0 W W' := by
 have H := am h
 have d0 := blk_cell h 0
 have d1 := blk_cell h 1
 dsimp at d0 d1
 clear h
 obtain ⟨hp, hb⟩ := byte_at s p c hc
 have HX := am hb
 clear hb hc
 have hlt : ¬ (s.size : Int) ≤ (p : Int) := by omega
 have hlt1 : decide ((s.size : Int) ≤ (p : Int)) = false := decide_eq_false hlt
 have hi0 : (0 : Int) ≤ (p : Int) := by omega
 have hi1 : (p : Int) < (s.size : Int) := by omega
 go_enter Tryz.func104, Tryz.ntmps104
 go_wp2
 go_quiet (fail)
 go_wp2
 go_quiet (fail)
 go_wp2
 go_ret
 have e := HX.out
 exact ⟨by rw [← e]; rfl, ((Drawn0.refl W).step _).step _⟩
def Ends {α : Type} (R : Nat) (s : ByteArray) (W : World) (o : Out α) (val : α → Value → World → Prop) (x : Ending) (W' : World) : Prop :=
 On R W W' ∧ match o with
  | .val a q => ∃ v, x = .returned v ∧ val a v W' ∧ RdB R s q W'
  | .err e q => x = pan e q
def unitV (_ : Unit) (v : Value) (_ : World) : Prop := v = .tuple #[]
def Lit (B C : Nat) (l : ByteArray) (i : Nat) (W : World) : Prop := W.heap[B]? = some (.cells #[.string l] 9 (0, 0)) ∧ W.heap[C]? = some (.cells #[.int .i64 i] 3 (0, 0)) ∧ B ≠ C
theorem Lit.below {B C : Nat} {l : ByteArray} {i : Nat} {W W' : World} (h : Lit B C l i W) (hb : Below W.heap.size W W') : Lit B C l i W' := ⟨(hb.block B (lt_of_block h.1)).trans h.1, (hb.block C (lt_of_block h.2.1)).trans h.2.1, h.2.2⟩
theorem Lit.set {B C : Nat} {l : ByteArray} {i : Nat} {W : World} (h : Lit B C l i W) (q : Nat) : Lit B C l q (W.setCell ⟨C, 0, none⟩ (.int .i64 q)) := by
 obtain ⟨h1, h2, h3⟩ := h
 refine ⟨(Below.heap_setCell _ _ _ _ h3).trans h1, ?_, h3⟩
 rw [blk_set _ _ h2]
 rfl
theorem bt_eq (s : ByteArray) (p : Nat) (c : UInt8) (h : p < s.size) : (((s[p]'h).toNat : Int) == (c.toNat : Int)) = decide (s.data.toList[p]? = some c) := by
 have e : s.data.toList[p]? = some (s[p]'h) := by rw [List.getElem?_eq_getElem (by rw [size_data]; exact h)]; rfl
 rw [e]
 by_cases hc : s[p]'h = c
 ·rw [hc]; simp
 ·have : ¬ ((s[p]'h).toNat : Int) = (c.toNat : Int) := fun hh => hc (UInt8.toNat.inj (by omega))
  simp [hc, this]
theorem is_calls (B C : Nat) (l : ByteArray) (i : Nat) (c : UInt8) (n : Int) (hn : n = (c.toNat : Int)) (W : World) (h : Lit B C l i W) :
  Calls Tryz.prog 170 #[.int .u8 n, .pointer (some ⟨C, 0, none⟩), .pointer (some ⟨B, 0, none⟩)] W fun x W' => x = .returned (.bool (decide (l.data.toList[i]? = some c))) ∧ Below W.heap.size W W' := by
 have d0 := blk_cell h.1 0
 have d1 := blk_cell h.2.1 0
 dsimp at d0 d1
 subst hn
 by_cases hlt : i < l.size
 ·have HX := am (bt_eq l i c hlt)
  have hlt' : (i : Int) < (l.size : Int) := by omega
  have hi0 : (0 : Int) ≤ (i : Int) := by omega
  go_enter Tryz.func170, Tryz.ntmps170
  go_wp2
  go_ret
  exact ⟨congrArg (fun b => Ending.returned (.bool b)) HX.out, Below.refl _ _⟩
 ·have HX := am (show decide (l.data.toList[i]? = some c) = false by rw [List.getElem?_eq_none (by rw [size_data]; omega)]; rfl)
  have hlt' : ¬ (i : Int) < (l.size : Int) := by omega
  go_enter Tryz.func170, Tryz.ntmps170
  go_wp2
  go_ret
  exact ⟨rfl, Below.refl _ _⟩
theorem digs_step (l : List UInt8) (i : Nat) (c : UInt8) (hc : l[i]? = some c) (hd : isDg c = true) : digsF (l.drop i) = digsF (l.drop (i + 1)) + 1 := by
 obtain ⟨hi, rfl⟩ := List.getElem?_eq_some_iff.1 hc
 unfold digsF
 rw [List.drop_eq_getElem_cons hi, List.takeWhile_cons, if_pos hd]
 rfl
theorem digs_stop (l : List UInt8) (i : Nat) (h : ∀ c, l[i]? = some c → isDg c = false) : digsF (l.drop i) = 0 := by
 unfold digsF
 by_cases hi : i < l.length
 ·rw [List.drop_eq_getElem_cons hi, List.takeWhile_cons, if_neg (by rw [h _ (List.getElem?_eq_getElem hi)]; simp)]
  rfl
 ·rw [List.drop_of_length_le (by omega)]
  rfl
theorem digs_len (l : List UInt8) (i : Nat) (h : i ≤ l.length) : i + digsF (l.drop i) ≤ l.length := by
 have := tw_le isDg (l.drop i)
 unfold digsF
 rw [List.length_drop] at this
 omega
theorem dg_iff (c : UInt8) : isDg c = (decide ((48 : Int) ≤ (c.toNat : Int)) && decide ((c.toNat : Int) ≤ 57)) := by
 unfold isDg
 rw [Bool.eq_iff_iff]
 simp
 omega
theorem digits_calls (B C : Nat) (l : ByteArray) (i : Nat) (hl : l.size ≤ 9223372036854775807) (hi : i ≤ l.size) (W : World) (h : Lit B C l i W) :
  Calls Tryz.prog 171 #[.pointer (some ⟨C, 0, none⟩), .pointer (some ⟨B, 0, none⟩)] W fun x W' => x = .returned (.int .i64 (digsF (l.data.toList.drop i) : Nat)) ∧ Lit B C l (i + digsF (l.data.toList.drop i)) W' ∧ On C W W' := by
 go_enter Tryz.func171, Tryz.ntmps171
 go_wp2
 go_loopw [3] (fun v wr => ∃ n : Nat, v = .int .i64 n ∧ i + n ≤ l.size ∧ n + digsF (l.data.toList.drop (i + n)) = digsF (l.data.toList.drop i) ∧ Lit B C l (i + n) wr ∧ On C W wr) (fun v _ => l.size - (intOf v).toNat)
 case atStart => exact ⟨0, rfl, by omega, by simp, h, On.refl _ _⟩
 case round =>
  obtain ⟨n, rfl, hn, hd, hL, hO⟩ := hrel
  have d0 := blk_cell hL.1 0
  have d1 := blk_cell hL.2.1 0
  have fz := blk_free hL.2.1 0
  dsimp at d0 d1
  have HD := am hd
  have HL := am hL
  have HO := am hO
  clear hd hL hO
  cases hc : l.data.toList[i + n]? with
  | none =>
   have HC := am hc
   have hge : ¬ ((i + n : Nat) : Int) < (l.size : Int) := by rw [List.getElem?_eq_none_iff, size_data] at hc; omega
   clear hc
   go_wp2
   go_ret
   have e0 : digsF (l.data.toList.drop (i + n)) = 0 := digs_stop _ _ (fun c hc => by rw [HC.out] at hc; cases hc)
   have e := HD.out
   rw [e0] at e
   rw [← e]
   exact ⟨rfl, HL.out, HO.out⟩
  | some c =>
   obtain ⟨hp, rfl⟩ := byte_at l (i + n) c hc
   have HC := am hc
   clear hc
   have hlt : (i : Int) + (n : Int) < (l.size : Int) := by omega
   have h0 : (0 : Int) ≤ (i : Int) + (n : Int) := by omega
   have stop : isDg l[i + n] = false → n = digsF (l.data.toList.drop i) := fun hf => by
    have e := HD.out
    rw [digs_stop _ _ (fun c hc => by rw [HC.out] at hc; injection hc with hc; rw [← hc]; exact hf)] at e
    exact e
   have STOP := am stop
   clear stop
   by_cases h48 : (48 : Int) ≤ (l[i + n].toNat : Int)
   ·by_cases h57 : (l[i + n].toNat : Int) ≤ 57
    ·have HN := am (digs_step _ _ _ HC.out (by rw [dg_iff]; simp; omega))
     have HL1 := am (HL.out.set (i + n + 1))
     have HO1 := am (HO.out.set 0 (.int .i64 ((i + n + 1 : Nat) : Int)))
     go_wp2
     go_roundw
     case rel => exact ⟨n + 1, by go_num, by omega, by have := HD.out; have := HN.out; rw [← Nat.add_assoc]; omega, by have e := HL1.out; rw [show ((i + n + 1 : Nat) : Int) = (i : Int) + n + 1 by omega] at e; exact e, by have e := HO1.out; rw [show ((i + n + 1 : Nat) : Int) = (i : Int) + n + 1 by omega] at e; exact e⟩
     case measure => simp [intOf]; omega
    ·have HS := am (STOP.out (by rw [dg_iff]; simp; omega))
     go_wp2
     go_ret
     have e := HS.out
     rw [← e]
     exact ⟨rfl, HL.out, HO.out⟩
   ·have HS := am (STOP.out (by rw [dg_iff]; simp; omega))
    go_wp2
    go_ret
    have e := HS.out
    rw [← e]
    exact ⟨rfl, HL.out, HO.out⟩
abbrev lit0 (l : List UInt8) : Nat := if l[0]? = some 45 then 1 else 0
theorem lit0_le (l : ByteArray) : lit0 l.data.toList ≤ l.size := by
 unfold lit0
 split
 ·rename_i h
  obtain ⟨h, _⟩ := List.getElem?_eq_some_iff.1 h
  rw [size_data] at h
  omega
 ·omega
theorem at_lt (l : ByteArray) (i : Nat) (c : UInt8) (h : l.data.toList[i]? = some c) : i + 1 ≤ l.size := by
 obtain ⟨h, _⟩ := List.getElem?_eq_some_iff.1 h
 rw [size_data] at h
 omega
theorem lit_start (w : World) (l : ByteArray) : Lit w.heap.size (w.heap.size + 1) l 0 ((w.alloc (Obj.cells #[Value.string l] 9)).alloc (Obj.cells #[Value.int IntKind.i64 0] 3)) ∧ Below w.heap.size w ((w.alloc (Obj.cells #[Value.string l] 9)).alloc (Obj.cells #[Value.int IntKind.i64 0] 3)) := by
 refine ⟨⟨?_, ?_, by omega⟩, below_alloc (below_alloc (Below.refl _ _) _) _⟩
 ·exact heap_alloc2_old _ _ _
 ·exact heap_alloc2_new _ _ _
theorem is_at (B C : Nat) (l : ByteArray) (i : Nat) (c : UInt8) (n : Int) (W : World) (h : Lit B C l i W) (hn : n = (c.toNat : Int)) (w0 : World) (hw : Below w0.heap.size w0 W) :
  Calls Tryz.prog 170 #[.int .u8 n, .pointer (some ⟨C, 0, none⟩), .pointer (some ⟨B, 0, none⟩)] W fun x W' => ∃ b : Bool, Aside0 (b = decide (l.data.toList[i]? = some c)) ∧ x = .returned (.bool b) ∧ Aside0 (Lit B C l i W' ∧ Below w0.heap.size w0 W') :=
 (is_calls B C l i c n hn W h).mono fun x W' ⟨h1, h2⟩ => ⟨_, am rfl, h1, am ⟨h.below h2, hw.trans (h2.mono hw.size)⟩⟩
theorem is_as (b : Bool) (B C : Nat) (l : ByteArray) (i : Nat) (c : UInt8) (n : Int) (W : World) (h : Lit B C l i W) (hn : n = (c.toNat : Int)) (w0 : World) (hw : Below w0.heap.size w0 W) (hb : decide (l.data.toList[i]? = some c) = b) :
  Calls Tryz.prog 170 #[.int .u8 n, .pointer (some ⟨C, 0, none⟩), .pointer (some ⟨B, 0, none⟩)] W fun x W' => x = .returned (.bool b) ∧ Aside0 (Lit B C l i W' ∧ Below w0.heap.size w0 W') :=
 (is_calls B C l i c n hn W h).mono fun x W' ⟨h1, h2⟩ => ⟨by rw [h1, hb], am ⟨h.below h2, hw.trans (h2.mono hw.size)⟩⟩
theorem digits_at (B C : Nat) (l : ByteArray) (i : Nat) (hl : l.size ≤ 9223372036854775807) (hi : i ≤ l.size) (W : World) (h : Lit B C l i W) (w0 : World) (hw : Below w0.heap.size w0 W) (hC : w0.heap.size ≤ C) :
  Calls Tryz.prog 171 #[.pointer (some ⟨C, 0, none⟩), .pointer (some ⟨B, 0, none⟩)] W fun x W' => x = .returned (.int .i64 (digsF (l.data.toList.drop i) : Nat)) ∧ Aside0 (Lit B C l (i + digsF (l.data.toList.drop i)) W' ∧ Below w0.heap.size w0 W') :=
 (digits_calls B C l i hl hi W h).mono fun x W' ⟨h1, h2, h3⟩ => ⟨h1, am ⟨h2, hw.trans (h3.below.mono hC)⟩⟩
theorem set_at {B C : Nat} {l : ByteArray} {i : Nat} {W w0 : World} (h : Aside0 (Lit B C l i W ∧ Below w0.heap.size w0 W)) (hC : w0.heap.size ≤ C) (q : Nat) (v : Int) (hv : v = (q : Int)) : Aside0 (Lit B C l q (W.setCell ⟨C, 0, none⟩ (.int .i64 v)) ∧ Below w0.heap.size w0 (W.setCell ⟨C, 0, none⟩ (.int .i64 v))) := by
 subst hv
 exact am ⟨h.out.1.set q, h.out.2.setCell hC _⟩
def litX (l : List UInt8) (i : Nat) : Nat × Bool :=
 let j := match l[i + 1]? with | some d => if d = 43 ∨ d = 45 then i + 2 else i + 1 | none => i + 1
 if digsF (l.drop j) = 0 then (j, false) else (j + digsF (l.drop j), true)
theorem litE_yes (l : List UInt8) (i : Nat) (h : l[i]? = some 101 ∨ l[i]? = some 69) : litE l i = litX l i := by
 unfold litE litX
 rcases h with h | h <;> (simp only [h]; exact if_pos (by decide))
theorem litE_no (l : List UInt8) (i : Nat) (h : ¬ (l[i]? = some 101 ∨ l[i]? = some 69)) : litE l i = (i, true) := by
 unfold litE
 cases hc : l[i]? with
 | none => rfl
 | some c => rw [hc] at h; simp at h; simp [h]
theorem litX_yes (l : List UInt8) (i : Nat) (h : l[i + 1]? = some 43 ∨ l[i + 1]? = some 45) : litX l i = if digsF (l.drop (i + 2)) = 0 then (i + 2, false) else (i + 2 + digsF (l.drop (i + 2)), true) := by
 unfold litX
 rcases h with h | h <;> simp [h]
theorem litX_no (l : List UInt8) (i : Nat) (h : ¬ (l[i + 1]? = some 43 ∨ l[i + 1]? = some 45)) : litX l i = if digsF (l.drop (i + 1)) = 0 then (i + 1, false) else (i + 1 + digsF (l.drop (i + 1)), true) := by
 unfold litX
 cases hc : l[i + 1]? with
 | none => rfl
 | some c => rw [hc] at h; simp at h; simp [h]
set_option maxHeartbeats 2000000 in
theorem literal_calls (l : ByteArray) (hl : l.size ≤ 9223372036854775806) (w : World) :
  Calls Tryz.prog 136 #[.string l] w fun x W' => x = .returned (.tuple #[.int .i64 ((litF l.data.toList).1 : Nat), .bool (litF l.data.toList).2]) ∧ Below w.heap.size w W' := by
 have hmf : ∀ (fn : Fn) (first cap : Array Value) (w : World), (Instr.makeFunc fn first cap).run Tryz.prog w = .ok (.func fn first cap) w := fun _ _ _ _ => rfl
 have ST := am (lit_start w l)
 go_enter Tryz.func136, Tryz.ntmps136
 go_upto_if 10 with (go_at_call 170; (with_reducible refine (is_at w.heap.size (w.heap.size + 1) l 0 45 _ _ ?h ?hn w ?hw).mono ?_); (case h => exact ST.out.1); (case hn => rfl); (case hw => exact ST.out.2); rintro e w1 ⟨b, HB, rfl, HA⟩)
 go_cut [] (fun wc => Aside0 (Lit w.heap.size (w.heap.size + 1) l (lit0 l.data.toList) wc ∧ Below w.heap.size w wc))
 case first =>
  have d1 := blk_cell HA.out.1.2.1 0
  have fz := blk_free HA.out.1.2.1 0
  dsimp at d1
  cases b with
  | true =>
   have HQ := set_at HA (by omega) 1 1 rfl
   have e0 : lit0 l.data.toList = 1 := if_pos (of_decide_eq_true HB.out.symm)
   go_wp2
   go_meet
   case rel => rw [e0]; exact HQ
  | false =>
   have e0 : lit0 l.data.toList = 0 := if_neg (of_decide_eq_false HB.out.symm)
   go_wp2
   go_meet
   case rel => rw [e0]; exact HA
 case rest =>
  clear HA HB
  have H : litF l.data.toList = (if l.data.toList[lit0 l.data.toList]? = some 48 then litD l.data.toList (lit0 l.data.toList + 1) else if digsF (l.data.toList.drop (lit0 l.data.toList)) = 0 then (lit0 l.data.toList, false) else litD l.data.toList (lit0 l.data.toList + digsF (l.data.toList.drop (lit0 l.data.toList)))) := rfl
  have hi0 := lit0_le l
  generalize lit0 l.data.toList = i0 at hcut H hi0
  have HF := am H
  clear H
  go_upto_if 14 with (go_at_call 170; (with_reducible refine (is_at w.heap.size (w.heap.size + 1) l i0 48 _ _ ?h ?hn w ?hw).mono ?_); (case h => exact hcut.out.1); (case hn => rfl); (case hw => exact hcut.out.2); rintro e w1 ⟨b, HB, rfl, HA⟩)
  go_cut [] (fun wc => ∃ i1 : Nat, Aside0 (litF l.data.toList = litD l.data.toList i1) ∧ Aside0 (i1 ≤ l.size) ∧ Aside0 (Lit w.heap.size (w.heap.size + 1) l i1 wc ∧ Below w.heap.size w wc))
  case first =>
   have d1 := blk_cell HA.out.1.2.1 0
   have fz := blk_free HA.out.1.2.1 0
   dsimp at d1
   cases b with
   | true =>
    have hq : l.data.toList[i0]? = some 48 := of_decide_eq_true HB.out.symm
    have hlt := at_lt l i0 _ hq
    have HQ := set_at HA (by omega) (i0 + 1) (i0 + 1) (by simp)
    have HE := am (HF.out.trans (if_pos hq))
    clear hq HF
    go_wp2
    go_meet
    case rel => exact ⟨i0 + 1, HE, ⟨hlt⟩, HQ⟩
   | false =>
    have hq : ¬ l.data.toList[i0]? = some 48 := of_decide_eq_false HB.out.symm
    have H := HF.out.trans (if_neg hq)
    have hd := digs_len l.data.toList i0 (by rw [size_data]; exact hi0)
    rw [size_data] at hd
    clear hq HF
    by_cases h0 : digsF (l.data.toList.drop i0) = 0
    ·have H2 := H.trans (if_pos h0)
     have HE := am H2
     have h0' : ((digsF (l.data.toList.drop i0) : Nat) : Int) = 0 := by omega
     clear H H2
     go_wp2_with (go_at_call 171; (with_reducible refine (digits_at w.heap.size (w.heap.size + 1) l (i0) (by omega) (by omega) _ ?h w ?hw (by omega)).mono ?_); (case h => exact HA.out.1); (case hw => exact HA.out.2); rintro e w2 ⟨rfl, HD⟩; have d2 := blk_cell HD.out.1.2.1 0; dsimp at d2)
     go_ret2
     rw [HE.out]
     exact ⟨rfl, HD.out.2⟩
    ·have H2 := H.trans (if_neg h0)
     have HE := am H2
     have h0' : ¬ ((digsF (l.data.toList.drop i0) : Nat) : Int) = 0 := by omega
     clear H H2
     go_wp2_with (go_at_call 171; (with_reducible refine (digits_at w.heap.size (w.heap.size + 1) l (i0) (by omega) (by omega) _ ?h w ?hw (by omega)).mono ?_); (case h => exact HA.out.1); (case hw => exact HA.out.2); rintro e w2 ⟨rfl, HD⟩; have d2 := blk_cell HD.out.1.2.1 0; dsimp at d2)
     go_meet
     case rel => exact ⟨_, HE, ⟨hd⟩, HD⟩
  case rest =>
   clear HA HB HF hi0
   obtain ⟨i1, HF1, ⟨hi1⟩, HL⟩ := hcut
   go_upto_if 22 with (go_at_call 170; (with_reducible refine (is_at w.heap.size (w.heap.size + 1) l i1 46 _ _ ?h ?hn w ?hw).mono ?_); (case h => exact HL.out.1); (case hn => rfl); (case hw => exact HL.out.2); rintro e w1 ⟨b, HB, rfl, HA⟩)
   go_cut [] (fun wc => ∃ i2 : Nat, Aside0 (litF l.data.toList = litE l.data.toList i2) ∧ Aside0 (i2 ≤ l.size) ∧ Aside0 (Lit w.heap.size (w.heap.size + 1) l i2 wc ∧ Below w.heap.size w wc))
   case first =>
    have d1 := blk_cell HA.out.1.2.1 0
    have fz := blk_free HA.out.1.2.1 0
    dsimp at d1
    cases b with
    | true =>
     have hq : l.data.toList[i1]? = some 46 := of_decide_eq_true HB.out.symm
     have hlt := at_lt l i1 _ hq
     have HQ := set_at HA (by omega) (i1 + 1) ((i1 : Int) + 1) (by simp)
     have H : litF l.data.toList = (if digsF (l.data.toList.drop (i1 + 1)) = 0 then (i1 + 1, false) else litE l.data.toList (i1 + 1 + digsF (l.data.toList.drop (i1 + 1)))) := HF1.out.trans (if_pos hq)
     have hd := digs_len l.data.toList (i1 + 1) (by rw [size_data]; exact hlt)
     rw [size_data] at hd
     clear hq HF1
     by_cases h0 : digsF (l.data.toList.drop (i1 + 1)) = 0
     ·have H2 := H.trans (if_pos h0)
      have HE := am H2
      have h0' : ((digsF (l.data.toList.drop (i1 + 1)) : Nat) : Int) = 0 := by omega
      clear H H2
      go_wp2_with (go_at_call 171; (with_reducible refine (digits_at w.heap.size (w.heap.size + 1) l (i1 + 1) (by omega) (by omega) _ ?h w ?hw (by omega)).mono ?_); (case h => exact HQ.out.1); (case hw => exact HQ.out.2); rintro e w2 ⟨rfl, HD⟩; have d2 := blk_cell HD.out.1.2.1 0; dsimp at d2)
      go_ret2
      rw [HE.out]
      exact ⟨by simp [h0], HD.out.2⟩
     ·have H2 := H.trans (if_neg h0)
      have HE := am H2
      have h0' : ¬ ((digsF (l.data.toList.drop (i1 + 1)) : Nat) : Int) = 0 := by omega
      clear H H2
      go_wp2_with (go_at_call 171; (with_reducible refine (digits_at w.heap.size (w.heap.size + 1) l (i1 + 1) (by omega) (by omega) _ ?h w ?hw (by omega)).mono ?_); (case h => exact HQ.out.1); (case hw => exact HQ.out.2); rintro e w2 ⟨rfl, HD⟩; have d2 := blk_cell HD.out.1.2.1 0; dsimp at d2)
      go_meet
      case rel => exact ⟨_, HE, ⟨hd⟩, HD⟩
    | false =>
     have hq : ¬ l.data.toList[i1]? = some 46 := of_decide_eq_false HB.out.symm
     have HE := am (HF1.out.trans (if_neg hq))
     clear hq HF1
     go_wp2
     go_meet
     case rel => exact ⟨_, HE, ⟨hi1⟩, HA⟩
   case rest =>
    clear HA HB HF1 HL hi1
    obtain ⟨i2, HF2, ⟨hi2⟩, HL⟩ := hcut
    go_upto_region 14 with fail
    go_cut [34] (fun v34 wc => v34 = .bool (decide (l.data.toList[i2]? = some 101 ∨ l.data.toList[i2]? = some 69)) ∧ Aside0 (Lit w.heap.size (w.heap.size + 1) l (i2) wc ∧ Below w.heap.size w wc))
    case first =>
     by_cases h1 : l.data.toList[i2]? = some 101
     ·have g1 := decide_eq_true h1
      have e1 : decide (l.data.toList[i2]? = some 101 ∨ l.data.toList[i2]? = some 69) = true := decide_eq_true (.inl h1)
      have G1 := am g1
      clear h1 g1
      go_wp2_with ((go_at_call 170; (with_reducible refine (is_as true w.heap.size (w.heap.size + 1) l (i2) 101 _ _ ?h ?hn w ?hw ?hb).mono ?_); (case h => exact HL.out.1); (case hn => rfl); (case hw => exact HL.out.2); (case hb => exact G1.out); rintro e w1 ⟨rfl, HA1⟩))
      go_meet
      case rel => exact ⟨by rw [e1], HA1⟩
     ·have g1 := decide_eq_false h1
      have G1 := am g1
      by_cases h2 : l.data.toList[i2]? = some 69
      ·have e1 : decide (l.data.toList[i2]? = some 101 ∨ l.data.toList[i2]? = some 69) = true := decide_eq_true (.inr h2)
       have G2 := am (decide_eq_true h2)
       clear h1 g1 h2
       go_wp2_with (first | ((go_at_call 170; (with_reducible refine (is_as false w.heap.size (w.heap.size + 1) l (i2) 101 _ _ ?h ?hn w ?hw ?hb).mono ?_); (case h => exact HL.out.1); (case hn => rfl); (case hw => exact HL.out.2); (case hb => exact G1.out); rintro e w1 ⟨rfl, HA1⟩)) | ((go_at_call 170; (with_reducible refine (is_as true w.heap.size (w.heap.size + 1) l (i2) 69 _ _ ?h ?hn w ?hw ?hb).mono ?_); (case h => exact HA1.out.1); (case hn => rfl); (case hw => exact HA1.out.2); (case hb => exact G2.out); rintro e w1 ⟨rfl, HA2⟩)))
       go_meet
       case rel => exact ⟨by rw [e1], HA2⟩
      ·have e1 : decide (l.data.toList[i2]? = some 101 ∨ l.data.toList[i2]? = some 69) = false := decide_eq_false (fun h => h.elim h1 h2)
       have G2 := am (decide_eq_false h2)
       clear h1 g1 h2
       go_wp2_with (first | ((go_at_call 170; (with_reducible refine (is_as false w.heap.size (w.heap.size + 1) l (i2) 101 _ _ ?h ?hn w ?hw ?hb).mono ?_); (case h => exact HL.out.1); (case hn => rfl); (case hw => exact HL.out.2); (case hb => exact G1.out); rintro e w1 ⟨rfl, HA1⟩)) | ((go_at_call 170; (with_reducible refine (is_as false w.heap.size (w.heap.size + 1) l (i2) 69 _ _ ?h ?hn w ?hw ?hb).mono ?_); (case h => exact HA1.out.1); (case hn => rfl); (case hw => exact HA1.out.2); (case hb => exact G2.out); rintro e w1 ⟨rfl, HA2⟩)))
       go_meet
       case rel => exact ⟨by rw [e1], HA2⟩
    case rest =>
     obtain ⟨hv34, HA⟩ := hcut
     by_cases hq : l.data.toList[i2]? = some 101 ∨ l.data.toList[i2]? = some 69
     ·rw [decide_eq_true hq] at hv34
      subst hv34
      have hlt : i2 + 1 ≤ l.size := by rcases hq with h | h <;> exact at_lt l i2 _ h
      have H : litF l.data.toList = litX l.data.toList i2 := HF2.out.trans (litE_yes _ _ hq)
      have HX := am H
      have HQ := set_at HA (by omega) (i2 + 1) ((i2 : Int) + 1) (by simp)
      have d1 := blk_cell HA.out.1.2.1 0
      have fz := blk_free HA.out.1.2.1 0
      dsimp at d1
      clear H hq HF2
      go_upto_region 16 with fail
      go_cut [42] (fun v42 wc => v42 = .bool (decide (l.data.toList[i2 + 1]? = some 43 ∨ l.data.toList[i2 + 1]? = some 45)) ∧ Aside0 (Lit w.heap.size (w.heap.size + 1) l (i2 + 1) wc ∧ Below w.heap.size w wc))
      case first =>
       by_cases h1 : l.data.toList[i2 + 1]? = some 43
       ·have g1 := decide_eq_true h1
        have e1 : decide (l.data.toList[i2 + 1]? = some 43 ∨ l.data.toList[i2 + 1]? = some 45) = true := decide_eq_true (.inl h1)
        have G1 := am g1
        clear h1 g1
        go_wp2_with ((go_at_call 170; (with_reducible refine (is_as true w.heap.size (w.heap.size + 1) l (i2 + 1) 43 _ _ ?h ?hn w ?hw ?hb).mono ?_); (case h => exact HQ.out.1); (case hn => rfl); (case hw => exact HQ.out.2); (case hb => exact G1.out); rintro e w1 ⟨rfl, HA1⟩))
        go_meet
        case rel => exact ⟨by rw [e1], HA1⟩
       ·have g1 := decide_eq_false h1
        have G1 := am g1
        by_cases h2 : l.data.toList[i2 + 1]? = some 45
        ·have e1 : decide (l.data.toList[i2 + 1]? = some 43 ∨ l.data.toList[i2 + 1]? = some 45) = true := decide_eq_true (.inr h2)
         have G2 := am (decide_eq_true h2)
         clear h1 g1 h2
         go_wp2_with (first | ((go_at_call 170; (with_reducible refine (is_as false w.heap.size (w.heap.size + 1) l (i2 + 1) 43 _ _ ?h ?hn w ?hw ?hb).mono ?_); (case h => exact HQ.out.1); (case hn => rfl); (case hw => exact HQ.out.2); (case hb => exact G1.out); rintro e w1 ⟨rfl, HA1⟩)) | ((go_at_call 170; (with_reducible refine (is_as true w.heap.size (w.heap.size + 1) l (i2 + 1) 45 _ _ ?h ?hn w ?hw ?hb).mono ?_); (case h => exact HA1.out.1); (case hn => rfl); (case hw => exact HA1.out.2); (case hb => exact G2.out); rintro e w1 ⟨rfl, HA2⟩)))
         go_meet
         case rel => exact ⟨by rw [e1], HA2⟩
        ·have e1 : decide (l.data.toList[i2 + 1]? = some 43 ∨ l.data.toList[i2 + 1]? = some 45) = false := decide_eq_false (fun h => h.elim h1 h2)
         have G2 := am (decide_eq_false h2)
         clear h1 g1 h2
         go_wp2_with (first | ((go_at_call 170; (with_reducible refine (is_as false w.heap.size (w.heap.size + 1) l (i2 + 1) 43 _ _ ?h ?hn w ?hw ?hb).mono ?_); (case h => exact HQ.out.1); (case hn => rfl); (case hw => exact HQ.out.2); (case hb => exact G1.out); rintro e w1 ⟨rfl, HA1⟩)) | ((go_at_call 170; (with_reducible refine (is_as false w.heap.size (w.heap.size + 1) l (i2 + 1) 45 _ _ ?h ?hn w ?hw ?hb).mono ?_); (case h => exact HA1.out.1); (case hn => rfl); (case hw => exact HA1.out.2); (case hb => exact G2.out); rintro e w1 ⟨rfl, HA2⟩)))
         go_meet
         case rel => exact ⟨by rw [e1], HA2⟩
      case rest =>
       obtain ⟨hv42, HA3⟩ := hcut
       by_cases hq : l.data.toList[i2 + 1]? = some 43 ∨ l.data.toList[i2 + 1]? = some 45
       ·rw [decide_eq_true hq] at hv42
        subst hv42
        have hlt : i2 + 2 ≤ l.size := by rcases hq with h | h <;> exact at_lt l (i2 + 1) _ h
        have H := HX.out.trans (litX_yes _ _ hq)
        have HQ2 := set_at HA3 (by omega) (i2 + 2) ((i2 : Int) + 1 + 1) (by omega)
        have d3 := blk_cell HA3.out.1.2.1 0
        have fz3 := blk_free HA3.out.1.2.1 0
        have hd := digs_len l.data.toList (i2 + 2) (by rw [size_data]; exact hlt)
        rw [size_data] at hd
        dsimp at d3
        clear hq
        by_cases h0 : digsF (l.data.toList.drop (i2 + 2)) = 0
        ·have H2 := H.trans (if_pos h0)
         have HE := am H2
         have h0' : ((digsF (l.data.toList.drop (i2 + 2)) : Nat) : Int) = 0 := by omega
         clear H H2
         go_wp2_with (go_at_call 171; (with_reducible refine (digits_at w.heap.size (w.heap.size + 1) l (i2 + 2) (by omega) (by omega) _ ?h w ?hw (by omega)).mono ?_); (case h => exact HQ2.out.1); (case hw => exact HQ2.out.2); rintro e w2 ⟨rfl, HD⟩; have d2 := blk_cell HD.out.1.2.1 0; dsimp at d2)
         go_ret2
         rw [HE.out]
         exact ⟨by simp [h0], HD.out.2⟩
        ·have H2 := H.trans (if_neg h0)
         have HE := am H2
         have h0' : ¬ ((digsF (l.data.toList.drop (i2 + 2)) : Nat) : Int) = 0 := by omega
         clear H H2
         go_wp2_with (go_at_call 171; (with_reducible refine (digits_at w.heap.size (w.heap.size + 1) l (i2 + 2) (by omega) (by omega) _ ?h w ?hw (by omega)).mono ?_); (case h => exact HQ2.out.1); (case hw => exact HQ2.out.2); rintro e w2 ⟨rfl, HD⟩; have d2 := blk_cell HD.out.1.2.1 0; dsimp at d2)
         go_ret2
         rw [HE.out]
         exact ⟨rfl, HD.out.2⟩
       ·rw [decide_eq_false hq] at hv42
        subst hv42
        have H := HX.out.trans (litX_no _ _ hq)
        have hd := digs_len l.data.toList (i2 + 1) (by rw [size_data]; exact hlt)
        rw [size_data] at hd
        clear hq
        by_cases h0 : digsF (l.data.toList.drop (i2 + 1)) = 0
        ·have H2 := H.trans (if_pos h0)
         have HE := am H2
         have h0' : ((digsF (l.data.toList.drop (i2 + 1)) : Nat) : Int) = 0 := by omega
         clear H H2
         go_wp2_with (go_at_call 171; (with_reducible refine (digits_at w.heap.size (w.heap.size + 1) l (i2 + 1) (by omega) (by omega) _ ?h w ?hw (by omega)).mono ?_); (case h => exact HA3.out.1); (case hw => exact HA3.out.2); rintro e w2 ⟨rfl, HD⟩; have d2 := blk_cell HD.out.1.2.1 0; dsimp at d2)
         go_ret2
         rw [HE.out]
         exact ⟨by simp [h0], HD.out.2⟩
        ·have H2 := H.trans (if_neg h0)
         have HE := am H2
         have h0' : ¬ ((digsF (l.data.toList.drop (i2 + 1)) : Nat) : Int) = 0 := by omega
         clear H H2
         go_wp2_with (go_at_call 171; (with_reducible refine (digits_at w.heap.size (w.heap.size + 1) l (i2 + 1) (by omega) (by omega) _ ?h w ?hw (by omega)).mono ?_); (case h => exact HA3.out.1); (case hw => exact HA3.out.2); rintro e w2 ⟨rfl, HD⟩; have d2 := blk_cell HD.out.1.2.1 0; dsimp at d2)
         go_ret2
         rw [HE.out]
         exact ⟨rfl, HD.out.2⟩
     ·rw [decide_eq_false hq] at hv34
      subst hv34
      have HE := am (HF2.out.trans (litE_no _ _ hq))
      have d1 := blk_cell HA.out.1.2.1 0
      dsimp at d1
      clear hq HF2
      go_wp2
      go_ret2
      rw [HE.out]
      exact ⟨rfl, HA.out.2⟩
theorem blanks_step (s : List UInt8) (p : Nat) (c : UInt8) (hc : s[p]? = some c) (hb : isBl c = true) : blanksF s p = blanksF s (p + 1) := by
 obtain ⟨hi, rfl⟩ := List.getElem?_eq_some_iff.1 hc
 unfold blanksF
 rw [List.drop_eq_getElem_cons hi, List.takeWhile_cons, if_pos hb, List.length_cons]
 omega
theorem blanks_stop (s : List UInt8) (p : Nat) (h : ∀ c, s[p]? = some c → isBl c = false) : blanksF s p = p := by
 unfold blanksF
 by_cases hi : p < s.length
 ·rw [List.drop_eq_getElem_cons hi, List.takeWhile_cons, if_neg (by rw [h _ (List.getElem?_eq_getElem hi)]; simp)]
  rfl
 ·rw [List.drop_of_length_le (by omega)]
  rfl
theorem blanks_le (s : List UInt8) (p : Nat) (h : p ≤ s.length) : blanksF s p ≤ s.length := by
 have := tw_le isBl (s.drop p)
 unfold blanksF
 rw [List.length_drop] at this
 omega
theorem blanks_ge (s : List UInt8) (p : Nat) : p ≤ blanksF s p := Nat.le_add_right _ _
theorem beq_u8 (a : UInt8) (n : Nat) (h : n < 256) : ((a.toNat : Int) == (n : Int)) = decide (a = UInt8.ofNat n) := by
 have e : (UInt8.ofNat n).toNat = n := by simp; omega
 by_cases hc : a = UInt8.ofNat n
 ·rw [hc, e]; simp
 ·have : ¬ (a.toNat : Int) = (n : Int) := fun hh => hc (UInt8.toNat.inj (by rw [e]; omega))
  simp [hc, this]
theorem at_lt' {s : ByteArray} {q : Nat} {c : UInt8} (h : s.data.toList[q]? = some c) : q < s.size := (byte_at s q c h).1
set_option maxHeartbeats 2000000 in
theorem blanks_calls (R : Nat) (s : ByteArray) (p : Nat) (hl : s.size ≤ 9223372036854775806) (hp : p ≤ s.size) (W : World) (h : RdB R s p W) :
  Calls Tryz.prog 55 #[ptr R] W fun x W' => x = .returned (.tuple #[]) ∧ RdB R s (blanksF s.data.toList p : Nat) W' ∧ On R W W' := by
 go_enter Tryz.func55, Tryz.ntmps55
 go_wp2
 go_loopg [] (s.size - p) (fun g wr => ∃ q : Nat, q + g = s.size ∧ Aside0 (blanksF s.data.toList q = blanksF s.data.toList p) ∧ Aside0 (RdB R s q wr) ∧ Aside0 (On R W wr))
 case atStart => exact ⟨p, by omega, ⟨rfl⟩, ⟨h⟩, ⟨On.refl _ _⟩⟩
 case round =>
  obtain ⟨q, hq, HE, HR, HO⟩ := hrel
  have d0 := blk_cell HR.out 0
  have d1 := blk_cell HR.out 1
  have fz := blk_free HR.out 1
  dsimp at d0 d1
  have h0 : (0 : Int) ≤ (q : Int) := by omega
  by_cases hlt : (q : Int) < (s.size : Int)
  ·have hlt1 : decide ((q : Int) < (s.size : Int)) = true := decide_eq_true hlt
   have hqs : q < s.size := by omega
   have HC := am (show s.data.toList[q]? = some (s[q]'hqs) by rw [List.getElem?_eq_getElem (by rw [size_data]; exact hqs)]; rfl)
   have e32 := beq_u8 (s[q]'hqs) 32 (by omega)
   have e9 := beq_u8 (s[q]'hqs) 9 (by omega)
   have e10 := beq_u8 (s[q]'hqs) 10 (by omega)
   have e13 := beq_u8 (s[q]'hqs) 13 (by omega)
   have goon : isBl (s[q]'hqs) = true → Aside0 (blanksF s.data.toList (q + 1) = blanksF s.data.toList p) := fun hb => ⟨(blanks_step _ _ _ HC.out hb).symm.trans HE.out⟩
   have GO := am goon
   have HR1 := am (show RdB R s ((q + 1 : Nat) : Int) (wr.setCell ⟨R, 1, none⟩ (.int .i64 ((q : Int) + 1))) from HR.out.set _)
   clear goon
   generalize hx : s[q]'hqs = c at *
   by_cases c32 : c = 32
   ·subst c32
    have f32 : (((32 : UInt8).toNat : Int) == 32) = true := by decide
    have GO1 := GO.out (by decide)
    clear e32 e9 e10 e13 GO
    go_wp2_with fail
    go_quiet (fail)
    go_wp2
    go_roundg (gk - 1)
    case measure => omega
    case rel => exact ⟨q + 1, by omega, GO1, HR1, ⟨(HO.out.drewN _).set _ _⟩⟩
   ·skip
    by_cases c9 : c = 9
    ·subst c9
     have f9 : (((9 : UInt8).toNat : Int) == 9) = true := by decide
     have f32 : (((9 : UInt8).toNat : Int) == 32) = false := by decide
     have GO1 := GO.out (by decide)
     clear e32 e9 e10 e13 GO
     clear c32
     go_wp2_with fail
     go_quiet (fail)
     go_wp2
     go_roundg (gk - 1)
     case measure => omega
     case rel => exact ⟨q + 1, by omega, GO1, HR1, ⟨(HO.out.drewN _).set _ _⟩⟩
    ·skip
     by_cases c10 : c = 10
     ·subst c10
      have f10 : (((10 : UInt8).toNat : Int) == 10) = true := by decide
      have f32 : (((10 : UInt8).toNat : Int) == 32) = false := by decide
      have f9 : (((10 : UInt8).toNat : Int) == 9) = false := by decide
      have GO1 := GO.out (by decide)
      clear e32 e9 e10 e13 GO
      clear c32
      clear c9
      go_wp2_with fail
      go_quiet (fail)
      go_wp2
      go_roundg (gk - 1)
      case measure => omega
      case rel => exact ⟨q + 1, by omega, GO1, HR1, ⟨(HO.out.drewN _).set _ _⟩⟩
     ·skip
      by_cases c13 : c = 13
      ·subst c13
       have f13 : (((13 : UInt8).toNat : Int) == 13) = true := by decide
       have f32 : (((13 : UInt8).toNat : Int) == 32) = false := by decide
       have f9 : (((13 : UInt8).toNat : Int) == 9) = false := by decide
       have f10 : (((13 : UInt8).toNat : Int) == 10) = false := by decide
       have GO1 := GO.out (by decide)
       clear e32 e9 e10 e13 GO
       clear c32
       clear c9
       clear c10
       go_wp2_with fail
       go_quiet (fail)
       go_wp2
       go_roundg (gk - 1)
       case measure => omega
       case rel => exact ⟨q + 1, by omega, GO1, HR1, ⟨(HO.out.drewN _).set _ _⟩⟩
      ·skip
       have f32 : ((c.toNat : Int) == 32) = false := e32.trans (decide_eq_false c32)
       have f9 : ((c.toNat : Int) == 9) = false := e9.trans (decide_eq_false c9)
       have f10 : ((c.toNat : Int) == 10) = false := e10.trans (decide_eq_false c10)
       have f13 : ((c.toNat : Int) == 13) = false := e13.trans (decide_eq_false c13)
       have hno : isBl c = false := by simp [isBl, c32, c9, c10, c13]
       have HE1 := am ((blanks_stop s.data.toList q (fun c' hc' => by rw [HC.out] at hc'; injection hc' with hc'; rw [← hc']; exact hno)).symm.trans HE.out)
       clear e32 e9 e10 e13 GO c32 c9 c10 c13 hno
       go_wp2_with fail
       go_quiet (fail)
       go_wp2
       go_end0
       rw [← HE1.out]
       exact ⟨rfl, HR.out, HO.out.drewN _⟩
  ·have hlt1 : decide ((q : Int) < (s.size : Int)) = false := decide_eq_false hlt
   have HE1 := am ((blanks_stop s.data.toList q (fun c' hc' => by have := at_lt' hc'; omega)).symm.trans HE.out)
   have hlt2 : decide (q < s.size) = false := decide_eq_false (by omega)
   clear hlt hq
   go_wp2_with fail
   go_quiet (fail)
   go_wp2
   go_end0
   rw [← HE1.out]
   exact ⟨rfl, HR.out, HO.out.drewN _⟩
theorem Ends.ok {α : Type} {R : Nat} {s : ByteArray} {W W' : World} {o : Out α} {val : α → Value → World → Prop} {a : α} {q : Nat} {v : Value} (ho : o = .val a q) (hv : val a v W') (hr : RdB R s q W') (hO : On R W W') : Ends R s W o val (.returned v) W' := by
 subst ho; exact ⟨hO, v, rfl, hv, hr⟩
theorem Ends.no {α : Type} {R : Nat} {s : ByteArray} {W W' : World} {o : Out α} {val : α → Value → World → Prop} {e q : Nat} (ho : o = .err e q) (hO : On R W W') : Ends R s W o val (pan e q) W' := by
 subst ho; exact ⟨hO, rfl⟩
theorem peek_quiet (R : Nat) (s : ByteArray) (p : Nat) (c : UInt8) (hc : s.data.toList[p]? = some c) (W : World) (n : Nat) (h : RdB R s p W) : Calls Tryz.prog 104 #[ptr R] (W.drewN n) fun x W' => x = .returned (.int .u8 c.toNat) ∧ ∃ m, W' = W.drewN m :=
 Calls.quiet_of ((peek_ok R s p c hc _ (h.drewN n)).mono fun _ _ ⟨h1, h2⟩ => ⟨h1, h2.out⟩)
theorem any_dummy {G : Prop} (W : World) (hG : G) (_ : wpAny Tryz.prog .any #[] (fun _ _ _ => True) 0 #[] ⟨#[], []⟩ W) : G := hG
theorem wordF_short (s w : List UInt8) (c : UInt8) (p : Nat) (h : s[p]? = none) : wordF s (c :: w) p = .err 3 s.length := by simp [wordF, h]
theorem wordF_bad (s w : List UInt8) (c x : UInt8) (p : Nat) (h : s[p]? = some x) (hx : x ≠ c) : wordF s (c :: w) p = .err 40 p := by simp [wordF, h, hx]
theorem wordF_on (s w : List UInt8) (c : UInt8) (p : Nat) (h : s[p]? = some c) : wordF s (c :: w) p = wordF s w (p + 1) := by simp [wordF, h]
set_option maxHeartbeats 2000000 in
theorem word_calls (R : Nat) (s w : ByteArray) (p : Nat) (hl : s.size + w.size ≤ 9223372036854775806) (hp : p ≤ s.size) (W : World) (h : RdB R s p W) :
  Calls Tryz.prog 105 #[ptr R, .string w] W (Ends R s W (wordF s.data.toList w.data.toList p) unitV) := by
 go_enter Tryz.func105, Tryz.ntmps105
 go_wp2
 go_loopg [7] w.size (fun g v wr => ∃ k : Nat, v = .int .i64 k ∧ k + g = w.size ∧ p + k ≤ s.size ∧ Aside0 (wordF s.data.toList w.data.toList p = wordF s.data.toList (w.data.toList.drop k) (p + k)) ∧ Aside0 (RdB R s (p + k : Nat) wr) ∧ Aside0 (On R W wr))
 case atStart => exact ⟨0, rfl, by omega, by omega, ⟨rfl⟩, ⟨h⟩, ⟨On.refl _ _⟩⟩
 case round =>
  obtain ⟨k, rfl, hk, hpk, HE, HR, HO⟩ := hrel
  have d0 := blk_cell HR.out 0
  have d1 := blk_cell HR.out 1
  have fz := blk_free HR.out 1
  dsimp at d0 d1
  have h0 : (0 : Int) ≤ (k : Int) := by omega
  by_cases hlt : (k : Int) < (w.size : Int)
  ·have hkw : k < w.size := by omega
   have HW := am (show w.data.toList.drop k = w[k]'hkw :: w.data.toList.drop (k + 1) from List.drop_eq_getElem_cons (by rw [size_data]; exact hkw))
   cases hc : s.data.toList[p + k]? with
   | none =>
    have hps : s.size ≤ p + k := by rw [List.getElem?_eq_none_iff, size_data] at hc; exact hc
    have HX := am (HE.out.trans ((congrArg (fun l => wordF s.data.toList l (p + k)) HW.out).trans ((wordF_short _ _ _ _ hc).trans (by rw [size_data]))))
    clear hc
    go_wp2_with fail
    go_region_with ((go_at_call 104; (with_reducible refine (peek_short R s (p + k) hps _ ?rd).mono ?_); (case rd => exact HR.out); rintro e w1 ⟨rfl, hb⟩; refine any_dummy w1 ⟨rfl, Ends.no HX.out ((HO.out.drewN 1).drawn hb)⟩ ?_))
    all_goals trivial
   | some c =>
    by_cases hcw : c = w[k]'hkw
    ·have HX := am (HE.out.trans ((congrArg (fun l => wordF s.data.toList l (p + k)) HW.out).trans (wordF_on _ _ _ _ (by rw [hc, hcw]))))
     have heq : ((c.toNat : Int) == ((w[k]'hkw).toNat : Int)) = true := by rw [hcw]; simp
     have hne : ((c.toNat : Int) != ((w[k]'hkw).toNat : Int)) = false := by rw [hcw]; simp
     have HC := am hc
     clear hc hcw
     go_wp2_with fail
     go_quiet (exact peek_quiet R s (p + k) c HC.out wr _ HR.out)
     go_wp2
     go_roundg (gk - 1)
     case measure => omega
     case rel => exact ⟨k + 1, by go_num, by omega, by have := at_lt' HC.out; omega, ⟨by have := HX.out; rw [← Nat.add_assoc]; exact this⟩, ⟨by have e := (HR.out.drewN nq).set ((p + k + 1 : Nat) : Int); rw [show ((p + k + 1 : Nat) : Int) = (p : Int) + k + 1 by omega] at e; rw [← Nat.add_assoc, show ((p + k + 1 : Nat) : Int) = (p : Int) + k + 1 by omega]; exact e⟩, ⟨(HO.out.drewN _).set _ _⟩⟩
    ·have HX := am (HE.out.trans ((congrArg (fun l => wordF s.data.toList l (p + k)) HW.out).trans (wordF_bad _ _ _ _ _ hc hcw)))
     have heq : ((c.toNat : Int) == ((w[k]'hkw).toNat : Int)) = false := by
      have : ¬ (c.toNat : Int) = ((w[k]'hkw).toNat : Int) := fun hh => hcw (UInt8.toNat.inj (by omega))
      simp [this]
     have hne : ((c.toNat : Int) != ((w[k]'hkw).toNat : Int)) = true := by simp [bne, heq]
     have HC := am hc
     clear hc hcw
     go_wp2_with fail
     go_quiet (exact peek_quiet R s (p + k) c HC.out wr _ HR.out)
     go_wp2_with (go_at_call 57; (with_reducible refine (fail_calls _ _ _ _).mono ?_); rintro e w1 ⟨rfl, hb⟩; have HB := am hb; clear hb)
     exact ⟨rfl, Ends.no HX.out ((HO.out.drewN _).drawn HB.out)⟩
  ·have hge : w.size = k := by omega
   have HX := am (HE.out.trans (show _ = Out.val () (p + k) by rw [List.drop_of_length_le (by rw [size_data]; omega)]; rfl))
   go_wp2
   go_end0
   exact Ends.ok HX.out rfl HR.out HO.out
theorem litE_le (l : List UInt8) (i : Nat) (h : i ≤ l.length) : (litE l i).1 ≤ l.length := by
 by_cases hq : l[i]? = some 101 ∨ l[i]? = some 69
 ·have hlt : i + 1 ≤ l.length := by rcases hq with h | h <;> exact (List.getElem?_eq_some_iff.1 h).1
  rw [litE_yes _ _ hq]
  by_cases hs : l[i + 1]? = some 43 ∨ l[i + 1]? = some 45
  ·have hlt2 : i + 2 ≤ l.length := by rcases hs with h | h <;> exact (List.getElem?_eq_some_iff.1 h).1
   rw [litX_yes _ _ hs]
   have := digs_len l (i + 2) hlt2
   split <;> simp <;> omega
  ·rw [litX_no _ _ hs]
   have := digs_len l (i + 1) hlt
   split <;> simp <;> omega
 ·rw [litE_no _ _ hq]; exact h
theorem litD_le (l : List UInt8) (i : Nat) (h : i ≤ l.length) : (litD l i).1 ≤ l.length := by
 unfold litD
 by_cases hq : l[i]? = some 46
 ·have hlt : i + 1 ≤ l.length := (List.getElem?_eq_some_iff.1 hq).1
  have := digs_len l (i + 1) hlt
  rw [if_pos hq]
  split
  ·exact hlt
  ·exact litE_le l _ (by omega)
 ·rw [if_neg hq]; exact litE_le l _ h
theorem litF_le (l : List UInt8) : (litF l).1 ≤ l.length := by
 show (if l[lit0 l]? = some 48 then litD l (lit0 l + 1) else if digsF (l.drop (lit0 l)) = 0 then (lit0 l, false) else litD l (lit0 l + digsF (l.drop (lit0 l)))).1 ≤ l.length
 have h0 : lit0 l ≤ l.length := by
  have := lit0_le (bs l)
  rw [bs_size, data_bs] at this
  exact this
 have := digs_len l (lit0 l) h0
 split
 ·rename_i hq
  exact litD_le l _ (List.getElem?_eq_some_iff.1 hq).1
 ·split
  ·exact h0
  ·exact litD_le l _ (by omega)
def textV (t : List UInt8) (v : Value) (_ : World) : Prop := v = .string (bs t)
theorem drop_extract (s : ByteArray) (p : Nat) : (s.extract p s.size).data.toList = s.data.toList.drop p := by
 rw [Lib.extract_data, List.take_of_length_le (by rw [List.length_drop, size_data]; omega)]
set_option maxHeartbeats 2000000 in
theorem number_calls (R : Nat) (s : ByteArray) (p : Nat) (hl : s.size ≤ 9223372036854775806) (hp : p ≤ s.size) (W : World) (h : RdB R s p W) :
  Calls Tryz.prog 106 #[ptr R] W (Ends R s W (numberF s.data.toList p) textV) := by
 have d0 := blk_cell h 0
 have d1 := blk_cell h 1
 dsimp at d0 d1
 have HL := literal_calls (s.extract p s.size) (by rw [ByteArray.size_extract]; omega)
 have hle := litF_le (s.data.toList.drop p)
 rw [List.length_drop, size_data] at hle
 rw [drop_extract] at HL
 have HF := am (show numberF s.data.toList p = if (litF (s.data.toList.drop p)).2 = true then .val ((s.data.toList.drop p).take (litF (s.data.toList.drop p)).1) (p + (litF (s.data.toList.drop p)).1) else if s.data.toList.length ≤ p + (litF (s.data.toList.drop p)).1 then .err 3 s.data.toList.length else .err 44 (p + (litF (s.data.toList.drop p)).1) from rfl)
 generalize hlit : litF (s.data.toList.drop p) = nb at HL hle HF
 obtain ⟨n, b⟩ := nb
 clear hlit
 dsimp at HL hle HF
 have HQ := am HL
 clear HL
 have H := am h
 have h0 : (0 : Int) ≤ (p : Int) := by omega
 have h1 : (p : Int) ≤ (s.size : Int) := by omega
 go_enter Tryz.func106, Tryz.ntmps106
 go_upto_region 1 with fail
 go_cut [3, 4] (fun v3 v4 wc => v3 = .int .i64 n ∧ v4 = .bool b ∧ Aside0 (Below W.heap.size W wc))
 case first =>
  go_region_with ((go_at_call 136; (with_reducible refine (HQ.out _).mono ?_); rintro e w1 ⟨rfl, hb⟩; have HB := am hb; clear hb))
  all_goals (go_wp2_with fail; go_meet; exact ⟨rfl, rfl, ⟨(below_drew1 (Below.refl W.heap.size W)).trans HB.out⟩⟩)
 case rest =>
  obtain ⟨rfl, rfl, HW⟩ := hcut
  have HR := am (H.out.below HW.out)
  have HO := am (On.of_below (Nat.le_of_lt H.out.lt) HW.out)
  clear H HQ d0 d1 h
  have d0 := blk_cell HR.out 0
  have d1 := blk_cell HR.out 1
  have fz := blk_free HR.out 1
  dsimp at d0 d1
  have HR1 := am (HR.out.set ((p + n : Nat) : Int))
  have HO1 := am (HO.out.set 1 (.int .i64 ((p + n : Nat) : Int)))
  rw [show ((p + n : Nat) : Int) = (p : Int) + (n : Int) by omega] at HR1 HO1
  cases b with
  | true =>
   have HE := am (HF.out.trans (if_pos rfl))
   have h2 : (p : Int) ≤ (p : Int) + (n : Int) := by omega
   have h3 : (p : Int) + (n : Int) ≤ (s.size : Int) := by omega
   go_wp2
   go_quiet (fail)
   go_wp2
   go_ret
   have e : s.extract p (p + n) = bs ((s.data.toList.drop p).take n) := by rw [extract_bs, Nat.add_sub_cancel_left]
   exact Ends.ok HE.out (congrArg Value.string e) (HR1.out.drewN nq) (HO1.out.drewN nq)
  | false =>
   have HE := am (HF.out.trans (if_neg (by simp)))
   by_cases hge : s.size ≤ p + n
   ·have HX := am (HE.out.trans (if_pos hge))
    clear HE
    go_wp2_with (go_at_call 104; (with_reducible refine (peek_short R s (p + n) hge _ ?rd).mono ?_); (case rd => exact HR1.out); rintro e w1 ⟨rfl, hb⟩; have HB := am hb; clear hb)
    exact ⟨rfl, Ends.no HX.out (HO1.out.drawn HB.out)⟩
   ·have HX := am (HE.out.trans (if_neg hge))
    have HC := am (show s.data.toList[p + n]? = some (s[p + n]'(by omega)) by rw [List.getElem?_eq_getElem (by rw [size_data]; omega)]; rfl)
    generalize s[p + n]'(by omega) = c at HC
    clear HE
    go_wp2_with (first | (go_at_call 104; (with_reducible refine (peek_ok R s (p + n) c HC.out _ ?rd).mono ?_); (case rd => exact HR1.out); rintro e w1 ⟨rfl, hb⟩; have HB := am hb; have d3 := blk_cell (HR1.out.drawn hb) 1; dsimp at d3; clear hb) | (go_at_call 57; (with_reducible refine (fail_calls _ _ _ _).mono ?_); rintro e w2 ⟨rfl, hb⟩; have HB2 := am hb; clear hb))
    exact ⟨rfl, Ends.no HX.out ((HO1.out.drawn HB.out).drawn HB2.out)⟩
def numV (x : Nat) (v : Value) (_ : World) : Prop := v = .int .i32 x
theorem fourF_short (s : List UInt8) (k x p : Nat) (h : s[p]? = none) : fourF s (k + 1) x p = .err 3 s.length := by simp [fourF, h]
theorem fourF_bad (s : List UInt8) (k x p : Nat) (c : UInt8) (h : s[p]? = some c) (hx : hexF c = none) : fourF s (k + 1) x p = .err 42 p := by simp [fourF, h, hx]
theorem fourF_on (s : List UInt8) (k x p : Nat) (c : UInt8) (d : Nat) (h : s[p]? = some c) (hx : hexF c = some d) : fourF s (k + 1) x p = fourF s k (x * 16 + d) (p + 1) := by simp [fourF, h, hx]
set_option maxHeartbeats 2000000 in
theorem four_calls (R : Nat) (s : ByteArray) (p : Nat) (hl : s.size ≤ 9223372036854775806) (hp : p ≤ s.size) (W : World) (h : RdB R s p W) :
  Calls Tryz.prog 174 #[ptr R] W (Ends R s W (fourF s.data.toList 4 0 p) numV) := by
 go_enter Tryz.func174, Tryz.ntmps174
 go_wp2
 go_loopg [3, 5] 4 (fun g v3 v5 wr => ∃ k x : Nat, v3 = .int .i32 x ∧ v5 = .int .i64 k ∧ k + g = 4 ∧ x < 16 ^ k ∧ p + k ≤ s.size ∧ Aside0 (fourF s.data.toList 4 0 p = fourF s.data.toList g x (p + k)) ∧ Aside0 (RdB R s (p + k : Nat) wr) ∧ Aside0 (On R W wr))
 case atStart => exact ⟨0, 0, rfl, rfl, rfl, by decide, by omega, ⟨rfl⟩, ⟨h⟩, ⟨On.refl _ _⟩⟩
 case round =>
  obtain ⟨k, x, rfl, rfl, hk, hx, hpk, HE, HR, HO⟩ := hrel
  cases gk with
  | zero =>
   obtain rfl : k = 4 := by omega
   have HX := am (HE.out.trans (show _ = Out.val x (p + 4) from rfl))
   go_wp2
   go_ret
   exact Ends.ok HX.out rfl HR.out HO.out
  | succ g =>
   have hx4 : x < 4096 := by
    have : 16 ^ k ≤ 16 ^ 3 := Nat.pow_le_pow_right (by omega) (by omega)
    omega
   have hk4 : (k : Int) < 4 := by omega
   have d1 := blk_cell HR.out 1
   have fz := blk_free HR.out 1
   dsimp at d1
   cases hc : s.data.toList[p + k]? with
   | none =>
    have hps : s.size ≤ p + k := by rw [List.getElem?_eq_none_iff, size_data] at hc; exact hc
    have HX := am (HE.out.trans ((fourF_short _ _ _ _ hc).trans (by rw [size_data])))
    clear hc
    go_wp2_with (go_at_call 104; (with_reducible refine (peek_short R s (p + k) hps _ ?rd).mono ?_); (case rd => exact HR.out); rintro e w1 ⟨rfl, hb⟩; have HB := am hb; clear hb)
    exact ⟨rfl, Ends.no HX.out (HO.out.drawn HB.out)⟩
   | some c =>
    have HC := am hc
    have hpk1 := at_lt' hc
    have hu := c.toNat_lt
    clear hc
    by_cases hA : 48 ≤ c.toNat ∧ c.toNat ≤ 57
    ·have HX := am (HE.out.trans (fourF_on _ _ _ _ _ _ HC.out (by unfold hexF; rw [if_pos hA])))
     have a1 : (48 : Int) ≤ (c.toNat : Int) := by omega
     have a2 : (c.toNat : Int) ≤ 57 := by omega
     go_wp2_with (go_at_call 104; (with_reducible refine (peek_ok R s (p + k) c HC.out _ ?rd).mono ?_); (case rd => exact HR.out); rintro e w1 ⟨rfl, hb⟩; have HB := am hb; have d3 := blk_cell (HR.out.drawn hb) 1; have f3 := blk_free (HR.out.drawn hb) 1; dsimp at d3; clear hb)
     go_roundg g
     case measure => omega
     case rel => exact ⟨k + 1, x * 16 + (c.toNat - 48), congrArg (Value.int .i32) (by omega), congrArg (Value.int .i64) (by omega), by omega, by rw [Nat.pow_succ]; omega, by omega, ⟨by have := HX.out; rw [← Nat.add_assoc]; exact this⟩, ⟨by have e := (HR.out.drawn HB.out).set ((p + k + 1 : Nat) : Int); rw [show ((p + k + 1 : Nat) : Int) = (p : Int) + k + 1 by omega] at e; rw [← Nat.add_assoc, show ((p + k + 1 : Nat) : Int) = (p : Int) + k + 1 by omega]; exact e⟩, ⟨(HO.out.drawn HB.out).set _ _⟩⟩
    ·by_cases hB : 97 ≤ c.toNat ∧ c.toNat ≤ 102
     ·have HX := am (HE.out.trans (fourF_on _ _ _ _ _ _ HC.out (by unfold hexF; rw [if_neg hA, if_pos hB])))
      have a1 : (97 : Int) ≤ (c.toNat : Int) := by omega
      have a2 : (c.toNat : Int) ≤ 102 := by omega
      have a3 : ¬ (c.toNat : Int) ≤ 57 := by omega
      have a4 : (48 : Int) ≤ (c.toNat : Int) := by omega
      have a5 : decide ((c.toNat : Int) ≤ 57) = false := decide_eq_false a3
      go_wp2_with (go_at_call 104; (with_reducible refine (peek_ok R s (p + k) c HC.out _ ?rd).mono ?_); (case rd => exact HR.out); rintro e w1 ⟨rfl, hb⟩; have HB := am hb; have d3 := blk_cell (HR.out.drawn hb) 1; have f3 := blk_free (HR.out.drawn hb) 1; dsimp at d3; clear hb)
      go_roundg g
      case measure => omega
      case rel => exact ⟨k + 1, x * 16 + (c.toNat - 87), congrArg (Value.int .i32) (by omega), congrArg (Value.int .i64) (by omega), by omega, by rw [Nat.pow_succ]; omega, by omega, ⟨by have := HX.out; rw [← Nat.add_assoc]; exact this⟩, ⟨by have e := (HR.out.drawn HB.out).set ((p + k + 1 : Nat) : Int); rw [show ((p + k + 1 : Nat) : Int) = (p : Int) + k + 1 by omega] at e; rw [← Nat.add_assoc, show ((p + k + 1 : Nat) : Int) = (p : Int) + k + 1 by omega]; exact e⟩, ⟨(HO.out.drawn HB.out).set _ _⟩⟩
     ·by_cases hC : 65 ≤ c.toNat ∧ c.toNat ≤ 70
      ·have HX := am (HE.out.trans (fourF_on _ _ _ _ _ _ HC.out (by unfold hexF; rw [if_neg hA, if_neg hB, if_pos hC])))
       have a1 : (65 : Int) ≤ (c.toNat : Int) := by omega
       have a2 : (c.toNat : Int) ≤ 70 := by omega
       have a3 : ¬ (c.toNat : Int) ≤ 57 := by omega
       have a4 : (48 : Int) ≤ (c.toNat : Int) := by omega
       have a5 : ¬ (97 : Int) ≤ (c.toNat : Int) := by omega
       have a6 : decide ((c.toNat : Int) ≤ 57) = false := decide_eq_false a3
       have a7 : decide ((97 : Int) ≤ (c.toNat : Int)) = false := decide_eq_false a5
       go_wp2_with (go_at_call 104; (with_reducible refine (peek_ok R s (p + k) c HC.out _ ?rd).mono ?_); (case rd => exact HR.out); rintro e w1 ⟨rfl, hb⟩; have HB := am hb; have d3 := blk_cell (HR.out.drawn hb) 1; have f3 := blk_free (HR.out.drawn hb) 1; dsimp at d3; clear hb)
       go_roundg g
       case measure => omega
       case rel => exact ⟨k + 1, x * 16 + (c.toNat - 55), congrArg (Value.int .i32) (by omega), congrArg (Value.int .i64) (by omega), by omega, by rw [Nat.pow_succ]; omega, by omega, ⟨by have := HX.out; rw [← Nat.add_assoc]; exact this⟩, ⟨by have e := (HR.out.drawn HB.out).set ((p + k + 1 : Nat) : Int); rw [show ((p + k + 1 : Nat) : Int) = (p : Int) + k + 1 by omega] at e; rw [← Nat.add_assoc, show ((p + k + 1 : Nat) : Int) = (p : Int) + k + 1 by omega]; exact e⟩, ⟨(HO.out.drawn HB.out).set _ _⟩⟩
      ·have HX := am (HE.out.trans (fourF_bad _ _ _ _ _ HC.out (by unfold hexF; rw [if_neg hA, if_neg hB, if_neg hC])))
       go_wp2_with (first | (go_at_call 104; (with_reducible refine (peek_ok R s (p + k) c HC.out _ ?rd).mono ?_); (case rd => exact HR.out); rintro e w1 ⟨rfl, hb⟩; have HB := am hb; have d3 := blk_cell (HR.out.drawn hb) 1; have f3 := blk_free (HR.out.drawn hb) 1; dsimp at d3; clear hb) | (go_at_call 57; (with_reducible refine (fail_calls _ _ _ _).mono ?_); rintro e w2 ⟨rfl, hb⟩; have HB2 := am hb; clear hb))
       all_goals exact ⟨rfl, Ends.no HX.out ((HO.out.drawn HB.out).drawn HB2.out)⟩
end Go.Proofs.YtpdelcbkcebkpaaGreatDoor.X
namespace Go.Proofs.YtpdelcbkcebkpaaGreatDoor.X
open Go.RowKit Go.Proofs.YtpdelcbkcebkpaaGreatDoorW.PrintWords Go.Proofs.YtpdelcbkcebkpaaGreatDoorW.PrintLast Go.Proofs.YtpdelcbkcebkpaaGreatDoorW.PrintMore
attribute [local go_sem] max2_int min2_int max_two min_two max_three min_three max_four min_four   -- for this text's walks alone
set_option linter.unusedVariables false
set_option linter.unusedSimpArgs false
def jtext_escaped.j0 : Nat → Int → Int → Bool → Option (Int × Bool)
 | 0, _, _, _ => none
 | k + 1, x0, x4, x5 => if x5 = true then (some (wrap32 (x0), true)) else (if x4 = 98 then (some (8, true)) else (if x4 = 102 then (some (12, true)) else (if x4 = 110 then (some (10, true)) else (if x4 = 114 then (some (13, true)) else (if x4 = 116 then (some (9, true)) else (some (0, false)))))))
def jtext_escaped.f (k : Nat) (a0 : Int) : Option (Int × Bool) := if a0 = 34 then (jtext_escaped.j0 k a0 a0 (a0 == 34)) else (if a0 = 92 then (jtext_escaped.j0 k a0 a0 (a0 == 92)) else (jtext_escaped.j0 k a0 a0 (a0 == 47)))
theorem jtext_escaped.mono_l : ∀ k, (∀ y0 y1 y2, LeO (jtext_escaped.j0 k y0 y1 y2) (jtext_escaped.j0 (k + 1) y0 y1 y2))
 | 0 => fun _ _ _ r h => by simp [jtext_escaped.j0] at h
 | k + 1 => by
  have ih0 := jtext_escaped.mono_l k
  ·intro y0 y1 y2
   unfold jtext_escaped.j0
   repeat' first
   | (with_reducible exact ih0 _ _ _)
   | (with_reducible exact LeO.refl _)
   | (with_reducible exact LeO.none _)
   | (with_reducible refine LeO.ite ?_ ?_)
   | (with_reducible refine LeO.bind ?_ (fun _ => ?_))
   | exact ih0 _ _ _
   | exact LeO.none _
   | refine LeO.ite ?_ ?_
   | refine LeO.bind ?_ (fun _ => ?_)
theorem jtext_escaped.mono : ∀ a0 k, LeO (jtext_escaped.f k a0) (jtext_escaped.f (k + 1) a0) := by
 intro a0 k
 have ih0 := jtext_escaped.mono_l k
 unfold jtext_escaped.f
 repeat' first
   | (with_reducible exact ih0 _ _ _)
   | (with_reducible exact LeO.refl _)
   | (with_reducible exact LeO.none _)
   | (with_reducible refine LeO.ite ?_ ?_)
   | (with_reducible refine LeO.bind ?_ (fun _ => ?_))
   | exact ih0 _ _ _
   | exact LeO.none _
   | refine LeO.ite ?_ ?_
   | refine LeO.bind ?_ (fun _ => ?_)
set_option maxHeartbeats 8000000 in
set_option maxRecDepth 100000 in
theorem jtext_escaped.calls (k : Nat) (a0 : Int) (r1 : Int) (r2 : Bool) (w : World) (h : jtext_escaped.f k a0 = some (r1, r2)) :
  Calls Tryz.prog 173 #[.int .u8 a0] w fun e w' => e = .returned (.tuple #[.int .i32 r1, .bool r2]) ∧ Drawn0 w w' := by
 have H : (if a0 = 34 then (jtext_escaped.j0 k a0 a0 (a0 == 34)) else (if a0 = 92 then (jtext_escaped.j0 k a0 a0 (a0 == 92)) else (jtext_escaped.j0 k a0 a0 (a0 == 47)))) = some (r1, r2) := h
 clear h
 have HC2 := am H
 clear H
 go_enter Tryz.func173, Tryz.ntmps173
 go_upto_if 5 with (fail)
 go_cut [5] (fun v5 wc => ∃ (kq : Nat) (x5_1 : Bool), v5 = .bool x5_1 ∧ Aside0 (jtext_escaped.j0 kq a0 a0 x5_1 = some (r1, r2)) ∧ Aside0 (kq ≤ k) ∧ Drawn0 w wc)
 case first =>
  have H := HC2.out
  clear HC2
  by_cases c3 : a0 = 34
  ·rw [if_pos c3] at H
   have c3b0 : (a0 == 34) = true := beq_iff_eq.mpr c3
   have c3b1 : (a0 != 34) = false := bne_eq_false_iff_eq.mpr c3
   clear c3
   (first | rw [c3b0] | (simp only [i64_w, i32_w]; rw [c3b0]) | skip)
   have H' := am H
   clear H
   go_wp2
   go_meet
   case rel => exact ⟨_, ((a0 == 34)), (by first | rfl | (simp; done) | (simp [*]; done)), H', ⟨by first | omega | exact Nat.le_refl _⟩, by repeat (first | exact Drawn0.refl _ | apply Drawn0.step)⟩
  ·rw [if_neg c3] at H
   have c3b0 : (a0 == 34) = false := beq_eq_false_iff_ne.mpr c3
   have c3b1 : (a0 != 34) = true := bne_iff_ne.mpr c3
   (first | rw [c3b0] | (simp only [i64_w, i32_w]; rw [c3b0]) | skip)
   by_cases c4 : a0 = 92
   ·rw [if_pos c4] at H
    have c4b0 : (a0 == 92) = true := beq_iff_eq.mpr c4
    have c4b1 : (a0 != 92) = false := bne_eq_false_iff_eq.mpr c4
    clear c4
    have H' := am H
    clear H
    go_wp2
    go_meet
    case rel => exact ⟨_, ((a0 == 92)), (by first | rfl | (simp; done) | (simp [*]; done)), H', ⟨by first | omega | exact Nat.le_refl _⟩, by repeat (first | exact Drawn0.refl _ | apply Drawn0.step)⟩
   ·rw [if_neg c4] at H
    have c4b0 : (a0 == 92) = false := beq_eq_false_iff_ne.mpr c4
    have c4b1 : (a0 != 92) = true := bne_iff_ne.mpr c4
    have H' := am H
    clear H
    go_wp2
    go_meet
    case rel => exact ⟨_, ((a0 == 47)), (by first | rfl | (simp; done) | (simp [*]; done)), H', ⟨by first | omega | exact Nat.le_refl _⟩, by repeat (first | exact Drawn0.refl _ | apply Drawn0.step)⟩
 case rest =>
  clear HC2
  try clear c1
  try clear p2
  try clear c3
  try clear c3b0
  try clear c3b1
  try clear c4
  try clear c4b0
  try clear c4b1
  obtain ⟨kq, x5_1, rfl, HA, HJ1, ⟨mc1, rfl⟩⟩ := hcut
  cases kq with
  | zero => exact absurd HA.out (by simp [jtext_escaped.j0])
  | succ kj1 =>
   have H := HA.out
   clear HA
   simp only [jtext_escaped.j0] at H
   by_cases c5 : x5_1 = true
   ·subst c5
    have H1 : (some (wrap32 (a0), true)) = some (r1, r2) := by rw [if_pos rfl] at H; exact H
    clear H
    have H := H1
    clear H1
    simp only [Option.some.injEq, Prod.mk.injEq] at H
    obtain ⟨rfl, rfl⟩ := H
    go_wp2
    go_ret2
    exact ⟨by first | rfl | (simp; done) | (simp [*]; done), by repeat (first | exact Drawn0.refl _ | apply Drawn0.step)⟩
   ·replace c5 := Bool.eq_false_iff.mpr c5
    subst c5
    have H1 : (if a0 = 98 then (some (8, true)) else (if a0 = 102 then (some (12, true)) else (if a0 = 110 then (some (10, true)) else (if a0 = 114 then (some (13, true)) else (if a0 = 116 then (some (9, true)) else (some (0, false))))))) = some (r1, r2) := by rw [if_neg (show ¬ (false = true) by decide)] at H; exact H
    clear H
    have H := H1
    clear H1
    by_cases c6 : a0 = 98
    ·rw [if_pos c6] at H
     have c6b0 : (a0 == 98) = true := beq_iff_eq.mpr c6
     have c6b1 : (a0 != 98) = false := bne_eq_false_iff_eq.mpr c6
     clear c6
     simp only [Option.some.injEq, Prod.mk.injEq] at H
     obtain ⟨rfl, rfl⟩ := H
     go_wp2
     go_ret2
     exact ⟨by first | rfl | (simp; done) | (simp [*]; done), by repeat (first | exact Drawn0.refl _ | apply Drawn0.step)⟩
    ·rw [if_neg c6] at H
     have c6b0 : (a0 == 98) = false := beq_eq_false_iff_ne.mpr c6
     have c6b1 : (a0 != 98) = true := bne_iff_ne.mpr c6
     by_cases c7 : a0 = 102
     ·rw [if_pos c7] at H
      have c7b0 : (a0 == 102) = true := beq_iff_eq.mpr c7
      have c7b1 : (a0 != 102) = false := bne_eq_false_iff_eq.mpr c7
      clear c7
      simp only [Option.some.injEq, Prod.mk.injEq] at H
      obtain ⟨rfl, rfl⟩ := H
      go_wp2
      go_ret2
      exact ⟨by first | rfl | (simp; done) | (simp [*]; done), by repeat (first | exact Drawn0.refl _ | apply Drawn0.step)⟩
     ·rw [if_neg c7] at H
      have c7b0 : (a0 == 102) = false := beq_eq_false_iff_ne.mpr c7
      have c7b1 : (a0 != 102) = true := bne_iff_ne.mpr c7
      by_cases c8 : a0 = 110
      ·rw [if_pos c8] at H
       have c8b0 : (a0 == 110) = true := beq_iff_eq.mpr c8
       have c8b1 : (a0 != 110) = false := bne_eq_false_iff_eq.mpr c8
       clear c8
       simp only [Option.some.injEq, Prod.mk.injEq] at H
       obtain ⟨rfl, rfl⟩ := H
       go_wp2
       go_ret2
       exact ⟨by first | rfl | (simp; done) | (simp [*]; done), by repeat (first | exact Drawn0.refl _ | apply Drawn0.step)⟩
      ·rw [if_neg c8] at H
       have c8b0 : (a0 == 110) = false := beq_eq_false_iff_ne.mpr c8
       have c8b1 : (a0 != 110) = true := bne_iff_ne.mpr c8
       by_cases c9 : a0 = 114
       ·rw [if_pos c9] at H
        have c9b0 : (a0 == 114) = true := beq_iff_eq.mpr c9
        have c9b1 : (a0 != 114) = false := bne_eq_false_iff_eq.mpr c9
        clear c9
        simp only [Option.some.injEq, Prod.mk.injEq] at H
        obtain ⟨rfl, rfl⟩ := H
        go_wp2
        go_ret2
        exact ⟨by first | rfl | (simp; done) | (simp [*]; done), by repeat (first | exact Drawn0.refl _ | apply Drawn0.step)⟩
       ·rw [if_neg c9] at H
        have c9b0 : (a0 == 114) = false := beq_eq_false_iff_ne.mpr c9
        have c9b1 : (a0 != 114) = true := bne_iff_ne.mpr c9
        by_cases c10 : a0 = 116
        ·rw [if_pos c10] at H
         have c10b0 : (a0 == 116) = true := beq_iff_eq.mpr c10
         have c10b1 : (a0 != 116) = false := bne_eq_false_iff_eq.mpr c10
         clear c10
         simp only [Option.some.injEq, Prod.mk.injEq] at H
         obtain ⟨rfl, rfl⟩ := H
         go_wp2
         go_ret2
         exact ⟨by first | rfl | (simp; done) | (simp [*]; done), by repeat (first | exact Drawn0.refl _ | apply Drawn0.step)⟩
        ·rw [if_neg c10] at H
         have c10b0 : (a0 == 116) = false := beq_eq_false_iff_ne.mpr c10
         have c10b1 : (a0 != 116) = true := bne_iff_ne.mpr c10
         simp only [Option.some.injEq, Prod.mk.injEq] at H
         obtain ⟨rfl, rfl⟩ := H
         go_wp2
         go_ret2
         exact ⟨by first | rfl | (simp; done) | (simp [*]; done), by repeat (first | exact Drawn0.refl _ | apply Drawn0.step)⟩
end Go.Proofs.YtpdelcbkcebkpaaGreatDoor.X
namespace Go.Proofs.YtpdelcbkcebkpaaGreatDoor.X
open Go.RowKit Go.Proofs.YtpdelcbkcebkpaaGreatDoorW.PrintWords
theorem RdB.c0 {R : Nat} {s : ByteArray} {p : Int} {W : World} (h : RdB R s p W) : W.cell? ⟨R, 0, none⟩ = some (.string s) := blk_cell h 0
theorem RdB.c1 {R : Nat} {s : ByteArray} {p : Int} {W : World} (h : RdB R s p W) : W.cell? ⟨R, 1, none⟩ = some (.int .i64 p) := blk_cell h 1
theorem RdB.f1 {R : Nat} {s : ByteArray} {p : Int} {W : World} (h : RdB R s p W) : W.frozen? ⟨R, 1, none⟩ = false := blk_free h 1
set_option maxRecDepth 100000 in
theorem esc_all : ∀ n : Fin 256, jtext_escaped.f 9 (n.val : Int) = some (match escdF (UInt8.ofNat n.val) with | some x => ((x : Int), true) | none => (0, false)) := by decide +kernel
theorem esc_f (c : UInt8) : jtext_escaped.f 9 (c.toNat : Int) = some (match escdF c with | some x => ((x : Int), true) | none => (0, false)) := by
 have h := esc_all ⟨c.toNat, c.toNat_lt⟩
 simp only [UInt8.ofNat_toNat] at h
 exact h
theorem esc_yes (c : UInt8) (x : Nat) (h : escdF c = some x) (w : World) : Calls Tryz.prog 173 #[.int .u8 c.toNat] w fun e w' => e = .returned (.tuple #[.int .i32 x, .bool true]) ∧ Drawn0 w w' :=
 jtext_escaped.calls 9 c.toNat x true w (by rw [esc_f, h])
theorem esc_no (c : UInt8) (h : escdF c = none) (w : World) : Calls Tryz.prog 173 #[.int .u8 c.toNat] w fun e w' => e = .returned (.tuple #[.int .i32 0, .bool false]) ∧ Drawn0 w w' :=
 jtext_escaped.calls 9 c.toNat 0 false w (by rw [esc_f, h])
theorem Calls.val_of {α : Type} {f R : Nat} {s : ByteArray} {W : World} {args : Array Value} {o : Out α} {val : α → Value → World → Prop} {a : α} {q : Nat} (h : Calls Tryz.prog f args W (Ends R s W o val)) (ho : o = .val a q) :
  Calls Tryz.prog f args W fun x W' => ∃ v, x = .returned v ∧ val a v W' ∧ RdB R s q W' ∧ On R W W' :=
 h.mono fun x W' ⟨h1, h2⟩ => by
  subst ho
  obtain ⟨v, h3, h4, h5⟩ := h2
  exact ⟨v, h3, h4, h5, h1⟩
theorem Calls.err_of {α : Type} {f R : Nat} {s : ByteArray} {W : World} {args : Array Value} {o : Out α} {val : α → Value → World → Prop} {e q : Nat} (h : Calls Tryz.prog f args W (Ends R s W o val)) (ho : o = .err e q) :
  Calls Tryz.prog f args W fun x W' => x = pan e q ∧ On R W W' :=
 h.mono fun x W' ⟨h1, h2⟩ => by
  subst ho
  exact ⟨h2, h1⟩
theorem hexF_lt (c : UInt8) (d : Nat) (h : hexF c = some d) : d < 16 := by
 unfold hexF at h
 split at h
 ·injection h with h; omega
 ·split at h
  ·injection h with h; omega
  ·split at h
   ·injection h with h; omega
   ·cases h
theorem fourF_val (s : List UInt8) : ∀ (k x p y q : Nat), fourF s k x p = .val y q → q = p + k ∧ (p ≤ s.length → q ≤ s.length) ∧ y < (x + 1) * 16 ^ k
 | 0, x, p, y, q, h => by
  simp only [fourF, Out.val.injEq] at h
  obtain ⟨rfl, rfl⟩ := h
  exact ⟨rfl, fun h => h, by omega⟩
 | k + 1, x, p, y, q, h => by
  cases hc : s[p]? with
  | none => rw [fourF_short _ _ _ _ hc] at h; cases h
  | some c =>
   have hlt := (List.getElem?_eq_some_iff.1 hc).1
   cases hx : hexF c with
   | none => rw [fourF_bad _ _ _ _ _ hc hx] at h; cases h
   | some d =>
    rw [fourF_on _ _ _ _ _ _ hc hx] at h
    obtain ⟨h1, h2, h3⟩ := fourF_val s k _ _ _ _ h
    have hd := hexF_lt c d hx
    refine ⟨by omega, fun _ => h2 (by omega), ?_⟩
    have : (x * 16 + d + 1) * 16 ^ k ≤ ((x + 1) * 16) * 16 ^ k := Nat.mul_le_mul_right _ (by omega)
    rw [Nat.pow_succ]
    calc y < (x * 16 + d + 1) * 16 ^ k := h3
     _ ≤ ((x + 1) * 16) * 16 ^ k := this
     _ = (x + 1) * (16 ^ k * 16) := by rw [Nat.mul_assoc, Nat.mul_comm 16]
def pairF (s : List UInt8) (p x q : Nat) : Out Nat :=
 match mustF s p [92, 117] q with
 | .err e p => .err e p
 | .val _ p' => match fourF s 4 0 p' with
  | .err e p => .err e p
  | .val y p2 => if y < 0xdc00 ∨ 0xdfff < y then .err 43 p else .val (0x10000 + (x - 0xd800) * 0x400 + (y - 0xdc00)) p2
theorem drawn_heap {w w1 : World} (h : Drawn0 w w1) {b : Nat} : w1.heap[b]? = w.heap[b]? := by
 obtain ⟨n, rfl⟩ := h
 rfl
theorem blk_cellF {w : World} {b : Nat} {c : Array Value} {t : TypeId} {f : Nat × Nat} (h : w.heap[b]? = some (.cells c t f)) (k : Nat) : w.cell? ⟨b, k, none⟩ = c[k]? := by simp [World.cell?, h]
theorem mustF_short (s w : List UInt8) (f p : Nat) (c : UInt8) (h : s[p]? = none) : mustF s f (c :: w) p = .err 3 s.length := by simp [mustF, h]
theorem mustF_bad (s w : List UInt8) (f p : Nat) (c x : UInt8) (h : s[p]? = some x) (hx : x ≠ c) : mustF s f (c :: w) p = .err 43 f := by simp [mustF, h, hx]
theorem mustF_on (s w : List UInt8) (f p : Nat) (c : UInt8) (h : s[p]? = some c) : mustF s f (c :: w) p = mustF s f w (p + 1) := by simp [mustF, h]
set_option maxRecDepth 1000000 in
set_option maxHeartbeats 4000000 in
theorem escape_calls (R : Nat) (s : ByteArray) (p : Nat) (hl : s.size ≤ 9223372036854775800) (hp : p < s.size) (W : World) (h : RdB R s p W) :
  Calls Tryz.prog 138 #[ptr R] W (Ends R s W (escF s.data.toList p) numV) := by
 have HR1 := am (show RdB R s ((p + 1 : Nat) : Int) (W.setCell ⟨R, 1, none⟩ (.int .i64 ((p : Int) + 1))) from h.set _)
 have HO1 := am ((On.refl R W).set 1 (.int .i64 ((p : Int) + 1)))
 have c0 := h.c1
 have f0 := h.f1
 cases hc : s.data.toList[p + 1]? with
 | none =>
  have hps : s.size ≤ p + 1 := by rw [List.getElem?_eq_none_iff, size_data] at hc; exact hc
  have HX := am (show escF s.data.toList p = .err 3 s.size by rw [← size_data s]; simp only [escF, hc])
  clear hc
  go_enter Tryz.func138, Tryz.ntmps138
  go_wp2_with (go_at_call 104; (with_reducible refine (peek_short R s (p + 1) hps _ ?rd).mono ?_); (case rd => exact HR1.out); rintro e w1 ⟨rfl, hb⟩; have HB := am hb; clear hb)
  exact ⟨rfl, Ends.no HX.out (HO1.out.drawn HB.out)⟩
 | some c =>
  have HC := am hc
  have hu := c.toNat_lt
  cases hx : escdF c with
  | some x =>
   have HX := am (show escF s.data.toList p = .val x (p + 2) by simp only [escF, hc, hx])
   have HS := am hx
   clear hc hx
   go_enter Tryz.func138, Tryz.ntmps138
   go_wp2_with (first | (go_at_call 104; (with_reducible refine (peek_ok R s (p + 1) c HC.out _ ?rd).mono ?_); (case rd => exact HR1.out); rintro e w1 ⟨rfl, hb⟩; have HB := am hb; clear hb) | (go_at_call 173; (with_reducible refine (esc_yes c x HS.out _).mono ?_); rintro e w2 ⟨rfl, hb⟩; have HR2 := am ((HR1.out.drawn HB.out).drawn hb); have HO2 := am ((HO1.out.drawn HB.out).drawn hb); have c2 := HR2.out.c1; have f2 := HR2.out.f1; clear hb))
   go_ret
   exact Ends.ok HX.out rfl (HR2.out.set _) (HO2.out.set _ _)
  | none =>
   have HS := am hx
   by_cases h117 : c = 117
   ·have hlt2 := at_lt' hc
    have HL2 := am (show p + 2 ≤ s.size by omega)
    have e117 : ((c.toNat : Int) != 117) = false := by rw [h117]; decide
    cases hf : fourF s.data.toList 4 0 (p + 2) with
    | err e q =>
     have HX := am (show escF s.data.toList p = .err e q by simp only [escF, hc, hx, if_pos h117, hf])
     have HF := am hf
     clear hc hx hf h117
     go_enter Tryz.func138, Tryz.ntmps138
     go_wp2_with (first | (go_at_call 104; (with_reducible refine (peek_ok R s (p + 1) c HC.out _ ?rd).mono ?_); (case rd => exact HR1.out); rintro e w1 ⟨rfl, hb⟩; have HB := am hb; clear hb) | (go_at_call 173; (with_reducible refine (esc_no c HS.out _).mono ?_); rintro e w2 ⟨rfl, hb⟩; have HR2 := am ((HR1.out.drawn HB.out).drawn hb); have HO2 := am ((HO1.out.drawn HB.out).drawn hb); have c2 := HR2.out.c1; have f2 := HR2.out.f1; have HR3 := am (show RdB R s ((p + 2 : Nat) : Int) (w2.setCell ⟨R, 1, none⟩ (.int .i64 ((p : Int) + 1 + 1))) from HR2.out.set _); have HO3 := am (HO2.out.set 1 (.int .i64 ((p : Int) + 1 + 1))); clear hb) | (go_at_call 174; (with_reducible refine (Calls.err_of (four_calls R s (p + 2) (by omega) HL2.out _ ?rd) HF.out).mono ?_); (case rd => exact HR3.out); rintro e w4 ⟨rfl, ho⟩; have HO4 := am (HO3.out.trans ho); clear ho))
     exact ⟨rfl, Ends.no HX.out HO4.out⟩
    | val x q =>
     obtain ⟨hq1, hq2, hx3⟩ := fourF_val _ _ _ _ _ _ hf
     have hqs := hq2 (by rw [size_data]; omega)
     rw [size_data] at hqs
     clear hq1 hq2
     have hx4 : x < 65536 := by simpa using hx3
     have HF := am hf
     by_cases hA : 0xdc00 ≤ x ∧ x ≤ 0xdfff
     ·have HX := am (show escF s.data.toList p = .err 43 p by simp only [escF, hc, hx, if_pos h117, hf, if_pos hA])
      clear hc hx hf h117
      have a1 : (56320 : Int) ≤ (x : Int) := by omega
      have a2 : (x : Int) ≤ 57343 := by omega
      go_enter Tryz.func138, Tryz.ntmps138
      go_wp2_with (first | (go_at_call 104; (with_reducible refine (peek_ok R s (p + 1) c HC.out _ ?rd).mono ?_); (case rd => exact HR1.out); rintro e w1 ⟨rfl, hb⟩; have HB := am hb; clear hb) | (go_at_call 173; (with_reducible refine (esc_no c HS.out _).mono ?_); rintro e w2 ⟨rfl, hb⟩; have HR2 := am ((HR1.out.drawn HB.out).drawn hb); have HO2 := am ((HO1.out.drawn HB.out).drawn hb); have c2 := HR2.out.c1; have f2 := HR2.out.f1; have HR3 := am (show RdB R s ((p + 2 : Nat) : Int) (w2.setCell ⟨R, 1, none⟩ (.int .i64 ((p : Int) + 1 + 1))) from HR2.out.set _); have HO3 := am (HO2.out.set 1 (.int .i64 ((p : Int) + 1 + 1))); clear hb) | (go_at_call 174; (with_reducible refine (Calls.val_of (four_calls R s (p + 2) (by omega) HL2.out _ ?rd) HF.out).mono ?_); (case rd => exact HR3.out); rintro e w4 ⟨v, rfl, rfl, hr, ho⟩; have HR4 := am hr; have HO4 := am (HO3.out.trans ho); have c4 := hr.c1; have f4 := hr.f1; clear hr ho) | (go_at_call 57; (with_reducible refine (fail_calls _ _ _ _).mono ?_); rintro e w9 ⟨rfl, hb⟩; have HB9 := am hb; clear hb))
      exact ⟨rfl, Ends.no HX.out (HO4.out.drawn HB9.out)⟩
     ·by_cases hB : 0xd800 ≤ x ∧ x ≤ 0xdbff
      ·have HX := am (show escF s.data.toList p = pairF s.data.toList p x q by simp only [escF, hc, hx, if_pos h117, hf, if_neg hA, if_pos hB]; rfl)
       clear hc hx hf h117
       have a1 : ¬ (56320 : Int) ≤ (x : Int) := by omega
       have a2 : (55296 : Int) ≤ (x : Int) := by omega
       have a3 : (x : Int) ≤ 56319 := by omega
       have a4 : decide ((56320 : Int) ≤ (x : Int)) = false := decide_eq_false a1
       have kc := fun (w : World) (C : Array Value) (n c : Nat) => Lib.run_convert_bytes_const (P := Tryz.prog) w 73 5 C n c Tryz.underlying73 Tryz.underlying5
       go_enter Tryz.func138, Tryz.ntmps138
       go_wp2_with (first | (go_at_call 104; (with_reducible refine (peek_ok R s (p + 1) c HC.out _ ?rd).mono ?_); (case rd => exact HR1.out); rintro e w1 ⟨rfl, hb⟩; have HB := am hb; clear hb) | (go_at_call 173; (with_reducible refine (esc_no c HS.out _).mono ?_); rintro e w2 ⟨rfl, hb⟩; have HR2 := am ((HR1.out.drawn HB.out).drawn hb); have HO2 := am ((HO1.out.drawn HB.out).drawn hb); have c2 := HR2.out.c1; have f2 := HR2.out.f1; have HR3 := am (show RdB R s ((p + 2 : Nat) : Int) (w2.setCell ⟨R, 1, none⟩ (.int .i64 ((p : Int) + 1 + 1))) from HR2.out.set _); have HO3 := am (HO2.out.set 1 (.int .i64 ((p : Int) + 1 + 1))); clear hb) | (go_at_call 174; (with_reducible refine (Calls.val_of (four_calls R s (p + 2) (by omega) HL2.out _ ?rd) HF.out).mono ?_); (case rd => exact HR3.out); rintro e w4 ⟨v, rfl, rfl, hr, ho⟩; have HR4 := am hr; have HO4 := am (HO3.out.trans ho); have c4 := hr.c1; have f4 := hr.f1; clear hr ho))
       have hRB : w4.heap.size ≠ R := by have := HR4.out.lt; omega
       have HB0 := am (show (w4.alloc (Obj.cells #[Value.int IntKind.u8 92, Value.int IntKind.u8 117] 5 (2, 3))).heap[w4.heap.size]? = some (Obj.cells #[Value.int IntKind.u8 92, Value.int IntKind.u8 117] 5 (2, 3)) from heap_alloc_new _ _)
       have HR7 := am (show RdB R s (q : Nat) (w4.alloc (Obj.cells #[Value.int IntKind.u8 92, Value.int IntKind.u8 117] 5 (2, 3))) from HR4.out.below (below_alloc (Below.refl _ _) _))
       have HO7 := am (HO4.out.trans (On.of_below (Nat.le_of_lt HR4.out.lt) (below_alloc (Below.refl _ _) (Obj.cells #[Value.int IntKind.u8 92, Value.int IntKind.u8 117] 5 (2, 3)))))
       go_loopg [75] 2 (fun g v wr => ∃ k : Nat, v = .int .i64 k ∧ k + g = 2 ∧ q + k ≤ s.size ∧ Aside0 (mustF s.data.toList p [92, 117] q = mustF s.data.toList p (([92, 117] : List UInt8).drop k) (q + k)) ∧ Aside0 (RdB R s (q + k : Nat) wr) ∧ Aside0 (On R W wr) ∧ Aside0 (wr.heap[w4.heap.size]? = some (Obj.cells #[Value.int IntKind.u8 92, Value.int IntKind.u8 117] 5 (2, 3))))
       case atStart => exact ⟨0, rfl, rfl, by omega, ⟨rfl⟩, HR7, HO7, HB0⟩
       case round =>
        clear HB0 HR7 HO7 HR4 HO4 c4 f4 c2 f2 HR3 HO3 HR2 HO2 HB
        obtain ⟨k, rfl, hk, hqk, HE, HR, HO, HB⟩ := hrel
        have d0 := blk_cellF HB.out 0
        have d1 := blk_cellF HB.out 1
        have c7 := HR.out.c1
        have f7 := HR.out.f1
        dsimp at d0 d1
        have hk3 : k = 0 ∨ k = 1 ∨ k = 2 := by omega
        rcases hk3 with rfl | rfl | rfl
        ·skip
         cases hc : s.data.toList[q + 0]? with
         | none =>
          have hps : s.size ≤ q + 0 := by rw [List.getElem?_eq_none_iff, size_data] at hc; exact hc
          have HY := am (HX.out.trans (show pairF s.data.toList p x q = .err 3 s.size by unfold pairF; rw [HE.out.trans (mustF_short _ _ _ _ _ hc), size_data]))
          clear hc
          go_wp2_with (go_at_call 104; (with_reducible refine (peek_short R s (q + 0) hps _ ?rd).mono ?_); (case rd => exact HR.out); rintro e w1 ⟨rfl, hb⟩; have HB := am hb; clear hb)
          exact ⟨rfl, Ends.no HY.out (HO.out.drawn HB.out)⟩
         | some c =>
          have HC := am hc
          by_cases hcb : c = 92
          ·have HE1 := am (HE.out.trans (mustF_on s.data.toList [117] p (q + 0) 92 (by rw [hc, hcb])))
           have hpk := at_lt' hc
           have e1 : ((c.toNat : Int) != 92) = false := by rw [hcb]; decide
           clear hc hcb
           go_wp2_with (go_at_call 104; (with_reducible refine (peek_ok R s (q + 0) c HC.out _ ?rd).mono ?_); (case rd => exact HR.out); rintro e w1 ⟨rfl, hb⟩; have HR5 := am (HR.out.drawn hb); have HO5 := am (HO.out.drawn hb); have c5 := HR5.out.c1; have f5 := HR5.out.f1; have HB5 := am ((drawn_heap hb).trans HB.out); clear hb)
           go_roundg 1
           case measure => omega
           case rel => exact ⟨1, by go_num, rfl, by omega, ⟨HE1.out⟩, ⟨HR5.out.set _⟩, ⟨HO5.out.set _ _⟩, ⟨(Below.heap_setCell _ _ _ _ hRB).trans HB5.out⟩⟩
          ·have HY := am (HX.out.trans (show pairF s.data.toList p x q = .err 43 p by unfold pairF; rw [HE.out.trans (mustF_bad _ _ _ _ _ _ hc hcb)]))
           have hne : ¬ (c.toNat : Int) = 92 := fun hh => hcb (UInt8.toNat.inj (by have : (92 : UInt8).toNat = 92 := rfl; omega))
           have e1 : ((c.toNat : Int) != 92) = true := by simp [bne, hne]
           clear hc hcb
           go_wp2_with (first | (go_at_call 104; (with_reducible refine (peek_ok R s (q + 0) c HC.out _ ?rd).mono ?_); (case rd => exact HR.out); rintro e w1 ⟨rfl, hb⟩; have HO5 := am (HO.out.drawn hb); clear hb) | (go_at_call 57; (with_reducible refine (fail_calls _ _ _ _).mono ?_); rintro e w9 ⟨rfl, hb⟩; have HB9 := am hb; clear hb))
           exact ⟨rfl, Ends.no HY.out (HO5.out.drawn HB9.out)⟩
        ·skip
         cases hc : s.data.toList[q + 1]? with
         | none =>
          have hps : s.size ≤ q + 1 := by rw [List.getElem?_eq_none_iff, size_data] at hc; exact hc
          have HY := am (HX.out.trans (show pairF s.data.toList p x q = .err 3 s.size by unfold pairF; rw [HE.out.trans (mustF_short _ _ _ _ _ hc), size_data]))
          clear hc
          go_wp2_with (go_at_call 104; (with_reducible refine (peek_short R s (q + 1) hps _ ?rd).mono ?_); (case rd => exact HR.out); rintro e w1 ⟨rfl, hb⟩; have HB := am hb; clear hb)
          exact ⟨rfl, Ends.no HY.out (HO.out.drawn HB.out)⟩
         | some c =>
          have HC := am hc
          by_cases hcb : c = 117
          ·have HE1 := am (HE.out.trans (mustF_on s.data.toList [] p (q + 1) 117 (by rw [hc, hcb])))
           have hpk := at_lt' hc
           have e1 : ((c.toNat : Int) != 117) = false := by rw [hcb]; decide
           clear hc hcb
           go_wp2_with (go_at_call 104; (with_reducible refine (peek_ok R s (q + 1) c HC.out _ ?rd).mono ?_); (case rd => exact HR.out); rintro e w1 ⟨rfl, hb⟩; have HR5 := am (HR.out.drawn hb); have HO5 := am (HO.out.drawn hb); have c5 := HR5.out.c1; have f5 := HR5.out.f1; have HB5 := am ((drawn_heap hb).trans HB.out); clear hb)
           go_roundg 0
           case measure => omega
           case rel => exact ⟨2, by go_num, rfl, by omega, ⟨HE1.out⟩, ⟨HR5.out.set _⟩, ⟨HO5.out.set _ _⟩, ⟨(Below.heap_setCell _ _ _ _ hRB).trans HB5.out⟩⟩
          ·have HY := am (HX.out.trans (show pairF s.data.toList p x q = .err 43 p by unfold pairF; rw [HE.out.trans (mustF_bad _ _ _ _ _ _ hc hcb)]))
           have hne : ¬ (c.toNat : Int) = 117 := fun hh => hcb (UInt8.toNat.inj (by have : (117 : UInt8).toNat = 117 := rfl; omega))
           have e1 : ((c.toNat : Int) != 117) = true := by simp [bne, hne]
           clear hc hcb
           go_wp2_with (first | (go_at_call 104; (with_reducible refine (peek_ok R s (q + 1) c HC.out _ ?rd).mono ?_); (case rd => exact HR.out); rintro e w1 ⟨rfl, hb⟩; have HO5 := am (HO.out.drawn hb); clear hb) | (go_at_call 57; (with_reducible refine (fail_calls _ _ _ _).mono ?_); rintro e w9 ⟨rfl, hb⟩; have HB9 := am hb; clear hb))
           exact ⟨rfl, Ends.no HY.out (HO5.out.drawn HB9.out)⟩
        ·have HE2 := am (HE.out.trans (show _ = Out.val () (q + 2) from rfl))
         have HL5 := am hqk
         cases hg : fourF s.data.toList 4 0 (q + 2) with
         | err e q2 =>
          have HY := am (HX.out.trans (show pairF s.data.toList p x q = .err e q2 by unfold pairF; rw [HE2.out]; simp only [hg]))
          have HG := am hg
          clear hg
          go_wp2_with (go_at_call 174; (with_reducible refine (Calls.err_of (four_calls R s (q + 2) (by omega) HL5.out _ ?rd) HG.out).mono ?_); (case rd => exact HR.out); rintro e w6 ⟨rfl, ho⟩; have HO6 := am (HO.out.trans ho); clear ho)
          exact ⟨rfl, Ends.no HY.out HO6.out⟩
         | val y q2 =>
          have hy4 : y < 65536 := by simpa using (fourF_val _ _ _ _ _ _ hg).2.2
          have HG := am hg
          have HZ := HX.out.trans (show pairF s.data.toList p x q = if y < 0xdc00 ∨ 0xdfff < y then .err 43 p else .val (0x10000 + (x - 0xd800) * 0x400 + (y - 0xdc00)) q2 by unfold pairF; rw [HE2.out]; simp only [hg])
          clear hg
          by_cases y1 : y < 0xdc00
          ·have HY := am (HZ.trans (if_pos (.inl y1)))
           have b1 : (y : Int) < 56320 := by omega
           clear HZ
           go_wp2_with (first | (go_at_call 174; (with_reducible refine (Calls.val_of (four_calls R s (q + 2) (by omega) HL5.out _ ?rd) HG.out).mono ?_); (case rd => exact HR.out); rintro e w6 ⟨v, rfl, rfl, hr, ho⟩; have HR6 := am hr; have HO6 := am (HO.out.trans ho); clear hr ho) | (go_at_call 57; (with_reducible refine (fail_calls _ _ _ _).mono ?_); rintro e w9 ⟨rfl, hb⟩; have HB9 := am hb; clear hb))
           exact ⟨rfl, Ends.no HY.out (HO6.out.drawn HB9.out)⟩
          ·by_cases y2 : 0xdfff < y
           ·have HY := am (HZ.trans (if_pos (.inr y2)))
            have b1 : ¬ (y : Int) < 56320 := by omega
            have b2 : (57343 : Int) < (y : Int) := by omega
            have b3 : decide ((y : Int) < 56320) = false := decide_eq_false b1
            clear HZ
            go_wp2_with (first | (go_at_call 174; (with_reducible refine (Calls.val_of (four_calls R s (q + 2) (by omega) HL5.out _ ?rd) HG.out).mono ?_); (case rd => exact HR.out); rintro e w6 ⟨v, rfl, rfl, hr, ho⟩; have HR6 := am hr; have HO6 := am (HO.out.trans ho); clear hr ho) | (go_at_call 57; (with_reducible refine (fail_calls _ _ _ _).mono ?_); rintro e w9 ⟨rfl, hb⟩; have HB9 := am hb; clear hb))
            exact ⟨rfl, Ends.no HY.out (HO6.out.drawn HB9.out)⟩
           ·have HY := am (HZ.trans (if_neg (by omega)))
            have b1 : ¬ (y : Int) < 56320 := by omega
            have b2 : ¬ (57343 : Int) < (y : Int) := by omega
            have b3 : decide ((y : Int) < 56320) = false := decide_eq_false b1
            have b4 : decide ((57343 : Int) < (y : Int)) = false := decide_eq_false b2
            clear HZ
            go_wp2_with (go_at_call 174; (with_reducible refine (Calls.val_of (four_calls R s (q + 2) (by omega) HL5.out _ ?rd) HG.out).mono ?_); (case rd => exact HR.out); rintro e w6 ⟨v, rfl, rfl, hr, ho⟩; have HR6 := am hr; have HO6 := am (HO.out.trans ho); clear hr ho)
            go_ret
            exact Ends.ok HY.out (congrArg (Value.int .i32) (by omega)) HR6.out HO6.out
      ·have HX := am (show escF s.data.toList p = .val x q by simp only [escF, hc, hx, if_pos h117, hf, if_neg hA, if_neg hB])
       clear hc hx hf h117
       by_cases a0 : 0xdc00 ≤ x
       ·have a1 : ¬ (x : Int) ≤ 57343 := by omega
        have a2 : (56320 : Int) ≤ (x : Int) := by omega
        have a3 : ¬ (x : Int) ≤ 56319 := by omega
        have a4 : (55296 : Int) ≤ (x : Int) := by omega
        have b1 : decide ((x : Int) ≤ 57343) = false := decide_eq_false a1
        have b3 : decide ((x : Int) ≤ 56319) = false := decide_eq_false a3
        go_enter Tryz.func138, Tryz.ntmps138
        go_wp2_with (first | (go_at_call 104; (with_reducible refine (peek_ok R s (p + 1) c HC.out _ ?rd).mono ?_); (case rd => exact HR1.out); rintro e w1 ⟨rfl, hb⟩; have HB := am hb; clear hb) | (go_at_call 173; (with_reducible refine (esc_no c HS.out _).mono ?_); rintro e w2 ⟨rfl, hb⟩; have HR2 := am ((HR1.out.drawn HB.out).drawn hb); have HO2 := am ((HO1.out.drawn HB.out).drawn hb); have c2 := HR2.out.c1; have f2 := HR2.out.f1; have HR3 := am (show RdB R s ((p + 2 : Nat) : Int) (w2.setCell ⟨R, 1, none⟩ (.int .i64 ((p : Int) + 1 + 1))) from HR2.out.set _); have HO3 := am (HO2.out.set 1 (.int .i64 ((p : Int) + 1 + 1))); clear hb) | (go_at_call 174; (with_reducible refine (Calls.val_of (four_calls R s (p + 2) (by omega) HL2.out _ ?rd) HF.out).mono ?_); (case rd => exact HR3.out); rintro e w4 ⟨v, rfl, rfl, hr, ho⟩; have HR4 := am hr; have HO4 := am (HO3.out.trans ho); have c4 := hr.c1; have f4 := hr.f1; clear hr ho))
        go_ret
        exact Ends.ok HX.out rfl HR4.out HO4.out
       ·have a1 : ¬ (55296 : Int) ≤ (x : Int) := by omega
        have a2 : ¬ (56320 : Int) ≤ (x : Int) := by omega
        have b1 : decide ((55296 : Int) ≤ (x : Int)) = false := decide_eq_false a1
        have b2 : decide ((56320 : Int) ≤ (x : Int)) = false := decide_eq_false a2
        go_enter Tryz.func138, Tryz.ntmps138
        go_wp2_with (first | (go_at_call 104; (with_reducible refine (peek_ok R s (p + 1) c HC.out _ ?rd).mono ?_); (case rd => exact HR1.out); rintro e w1 ⟨rfl, hb⟩; have HB := am hb; clear hb) | (go_at_call 173; (with_reducible refine (esc_no c HS.out _).mono ?_); rintro e w2 ⟨rfl, hb⟩; have HR2 := am ((HR1.out.drawn HB.out).drawn hb); have HO2 := am ((HO1.out.drawn HB.out).drawn hb); have c2 := HR2.out.c1; have f2 := HR2.out.f1; have HR3 := am (show RdB R s ((p + 2 : Nat) : Int) (w2.setCell ⟨R, 1, none⟩ (.int .i64 ((p : Int) + 1 + 1))) from HR2.out.set _); have HO3 := am (HO2.out.set 1 (.int .i64 ((p : Int) + 1 + 1))); clear hb) | (go_at_call 174; (with_reducible refine (Calls.val_of (four_calls R s (p + 2) (by omega) HL2.out _ ?rd) HF.out).mono ?_); (case rd => exact HR3.out); rintro e w4 ⟨v, rfl, rfl, hr, ho⟩; have HR4 := am hr; have HO4 := am (HO3.out.trans ho); have c4 := hr.c1; have f4 := hr.f1; clear hr ho))
        go_ret
        exact Ends.ok HX.out rfl HR4.out HO4.out
   ·have HX := am (show escF s.data.toList p = .err 42 (p + 1) by simp only [escF, hc, hx, if_neg h117])
    have hne : ¬ (c.toNat : Int) = 117 := fun hh => h117 (UInt8.toNat.inj (by have : (117 : UInt8).toNat = 117 := rfl; omega))
    have e117 : ((c.toNat : Int) != 117) = true := by simp [bne, hne]
    clear hc hx h117
    go_enter Tryz.func138, Tryz.ntmps138
    go_wp2_with (first | (go_at_call 104; (with_reducible refine (peek_ok R s (p + 1) c HC.out _ ?rd).mono ?_); (case rd => exact HR1.out); rintro e w1 ⟨rfl, hb⟩; have HB := am hb; clear hb) | (go_at_call 173; (with_reducible refine (esc_no c HS.out _).mono ?_); rintro e w2 ⟨rfl, hb⟩; have HR2 := am ((HR1.out.drawn HB.out).drawn hb); have HO2 := am ((HO1.out.drawn HB.out).drawn hb); have c2 := HR2.out.c1; have f2 := HR2.out.f1; have HR3 := am (show RdB R s ((p + 2 : Nat) : Int) (w2.setCell ⟨R, 1, none⟩ (.int .i64 ((p : Int) + 1 + 1))) from HR2.out.set _); have HO3 := am (HO2.out.set 1 (.int .i64 ((p : Int) + 1 + 1))); clear hb) | (go_at_call 57; (with_reducible refine (fail_calls _ _ _ _).mono ?_); rintro e w9 ⟨rfl, hb⟩; have HB9 := am hb; clear hb))
    exact ⟨rfl, Ends.no HX.out (HO2.out.drawn HB9.out)⟩
end Go.Proofs.YtpdelcbkcebkpaaGreatDoor.X
namespace Go.Proofs
open Go.Shelf Go.RowKit
def Tryz.lays242_ren : Go.Shelf.Ren := ⟨fun | 242 => 137 | 278 => 172 | n => n, fun | 4 => 4 | 5 => 5 | 21 => 21 | 37 => 73 | 46 => 140 | 51 => 182 | n => n, fun  | n => n⟩
theorem Tryz.lays242 : Go.Proofs.Lays.n242 Tryz.prog Tryz.lays242_ren := {
 mixed := by kernel_rfl
 f242 := Tryz.func137.trans (congrArg some (by kernel_rfl))
 f278 := Tryz.func172.trans (congrArg some (by kernel_rfl))
 t4 := Tryz.underlying4
 a4 := Tryz.isAgg4
 z4 := Tryz.sizeOf4
 v4 := Tryz.zeroValue4
 t5 := Tryz.underlying5
 a5 := Tryz.isAgg5
 z5 := Tryz.sizeOf5
 v5 := Tryz.zeroValue5
 t21 := Tryz.underlying21
 a21 := Tryz.isAgg21
 z21 := Tryz.sizeOf21
 v21 := Tryz.zeroValue21
 t37 := Tryz.underlying73
 a37 := Tryz.isAgg73
 z37 := Tryz.sizeOf73
 v37 := Tryz.zeroValue73
 t46 := Tryz.underlying140
 a46 := Tryz.isAgg140
 z46 := Tryz.sizeOf140
 v46 := Tryz.zeroValue140
 t51 := Tryz.underlying182
 a51 := Tryz.isAgg182
 z51 := Tryz.sizeOf182
 v51 := Tryz.zeroValue182 }
def Tryz.lays197_ren : Go.Shelf.Ren := ⟨fun | 197 => 139 | 260 => 175 | n => n, fun | 0 => 0 | 3 => 3 | 4 => 4 | 5 => 5 | 9 => 9 | 21 => 21 | 46 => 140 | 105 => 198 | 119 => 227 | 138 => 229 | 139 => 230 | n => n, fun | 3 => 2 | 4 => 3 | n => n⟩
theorem Tryz.lays197 : Go.Proofs.Lays.n197 Tryz.prog Tryz.lays197_ren := {
 mixed := by kernel_rfl
 f197 := Tryz.func139.trans (congrArg some (by kernel_rfl))
 f260 := Tryz.func175.trans (congrArg some (by kernel_rfl))
 t0 := Tryz.underlying0
 a0 := Tryz.isAgg0
 z0 := Tryz.sizeOf0
 v0 := Tryz.zeroValue0
 t3 := Tryz.underlying3
 a3 := Tryz.isAgg3
 z3 := Tryz.sizeOf3
 v3 := Tryz.zeroValue3
 t4 := Tryz.underlying4
 a4 := Tryz.isAgg4
 z4 := Tryz.sizeOf4
 v4 := Tryz.zeroValue4
 t5 := Tryz.underlying5
 a5 := Tryz.isAgg5
 z5 := Tryz.sizeOf5
 v5 := Tryz.zeroValue5
 t9 := Tryz.underlying9
 a9 := Tryz.isAgg9
 z9 := Tryz.sizeOf9
 v9 := Tryz.zeroValue9
 t21 := Tryz.underlying21
 a21 := Tryz.isAgg21
 z21 := Tryz.sizeOf21
 v21 := Tryz.zeroValue21
 t46 := Tryz.underlying140
 a46 := Tryz.isAgg140
 z46 := Tryz.sizeOf140
 v46 := Tryz.zeroValue140
 t105 := Tryz.underlying198
 a105 := Tryz.isAgg198
 z105 := Tryz.sizeOf198
 v105 := Tryz.zeroValue198
 t119 := Tryz.underlying227
 a119 := Tryz.isAgg227
 z119 := Tryz.sizeOf227
 t138 := Tryz.underlying229
 a138 := Tryz.isAgg229
 z138 := Tryz.sizeOf229
 v138 := Tryz.zeroValue229
 t139 := Tryz.underlying230
 a139 := Tryz.isAgg230
 z139 := Tryz.sizeOf230
 v139 := Tryz.zeroValue230
 g3 := by kernel_rfl
 g4 := by kernel_rfl }
end Go.Proofs
namespace Go.Proofs.YtpdelcbkcebkpaaGreatDoor.X
open Go.RowKit Go.Lib Go.Proofs.YtpdelcbkcebkpaaGreatDoorW.PrintWords
abbrev Tabs (W : World) : Prop := Lib.Utf8Tabs 2 3 W
def fullN (n x1 x2 sz lo hi : Nat) : Bool := if sz ≤ n then true else if 1 < n ∧ (x1 < lo ∨ hi < x1) then true else if 2 < n ∧ (x2 < 128 ∨ 191 < x2) then true else false
def fullG (l : List UInt8) : Bool :=
 match l with
 | [] => false
 | c :: _ => fullN l.length (l.getD 1 0).toNat (l.getD 2 0).toNat (firstT c.toNat % 8) (accLo (firstT c.toNat / 16)) (accHi (firstT c.toNat / 16))
theorem getD_at (s : ByteArray) (k : Nat) (h : k < s.size) : s.data.toList.getD k 0 = s[k]'h := by
 rw [List.getD_eq_getElem?_getD, List.getElem?_eq_getElem (by rw [size_data]; exact h)]
 rfl
theorem fullG_eq (s : ByteArray) (h : 0 < s.size) : fullG s.data.toList = fullN s.size (s.data.toList.getD 1 0).toNat (s.data.toList.getD 2 0).toNat (firstT (s[0]'h).toNat % 8) (accLo (firstT (s[0]'h).toNat / 16)) (accHi (firstT (s[0]'h).toNat / 16)) := by
 have e := getD_at s 0 h
 have hs := size_data s
 cases hl : s.data.toList with
 | nil => rw [hl] at hs; simp at hs; omega
 | cons c r =>
  rw [hl] at e
  have e : c = s[0]'h := e
  unfold fullG
  rw [← e, ← hs, hl]
set_option maxHeartbeats 4000000 in
set_option maxRecDepth 1000000 in
theorem fullRune_calls (s : ByteArray) (w : World) (hT : Tabs w) :
  Calls Tryz.prog 140 #[.string s] w fun e w' => e = .returned (.bool (fullG s.data.toList)) ∧ Below w.heap.size w w' := by
 by_cases h0 : s.size = 0
 ·have hz : (s.size : Int) = 0 := by omega
  have hG : fullG s.data.toList = false := by
   have := size_data s
   cases hl : s.data.toList with
   | nil => rfl
   | cons c r => rw [hl] at this; simp at this; omega
  have HG := am hG
  clear hG
  go_enter Tryz.func140, Tryz.ntmps140
  go_wp2
  go_ret
  exact ⟨by rw [HG.out]; rfl, Below.refl _ _⟩
 ·have hz0 : (0 : Int) < (s.size : Int) := by omega
  have hzn : ¬ (s.size : Int) = 0 := by omega
  have HG := am (fullG_eq s (by omega))
  obtain ⟨x0, hx0⟩ : ∃ x0, s[0]'(by omega) = x0 := ⟨_, rfl⟩
  obtain ⟨x1, hx1⟩ : ∃ x1, s.data.toList.getD 1 0 = x1 := ⟨_, rfl⟩
  obtain ⟨x2, hx2⟩ : ∃ x2, s.data.toList.getD 2 0 = x2 := ⟨_, rfl⟩
  rw [hx0, hx1, hx2] at HG
  have l0 := x0.toNat_lt; have l1 := x1.toNat_lt; have l2 := x2.toNat_lt
  have hc0 := hT.1 x0.toNat (by omega)
  have s1 : ∀ h : 1 < s.size, s[1]'h = x1 := fun h => by rw [← hx1]; exact (getD_at s 1 h).symm
  have s2 : ∀ h : 2 < s.size, s[2]'h = x2 := fun h => by rw [← hx2]; exact (getD_at s 2 h).symm
  have S1 := am s1
  have S2 := am s2
  clear s1 s2 hx1 hx2
  have HX := firstT_cases x0.toNat
  rcases HX with hX | hX | hX | hX | hX | hX | hX | hX | hX
  ·rw [hX] at HG hc0
   have HG1 := am (HG.out.trans (show fullN _ _ _ (240 % 8) _ _ = true by unfold fullN; rw [if_pos (by omega)]))
   clear hT HG hX
   go_enter Tryz.func140, Tryz.ntmps140
   go_wp2
   go_ret
   exact ⟨by rw [HG1.out]; rfl, Below.refl _ _⟩
  ·rw [hX] at HG hc0
   have HG1 := am (HG.out.trans (show fullN _ _ _ (241 % 8) _ _ = true by unfold fullN; rw [if_pos (by omega)]))
   clear hT HG hX
   go_enter Tryz.func140, Tryz.ntmps140
   go_wp2
   go_ret
   exact ⟨by rw [HG1.out]; rfl, Below.refl _ _⟩
  ·rw [hX] at HG hc0
   have ha0 : w.cell? ⟨3, 0, none⟩ = some (.int .u8 128) := (hT.2 0 (by omega)).1
   have ha1 : w.cell? ⟨3, 1, none⟩ = some (.int .u8 191) := (hT.2 0 (by omega)).2
   have HG2 := am (HG.out.trans (show fullN _ _ _ (2 % 8) (accLo (2 / 16)) (accHi (2 / 16)) = fullN s.size x1.toNat x2.toNat 2 128 191 from rfl))
   clear hT HG hX
   by_cases hsz : 2 ≤ s.size
   ·have HG1 := am (HG2.out.trans (by unfold fullN; rw [if_pos hsz]))
    have hz1 : (2 : Int) ≤ (s.size : Int) := by omega
    go_enter Tryz.func140, Tryz.ntmps140
    go_wp2
    go_ret
    exact ⟨by rw [HG1.out]; rfl, by repeat (first | exact Below.refl _ _ | apply below_drewN | apply below_drew1 | apply below_alloc)⟩
   ·have hzs : ¬ (2 : Int) ≤ (s.size : Int) := by omega
    by_cases h1 : s.size = 1
    ·have HG1 := am (HG2.out.trans (show _ = false by unfold fullN; rw [if_neg hsz, if_neg (by omega), if_neg (by omega)]))
     have g1 : (s.size : Int) = 1 := by omega
     clear hsz h0 h1 hzs hzn
     go_enter Tryz.func140, Tryz.ntmps140
     go_wp2_with fail
     go_quiet (fail)
     go_wp2
     go_ret
     exact ⟨by rw [HG1.out]; rfl, by repeat (first | exact Below.refl _ _ | apply below_drewN | apply below_drew1 | apply below_alloc)⟩
    ·omega
  ·rw [hX] at HG hc0
   have ha0 : w.cell? ⟨3, 2, none⟩ = some (.int .u8 160) := (hT.2 1 (by omega)).1
   have ha1 : w.cell? ⟨3, 3, none⟩ = some (.int .u8 191) := (hT.2 1 (by omega)).2
   have HG2 := am (HG.out.trans (show fullN _ _ _ (19 % 8) (accLo (19 / 16)) (accHi (19 / 16)) = fullN s.size x1.toNat x2.toNat 3 160 191 from rfl))
   clear hT HG hX
   by_cases hsz : 3 ≤ s.size
   ·have HG1 := am (HG2.out.trans (by unfold fullN; rw [if_pos hsz]))
    have hz1 : (3 : Int) ≤ (s.size : Int) := by omega
    go_enter Tryz.func140, Tryz.ntmps140
    go_wp2
    go_ret
    exact ⟨by rw [HG1.out]; rfl, by repeat (first | exact Below.refl _ _ | apply below_drewN | apply below_drew1 | apply below_alloc)⟩
   ·have hzs : ¬ (3 : Int) ≤ (s.size : Int) := by omega
    by_cases h1 : s.size = 1
    ·have HG1 := am (HG2.out.trans (show _ = false by unfold fullN; rw [if_neg hsz, if_neg (by omega), if_neg (by omega)]))
     have g1 : (s.size : Int) = 1 := by omega
     clear hsz h0 h1 hzs hzn
     go_enter Tryz.func140, Tryz.ntmps140
     go_wp2_with fail
     go_quiet (fail)
     go_wp2
     go_ret
     exact ⟨by rw [HG1.out]; rfl, by repeat (first | exact Below.refl _ _ | apply below_drewN | apply below_drew1 | apply below_alloc)⟩
    ·have k1 : (1 : Int) < (s.size : Int) := by omega
     have k2 : decide ((1 : Int) < (s.size : Int)) = true := decide_eq_true k1
     have hs1 := S1.out (by omega)
     by_cases hlo : x1.toNat < 160
     ·have HG1 := am (HG2.out.trans (show _ = true by unfold fullN; rw [if_neg hsz, if_pos (by omega)]))
      have q1 : (x1.toNat : Int) < 160 := by omega
      have q2 : decide ((x1.toNat : Int) < 160) = true := decide_eq_true q1
      clear h1
      go_enter Tryz.func140, Tryz.ntmps140
      go_wp2_with fail
      go_quiet (fail)
      go_wp2
      go_ret
      exact ⟨by rw [HG1.out]; rfl, by repeat (first | exact Below.refl _ _ | apply below_drewN | apply below_drew1 | apply below_alloc)⟩
     ·have q1 : ¬ (x1.toNat : Int) < 160 := by omega
      have q2 : decide ((x1.toNat : Int) < 160) = false := decide_eq_false q1
      have q3 : decide (x1.toNat < 160) = false := decide_eq_false hlo
      by_cases hhi : 191 < x1.toNat
      ·have HG1 := am (HG2.out.trans (show _ = true by unfold fullN; rw [if_neg hsz, if_pos (by omega)]))
       have r1 : (191 : Int) < (x1.toNat : Int) := by omega
       have r2 : decide ((191 : Int) < (x1.toNat : Int)) = true := decide_eq_true r1
       clear h1
       go_enter Tryz.func140, Tryz.ntmps140
       go_wp2_with fail
       go_quiet (fail)
       go_wp2
       go_ret
       exact ⟨by rw [HG1.out]; rfl, by repeat (first | exact Below.refl _ _ | apply below_drewN | apply below_drew1 | apply below_alloc)⟩
      ·have r1 : ¬ (191 : Int) < (x1.toNat : Int) := by omega
       have r2 : decide ((191 : Int) < (x1.toNat : Int)) = false := decide_eq_false r1
       have r3 : decide (191 < x1.toNat) = false := decide_eq_false hhi
       have HG1 := am (HG2.out.trans (show _ = false by unfold fullN; rw [if_neg hsz, if_neg (by omega), if_neg (by omega)]))
       have g2 : (s.size : Int) = 2 := by omega
       clear h1
       go_enter Tryz.func140, Tryz.ntmps140
       go_wp2_with fail
       go_quiet (fail)
       go_wp2
       go_ret
       exact ⟨by rw [HG1.out]; rfl, by repeat (first | exact Below.refl _ _ | apply below_drewN | apply below_drew1 | apply below_alloc)⟩
  ·rw [hX] at HG hc0
   have ha0 : w.cell? ⟨3, 0, none⟩ = some (.int .u8 128) := (hT.2 0 (by omega)).1
   have ha1 : w.cell? ⟨3, 1, none⟩ = some (.int .u8 191) := (hT.2 0 (by omega)).2
   have HG2 := am (HG.out.trans (show fullN _ _ _ (3 % 8) (accLo (3 / 16)) (accHi (3 / 16)) = fullN s.size x1.toNat x2.toNat 3 128 191 from rfl))
   clear hT HG hX
   by_cases hsz : 3 ≤ s.size
   ·have HG1 := am (HG2.out.trans (by unfold fullN; rw [if_pos hsz]))
    have hz1 : (3 : Int) ≤ (s.size : Int) := by omega
    go_enter Tryz.func140, Tryz.ntmps140
    go_wp2
    go_ret
    exact ⟨by rw [HG1.out]; rfl, by repeat (first | exact Below.refl _ _ | apply below_drewN | apply below_drew1 | apply below_alloc)⟩
   ·have hzs : ¬ (3 : Int) ≤ (s.size : Int) := by omega
    by_cases h1 : s.size = 1
    ·have HG1 := am (HG2.out.trans (show _ = false by unfold fullN; rw [if_neg hsz, if_neg (by omega), if_neg (by omega)]))
     have g1 : (s.size : Int) = 1 := by omega
     clear hsz h0 h1 hzs hzn
     go_enter Tryz.func140, Tryz.ntmps140
     go_wp2_with fail
     go_quiet (fail)
     go_wp2
     go_ret
     exact ⟨by rw [HG1.out]; rfl, by repeat (first | exact Below.refl _ _ | apply below_drewN | apply below_drew1 | apply below_alloc)⟩
    ·have k1 : (1 : Int) < (s.size : Int) := by omega
     have k2 : decide ((1 : Int) < (s.size : Int)) = true := decide_eq_true k1
     have hs1 := S1.out (by omega)
     by_cases hlo : x1.toNat < 128
     ·have HG1 := am (HG2.out.trans (show _ = true by unfold fullN; rw [if_neg hsz, if_pos (by omega)]))
      have q1 : (x1.toNat : Int) < 128 := by omega
      have q2 : decide ((x1.toNat : Int) < 128) = true := decide_eq_true q1
      clear h1
      go_enter Tryz.func140, Tryz.ntmps140
      go_wp2_with fail
      go_quiet (fail)
      go_wp2
      go_ret
      exact ⟨by rw [HG1.out]; rfl, by repeat (first | exact Below.refl _ _ | apply below_drewN | apply below_drew1 | apply below_alloc)⟩
     ·have q1 : ¬ (x1.toNat : Int) < 128 := by omega
      have q2 : decide ((x1.toNat : Int) < 128) = false := decide_eq_false q1
      have q3 : decide (x1.toNat < 128) = false := decide_eq_false hlo
      by_cases hhi : 191 < x1.toNat
      ·have HG1 := am (HG2.out.trans (show _ = true by unfold fullN; rw [if_neg hsz, if_pos (by omega)]))
       have r1 : (191 : Int) < (x1.toNat : Int) := by omega
       have r2 : decide ((191 : Int) < (x1.toNat : Int)) = true := decide_eq_true r1
       clear h1
       go_enter Tryz.func140, Tryz.ntmps140
       go_wp2_with fail
       go_quiet (fail)
       go_wp2
       go_ret
       exact ⟨by rw [HG1.out]; rfl, by repeat (first | exact Below.refl _ _ | apply below_drewN | apply below_drew1 | apply below_alloc)⟩
      ·have r1 : ¬ (191 : Int) < (x1.toNat : Int) := by omega
       have r2 : decide ((191 : Int) < (x1.toNat : Int)) = false := decide_eq_false r1
       have r3 : decide (191 < x1.toNat) = false := decide_eq_false hhi
       have HG1 := am (HG2.out.trans (show _ = false by unfold fullN; rw [if_neg hsz, if_neg (by omega), if_neg (by omega)]))
       have g2 : (s.size : Int) = 2 := by omega
       clear h1
       go_enter Tryz.func140, Tryz.ntmps140
       go_wp2_with fail
       go_quiet (fail)
       go_wp2
       go_ret
       exact ⟨by rw [HG1.out]; rfl, by repeat (first | exact Below.refl _ _ | apply below_drewN | apply below_drew1 | apply below_alloc)⟩
  ·rw [hX] at HG hc0
   have ha0 : w.cell? ⟨3, 4, none⟩ = some (.int .u8 128) := (hT.2 2 (by omega)).1
   have ha1 : w.cell? ⟨3, 5, none⟩ = some (.int .u8 159) := (hT.2 2 (by omega)).2
   have HG2 := am (HG.out.trans (show fullN _ _ _ (35 % 8) (accLo (35 / 16)) (accHi (35 / 16)) = fullN s.size x1.toNat x2.toNat 3 128 159 from rfl))
   clear hT HG hX
   by_cases hsz : 3 ≤ s.size
   ·have HG1 := am (HG2.out.trans (by unfold fullN; rw [if_pos hsz]))
    have hz1 : (3 : Int) ≤ (s.size : Int) := by omega
    go_enter Tryz.func140, Tryz.ntmps140
    go_wp2
    go_ret
    exact ⟨by rw [HG1.out]; rfl, by repeat (first | exact Below.refl _ _ | apply below_drewN | apply below_drew1 | apply below_alloc)⟩
   ·have hzs : ¬ (3 : Int) ≤ (s.size : Int) := by omega
    by_cases h1 : s.size = 1
    ·have HG1 := am (HG2.out.trans (show _ = false by unfold fullN; rw [if_neg hsz, if_neg (by omega), if_neg (by omega)]))
     have g1 : (s.size : Int) = 1 := by omega
     clear hsz h0 h1 hzs hzn
     go_enter Tryz.func140, Tryz.ntmps140
     go_wp2_with fail
     go_quiet (fail)
     go_wp2
     go_ret
     exact ⟨by rw [HG1.out]; rfl, by repeat (first | exact Below.refl _ _ | apply below_drewN | apply below_drew1 | apply below_alloc)⟩
    ·have k1 : (1 : Int) < (s.size : Int) := by omega
     have k2 : decide ((1 : Int) < (s.size : Int)) = true := decide_eq_true k1
     have hs1 := S1.out (by omega)
     by_cases hlo : x1.toNat < 128
     ·have HG1 := am (HG2.out.trans (show _ = true by unfold fullN; rw [if_neg hsz, if_pos (by omega)]))
      have q1 : (x1.toNat : Int) < 128 := by omega
      have q2 : decide ((x1.toNat : Int) < 128) = true := decide_eq_true q1
      clear h1
      go_enter Tryz.func140, Tryz.ntmps140
      go_wp2_with fail
      go_quiet (fail)
      go_wp2
      go_ret
      exact ⟨by rw [HG1.out]; rfl, by repeat (first | exact Below.refl _ _ | apply below_drewN | apply below_drew1 | apply below_alloc)⟩
     ·have q1 : ¬ (x1.toNat : Int) < 128 := by omega
      have q2 : decide ((x1.toNat : Int) < 128) = false := decide_eq_false q1
      have q3 : decide (x1.toNat < 128) = false := decide_eq_false hlo
      by_cases hhi : 159 < x1.toNat
      ·have HG1 := am (HG2.out.trans (show _ = true by unfold fullN; rw [if_neg hsz, if_pos (by omega)]))
       have r1 : (159 : Int) < (x1.toNat : Int) := by omega
       have r2 : decide ((159 : Int) < (x1.toNat : Int)) = true := decide_eq_true r1
       clear h1
       go_enter Tryz.func140, Tryz.ntmps140
       go_wp2_with fail
       go_quiet (fail)
       go_wp2
       go_ret
       exact ⟨by rw [HG1.out]; rfl, by repeat (first | exact Below.refl _ _ | apply below_drewN | apply below_drew1 | apply below_alloc)⟩
      ·have r1 : ¬ (159 : Int) < (x1.toNat : Int) := by omega
       have r2 : decide ((159 : Int) < (x1.toNat : Int)) = false := decide_eq_false r1
       have r3 : decide (159 < x1.toNat) = false := decide_eq_false hhi
       have HG1 := am (HG2.out.trans (show _ = false by unfold fullN; rw [if_neg hsz, if_neg (by omega), if_neg (by omega)]))
       have g2 : (s.size : Int) = 2 := by omega
       clear h1
       go_enter Tryz.func140, Tryz.ntmps140
       go_wp2_with fail
       go_quiet (fail)
       go_wp2
       go_ret
       exact ⟨by rw [HG1.out]; rfl, by repeat (first | exact Below.refl _ _ | apply below_drewN | apply below_drew1 | apply below_alloc)⟩
  ·rw [hX] at HG hc0
   have ha0 : w.cell? ⟨3, 6, none⟩ = some (.int .u8 144) := (hT.2 3 (by omega)).1
   have ha1 : w.cell? ⟨3, 7, none⟩ = some (.int .u8 191) := (hT.2 3 (by omega)).2
   have HG2 := am (HG.out.trans (show fullN _ _ _ (52 % 8) (accLo (52 / 16)) (accHi (52 / 16)) = fullN s.size x1.toNat x2.toNat 4 144 191 from rfl))
   clear hT HG hX
   by_cases hsz : 4 ≤ s.size
   ·have HG1 := am (HG2.out.trans (by unfold fullN; rw [if_pos hsz]))
    have hz1 : (4 : Int) ≤ (s.size : Int) := by omega
    go_enter Tryz.func140, Tryz.ntmps140
    go_wp2
    go_ret
    exact ⟨by rw [HG1.out]; rfl, by repeat (first | exact Below.refl _ _ | apply below_drewN | apply below_drew1 | apply below_alloc)⟩
   ·have hzs : ¬ (4 : Int) ≤ (s.size : Int) := by omega
    by_cases h1 : s.size = 1
    ·have HG1 := am (HG2.out.trans (show _ = false by unfold fullN; rw [if_neg hsz, if_neg (by omega), if_neg (by omega)]))
     have g1 : (s.size : Int) = 1 := by omega
     clear hsz h0 h1 hzs hzn
     go_enter Tryz.func140, Tryz.ntmps140
     go_wp2_with fail
     go_quiet (fail)
     go_wp2
     go_ret
     exact ⟨by rw [HG1.out]; rfl, by repeat (first | exact Below.refl _ _ | apply below_drewN | apply below_drew1 | apply below_alloc)⟩
    ·have k1 : (1 : Int) < (s.size : Int) := by omega
     have k2 : decide ((1 : Int) < (s.size : Int)) = true := decide_eq_true k1
     have hs1 := S1.out (by omega)
     by_cases hlo : x1.toNat < 144
     ·have HG1 := am (HG2.out.trans (show _ = true by unfold fullN; rw [if_neg hsz, if_pos (by omega)]))
      have q1 : (x1.toNat : Int) < 144 := by omega
      have q2 : decide ((x1.toNat : Int) < 144) = true := decide_eq_true q1
      clear h1
      go_enter Tryz.func140, Tryz.ntmps140
      go_wp2_with fail
      go_quiet (fail)
      go_wp2
      go_ret
      exact ⟨by rw [HG1.out]; rfl, by repeat (first | exact Below.refl _ _ | apply below_drewN | apply below_drew1 | apply below_alloc)⟩
     ·have q1 : ¬ (x1.toNat : Int) < 144 := by omega
      have q2 : decide ((x1.toNat : Int) < 144) = false := decide_eq_false q1
      have q3 : decide (x1.toNat < 144) = false := decide_eq_false hlo
      by_cases hhi : 191 < x1.toNat
      ·have HG1 := am (HG2.out.trans (show _ = true by unfold fullN; rw [if_neg hsz, if_pos (by omega)]))
       have r1 : (191 : Int) < (x1.toNat : Int) := by omega
       have r2 : decide ((191 : Int) < (x1.toNat : Int)) = true := decide_eq_true r1
       clear h1
       go_enter Tryz.func140, Tryz.ntmps140
       go_wp2_with fail
       go_quiet (fail)
       go_wp2
       go_ret
       exact ⟨by rw [HG1.out]; rfl, by repeat (first | exact Below.refl _ _ | apply below_drewN | apply below_drew1 | apply below_alloc)⟩
      ·have r1 : ¬ (191 : Int) < (x1.toNat : Int) := by omega
       have r2 : decide ((191 : Int) < (x1.toNat : Int)) = false := decide_eq_false r1
       have r3 : decide (191 < x1.toNat) = false := decide_eq_false hhi
       by_cases h2 : s.size = 2
       ·have HG1 := am (HG2.out.trans (show _ = false by unfold fullN; rw [if_neg hsz, if_neg (by omega), if_neg (by omega)]))
        have g2 : (s.size : Int) = 2 := by omega
        clear h1 h2
        go_enter Tryz.func140, Tryz.ntmps140
        go_wp2_with fail
        go_quiet (fail)
        go_wp2
        go_ret
        exact ⟨by rw [HG1.out]; rfl, by repeat (first | exact Below.refl _ _ | apply below_drewN | apply below_drew1 | apply below_alloc)⟩
       ·have m1 : (2 : Int) < (s.size : Int) := by omega
        have m2 : decide ((2 : Int) < (s.size : Int)) = true := decide_eq_true m1
        have hs2 := S2.out (by omega)
        by_cases ho : x2.toNat < 128
        ·have HG1 := am (HG2.out.trans (show _ = true by unfold fullN; rw [if_neg hsz, if_neg (by omega), if_pos (by omega)]))
         have n1 : (x2.toNat : Int) < 128 := by omega
         clear h1 h2
         go_enter Tryz.func140, Tryz.ntmps140
         go_wp2_with fail
         go_quiet (fail)
         go_wp2
         go_ret
         exact ⟨by rw [HG1.out]; rfl, by repeat (first | exact Below.refl _ _ | apply below_drewN | apply below_drew1 | apply below_alloc)⟩
        ·have n1 : ¬ (x2.toNat : Int) < 128 := by omega
         have n2 : decide ((x2.toNat : Int) < 128) = false := decide_eq_false n1
         by_cases hp : 191 < x2.toNat
         ·have HG1 := am (HG2.out.trans (show _ = true by unfold fullN; rw [if_neg hsz, if_neg (by omega), if_pos (by omega)]))
          have o1 : (191 : Int) < (x2.toNat : Int) := by omega
          clear h1 h2
          go_enter Tryz.func140, Tryz.ntmps140
          go_wp2_with fail
          go_quiet (fail)
          go_wp2
          go_ret
          exact ⟨by rw [HG1.out]; rfl, by repeat (first | exact Below.refl _ _ | apply below_drewN | apply below_drew1 | apply below_alloc)⟩
         ·have HG1 := am (HG2.out.trans (show _ = false by unfold fullN; rw [if_neg hsz, if_neg (by omega), if_neg (by omega)]))
          have o1 : ¬ (191 : Int) < (x2.toNat : Int) := by omega
          have o2 : decide ((191 : Int) < (x2.toNat : Int)) = false := decide_eq_false o1
          clear h1 h2
          go_enter Tryz.func140, Tryz.ntmps140
          go_wp2_with fail
          go_quiet (fail)
          go_wp2
          go_ret
          exact ⟨by rw [HG1.out]; rfl, by repeat (first | exact Below.refl _ _ | apply below_drewN | apply below_drew1 | apply below_alloc)⟩
  ·rw [hX] at HG hc0
   have ha0 : w.cell? ⟨3, 0, none⟩ = some (.int .u8 128) := (hT.2 0 (by omega)).1
   have ha1 : w.cell? ⟨3, 1, none⟩ = some (.int .u8 191) := (hT.2 0 (by omega)).2
   have HG2 := am (HG.out.trans (show fullN _ _ _ (4 % 8) (accLo (4 / 16)) (accHi (4 / 16)) = fullN s.size x1.toNat x2.toNat 4 128 191 from rfl))
   clear hT HG hX
   by_cases hsz : 4 ≤ s.size
   ·have HG1 := am (HG2.out.trans (by unfold fullN; rw [if_pos hsz]))
    have hz1 : (4 : Int) ≤ (s.size : Int) := by omega
    go_enter Tryz.func140, Tryz.ntmps140
    go_wp2
    go_ret
    exact ⟨by rw [HG1.out]; rfl, by repeat (first | exact Below.refl _ _ | apply below_drewN | apply below_drew1 | apply below_alloc)⟩
   ·have hzs : ¬ (4 : Int) ≤ (s.size : Int) := by omega
    by_cases h1 : s.size = 1
    ·have HG1 := am (HG2.out.trans (show _ = false by unfold fullN; rw [if_neg hsz, if_neg (by omega), if_neg (by omega)]))
     have g1 : (s.size : Int) = 1 := by omega
     clear hsz h0 h1 hzs hzn
     go_enter Tryz.func140, Tryz.ntmps140
     go_wp2_with fail
     go_quiet (fail)
     go_wp2
     go_ret
     exact ⟨by rw [HG1.out]; rfl, by repeat (first | exact Below.refl _ _ | apply below_drewN | apply below_drew1 | apply below_alloc)⟩
    ·have k1 : (1 : Int) < (s.size : Int) := by omega
     have k2 : decide ((1 : Int) < (s.size : Int)) = true := decide_eq_true k1
     have hs1 := S1.out (by omega)
     by_cases hlo : x1.toNat < 128
     ·have HG1 := am (HG2.out.trans (show _ = true by unfold fullN; rw [if_neg hsz, if_pos (by omega)]))
      have q1 : (x1.toNat : Int) < 128 := by omega
      have q2 : decide ((x1.toNat : Int) < 128) = true := decide_eq_true q1
      clear h1
      go_enter Tryz.func140, Tryz.ntmps140
      go_wp2_with fail
      go_quiet (fail)
      go_wp2
      go_ret
      exact ⟨by rw [HG1.out]; rfl, by repeat (first | exact Below.refl _ _ | apply below_drewN | apply below_drew1 | apply below_alloc)⟩
     ·have q1 : ¬ (x1.toNat : Int) < 128 := by omega
      have q2 : decide ((x1.toNat : Int) < 128) = false := decide_eq_false q1
      have q3 : decide (x1.toNat < 128) = false := decide_eq_false hlo
      by_cases hhi : 191 < x1.toNat
      ·have HG1 := am (HG2.out.trans (show _ = true by unfold fullN; rw [if_neg hsz, if_pos (by omega)]))
       have r1 : (191 : Int) < (x1.toNat : Int) := by omega
       have r2 : decide ((191 : Int) < (x1.toNat : Int)) = true := decide_eq_true r1
       clear h1
       go_enter Tryz.func140, Tryz.ntmps140
       go_wp2_with fail
       go_quiet (fail)
       go_wp2
       go_ret
       exact ⟨by rw [HG1.out]; rfl, by repeat (first | exact Below.refl _ _ | apply below_drewN | apply below_drew1 | apply below_alloc)⟩
      ·have r1 : ¬ (191 : Int) < (x1.toNat : Int) := by omega
       have r2 : decide ((191 : Int) < (x1.toNat : Int)) = false := decide_eq_false r1
       have r3 : decide (191 < x1.toNat) = false := decide_eq_false hhi
       by_cases h2 : s.size = 2
       ·have HG1 := am (HG2.out.trans (show _ = false by unfold fullN; rw [if_neg hsz, if_neg (by omega), if_neg (by omega)]))
        have g2 : (s.size : Int) = 2 := by omega
        clear h1 h2
        go_enter Tryz.func140, Tryz.ntmps140
        go_wp2_with fail
        go_quiet (fail)
        go_wp2
        go_ret
        exact ⟨by rw [HG1.out]; rfl, by repeat (first | exact Below.refl _ _ | apply below_drewN | apply below_drew1 | apply below_alloc)⟩
       ·have m1 : (2 : Int) < (s.size : Int) := by omega
        have m2 : decide ((2 : Int) < (s.size : Int)) = true := decide_eq_true m1
        have hs2 := S2.out (by omega)
        by_cases ho : x2.toNat < 128
        ·have HG1 := am (HG2.out.trans (show _ = true by unfold fullN; rw [if_neg hsz, if_neg (by omega), if_pos (by omega)]))
         have n1 : (x2.toNat : Int) < 128 := by omega
         clear h1 h2
         go_enter Tryz.func140, Tryz.ntmps140
         go_wp2_with fail
         go_quiet (fail)
         go_wp2
         go_ret
         exact ⟨by rw [HG1.out]; rfl, by repeat (first | exact Below.refl _ _ | apply below_drewN | apply below_drew1 | apply below_alloc)⟩
        ·have n1 : ¬ (x2.toNat : Int) < 128 := by omega
         have n2 : decide ((x2.toNat : Int) < 128) = false := decide_eq_false n1
         by_cases hp : 191 < x2.toNat
         ·have HG1 := am (HG2.out.trans (show _ = true by unfold fullN; rw [if_neg hsz, if_neg (by omega), if_pos (by omega)]))
          have o1 : (191 : Int) < (x2.toNat : Int) := by omega
          clear h1 h2
          go_enter Tryz.func140, Tryz.ntmps140
          go_wp2_with fail
          go_quiet (fail)
          go_wp2
          go_ret
          exact ⟨by rw [HG1.out]; rfl, by repeat (first | exact Below.refl _ _ | apply below_drewN | apply below_drew1 | apply below_alloc)⟩
         ·have HG1 := am (HG2.out.trans (show _ = false by unfold fullN; rw [if_neg hsz, if_neg (by omega), if_neg (by omega)]))
          have o1 : ¬ (191 : Int) < (x2.toNat : Int) := by omega
          have o2 : decide ((191 : Int) < (x2.toNat : Int)) = false := decide_eq_false o1
          clear h1 h2
          go_enter Tryz.func140, Tryz.ntmps140
          go_wp2_with fail
          go_quiet (fail)
          go_wp2
          go_ret
          exact ⟨by rw [HG1.out]; rfl, by repeat (first | exact Below.refl _ _ | apply below_drewN | apply below_drew1 | apply below_alloc)⟩
  ·rw [hX] at HG hc0
   have ha0 : w.cell? ⟨3, 8, none⟩ = some (.int .u8 128) := (hT.2 4 (by omega)).1
   have ha1 : w.cell? ⟨3, 9, none⟩ = some (.int .u8 143) := (hT.2 4 (by omega)).2
   have HG2 := am (HG.out.trans (show fullN _ _ _ (68 % 8) (accLo (68 / 16)) (accHi (68 / 16)) = fullN s.size x1.toNat x2.toNat 4 128 143 from rfl))
   clear hT HG hX
   by_cases hsz : 4 ≤ s.size
   ·have HG1 := am (HG2.out.trans (by unfold fullN; rw [if_pos hsz]))
    have hz1 : (4 : Int) ≤ (s.size : Int) := by omega
    go_enter Tryz.func140, Tryz.ntmps140
    go_wp2
    go_ret
    exact ⟨by rw [HG1.out]; rfl, by repeat (first | exact Below.refl _ _ | apply below_drewN | apply below_drew1 | apply below_alloc)⟩
   ·have hzs : ¬ (4 : Int) ≤ (s.size : Int) := by omega
    by_cases h1 : s.size = 1
    ·have HG1 := am (HG2.out.trans (show _ = false by unfold fullN; rw [if_neg hsz, if_neg (by omega), if_neg (by omega)]))
     have g1 : (s.size : Int) = 1 := by omega
     clear hsz h0 h1 hzs hzn
     go_enter Tryz.func140, Tryz.ntmps140
     go_wp2_with fail
     go_quiet (fail)
     go_wp2
     go_ret
     exact ⟨by rw [HG1.out]; rfl, by repeat (first | exact Below.refl _ _ | apply below_drewN | apply below_drew1 | apply below_alloc)⟩
    ·have k1 : (1 : Int) < (s.size : Int) := by omega
     have k2 : decide ((1 : Int) < (s.size : Int)) = true := decide_eq_true k1
     have hs1 := S1.out (by omega)
     by_cases hlo : x1.toNat < 128
     ·have HG1 := am (HG2.out.trans (show _ = true by unfold fullN; rw [if_neg hsz, if_pos (by omega)]))
      have q1 : (x1.toNat : Int) < 128 := by omega
      have q2 : decide ((x1.toNat : Int) < 128) = true := decide_eq_true q1
      clear h1
      go_enter Tryz.func140, Tryz.ntmps140
      go_wp2_with fail
      go_quiet (fail)
      go_wp2
      go_ret
      exact ⟨by rw [HG1.out]; rfl, by repeat (first | exact Below.refl _ _ | apply below_drewN | apply below_drew1 | apply below_alloc)⟩
     ·have q1 : ¬ (x1.toNat : Int) < 128 := by omega
      have q2 : decide ((x1.toNat : Int) < 128) = false := decide_eq_false q1
      have q3 : decide (x1.toNat < 128) = false := decide_eq_false hlo
      by_cases hhi : 143 < x1.toNat
      ·have HG1 := am (HG2.out.trans (show _ = true by unfold fullN; rw [if_neg hsz, if_pos (by omega)]))
       have r1 : (143 : Int) < (x1.toNat : Int) := by omega
       have r2 : decide ((143 : Int) < (x1.toNat : Int)) = true := decide_eq_true r1
       clear h1
       go_enter Tryz.func140, Tryz.ntmps140
       go_wp2_with fail
       go_quiet (fail)
       go_wp2
       go_ret
       exact ⟨by rw [HG1.out]; rfl, by repeat (first | exact Below.refl _ _ | apply below_drewN | apply below_drew1 | apply below_alloc)⟩
      ·have r1 : ¬ (143 : Int) < (x1.toNat : Int) := by omega
       have r2 : decide ((143 : Int) < (x1.toNat : Int)) = false := decide_eq_false r1
       have r3 : decide (143 < x1.toNat) = false := decide_eq_false hhi
       by_cases h2 : s.size = 2
       ·have HG1 := am (HG2.out.trans (show _ = false by unfold fullN; rw [if_neg hsz, if_neg (by omega), if_neg (by omega)]))
        have g2 : (s.size : Int) = 2 := by omega
        clear h1 h2
        go_enter Tryz.func140, Tryz.ntmps140
        go_wp2_with fail
        go_quiet (fail)
        go_wp2
        go_ret
        exact ⟨by rw [HG1.out]; rfl, by repeat (first | exact Below.refl _ _ | apply below_drewN | apply below_drew1 | apply below_alloc)⟩
       ·have m1 : (2 : Int) < (s.size : Int) := by omega
        have m2 : decide ((2 : Int) < (s.size : Int)) = true := decide_eq_true m1
        have hs2 := S2.out (by omega)
        by_cases ho : x2.toNat < 128
        ·have HG1 := am (HG2.out.trans (show _ = true by unfold fullN; rw [if_neg hsz, if_neg (by omega), if_pos (by omega)]))
         have n1 : (x2.toNat : Int) < 128 := by omega
         clear h1 h2
         go_enter Tryz.func140, Tryz.ntmps140
         go_wp2_with fail
         go_quiet (fail)
         go_wp2
         go_ret
         exact ⟨by rw [HG1.out]; rfl, by repeat (first | exact Below.refl _ _ | apply below_drewN | apply below_drew1 | apply below_alloc)⟩
        ·have n1 : ¬ (x2.toNat : Int) < 128 := by omega
         have n2 : decide ((x2.toNat : Int) < 128) = false := decide_eq_false n1
         by_cases hp : 191 < x2.toNat
         ·have HG1 := am (HG2.out.trans (show _ = true by unfold fullN; rw [if_neg hsz, if_neg (by omega), if_pos (by omega)]))
          have o1 : (191 : Int) < (x2.toNat : Int) := by omega
          clear h1 h2
          go_enter Tryz.func140, Tryz.ntmps140
          go_wp2_with fail
          go_quiet (fail)
          go_wp2
          go_ret
          exact ⟨by rw [HG1.out]; rfl, by repeat (first | exact Below.refl _ _ | apply below_drewN | apply below_drew1 | apply below_alloc)⟩
         ·have HG1 := am (HG2.out.trans (show _ = false by unfold fullN; rw [if_neg hsz, if_neg (by omega), if_neg (by omega)]))
          have o1 : ¬ (191 : Int) < (x2.toNat : Int) := by omega
          have o2 : decide ((191 : Int) < (x2.toNat : Int)) = false := decide_eq_false o1
          clear h1 h2
          go_enter Tryz.func140, Tryz.ntmps140
          go_wp2_with fail
          go_quiet (fail)
          go_wp2
          go_ret
          exact ⟨by rw [HG1.out]; rfl, by repeat (first | exact Below.refl _ _ | apply below_drewN | apply below_drew1 | apply below_alloc)⟩
def cellsOf (l : List UInt8) : List Value := l.map fun b => Value.int .u8 b.toNat
theorem cellsOf_length (l : List UInt8) : (cellsOf l).length = l.length := by simp [cellsOf]
theorem cellsOf_append (a b : List UInt8) : cellsOf (a ++ b) = cellsOf a ++ cellsOf b := by simp [cellsOf]
def Own (B : Nat) (W : World) (v : Value) (l : List UInt8) : Prop := W.ownsRow B 5 1 v l.length (cellsOf l) ∧ B ≤ W.heap.size
theorem Own.nil (B : Nat) (W : World) (h : B ≤ W.heap.size) : Own B W (.slice none 0 0) [] := ⟨World.ownsRow_nil _ _ _ _, h⟩
theorem Own.slice {B : Nat} {W : World} {v : Value} {l : List UInt8} (h : Own B W v l) : ∃ A c, v = .slice A l.length c := own_slice h.1
theorem Own.heap {B : Nat} {W W' : World} {v : Value} {l : List UInt8} (h : Own B W v l) (hs : W.heap.size ≤ W'.heap.size) (hg : ∀ g, v.ownBlock = some g → W'.heap[g]? = W.heap[g]?) : Own B W' v l := by
 obtain ⟨⟨h1, h2⟩, h3⟩ := h
 refine ⟨⟨h1, ?_⟩, Nat.le_trans h3 hs⟩
 rcases h2 with ⟨h, hn⟩ | ⟨g, cap, cur, rfl, hb, hh, hr⟩
 ·exact .inl ⟨h, hn⟩
 ·exact .inr ⟨g, cap, cur, rfl, hb, (hg g rfl).trans hh, hr⟩
theorem Own.lt {B : Nat} {W : World} {v : Value} {l : List UInt8} (h : Own B W v l) (g : Nat) (hg : v.ownBlock = some g) : B ≤ g ∧ g < W.heap.size := h.1.lt g hg
theorem Own.on {R B : Nat} {W W' : World} {v : Value} {l : List UInt8} (h : Own B W v l) (hRB : R < B) (hO : On R W W') : Own B W' v l :=
 h.heap hO.size fun g hg => hO.kept g (by have := (h.lt g hg).1; omega) (h.lt g hg).2
theorem On.grown {R : Nat} {W W1 W2 : World} (h : On R W W1) {v : Value} {B : Nat} {l : List UInt8} (ho : Own B W1 v l) (hB : W.heap.size ≤ B) (hRW : R ≤ W.heap.size) (hg : W1.grownBy W2 v.ownBlock) : On R W W2 := by
 refine ⟨?_, ?_, Nat.le_trans h.size hg.size⟩
 ·obtain ⟨a, b, c, d, e⟩ := h.below
  exact ⟨hg.os.trans a, hg.tape.trans b, hg.output.trans c, Nat.le_trans d hg.size, fun k hk => (hg.block k (by omega) (fun hh => by have := (ho.lt k hh.symm).1; omega)).trans (e k hk)⟩
 ·intro b hb hl
  exact (hg.block b (Nat.lt_of_lt_of_le hl h.size) (fun hh => by have := (ho.lt b hh.symm).1; omega)).trans (h.kept b hb hl)
theorem RdB.grown {R B : Nat} {s : ByteArray} {p : Int} {W W' : World} {v : Value} {l : List UInt8} (h : RdB R s p W) (ho : Own B W v l) (hRB : R < B) (hg : W.grownBy W' v.ownBlock) : RdB R s p W' :=
 (hg.block R h.lt (fun hh => by have := (ho.lt R hh.symm).1; omega)).trans h
theorem Tabs.on {R : Nat} {s : ByteArray} {p : Int} {W W' : World} (hT : Tabs W) (hR : RdB R s p W) (hO : On R W W') : Tabs W' := by
 have key : ∀ (g k : Nat) (n : Int), W.cell? ⟨g, 0, none⟩ = some (.int .u8 n) → W'.heap[g]? = W.heap[g]? := fun g k n hc => by
  have hlt : g < W.heap.size := by
   rcases Nat.lt_or_ge g W.heap.size with h | h
   ·exact h
   ·simp [World.cell?, Array.getElem?_eq_none h] at hc
  refine hO.kept g ?_ hlt
  rintro rfl
  rw [show W.cell? ⟨g, 0, none⟩ = some (.string s) from blk_cell hR 0] at hc
  cases hc
 have e1 := key _ 0 _ (hT.1 0 (by omega))
 have e2 := key _ 0 _ (hT.2 0 (by omega)).1
 exact ⟨fun c hc => (World.cell?_of_block (a := ⟨_, c, none⟩) e1).trans (hT.1 c hc), fun i hi => ⟨(World.cell?_of_block (a := ⟨_, 2 * i, none⟩) e2).trans (hT.2 i hi).1, (World.cell?_of_block (a := ⟨_, 2 * i + 1, none⟩) e2).trans (hT.2 i hi).2⟩⟩
theorem cellsOf_rune (r : Nat) : cellsOf (encodeRune r) = runeCells r := by
 unfold cellsOf encodeRune runeCells
 rw [List.map_map]
 apply List.map_congr_left
 intro x hx
 obtain ⟨h0, h1⟩ := encodeRuneZ_byte r x hx
 simp only [Function.comp_apply]
 congr 1
 have : x.toNat.toUInt8.toNat = x.toNat := by simp; omega
 rw [this]
 omega
theorem appendRune_calls (B : Nat) (v : Value) (l : List UInt8) (r : Nat) (hr : r ≤ 2147483647) (W : World) (hl : l.length ≤ 100000000000) (h : Own B W v l) :
  Calls Tryz.prog 137 #[v, .int .i32 r] W fun e W' => ∃ v' o, e = .returned v' ∧ Own B W' v' (l ++ encodeRune r) ∧ (W.alloc o).grownBy W' v.ownBlock :=
 (show Calls Tryz.prog 137 #[v, .int .i32 r] W _ from Any.utf8_AppendRune_plain Tryz.lays242 info5 B v l.length (cellsOf l) r (by omega) (by omega) W h.1 (by omega) h.2).mono fun e W' ⟨v', he, ho, o, hg⟩ =>
  ⟨v', o, he, ⟨by rw [List.length_append, cellsOf_append, cellsOf_rune, ← cellsOf_length (encodeRune r), cellsOf_rune]; exact ho, Nat.le_trans h.2 (by have := hg.size; simp at this; omega)⟩, hg⟩
theorem decode_calls (s : ByteArray) (w : World) (hT : Tabs w) : Calls Tryz.prog 139 #[.string s] w fun e w' => e = .returned (.tuple #[.int .i32 (decodeGo s).1, .int .i64 (decodeGo s).2]) ∧ Below w.heap.size w w' :=
 Any.utf8_DecodeRuneInString Tryz.lays197 s w hT
theorem own_string {B : Nat} {W : World} {v : Value} {l : List UInt8} (h : Own B W v l) : (convert 73 9 v).run Tryz.prog W = .ok (.string (bs l)) W := by
 obtain ⟨A, c, rfl⟩ := h.slice
 cases A with
 | none =>
  have hn : l = [] := by
   rcases h.1.2 with ⟨_, hn⟩ | ⟨g, cap, cur, he, _⟩
   ·exact List.eq_nil_of_length_eq_zero hn
   ·cases he
  subst hn
  exact run_convert_bytes_nil (P := Tryz.prog) W 73 5 Tryz.underlying73 Tryz.underlying5 _ _ 9 Tryz.underlying9
 | some a =>
  have ho : Value.ownBlock (.slice (some a) l.length c) = some a.block := rfl
  obtain ⟨off, hoff⟩ : ∃ x, a = ⟨x, 0, none⟩ := by
   rcases h.1.2 with ⟨he, _⟩ | ⟨g, cap, cur, he, _⟩
   ·cases he
   ·injection he with he _ _; injection he with he; exact ⟨g, he⟩
  subst hoff
  refine run_convert_bytes_back W 73 9 5 ⟨off, 0, none⟩ c l Tryz.underlying73 Tryz.underlying5 Tryz.underlying9 fun j hj => ?_
  exact h.1.cells ho j _ (by simp [cellsOf, List.getElem?_eq_getElem hj])
def nF (c : Nat) : Nat := if c < 194 then 1 else if c < 224 then 2 else if c < 240 then 3 else if c < 245 then 4 else 1
def loF (c : Nat) : Nat := if c = 224 then 160 else if c = 240 then 144 else 128
def hiF (c : Nat) : Nat := if c = 237 then 159 else if c = 244 then 143 else 191
theorem full_tab : ∀ c : Fin 256, (194 ≤ c.val ∧ c.val < 245 → firstT c.val % 8 = nF c.val ∧ accLo (firstT c.val / 16) = loF c.val ∧ accHi (firstT c.val / 16) = hiF c.val) ∧ (¬ (194 ≤ c.val ∧ c.val < 245) → firstT c.val % 8 ≤ 1 ∧ nF c.val = 1) := by decide +kernel
theorem fullF_n (c : UInt8) (r : List UInt8) : fullF (c :: r) = if nF c.toNat ≤ (c :: r).length then true else match r with
  | [] => false
  | d :: r2 => if d.toNat < loF c.toNat ∨ hiF c.toNat < d.toNat then true else match r2 with
   | [] => false
   | e :: _ => decide (e.toNat < 128 ∨ 191 < e.toNat) := rfl
theorem fullN_eq (r : List UInt8) (n lo hi : Nat) (hn : n ≤ 4) : (if n ≤ r.length + 1 then true else match r with
  | [] => false
  | d :: r2 => if d.toNat < lo ∨ hi < d.toNat then true else match r2 with
   | [] => false
   | e :: _ => decide (e.toNat < 128 ∨ 191 < e.toNat)) = fullN (r.length + 1) (r.getD 0 0).toNat (r.getD 1 0).toNat n lo hi := by
 unfold fullN
 match r with
 | [] => simp
 | [d] => simp
 | d :: e :: r =>
  simp only [List.length_cons, List.getD_cons_zero, List.getD_cons_succ]
  by_cases h1 : n ≤ r.length + 1 + 1 + 1
  ·rw [if_pos h1, if_pos h1]
  ·rw [if_neg h1, if_neg h1]
   by_cases h2 : d.toNat < lo ∨ hi < d.toNat
   ·rw [if_pos h2, if_pos ⟨by omega, h2⟩]
   ·rw [if_neg h2, if_neg (fun h => h2 h.2)]
    by_cases h3 : e.toNat < 128 ∨ 191 < e.toNat
    ·rw [if_pos ⟨by omega, h3⟩]; exact decide_eq_true h3
    ·rw [if_neg (fun h => h3 h.2)]; exact decide_eq_false h3
theorem fullF_eq (l : List UInt8) : fullF l = fullG l := by
 cases l with
 | nil => rfl
 | cons c r =>
  have hu := c.toNat_lt
  obtain ⟨h1, h2⟩ := full_tab ⟨c.toNat, hu⟩
  dsimp only at h1 h2
  rw [fullF_n]
  show _ = fullN (r.length + 1) (r.getD 0 0).toNat (r.getD 1 0).toNat (firstT c.toNat % 8) (accLo (firstT c.toNat / 16)) (accHi (firstT c.toNat / 16))
  by_cases hc : 194 ≤ c.toNat ∧ c.toNat < 245
  ·obtain ⟨e1, e2, e3⟩ := h1 hc
   rw [e1, e2, e3]
   exact fullN_eq r _ _ _ (by unfold nF; (repeat' split) <;> omega)
  ·obtain ⟨e1, e2⟩ := h2 hc
   rw [e2, if_pos (by simp)]
   unfold fullN
   rw [if_pos (by omega)]
theorem escdF_le (c : UInt8) (x : Nat) (h : escdF c = some x) : x ≤ 255 := by
 unfold escdF at h
 have := c.toNat_lt
 repeat' split at h
 all_goals first | (injection h with h; omega) | cases h
theorem mustF_val (s : List UInt8) (f : Nat) : ∀ (w : List UInt8) (p q : Nat) (u : Unit), mustF s f w p = .val u q → q = p + w.length ∧ (p ≤ s.length → q ≤ s.length)
 | [], p, q, u, h => by
  simp only [mustF, Out.val.injEq] at h
  obtain ⟨_, rfl⟩ := h
  exact ⟨rfl, fun h => h⟩
 | c :: w, p, q, u, h => by
  cases hc : s[p]? with
  | none => rw [mustF_short _ _ _ _ _ hc] at h; cases h
  | some x =>
   have hlt := (List.getElem?_eq_some_iff.1 hc).1
   by_cases hx : x = c
   ·rw [mustF_on _ _ _ _ _ (by rw [hc, hx])] at h
    obtain ⟨h1, h2⟩ := mustF_val s f w _ _ _ h
    exact ⟨by rw [h1, List.length_cons]; omega, fun _ => h2 (by omega)⟩
   ·rw [mustF_bad _ _ _ _ _ _ hc hx] at h; cases h
theorem pairF_val (s : List UInt8) (p x p1 r q : Nat) (hx : x ≤ 0xdbff) (h1 : p1 ≤ s.length) (h : pairF s p x p1 = .val r q) : p1 + 6 = q ∧ q ≤ s.length ∧ r ≤ 1114111 := by
 unfold pairF at h
 cases hm : mustF s p [92, 117] p1 with
 | err e q => rw [hm] at h; cases h
 | val u p2 =>
  rw [hm] at h
  obtain ⟨h2, h3⟩ := mustF_val _ _ _ _ _ _ hm
  simp only at h
  cases hf : fourF s 4 0 p2 with
  | err e q => rw [hf] at h; cases h
  | val y p3 =>
   rw [hf] at h
   obtain ⟨h4, h5, h6⟩ := fourF_val _ _ _ _ _ _ hf
   simp only at h
   simp only [List.length_cons, List.length_nil] at h2
   split at h
   ·cases h
   ·injection h with h h'
    have := h5 (h3 h1)
    omega
theorem escF_val (s : List UInt8) (p r q : Nat) (h : escF s p = .val r q) : p + 2 ≤ q ∧ q ≤ s.length ∧ r ≤ 1114111 := by
 unfold escF at h
 cases hc : s[p + 1]? with
 | none => rw [hc] at h; cases h
 | some c =>
  have hlt := (List.getElem?_eq_some_iff.1 hc).1
  rw [hc] at h
  simp only at h
  cases hx : escdF c with
  | some x =>
   rw [hx] at h
   have := escdF_le c x hx
   injection h with h h'
   omega
  | none =>
   rw [hx] at h
   simp only at h
   split at h
   ·cases hf : fourF s 4 0 (p + 2) with
    | err e q => rw [hf] at h; cases h
    | val x p1 =>
     rw [hf] at h
     obtain ⟨h4, h5, h6⟩ := fourF_val _ _ _ _ _ _ hf
     have h7 := h5 (by omega)
     simp only at h
     split at h
     ·cases h
     ·split at h
      ·rename_i hx
       obtain ⟨a, b, c⟩ := pairF_val s p x p1 r q (by omega) h7 h
       omega
      ·injection h with h h'
       omega
   ·cases h
theorem dec_width (s : ByteArray) (h : 0 < s.size) : 1 ≤ (decodeGo s).2 ∧ (decodeGo s).2 ≤ s.size := by
 have h0 : ¬ s.size = 0 := by omega
 simp only [Lib.decodeGo, h0, if_false]
 rw [Lib.decode_at]
 unfold decodeN
 repeat' split
 all_goals (simp only; omega)
theorem textF_short (s : List UInt8) (k : Nat) (out : List UInt8) (p : Nat) (h : s[p]? = none) : textF s (k + 1) out p = some (.err 3 s.length) := by simp only [textF, h]
theorem textF_end (s : List UInt8) (k : Nat) (out : List UInt8) (p : Nat) (c : UInt8) (h : s[p]? = some c) (hc : c = 34) : textF s (k + 1) out p = some (.val out (p + 1)) := by simp only [textF, h, if_pos hc]
theorem textF_low (s : List UInt8) (k : Nat) (out : List UInt8) (p : Nat) (c : UInt8) (h : s[p]? = some c) (hc : c.toNat < 32) : textF s (k + 1) out p = some (.err 41 p) := by
 have h34 : ¬ c = 34 := by rintro rfl; revert hc; decide
 simp only [textF, h, if_neg h34, if_pos hc]
theorem textF_esc (s : List UInt8) (k : Nat) (out : List UInt8) (p : Nat) (c : UInt8) (h : s[p]? = some c) (hc : c = 92) : textF s (k + 1) out p = (match escF s p with | .err e q => some (.err e q) | .val r q => textF s k (out ++ encodeRune r) q) := by
 subst hc
 simp only [textF, h]
 rfl
theorem textF_ascii (s : List UInt8) (k : Nat) (out : List UInt8) (p : Nat) (c : UInt8) (h : s[p]? = some c) (h34 : c ≠ 34) (h32 : ¬ c.toNat < 32) (h92 : c ≠ 92) (h128 : c.toNat < 128) : textF s (k + 1) out p = textF s k (out ++ [c]) (p + 1) := by
 simp only [textF, h, if_neg h34, if_neg h32, if_neg h92, if_pos h128]
theorem textF_rune (s : List UInt8) (k : Nat) (out : List UInt8) (p : Nat) (c : UInt8) (h : s[p]? = some c) (h128 : ¬ c.toNat < 128) : textF s (k + 1) out p =
  if (decodeGo ⟨(s.drop p).toArray⟩).1 = 65533 ∧ (decodeGo ⟨(s.drop p).toArray⟩).2 < 2 then (if fullF (s.drop p) = true then some (.err 43 p) else some (.err 3 s.length))
  else textF s k (out ++ (s.drop p).take (decodeGo ⟨(s.drop p).toArray⟩).2) (p + (decodeGo ⟨(s.drop p).toArray⟩).2) := by
 have h34 : ¬ c = 34 := by rintro rfl; exact h128 (by decide)
 have h92 : ¬ c = 92 := by rintro rfl; exact h128 (by decide)
 have h32 : ¬ c.toNat < 32 := by omega
 simp only [textF, h, if_neg h34, if_neg h32, if_neg h92, if_neg h128]
end Go.Proofs.YtpdelcbkcebkpaaGreatDoor.X
namespace Go.Proofs.YtpdelcbkcebkpaaGreatDoor.X
open Go.RowKit Go.Lib Go.Proofs.YtpdelcbkcebkpaaGreatDoorW.PrintWords Go.Proofs.YtpdelcbkcebkpaaGreatDoorW.PrintLast Go.Proofs.YtpdelcbkcebkpaaGreatDoorW.PrintMore
theorem Own.set {B R : Nat} {W : World} {v : Value} {l : List UInt8} (h : Own B W v l) (hRB : R < B) (k : Nat) (u : Value) : Own B (W.setCell ⟨R, k, none⟩ u) v l :=
 h.on hRB ((On.refl R W).set k u)
theorem Own.drawn {B : Nat} {W W' : World} {v : Value} {l : List UInt8} (h : Own B W v l) (hd : Drawn0 W W') : Own B W' v l := by
 obtain ⟨n, rfl⟩ := hd
 exact h
theorem strCells_cellsOf (s : ByteArray) : strCells s = cellsOf s.data.toList := rfl
theorem Own.one {P : Program} {ops : Array Oper} {rest : List Oper} {o : Oper} {a : Act} {Q : Exit → Act → World → Prop} {B : Nat} {W : World} (hgd : o.guard = none) (s x : Operand) (t : TypeId)
  (ho : o.op = .call { callee := .builtin .append, args := #[s, x], argTypes := #[t, t] }) (ht : P.underlying t = some (.slice 5)) (hinfo : (P.info? 5).map (fun i => (i.zero, i.size, i.bytes)) = some (some (.int .u8 0), 1, 1))
  (v : Value) (l : List UInt8) (c : UInt8) (hs : a.eval s = v) (hx : a.eval x = .slice (some ⟨W.heap.size, 0, none⟩) 1 1) (HO : Own B W v l) (hl : l.length ≤ 100000000000)
  (h : ∀ v1 w1, Own B w1 v1 (l ++ [c]) → W.grownBy w1 v.ownBlock → wpList P ops Q rest (a.put o.dst v1) w1) :
  wpList P ops Q (o :: rest) a (W.alloc (.cells #[.int .u8 c.toNat] 5)) := by
 refine print_append (w0 := W) B hgd s x t 5 (.int .u8 0) 1 ho ht hinfo rfl (by decide) v (cellsOf l) (.int .u8 c.toNat) hs hx rfl (by rw [cellsOf_length]; exact HO.1) (Below.refl _ _) HO.2 (by rw [cellsOf_length]; omega) (fun v1 w1 h1 _ hg _ => ?_)
 refine h v1 w1 ⟨?_, Nat.le_trans HO.2 hg.size⟩ hg
 have e : cellsOf l ++ [Value.int .u8 c.toNat] = cellsOf (l ++ [c]) := by rw [cellsOf_append]; rfl
 rw [e, cellsOf_length] at h1
 exact h1
theorem On.grown' {R B : Nat} {W W1 W2 : World} (h : On R W W1) {v : Value} {l : List UInt8} (ho : Own B W1 v l) (hB : W.heap.size ≤ B) (hRW : R ≤ W.heap.size) (o : Obj) (hg : (W1.alloc o).grownBy W2 v.ownBlock) : On R W W2 :=
 h.grown ho hB hRW (World.grownBy.trans (World.grownBy_alloc W1 _ _) hg)
theorem RdB.grown' {R B : Nat} {s : ByteArray} {p : Int} {W W' : World} {v : Value} {l : List UInt8} (h : RdB R s p W) (ho : Own B W v l) (hRB : R < B) (o : Obj) (hg : (W.alloc o).grownBy W' v.ownBlock) : RdB R s p W' :=
 h.grown ho hRB (World.grownBy.trans (World.grownBy_alloc W _ _) hg)
theorem encodeRune_le (r : Nat) : (encodeRune r).length ≤ 4 := by
 unfold encodeRune encodeRuneZ
 rw [List.length_map]
 repeat' split
 all_goals simp
theorem Own.strStep {P : Program} {ops : Array Oper} {o : Oper} {a : Act} {K : Act → World → Prop} {Q : Exit → Act → World → Prop} {B : Nat} {W : World} (hw : Region.wanted o (yielded ops a.tmps) = true) (s x : Operand) (t u : TypeId)
  (ho : o.op = .call { callee := .builtin .append, args := #[s, x], argTypes := #[t, u] }) (ht : P.underlying t = some (.slice 5)) (hu : P.underlying u = some .string) (hinfo : (P.info? 5).map (fun i => (i.zero, i.size, i.bytes)) = some (some (.int .u8 0), 1, 1))
  (v : Value) (l : List UInt8) (y : ByteArray) (hs : a.eval s = v) (hx : a.eval x = .string y) (HO : Own B W v l) (hl : l.length + y.size ≤ 140737488355328)
  (h : ∀ v1 w1, Own B w1 v1 (l ++ y.data.toList) → W.grownBy w1 v.ownBlock → K (a.put o.dst v1) w1) {N : Option Tmp} :
  if Region.wanted o (yielded ops a.tmps) = true then Oper.wp P o a W K Q else K (a.put N undef) W := by
 obtain ⟨i0, hi, hzz⟩ := Option.map_eq_some_iff.1 hinfo
 simp only [Prod.mk.injEq] at hzz
 obtain ⟨hz0, hz1, hz2⟩ := hzz
 rw [if_pos hw]
 obtain ⟨v1, w1, hr, hown, hg, _⟩ := Lib.run_append_own_string (P := P) W B t u o.type 5 i0 ht hu hi hz0 hz1 hz2 v l.length (cellsOf l) HO.1 y (by simp only [maxLen]; omega) hl HO.2
 unfold Oper.wp execOp
 simp only [ho, resolve, invoke, builtin, Sem.run_bind, Sem.run_pure, Result.andThen_ok, List.map_toArray, List.map_cons, List.map_nil, hs, hx, hr]
 refine h v1 w1 ⟨?_, Nat.le_trans HO.2 hg.size⟩ hg
 have e : cellsOf l ++ strCells y = cellsOf (l ++ y.data.toList) := by rw [cellsOf_append, strCells_cellsOf]
 rw [e] at hown
 rw [List.length_append, size_data]
 exact hown
set_option maxRecDepth 1000000 in
set_option maxHeartbeats 4000000 in
theorem text_calls (R : Nat) (s : ByteArray) (p k : Nat) (o : Out (List UInt8)) (hl : s.size ≤ 10000000000) (hp : p < s.size) (W : World) (h : RdB R s p W) (hT : Tabs W) (hF : textF s.data.toList k [] (p + 1) = some o) :
  Calls Tryz.prog 107 #[ptr R] W (Ends R s W o textV) := by
 have HR1 := am (show RdB R s ((p + 1 : Nat) : Int) (W.setCell ⟨R, 1, none⟩ (.int .i64 ((p : Int) + 1))) from h.set _)
 have HO1 := am ((On.refl R W).set 1 (.int .i64 ((p : Int) + 1)))
 have HRB := am h.lt
 have HT := am (fun (wr : World) (ho : On R W wr) => hT.on h ho)
 have HF0 := am hF
 have c0 := h.c1
 have f0 := h.f1
 clear hT hF h
 go_enter Tryz.func107, Tryz.ntmps107
 go_wp2
 go_loopg [3] k (fun g v3 wr => ∃ (q : Nat) (l : List UInt8) (A : Option Addr) (cp : Nat), v3 = .slice A l.length cp ∧ Aside0 (Own W.heap.size wr (.slice A l.length cp) l) ∧ q ≤ s.size ∧ l.length ≤ 2 * q ∧ Aside0 (textF s.data.toList g l q = some o) ∧ Aside0 (RdB R s q wr) ∧ Aside0 (On R W wr))
 case atStart => exact ⟨p + 1, [], none, 0, rfl, ⟨Own.nil _ _ (by rw [World.size_setCell]; exact Nat.le_refl _)⟩, by omega, by simp, HF0, HR1, HO1⟩
 case round =>
  obtain ⟨q, l, A, cp, rfl, HW, hq, hlq, HF, HR, HO⟩ := hrel
  clear c0 f0
  have c1 := HR.out.c1
  have c0 := HR.out.c0
  have f1 := HR.out.f1
  cases gk with
  | zero => exact absurd HF.out (by simp [textF])
  | succ g =>
   cases hc : s.data.toList[q]? with
   | none =>
    have hps : s.size ≤ q := by rw [List.getElem?_eq_none_iff, size_data] at hc; exact hc
    have HX := am (show o = .err 3 s.size by have := HF.out; rw [textF_short _ _ _ _ hc] at this; injection this with this; rw [← this, size_data])
    clear hc
    go_wp2_with (go_at_call 104; (with_reducible refine (peek_short R s q hps _ ?rd).mono ?_); (case rd => exact HR.out); rintro e w1 ⟨rfl, hb⟩; have HB := am hb; clear hb)
    exact ⟨rfl, Ends.no HX.out (HO.out.drawn HB.out)⟩
   | some c =>
    have HC := am hc
    have hqs := at_lt' hc
    have hu := c.toNat_lt
    by_cases h34 : c = 34
    ·have HX := am (show o = .val l (q + 1) by have := HF.out; rw [textF_end _ _ _ _ _ hc h34] at this; injection this with this; exact this.symm)
     have e34 : ((c.toNat : Int) == 34) = true := by rw [h34]; decide
     have kc := fun (w : World) (ho : Own W.heap.size w (.slice A l.length cp) l) => own_string ho
     clear hc h34
     go_wp2_with (go_at_call 104; (with_reducible refine (peek_ok R s q c HC.out _ ?rd).mono ?_); (case rd => exact HR.out); rintro e w1 ⟨rfl, hb⟩; have HR2 := am (HR.out.drawn hb); have HO2 := am (HO.out.drawn hb); have HW2 := am ((HW.out.drawn hb).set HRB.out 1 (.int .i64 ((q : Int) + 1))); have d1 := HR2.out.c1; have f2 := HR2.out.f1; have kc2 := kc _ HW2.out; clear hb kc)
     go_ret
     exact Ends.ok HX.out rfl (HR2.out.set _) (HO2.out.set _ _)
    ·have e34 : ((c.toNat : Int) == 34) = false := (beq_u8 c 34 (by omega)).trans (decide_eq_false h34)
     by_cases h32 : c.toNat < 32
     ·have HX := am (show o = .err 41 q by have := HF.out; rw [textF_low _ _ _ _ _ hc h32] at this; injection this with this; exact this.symm)
      have a1 : (c.toNat : Int) < 32 := by omega
      clear hc h34
      go_wp2_with (first | (go_at_call 104; (with_reducible refine (peek_ok R s q c HC.out _ ?rd).mono ?_); (case rd => exact HR.out); rintro e w1 ⟨rfl, hb⟩; have HR2 := am (HR.out.drawn hb); have HO2 := am (HO.out.drawn hb); have HW2 := am (HW.out.drawn hb); have d1 := HR2.out.c1; have d0 := HR2.out.c0; have f2 := HR2.out.f1; clear hb) | (go_at_call 57; (with_reducible refine (fail_calls _ _ _ _).mono ?_); rintro e w9 ⟨rfl, hb⟩; have HB9 := am hb; clear hb))
      exact ⟨rfl, Ends.no HX.out (HO2.out.drawn HB9.out)⟩
     ·have a1 : ¬ (c.toNat : Int) < 32 := by omega
      have a2 : decide ((c.toNat : Int) < 32) = false := decide_eq_false a1
      by_cases h92 : c = 92
      ·have e92 : ((c.toNat : Int) == 92) = true := by rw [h92]; decide
       have HE := am (textF_esc s.data.toList g l q c hc h92)
       clear hc h34 h92
       cases hes : escF s.data.toList q with
       | err e q1 =>
        have HX := am (show o = .err e q1 by have := HF.out; rw [HE.out, hes] at this; injection this with this; exact this.symm)
        have HS := am hes
        clear hes HE
        go_wp2_with (first | (go_at_call 104; (with_reducible refine (peek_ok R s q c HC.out _ ?rd).mono ?_); (case rd => exact HR.out); rintro e w1 ⟨rfl, hb⟩; have HR2 := am (HR.out.drawn hb); have HO2 := am (HO.out.drawn hb); have HW2 := am (HW.out.drawn hb); have d1 := HR2.out.c1; have d0 := HR2.out.c0; have f2 := HR2.out.f1; clear hb) | (go_at_call 138; (with_reducible refine (Calls.err_of (escape_calls R s q (by omega) hqs _ ?rd) HS.out).mono ?_); (case rd => exact HR2.out); rintro e w4 ⟨rfl, ho⟩; have HO4 := am (HO2.out.trans ho); clear ho))
        exact ⟨rfl, Ends.no HX.out HO4.out⟩
       | val r q1 =>
        have HX := am (show textF s.data.toList g (l ++ encodeRune r) q1 = some o by have := HF.out; rw [HE.out, hes] at this; exact this)
        obtain ⟨hq1, hq2, hr⟩ := escF_val _ _ _ _ hes
        rw [size_data] at hq2
        have hen := encodeRune_le r
        have HS := am hes
        clear hes HE
        go_wp2_with (first | (go_at_call 104; (with_reducible refine (peek_ok R s q c HC.out _ ?rd).mono ?_); (case rd => exact HR.out); rintro e w1 ⟨rfl, hb⟩; have HR2 := am (HR.out.drawn hb); have HO2 := am (HO.out.drawn hb); have HW2 := am (HW.out.drawn hb); have d1 := HR2.out.c1; have d0 := HR2.out.c0; have f2 := HR2.out.f1; clear hb) | (go_at_call 138; (with_reducible refine (Calls.val_of (escape_calls R s q (by omega) hqs _ ?rd) HS.out).mono ?_); (case rd => exact HR2.out); rintro e w4 ⟨v, rfl, rfl, hr4, ho⟩; have HR4 := am hr4; have HO4 := am (HO2.out.trans ho); have HW4 := am (HW2.out.on HRB.out ho); clear ho hr4) | (go_at_call 137; (with_reducible refine (appendRune_calls W.heap.size _ l r (by omega) _ (by omega) ?own).mono ?_); (case own => exact HW4.out); rintro e w5 ⟨v', ob, rfl, ho, hg⟩; obtain ⟨A', cp', e5⟩ := ho.slice; subst e5; have HR5 := am (HR4.out.grown' HW4.out HRB.out ob hg); have HO5 := am (HO4.out.grown' HW4.out (Nat.le_refl _) (Nat.le_of_lt HRB.out) ob hg); have HW5 := am ho; clear ho hg))
        go_roundg g
        case measure => omega
        case rel => exact ⟨q1, l ++ encodeRune r, A', cp', by rw [List.length_append], HW5, hq2, by rw [List.length_append]; omega, HX, HR5, HO5⟩
      ·have e92 : ((c.toNat : Int) == 92) = false := (beq_u8 c 92 (by omega)).trans (decide_eq_false h92)
       by_cases h128 : c.toNat < 128
       ·have HX := am (show textF s.data.toList g (l ++ [c]) (q + 1) = some o by have := HF.out; rw [textF_ascii _ _ _ _ _ hc h34 h32 h92 h128] at this; exact this)
        have a3 : (c.toNat : Int) < 128 := by omega
        clear hc h34 h92
        go_wp2_with (first | (go_at_call 104; (with_reducible refine (peek_ok R s q c HC.out _ ?rd).mono ?_); (case rd => exact HR.out); rintro e w1 ⟨rfl, hb⟩; have HR2 := am (HR.out.drawn hb); have HO2 := am (HO.out.drawn hb); have HW2 := am (HW.out.drawn hb); have d1 := HR2.out.c1; have d0 := HR2.out.c0; have f2 := HR2.out.f1; clear hb) | (at_builtin; refine Own.one (B := W.heap.size) rfl (.tmp 110) (.tmp 112) 73 rfl Tryz.underlying73 info5 _ l c rfl rfl ?own (by omega) ?_; (case own => exact HW2.out); intro v1 w5 ho hg; obtain ⟨A', cp', e5⟩ := ho.slice; subst e5; have HR5 := am (HR2.out.grown HW2.out HRB.out hg); have HO5 := am (HO2.out.grown HW2.out (Nat.le_refl _) (Nat.le_of_lt HRB.out) hg); have HW5 := am ho; have d5 := HR5.out.c1; have f5 := HR5.out.f1; clear ho hg))
        go_roundg g
        case measure => omega
        case rel => exact ⟨q + 1, l ++ [c], A', cp', by rw [List.length_append]; rfl, ⟨HW5.out.set HRB.out _ _⟩, by omega, by rw [List.length_append, List.length_singleton]; omega, HX, ⟨HR5.out.set _⟩, ⟨HO5.out.set _ _⟩⟩
       ·have HX := am ((textF_rune s.data.toList g l q c hc h128).symm.trans HF.out)
        have a3 : ¬ (c.toNat : Int) < 128 := by omega
        have a4 : decide ((c.toNat : Int) < 128) = false := decide_eq_false a3
        clear hc h34 h92
        have b0 : (0 : Int) ≤ (q : Int) := by omega
        have b1 : (q : Int) ≤ (s.size : Int) := by omega
        have hdr := drop_extract s q
        have hex : s.extract q s.size = bs (s.data.toList.drop q) := by rw [← hdr, bs_eq]
        have hex2 : (⟨(s.data.toList.drop q).toArray⟩ : ByteArray) = s.extract q s.size := hex.symm
        rw [hex2, fullF_eq, ← hdr] at HX
        obtain ⟨hw1, hw2⟩ := dec_width (s.extract q s.size) (by rw [ByteArray.size_extract]; omega)
        have hsz : (s.extract q s.size).size = s.size - q := by rw [ByteArray.size_extract]; omega
        rw [hsz] at hw2
        have HD := am (fun w hT => decode_calls (s.extract q s.size) w hT)
        have HFu := am (fun w hT => fullRune_calls (s.extract q s.size) w hT)
        generalize decodeGo (s.extract q s.size) = D at HD HX hw1 hw2
        generalize fullG (s.extract q s.size).data.toList = fb at HFu HX
        obtain ⟨D1, D2⟩ := D
        dsimp only at HD HX hw1 hw2
        clear hex hex2
        go_upto_region 4 with (go_at_call 104; (with_reducible refine (peek_ok R s q c HC.out _ ?rd).mono ?_); (case rd => exact HR.out); rintro e w1 ⟨rfl, hb⟩; have HR2 := am (HR.out.drawn hb); have HO2 := am (HO.out.drawn hb); have HW2 := am (HW.out.drawn hb); have d1 := HR2.out.c1; have d0 := HR2.out.c0; have f2 := HR2.out.f1; clear hb)
        go_cut [5, 6] (fun v5 v6 wc => v5 = .int .i32 D1 ∧ v6 = .int .i64 D2 ∧ Aside0 (Below w1.heap.size w1 wc))
        case first =>
         go_region_with ((go_at_call 139; (with_reducible refine (HD.out _ ?tb).mono ?_); (case tb => exact HT.out _ (HO2.out.drewN _)); rintro e w4 ⟨rfl, hb⟩; have HB := am hb; clear hb))
         all_goals (go_wp2_with fail; go_meet; exact ⟨rfl, rfl, ⟨(below_drew1 (Below.refl w1.heap.size w1)).trans HB.out⟩⟩)
        case rest =>
         obtain ⟨rfl, rfl, HWc⟩ := hcut
         have HOc := am (On.of_below (R := R) (Nat.le_of_lt HR2.out.lt) HWc.out)
         have HR3 := am (HR2.out.below HWc.out)
         have HO3 := am (HO2.out.trans HOc.out)
         have HW3 := am (HW2.out.on HRB.out HOc.out)
         clear d0 d1 f2 c0 c1 f1 HR HO HW HR2 HO2 HW2 HWc HOc
         have d0 := HR3.out.c0
         have d1 := HR3.out.c1
         have f3 := HR3.out.f1
         by_cases hB : D1 = 65533 ∧ D2 < 2
         ·rw [if_pos hB] at HX
          obtain ⟨hB1, hB2⟩ := hB
          have e1 : ((D1 : Int) == 65533) = true := by rw [hB1]; rfl
          clear hB1
          have e2 : (D2 : Int) < 2 := by omega
          go_upto_region 6 with fail
          go_cut [45] (fun v45 wd => v45 = .bool (!fb) ∧ Aside0 (Below wc.heap.size wc wd))
          case first =>
           go_region_with ((go_at_call 140; (with_reducible refine (HFu.out _ ?tb).mono ?_); (case tb => exact HT.out _ (HO3.out.drewN _)); rintro e w4 ⟨rfl, hb⟩; have HB := am hb; clear hb))
           all_goals (go_wp2_with fail; go_meet; exact ⟨rfl, ⟨(below_drew1 (Below.refl wc.heap.size wc)).trans HB.out⟩⟩)
          case rest =>
           obtain ⟨rfl, HWd⟩ := hcut
           have HOc := am (On.of_below (R := R) (Nat.le_of_lt HR3.out.lt) HWd.out)
           have HR4 := am (HR3.out.below HWd.out)
           have HO4 := am (HO3.out.trans HOc.out)
           clear d0 d1 f3 HR3 HO3 HW3 HWd HOc
           have d0 := HR4.out.c0
           have d1 := HR4.out.c1
           cases fb with
           | true =>
            have HY := am (show o = .err 43 q by have := HX.out; rw [if_pos rfl] at this; injection this with this; exact this.symm)
            go_wp2_with (go_at_call 57; (with_reducible refine (fail_calls _ _ _ _).mono ?_); rintro e w9 ⟨rfl, hb⟩; have HB9 := am hb; clear hb)
            exact ⟨rfl, Ends.no HY.out (HO4.out.drawn HB9.out)⟩
           | false =>
            have HY := am (show o = .err 3 s.size by have := HX.out; rw [if_neg (by decide)] at this; injection this with this; rw [← this, size_data])
            go_wp2_with (go_at_call 135; (with_reducible refine (short_calls R s q _ ?rd).mono ?_); (case rd => exact HR4.out); rintro e w9 ⟨rfl, hb⟩; have HB9 := am hb; clear hb)
            exact ⟨rfl, Ends.no HY.out (HO4.out.drawn HB9.out)⟩
         ·rw [if_neg hB] at HX
          have hD : (((D1 : Int) == 65533) = false) ∨ ((((D1 : Int) == 65533) = true) ∧ ¬ (D2 : Int) < 2) := by
           by_cases h1 : D1 = 65533
           ·exact .inr ⟨by rw [h1]; rfl, fun h2 => hB ⟨h1, by omega⟩⟩
           ·exact .inl (by rw [beq_eq_false_iff_ne]; omega)
          clear hB
          have b2 : (q : Int) ≤ (q : Int) + (D2 : Int) := by omega
          have b3 : (q : Int) + (D2 : Int) ≤ (s.size : Int) := by omega
          have hwr : wrap64 ((q : Int) + (D2 : Int)) = (q : Int) + (D2 : Int) := Go.Proofs.YtpdelcbkcebkpaaGreatDoor.X.wr _ (by omega)
          rcases hD with e1 | ⟨e1, e2⟩
          ·skip
           go_upto_region 9 with fail
           refine start_ (n := 18) (S := fun w' => w'.cell? ⟨R, 0, none⟩ = some (.string s) ∧ w'.cell? ⟨R, 1, none⟩ = some (.int .i64 q)) (ds := []) #[false, false, false, false, false, false, false, false, false, false, false, false, false, false, false, false, false, false] (by kernel_rfl) rfl rfl ⟨HR3.out.c0, HR3.out.c1⟩ (fun hHeld => ?_)
           refine take_ (i := 0) (N := some 54) (v := ?_) (a' := ?_) #[true, false, false, false, false, false, false, false, false, false, false, false, false, false, false, false, false, false] rfl rfl (by kernel_rfl) (fun _ _ _ h => h) (Or.inl ⟨by rfl, ?_⟩) hHeld ?_ ?_
           rotate_left
           ·rintro w' ⟨s0, s1⟩
            go_simp
            with_reducible rfl
           rotate_left
           ·simp only [Act.put, sAx, sZx, sSx, i64_w, i32_w]
            rfl
           refine take_ (i := 1) (N := some 55) (v := ?_) (a' := ?_) #[true, true, false, false, false, false, false, false, false, false, false, false, false, false, false, false, false, false] rfl rfl (by kernel_rfl) (fun _ _ _ h => h) (Or.inl ⟨by rfl, ?_⟩) hHeld ?_ ?_
           rotate_left
           ·rintro w' ⟨s0, s1⟩
            go_simp
            with_reducible rfl
           rotate_left
           ·simp only [Act.put, sAx, sZx, sSx, i64_w, i32_w]
            rfl
           refine take_ (i := 2) (N := some 56) (v := ?_) (a' := ?_) #[true, true, true, false, false, false, false, false, false, false, false, false, false, false, false, false, false, false] rfl rfl (by kernel_rfl) (fun _ _ _ h => h) (Or.inl ⟨by rfl, ?_⟩) hHeld ?_ ?_
           rotate_left
           ·rintro w' ⟨s0, s1⟩
            go_simp
            with_reducible rfl
           rotate_left
           ·simp only [Act.put, sAx, sZx, sSx, i64_w, i32_w]
            rfl
           refine take_ (i := 3) (N := some 57) (v := ?_) (a' := ?_) #[true, true, true, true, false, false, false, false, false, false, false, false, false, false, false, false, false, false] rfl rfl (by kernel_rfl) (fun _ _ _ h => h) (Or.inl ⟨by rfl, ?_⟩) hHeld ?_ ?_
           rotate_left
           ·rintro w' ⟨s0, s1⟩
            go_simp
            with_reducible rfl
           rotate_left
           ·simp only [Act.put, sAx, sZx, sSx, i64_w, i32_w]
            rfl
           refine take_ (i := 4) (N := some 58) (v := ?_) (a' := ?_) #[true, true, true, true, true, false, false, false, false, false, false, false, false, false, false, false, false, false] rfl rfl (by kernel_rfl) (fun _ _ _ h => h) (Or.inl ⟨by rfl, ?_⟩) hHeld ?_ ?_
           rotate_left
           ·rintro w' ⟨s0, s1⟩
            go_simp
            with_reducible rfl
           rotate_left
           ·simp only [Act.put, sAx, sZx, sSx, i64_w, i32_w]
            rfl
           refine take_ (i := 5) (N := some 59) (v := ?_) (a' := ?_) #[true, true, true, true, true, true, false, false, false, false, false, false, false, false, false, false, false, false] rfl rfl (by kernel_rfl) (fun _ _ _ h => h) (Or.inl ⟨by rfl, ?_⟩) hHeld ?_ ?_
           rotate_left
           ·rintro w' ⟨s0, s1⟩
            go_simp
            with_reducible rfl
           rotate_left
           ·simp only [Act.put, sAx, sZx, sSx, i64_w, i32_w]
            rfl
           refine take_ (i := 6) (N := some 60) (v := ?_) (a' := ?_) #[true, true, true, true, true, true, true, false, false, false, false, false, false, false, false, false, false, false] rfl rfl (by kernel_rfl) (fun _ _ _ h => h) (Or.inl ⟨by rfl, ?_⟩) hHeld ?_ ?_
           rotate_left
           ·rintro w' ⟨s0, s1⟩
            go_simp
            with_reducible rfl
           rotate_left
           ·simp only [Act.put, sAx, sZx, sSx, i64_w, i32_w]
            rfl
           refine take_ (i := 7) (N := some 61) (v := ?_) (a' := ?_) #[true, true, true, true, true, true, true, true, false, false, false, false, false, false, false, false, false, false] rfl rfl (by kernel_rfl) (fun _ _ _ h => h) (Or.inl ⟨by rfl, ?_⟩) hHeld ?_ ?_
           rotate_left
           ·rintro w' ⟨s0, s1⟩
            go_simp
            with_reducible rfl
           rotate_left
           ·simp only [Act.put, sAx, sZx, sSx, i64_w, i32_w]
            rfl
           refine take_ (i := 8) (N := some 62) (v := ?_) (a' := ?_) #[true, true, true, true, true, true, true, true, true, false, false, false, false, false, false, false, false, false] rfl rfl (by kernel_rfl) (fun _ _ _ h => h) (Or.inl ⟨by rfl, ?_⟩) hHeld ?_ ?_
           rotate_left
           ·rintro w' ⟨s0, s1⟩
            go_simp
            with_reducible rfl
           rotate_left
           ·simp only [Act.put, sAx, sZx, sSx, i64_w, i32_w]
            rfl
           refine take_ (i := 9) (N := some 63) (v := ?_) (a' := ?_) #[true, true, true, true, true, true, true, true, true, true, false, false, false, false, false, false, false, false] rfl rfl (by kernel_rfl) (fun _ _ _ h => h) (Or.inl ⟨by rfl, ?_⟩) hHeld ?_ ?_
           rotate_left
           ·rintro w' ⟨s0, s1⟩
            go_simp
            with_reducible rfl
           rotate_left
           ·simp only [Act.put, sAx, sZx, sSx, i64_w, i32_w]
            rfl
           refine take_ (i := 10) (N := some 64) (v := ?_) (a' := ?_) #[true, true, true, true, true, true, true, true, true, true, true, false, false, false, false, false, false, false] rfl rfl (by kernel_rfl) (fun _ _ _ h => h) (Or.inl ⟨by rfl, ?_⟩) hHeld ?_ ?_
           rotate_left
           ·rintro w' ⟨s0, s1⟩
            go_simp
            with_reducible rfl
           rotate_left
           ·simp only [Act.put, sAx, sZx, sSx, i64_w, i32_w]
            rfl
           refine take_ (i := 11) (N := some 65) (v := ?_) (a' := ?_) #[true, true, true, true, true, true, true, true, true, true, true, true, false, false, false, false, false, false] rfl rfl (by kernel_rfl) (fun _ _ _ h => h) (Or.inl ⟨by rfl, ?_⟩) hHeld ?_ ?_
           rotate_left
           ·rintro w' ⟨s0, s1⟩
            go_simp
            with_reducible rfl
           rotate_left
           ·simp only [Act.put, sAx, sZx, sSx, i64_w, i32_w]
            rfl
           refine take_ (i := 12) (N := some 66) (v := ?_) (a' := ?_) #[true, true, true, true, true, true, true, true, true, true, true, true, true, false, false, false, false, false] rfl rfl (by kernel_rfl) (fun _ _ _ h => h) (Or.inl ⟨by rfl, ?_⟩) hHeld ?_ ?_
           rotate_left
           ·rintro w' ⟨s0, s1⟩
            go_simp
            with_reducible rfl
           rotate_left
           ·simp only [Act.put, sAx, sZx, sSx, i64_w, i32_w]
            rfl
           refine take_ (i := 13) (N := some 67) (v := ?_) (a' := ?_) #[true, true, true, true, true, true, true, true, true, true, true, true, true, true, false, false, false, false] rfl rfl (by kernel_rfl) (fun _ _ _ h => h) (Or.inl ⟨by rfl, ?_⟩) hHeld ?_ ?_
           rotate_left
           ·rintro w' ⟨s0, s1⟩
            go_simp
            with_reducible rfl
           rotate_left
           ·simp only [Act.put, sAx, sZx, sSx, i64_w, i32_w]
            rfl
           refine take_ (i := 14) (N := some 68) (v := ?_) (a' := ?_) #[true, true, true, true, true, true, true, true, true, true, true, true, true, true, true, false, false, false] rfl rfl (by kernel_rfl) (fun _ _ _ h => h) (Or.inl ⟨by rfl, ?_⟩) hHeld ?_ ?_
           rotate_left
           ·rintro w' ⟨s0, s1⟩
            go_simp
            try rw [hwr]
            with_reducible rfl
           rotate_left
           ·simp only [Act.put, sAx, sZx, sSx, i64_w, i32_w]
            rfl
           refine take_ (i := 15) (N := some 69) (v := ?_) (a' := ?_) #[true, true, true, true, true, true, true, true, true, true, true, true, true, true, true, true, false, false] rfl rfl (by kernel_rfl) (fun _ _ _ h => h) (Or.inl ⟨by rfl, ?_⟩) hHeld ?_ ?_
           rotate_left
           ·rintro w' ⟨s0, s1⟩
            go_simp
            with_reducible rfl
           rotate_left
           ·simp only [Act.put, sAx, sZx, sSx, i64_w, i32_w]
            rfl
           refine one_ (i := 16) (N := some 70) #[true, true, true, true, true, true, true, true, true, true, true, true, true, true, true, true, true, false] rfl rfl (by kernel_rfl) (by decide) (fun K hK => ?_)
           refine Own.strStep (B := W.heap.size) rfl (.tmp 54) (.tmp 69) 73 9 rfl Tryz.underlying73 Tryz.underlying9 info5 _ l (s.extract q (q + D2)) rfl ?hx ?own ?len ?_
           (case hx => rfl)
           (case own => exact HW3.out)
           (case len => rw [ByteArray.size_extract]; omega)
           intro v1 w5 ho hg
           obtain ⟨A', cp', e5⟩ := ho.slice
           subst e5
           have HR5 := am (show RdB R s q w5 from RdB.grown (W := wc.drew) (HR3.out.drew) HW3.out HRB.out hg)
           have HO5 := am (show On R W w5 from On.grown (W1 := wc.drew) (HO3.out.drewN 1) HW3.out (Nat.le_refl _) (Nat.le_of_lt HRB.out) hg)
           have HW5 := am ho
           refine hK.out _ _ ⟨HR5.out.c0, HR5.out.c1⟩ (fun hHeld => ?_)
           clear hK K
           refine norm_ (a' := ?_) ?_ ?_
           rotate_left
           ·show Act.put _ (some 70) _ = _
            simp only [Act.put, sAx, sZx, sSx, i64_w, i32_w]
            rfl
           refine take_ (i := 17) (N := some 3) (v := ?_) (a' := ?_) #[true, true, true, true, true, true, true, true, true, true, true, true, true, true, true, true, true, true] rfl rfl (by kernel_rfl) (fun _ _ _ h => h) (Or.inl ⟨by rfl, ?_⟩) hHeld ?_ ?_
           rotate_left
           ·rintro w' ⟨s0, s1⟩
            go_simp
            with_reducible rfl
           rotate_left
           ·simp only [Act.put, sAx, sZx, sSx, i64_w, i32_w]
            rfl
           refine done_ (by kernel_rfl) ?_
           have d5 := HR5.out.c1
           have f5 := HR5.out.f1
           go_wp2
           go_roundg g
           case measure => omega
           case rel => exact ⟨q + D2, l ++ (s.extract q (q + D2)).data.toList, A', cp', (by first | rfl | (congr 1; simp; done) | (congr 1; simp [List.length_append, size_data]; omega)), ⟨HW5.out.set HRB.out _ _⟩, by omega, by rw [List.length_append, size_data, ByteArray.size_extract]; omega, ⟨by have := HX.out; rw [hdr] at this; rw [Lib.extract_data, Nat.add_sub_cancel_left]; exact this⟩, ⟨by have e := HR5.out.set ((q + D2 : Nat) : Int); rw [Int.natCast_add] at e ⊢; exact e⟩, ⟨HO5.out.set _ _⟩⟩
          ·skip
           go_upto_region 9 with fail
           refine start_ (n := 18) (S := fun w' => w'.cell? ⟨R, 0, none⟩ = some (.string s) ∧ w'.cell? ⟨R, 1, none⟩ = some (.int .i64 q)) (ds := []) #[false, false, false, false, false, false, false, false, false, false, false, false, false, false, false, false, false, false] (by kernel_rfl) rfl rfl ⟨HR3.out.c0, HR3.out.c1⟩ (fun hHeld => ?_)
           refine take_ (i := 0) (N := some 54) (v := ?_) (a' := ?_) #[true, false, false, false, false, false, false, false, false, false, false, false, false, false, false, false, false, false] rfl rfl (by kernel_rfl) (fun _ _ _ h => h) (Or.inl ⟨by rfl, ?_⟩) hHeld ?_ ?_
           rotate_left
           ·rintro w' ⟨s0, s1⟩
            go_simp
            with_reducible rfl
           rotate_left
           ·simp only [Act.put, sAx, sZx, sSx, i64_w, i32_w]
            rfl
           refine take_ (i := 1) (N := some 55) (v := ?_) (a' := ?_) #[true, true, false, false, false, false, false, false, false, false, false, false, false, false, false, false, false, false] rfl rfl (by kernel_rfl) (fun _ _ _ h => h) (Or.inl ⟨by rfl, ?_⟩) hHeld ?_ ?_
           rotate_left
           ·rintro w' ⟨s0, s1⟩
            go_simp
            with_reducible rfl
           rotate_left
           ·simp only [Act.put, sAx, sZx, sSx, i64_w, i32_w]
            rfl
           refine take_ (i := 2) (N := some 56) (v := ?_) (a' := ?_) #[true, true, true, false, false, false, false, false, false, false, false, false, false, false, false, false, false, false] rfl rfl (by kernel_rfl) (fun _ _ _ h => h) (Or.inl ⟨by rfl, ?_⟩) hHeld ?_ ?_
           rotate_left
           ·rintro w' ⟨s0, s1⟩
            go_simp
            with_reducible rfl
           rotate_left
           ·simp only [Act.put, sAx, sZx, sSx, i64_w, i32_w]
            rfl
           refine take_ (i := 3) (N := some 57) (v := ?_) (a' := ?_) #[true, true, true, true, false, false, false, false, false, false, false, false, false, false, false, false, false, false] rfl rfl (by kernel_rfl) (fun _ _ _ h => h) (Or.inl ⟨by rfl, ?_⟩) hHeld ?_ ?_
           rotate_left
           ·rintro w' ⟨s0, s1⟩
            go_simp
            with_reducible rfl
           rotate_left
           ·simp only [Act.put, sAx, sZx, sSx, i64_w, i32_w]
            rfl
           refine take_ (i := 4) (N := some 58) (v := ?_) (a' := ?_) #[true, true, true, true, true, false, false, false, false, false, false, false, false, false, false, false, false, false] rfl rfl (by kernel_rfl) (fun _ _ _ h => h) (Or.inl ⟨by rfl, ?_⟩) hHeld ?_ ?_
           rotate_left
           ·rintro w' ⟨s0, s1⟩
            go_simp
            with_reducible rfl
           rotate_left
           ·simp only [Act.put, sAx, sZx, sSx, i64_w, i32_w]
            rfl
           refine take_ (i := 5) (N := some 59) (v := ?_) (a' := ?_) #[true, true, true, true, true, true, false, false, false, false, false, false, false, false, false, false, false, false] rfl rfl (by kernel_rfl) (fun _ _ _ h => h) (Or.inl ⟨by rfl, ?_⟩) hHeld ?_ ?_
           rotate_left
           ·rintro w' ⟨s0, s1⟩
            go_simp
            with_reducible rfl
           rotate_left
           ·simp only [Act.put, sAx, sZx, sSx, i64_w, i32_w]
            rfl
           refine take_ (i := 6) (N := some 60) (v := ?_) (a' := ?_) #[true, true, true, true, true, true, true, false, false, false, false, false, false, false, false, false, false, false] rfl rfl (by kernel_rfl) (fun _ _ _ h => h) (Or.inl ⟨by rfl, ?_⟩) hHeld ?_ ?_
           rotate_left
           ·rintro w' ⟨s0, s1⟩
            go_simp
            with_reducible rfl
           rotate_left
           ·simp only [Act.put, sAx, sZx, sSx, i64_w, i32_w]
            rfl
           refine take_ (i := 7) (N := some 61) (v := ?_) (a' := ?_) #[true, true, true, true, true, true, true, true, false, false, false, false, false, false, false, false, false, false] rfl rfl (by kernel_rfl) (fun _ _ _ h => h) (Or.inl ⟨by rfl, ?_⟩) hHeld ?_ ?_
           rotate_left
           ·rintro w' ⟨s0, s1⟩
            go_simp
            with_reducible rfl
           rotate_left
           ·simp only [Act.put, sAx, sZx, sSx, i64_w, i32_w]
            rfl
           refine take_ (i := 8) (N := some 62) (v := ?_) (a' := ?_) #[true, true, true, true, true, true, true, true, true, false, false, false, false, false, false, false, false, false] rfl rfl (by kernel_rfl) (fun _ _ _ h => h) (Or.inl ⟨by rfl, ?_⟩) hHeld ?_ ?_
           rotate_left
           ·rintro w' ⟨s0, s1⟩
            go_simp
            with_reducible rfl
           rotate_left
           ·simp only [Act.put, sAx, sZx, sSx, i64_w, i32_w]
            rfl
           refine take_ (i := 9) (N := some 63) (v := ?_) (a' := ?_) #[true, true, true, true, true, true, true, true, true, true, false, false, false, false, false, false, false, false] rfl rfl (by kernel_rfl) (fun _ _ _ h => h) (Or.inl ⟨by rfl, ?_⟩) hHeld ?_ ?_
           rotate_left
           ·rintro w' ⟨s0, s1⟩
            go_simp
            with_reducible rfl
           rotate_left
           ·simp only [Act.put, sAx, sZx, sSx, i64_w, i32_w]
            rfl
           refine take_ (i := 10) (N := some 64) (v := ?_) (a' := ?_) #[true, true, true, true, true, true, true, true, true, true, true, false, false, false, false, false, false, false] rfl rfl (by kernel_rfl) (fun _ _ _ h => h) (Or.inl ⟨by rfl, ?_⟩) hHeld ?_ ?_
           rotate_left
           ·rintro w' ⟨s0, s1⟩
            go_simp
            with_reducible rfl
           rotate_left
           ·simp only [Act.put, sAx, sZx, sSx, i64_w, i32_w]
            rfl
           refine take_ (i := 11) (N := some 65) (v := ?_) (a' := ?_) #[true, true, true, true, true, true, true, true, true, true, true, true, false, false, false, false, false, false] rfl rfl (by kernel_rfl) (fun _ _ _ h => h) (Or.inl ⟨by rfl, ?_⟩) hHeld ?_ ?_
           rotate_left
           ·rintro w' ⟨s0, s1⟩
            go_simp
            with_reducible rfl
           rotate_left
           ·simp only [Act.put, sAx, sZx, sSx, i64_w, i32_w]
            rfl
           refine take_ (i := 12) (N := some 66) (v := ?_) (a' := ?_) #[true, true, true, true, true, true, true, true, true, true, true, true, true, false, false, false, false, false] rfl rfl (by kernel_rfl) (fun _ _ _ h => h) (Or.inl ⟨by rfl, ?_⟩) hHeld ?_ ?_
           rotate_left
           ·rintro w' ⟨s0, s1⟩
            go_simp
            with_reducible rfl
           rotate_left
           ·simp only [Act.put, sAx, sZx, sSx, i64_w, i32_w]
            rfl
           refine take_ (i := 13) (N := some 67) (v := ?_) (a' := ?_) #[true, true, true, true, true, true, true, true, true, true, true, true, true, true, false, false, false, false] rfl rfl (by kernel_rfl) (fun _ _ _ h => h) (Or.inl ⟨by rfl, ?_⟩) hHeld ?_ ?_
           rotate_left
           ·rintro w' ⟨s0, s1⟩
            go_simp
            with_reducible rfl
           rotate_left
           ·simp only [Act.put, sAx, sZx, sSx, i64_w, i32_w]
            rfl
           refine take_ (i := 14) (N := some 68) (v := ?_) (a' := ?_) #[true, true, true, true, true, true, true, true, true, true, true, true, true, true, true, false, false, false] rfl rfl (by kernel_rfl) (fun _ _ _ h => h) (Or.inl ⟨by rfl, ?_⟩) hHeld ?_ ?_
           rotate_left
           ·rintro w' ⟨s0, s1⟩
            go_simp
            try rw [hwr]
            with_reducible rfl
           rotate_left
           ·simp only [Act.put, sAx, sZx, sSx, i64_w, i32_w]
            rfl
           refine take_ (i := 15) (N := some 69) (v := ?_) (a' := ?_) #[true, true, true, true, true, true, true, true, true, true, true, true, true, true, true, true, false, false] rfl rfl (by kernel_rfl) (fun _ _ _ h => h) (Or.inl ⟨by rfl, ?_⟩) hHeld ?_ ?_
           rotate_left
           ·rintro w' ⟨s0, s1⟩
            go_simp
            with_reducible rfl
           rotate_left
           ·simp only [Act.put, sAx, sZx, sSx, i64_w, i32_w]
            rfl
           refine one_ (i := 16) (N := some 70) #[true, true, true, true, true, true, true, true, true, true, true, true, true, true, true, true, true, false] rfl rfl (by kernel_rfl) (by decide) (fun K hK => ?_)
           refine Own.strStep (B := W.heap.size) rfl (.tmp 54) (.tmp 69) 73 9 rfl Tryz.underlying73 Tryz.underlying9 info5 _ l (s.extract q (q + D2)) rfl ?hx2 ?own2 ?len2 ?_
           (case hx2 => rfl)
           (case own2 => exact HW3.out)
           (case len2 => rw [ByteArray.size_extract]; omega)
           intro v1 w5 ho hg
           obtain ⟨A', cp', e5⟩ := ho.slice
           subst e5
           have HR5 := am (show RdB R s q w5 from RdB.grown (W := wc.drew) (HR3.out.drew) HW3.out HRB.out hg)
           have HO5 := am (show On R W w5 from On.grown (W1 := wc.drew) (HO3.out.drewN 1) HW3.out (Nat.le_refl _) (Nat.le_of_lt HRB.out) hg)
           have HW5 := am ho
           refine hK.out _ _ ⟨HR5.out.c0, HR5.out.c1⟩ (fun hHeld => ?_)
           clear hK K
           refine norm_ (a' := ?_) ?_ ?_
           rotate_left
           ·show Act.put _ (some 70) _ = _
            simp only [Act.put, sAx, sZx, sSx, i64_w, i32_w]
            rfl
           refine take_ (i := 17) (N := some 3) (v := ?_) (a' := ?_) #[true, true, true, true, true, true, true, true, true, true, true, true, true, true, true, true, true, true] rfl rfl (by kernel_rfl) (fun _ _ _ h => h) (Or.inl ⟨by rfl, ?_⟩) hHeld ?_ ?_
           rotate_left
           ·rintro w' ⟨s0, s1⟩
            go_simp
            with_reducible rfl
           rotate_left
           ·simp only [Act.put, sAx, sZx, sSx, i64_w, i32_w]
            rfl
           refine done_ (by kernel_rfl) ?_
           have d5 := HR5.out.c1
           have f5 := HR5.out.f1
           go_wp2
           go_roundg g
           case measure => omega
           case rel => exact ⟨q + D2, l ++ (s.extract q (q + D2)).data.toList, A', cp', (by first | rfl | (congr 1; simp; done) | (congr 1; simp [List.length_append, size_data]; omega)), ⟨HW5.out.set HRB.out _ _⟩, by omega, by rw [List.length_append, size_data, ByteArray.size_extract]; omega, ⟨by have := HX.out; rw [hdr] at this; rw [Lib.extract_data, Nat.add_sub_cancel_left]; exact this⟩, ⟨by have e := HR5.out.set ((q + D2 : Nat) : Int); rw [Int.natCast_add] at e ⊢; exact e⟩, ⟨HO5.out.set _ _⟩⟩
end Go.Proofs.YtpdelcbkcebkpaaGreatDoor.X
namespace Go.Proofs.YtpdelcbkcebkpaaGreatDoor.X
open Go.RowKit Go.Lib Go.Proofs.YtpdelcbkcebkpaaGreatDoorW.PrintWords
structure Inv {α : Type} (R : Nat) (s : ByteArray) (W0 : World) (I : α → Nat → World → Prop) (a : α) (q : Nat) (W : World) : Prop where
 rd : RdB R s q W
 on : On R W0 W
 i : I a q W
def SevEnds {α : Type} (R : Nat) (s : ByteArray) (W0 : World) (I : α → Nat → World → Prop) (o : Out α) (x : Ending) (W' : World) : Prop :=
 match o with
 | .val a q => x = .returned (.tuple #[]) ∧ Inv R s W0 I a q W'
 | .err e q => x = pan e q ∧ On R W0 W'
theorem SevEnds.ok {α : Type} {R : Nat} {s : ByteArray} {W0 W' : World} {I : α → Nat → World → Prop} {o : Out α} {a : α} {q : Nat} (ho : o = .val a q) (h : Inv R s W0 I a q W') : SevEnds R s W0 I o (.returned (.tuple #[])) W' := by
 subst ho; exact ⟨rfl, h⟩
theorem SevEnds.no {α : Type} {R : Nat} {s : ByteArray} {W0 W' : World} {I : α → Nat → World → Prop} {o : Out α} {e q : Nat} (ho : o = .err e q) (h : On R W0 W') : SevEnds R s W0 I o (pan e q) W' := by
 subst ho; exact ⟨rfl, h⟩
theorem SevEnds.val_of {α : Type} {f : FuncId} {args : Array Value} {R : Nat} {s : ByteArray} {W W0 : World} {I : α → Nat → World → Prop} {o : Out α} {a : α} {q : Nat} (h : Calls Tryz.prog f args W (SevEnds R s W0 I o)) (ho : o = .val a q) :
  Calls Tryz.prog f args W fun x W' => x = .returned (.tuple #[]) ∧ Inv R s W0 I a q W' := by
 subst ho; exact h
theorem SevEnds.err_of {α : Type} {f : FuncId} {args : Array Value} {R : Nat} {s : ByteArray} {W W0 : World} {I : α → Nat → World → Prop} {o : Out α} {e q : Nat} (h : Calls Tryz.prog f args W (SevEnds R s W0 I o)) (ho : o = .err e q) :
  Calls Tryz.prog f args W fun x W' => x = pan e q ∧ On R W0 W' := by
 subst ho; exact h
theorem beq_u8' (a b : UInt8) : ((a.toNat : Int) == (b.toNat : Int)) = decide (a = b) := by
 by_cases hc : a = b
 ·rw [hc]; simp
 ·have : ¬ (a.toNat : Int) = (b.toNat : Int) := fun hh => hc (UInt8.toNat.inj (by omega))
  simp [hc, this]
theorem bne_u8' (a b : UInt8) : ((a.toNat : Int) != (b.toNat : Int)) = !decide (a = b) := congrArg (!·) (beq_u8' a b)
theorem sevL_item {α : Type} (one : α → Nat → Option (Out α)) (s : List UInt8) (en : UInt8) (k : Nat) (a : α) (q : Nat) (o : Out α) (h : sevL one s en (k + 1) a q = some o) :
  (∃ e p, one a q = some (.err e p) ∧ o = .err e p) ∨ (∃ a' q1, one a q = some (.val a' q1) ∧
   ((s[blanksF s q1]? = none ∧ o = .err 3 s.length) ∨ (∃ c, s[blanksF s q1]? = some c ∧ ((c = en ∧ o = .val a' (blanksF s q1 + 1)) ∨ (c ≠ en ∧ c = 44 ∧ sevL one s en k a' (blanksF s (blanksF s q1 + 1)) = some o) ∨ (c ≠ en ∧ c ≠ 44 ∧ o = .err 40 (blanksF s q1)))))) := by
 simp only [sevL] at h
 cases h1 : one a q with
 | none => rw [h1] at h; cases h
 | some o1 =>
  rw [h1] at h
  cases o1 with
  | err e p => simp only at h; injection h with h; exact .inl ⟨e, p, rfl, h.symm⟩
  | val a' q1 =>
   simp only at h
   refine .inr ⟨a', q1, rfl, ?_⟩
   cases hc : s[blanksF s q1]? with
   | none => rw [hc] at h; simp only at h; injection h with h; exact .inl ⟨rfl, h.symm⟩
   | some c =>
    rw [hc] at h
    simp only at h
    refine .inr ⟨c, rfl, ?_⟩
    by_cases hcn : c = en
    ·rw [if_pos hcn] at h; injection h with h; exact .inl ⟨hcn, h.symm⟩
    ·rw [if_neg hcn] at h
     by_cases h44 : c = 44
     ·rw [if_pos h44] at h; exact .inr (.inl ⟨hcn, h44, h⟩)
     ·rw [if_neg h44] at h; injection h with h; exact .inr (.inr ⟨hcn, h44, h.symm⟩)
set_option maxRecDepth 1000000 in
set_option maxHeartbeats 4000000 in
theorem sevList_calls {α : Type} (R : Nat) (s : ByteArray) (en : UInt8) (one : α → Nat → Option (Out α)) (I : α → Nat → World → Prop) (W0 : World) (x0 x1 x2 : Value)
  (hl : s.size ≤ 10000000000) (hI : ∀ a q q' W W', q ≤ q' → I a q W → On R W W' → I a q' W') (hle : ∀ a q a' q', q ≤ s.size → one a q = some (.val a' q') → q' ≤ s.size)
  (hone : ∀ a q o W, q ≤ s.size → one a q = some o → Inv R s W0 I a q W → Calls Tryz.prog 142 #[x0, x1, x2] W (SevEnds R s W0 I o))
  (k : Nat) (a : α) (p : Nat) (o : Out α) (hp : p < s.size) (W : World) (h : Inv R s W0 I a p W) (hF : sevF one s.data.toList en k a p = some o) :
  Calls Tryz.prog 141 #[ptr R, .int .u8 en.toNat, .func (.func 142) #[] #[x0, x1, x2]] W (SevEnds R s W0 I o) := by
 have HR1 := am (show RdB R s ((p + 1 : Nat) : Int) (W.setCell ⟨R, 1, none⟩ (.int .i64 ((p : Int) + 1))) from h.rd.set _)
 have HN1 := am (show On R W (W.setCell ⟨R, 1, none⟩ (.int .i64 ((p : Int) + 1))) from (On.refl R W).set 1 _)
 have HI := am hI
 have HL := am hle
 have HC1 := am hone
 have HV := am h
 have HF := am hF
 have c0 := h.rd.c1
 have f0 := h.rd.f1
 have hq1 := blanks_le s.data.toList (p + 1) (by rw [size_data]; omega)
 rw [size_data] at hq1
 have hge1 := blanks_ge s.data.toList (p + 1)
 clear hI hle hone h hF
 cases hc : s.data.toList[blanksF s.data.toList (p + 1)]? with
 | none =>
  have hps : s.size ≤ blanksF s.data.toList (p + 1) := by rw [List.getElem?_eq_none_iff, size_data] at hc; exact hc
  have HX := am (show o = .err 3 s.size by have := HF.out; simp only [sevF, hc] at this; injection this with this; rw [← this, size_data])
  clear hc
  generalize hgen : blanksF s.data.toList (p + 1) = q1 at *
  have GEN := am hgen
  clear hgen
  go_enter Tryz.func141, Tryz.ntmps141
  go_wp2_with (first | (go_at_call 55; (with_reducible refine (blanks_calls R s (p + 1) (by omega) (by omega) _ ?rd1).mono ?_); (case rd1 => exact HR1.out); rintro e w1 ⟨rfl, hr, ho⟩; (try rw [GEN.out] at hr); have HR2 := am hr; have HO2 := am (HV.out.on.trans (HN1.out.trans ho)); have HN2 := am (HN1.out.trans ho); clear hr ho) | (go_at_call 104; (with_reducible refine (peek_short R s q1 hps _ ?rd2).mono ?_); (case rd2 => exact HR2.out); rintro e w2 ⟨rfl, hb⟩; have HB := am hb; clear hb))
  exact ⟨rfl, SevEnds.no HX.out (HO2.out.drawn HB.out)⟩
 | some c =>
  have HC := am hc
  by_cases hcn : c = en
  ·have HX := am (show o = .val a (blanksF s.data.toList (p + 1) + 1) by have := HF.out; simp only [sevF, hc, if_pos hcn] at this; injection this with this; exact this.symm)
   have een := (beq_u8' c en).trans (decide_eq_true hcn)
   have hlt := at_lt' hc
   clear hc hcn
   generalize hgen : blanksF s.data.toList (p + 1) = q1 at *
   have GEN := am hgen
   clear hgen
   go_enter Tryz.func141, Tryz.ntmps141
   go_wp2_with (first | (go_at_call 55; (with_reducible refine (blanks_calls R s (p + 1) (by omega) (by omega) _ ?rd1).mono ?_); (case rd1 => exact HR1.out); rintro e w1 ⟨rfl, hr, ho⟩; (try rw [GEN.out] at hr); have HR2 := am hr; have HO2 := am (HV.out.on.trans (HN1.out.trans ho)); have HN2 := am (HN1.out.trans ho); clear hr ho) | (go_at_call 104; (with_reducible refine (peek_ok R s q1 c HC.out _ ?rd2).mono ?_); (case rd2 => exact HR2.out); rintro e w2 ⟨rfl, hb⟩; have HR3 := am (HR2.out.drawn hb); have HO3 := am (HO2.out.drawn hb); have HN3 := am (HN2.out.drawn hb); have c3 := HR3.out.c1; have f3 := HR3.out.f1; clear hb))
   go_end0
   exact SevEnds.ok HX.out ⟨HR3.out.set _, HO3.out.set _ _, HI.out _ _ _ _ _ (by omega) HV.out.i (HN3.out.set _ _)⟩
  ·have HX := am (show sevL one s.data.toList en k a (blanksF s.data.toList (p + 1)) = some o by have := HF.out; simp only [sevF, hc, if_neg hcn] at this; exact this)
   have een := (beq_u8' c en).trans (decide_eq_false hcn)
   have hlt := at_lt' hc
   clear hc hcn HF
   generalize hgen : blanksF s.data.toList (p + 1) = q1 at *
   have GEN := am hgen
   clear hgen
   go_enter Tryz.func141, Tryz.ntmps141
   go_wp2_with (first | (go_at_call 55; (with_reducible refine (blanks_calls R s (p + 1) (by omega) (by omega) _ ?rd1).mono ?_); (case rd1 => exact HR1.out); rintro e w1 ⟨rfl, hr, ho⟩; (try rw [GEN.out] at hr); have HR2 := am hr; have HO2 := am (HV.out.on.trans (HN1.out.trans ho)); have HN2 := am (HN1.out.trans ho); clear hr ho) | (go_at_call 104; (with_reducible refine (peek_ok R s q1 c HC.out _ ?rd2).mono ?_); (case rd2 => exact HR2.out); rintro e w2 ⟨rfl, hb⟩; have HR3 := am (HR2.out.drawn hb); have HO3 := am (HO2.out.drawn hb); have HN3 := am (HN2.out.drawn hb); clear hb))
   go_loopg [] k (fun g wr => ∃ (b : α) (q : Nat), q ≤ s.size ∧ Aside0 (sevL one s.data.toList en g b q = some o) ∧ Aside0 (Inv R s W0 I b q wr))
   case atStart => exact ⟨a, q1, hq1, HX, ⟨HR3.out, HO3.out, HI.out _ _ _ _ _ (by omega) HV.out.i HN3.out⟩⟩
   case round =>
    obtain ⟨b, q, hq, HF, HW⟩ := hrel
    clear HR1 HN1 HV HC een HX HR2 HO2 HN2 HR3 HO3 HN3 c0 f0 hlt hq1 hp hge1
    cases gk with
    | zero => exact absurd HF.out (by simp [sevL])
    | succ g =>
     rcases sevL_item _ _ _ _ _ _ _ HF.out with ⟨e, p1, h1, h2⟩ | ⟨a', q2, h1, h2⟩
     ·have HE := am h1
      have HX := am h2
      clear h1 h2
      go_wp2_with (go_at_call 142; (with_reducible refine (SevEnds.err_of (HC1.out b q _ _ hq HE.out HW.out) rfl).mono ?_); rintro e w3 ⟨rfl, ho⟩; have HO4 := am ho; clear ho)
      exact ⟨rfl, SevEnds.no HX.out HO4.out⟩
     ·have HE := am h1
      have hq2 := HL.out _ _ _ _ hq h1
      have hq3 := blanks_le s.data.toList q2 (by rw [size_data]; omega)
      rw [size_data] at hq3
      have hge3 := blanks_ge s.data.toList q2
      clear h1
      rcases h2 with ⟨hc, h2⟩ | ⟨c, hc, h2⟩
      ·have hps : s.size ≤ blanksF s.data.toList q2 := by rw [List.getElem?_eq_none_iff, size_data] at hc; exact hc
       have HX := am (h2.trans (by rw [size_data]))
       clear hc h2
       generalize hg3 : blanksF s.data.toList q2 = q3 at *
       have HG3 := am hg3
       clear hg3
       go_wp2_with (first | (go_at_call 142; (with_reducible refine (SevEnds.val_of (HC1.out b q _ _ hq HE.out HW.out) rfl).mono ?_); rintro e w4 ⟨rfl, hv⟩; have HR4 := am hv.rd; have HO4 := am hv.on; have HI4 := am hv.i; clear hv) | (go_at_call 55; (with_reducible refine (blanks_calls R s q2 (by omega) hq2 _ ?rd5).mono ?_); (case rd5 => exact HR4.out); rintro e w5 ⟨rfl, hr, ho⟩; rw [HG3.out] at hr; have HR5 := am hr; have HO5 := am (HO4.out.trans ho); have HN5 := am ho; clear hr ho) | (go_at_call 104; (with_reducible refine (peek_short R s q3 hps _ ?rd6).mono ?_); (case rd6 => exact HR5.out); rintro e w6 ⟨rfl, hb⟩; have HB := am hb; clear hb))
       exact ⟨rfl, SevEnds.no HX.out (HO5.out.drawn HB.out)⟩
      ·have HC := am hc
       have hlt := at_lt' hc
       clear hc
       have hq4 := blanks_le s.data.toList (blanksF s.data.toList q2 + 1) (by rw [size_data]; omega)
       rw [size_data] at hq4
       have hge4 := blanks_ge s.data.toList (blanksF s.data.toList q2 + 1)
       generalize hg4 : blanksF s.data.toList (blanksF s.data.toList q2 + 1) = q4 at *
       generalize hg3 : blanksF s.data.toList q2 = q3 at *
       have HG3 := am hg3
       have HG4 := am hg4
       clear hg3 hg4
       rcases h2 with ⟨hcn, h2⟩ | ⟨hcn, h44, h2⟩ | ⟨hcn, h44, h2⟩
       ·have HX := am h2
        have een := (beq_u8' c en).trans (decide_eq_true hcn)
        have ene := (bne_u8' c en).trans (congrArg (!·) (decide_eq_true hcn))
        have e44 : ((c.toNat : Int) != 44) = false ∨ ((c.toNat : Int) != 44) = true := by cases ((c.toNat : Int) != 44); exact .inl rfl; exact .inr rfl
        clear h2 hcn
        rcases e44 with e44 | e44
        ·skip
         go_wp2_with (first | (go_at_call 142; (with_reducible refine (SevEnds.val_of (HC1.out b q _ _ hq HE.out HW.out) rfl).mono ?_); rintro e w4 ⟨rfl, hv⟩; have HR4 := am hv.rd; have HO4 := am hv.on; have HI4 := am hv.i; clear hv) | (go_at_call 55; (with_reducible refine (blanks_calls R s q2 (by omega) hq2 _ ?rd5).mono ?_); (case rd5 => exact HR4.out); rintro e w5 ⟨rfl, hr, ho⟩; rw [HG3.out] at hr; have HR5 := am hr; have HO5 := am (HO4.out.trans ho); have HN5 := am ho; clear hr ho) | (go_at_call 104; (with_reducible refine (peek_ok R s q3 c HC.out _ ?rd6).mono ?_); (case rd6 => exact HR5.out); rintro e w6 ⟨rfl, hb⟩; have HR6 := am (HR5.out.drawn hb); have HO6 := am (HO5.out.drawn hb); have HN6 := am (HN5.out.drawn hb); have c6 := HR6.out.c1; have f6 := HR6.out.f1; clear hb))
         go_end0
         exact SevEnds.ok HX.out ⟨HR6.out.set _, HO6.out.set _ _, HI.out _ _ _ _ _ (by omega) HI4.out (HN6.out.set _ _)⟩
        ·skip
         go_wp2_with (first | (go_at_call 142; (with_reducible refine (SevEnds.val_of (HC1.out b q _ _ hq HE.out HW.out) rfl).mono ?_); rintro e w4 ⟨rfl, hv⟩; have HR4 := am hv.rd; have HO4 := am hv.on; have HI4 := am hv.i; clear hv) | (go_at_call 55; (with_reducible refine (blanks_calls R s q2 (by omega) hq2 _ ?rd5b).mono ?_); (case rd5b => exact HR4.out); rintro e w5 ⟨rfl, hr, ho⟩; rw [HG3.out] at hr; have HR5 := am hr; have HO5 := am (HO4.out.trans ho); have HN5 := am ho; clear hr ho) | (go_at_call 104; (with_reducible refine (peek_ok R s q3 c HC.out _ ?rd6b).mono ?_); (case rd6b => exact HR5.out); rintro e w6 ⟨rfl, hb⟩; have HR6 := am (HR5.out.drawn hb); have HO6 := am (HO5.out.drawn hb); have HN6 := am (HN5.out.drawn hb); have c6 := HR6.out.c1; have f6 := HR6.out.f1; clear hb))
         go_end0
         exact SevEnds.ok HX.out ⟨HR6.out.set _, HO6.out.set _ _, HI.out _ _ _ _ _ (by omega) HI4.out (HN6.out.set _ _)⟩
       ·have HX := am h2
        have een := (beq_u8' c en).trans (decide_eq_false hcn)
        have ene := (bne_u8' c en).trans (congrArg (!·) (decide_eq_false hcn))
        have e44 : ((c.toNat : Int) != 44) = false := by rw [h44]; decide
        clear h2 hcn h44
        go_wp2_with (first | (go_at_call 142; (with_reducible refine (SevEnds.val_of (HC1.out b q _ _ hq HE.out HW.out) rfl).mono ?_); rintro e w4 ⟨rfl, hv⟩; have HR4 := am hv.rd; have HO4 := am hv.on; have HI4 := am hv.i; clear hv) | (go_at_call 55; (with_reducible refine (blanks_calls R s q2 (by omega) hq2 _ ?rd5c).mono ?_); (case rd5c => exact HR4.out); rintro e w5 ⟨rfl, hr, ho⟩; rw [HG3.out] at hr; have HR5 := am hr; have HO5 := am (HO4.out.trans ho); have HN5 := am ho; clear hr ho) | (go_at_call 104; (with_reducible refine (peek_ok R s q3 c HC.out _ ?rd6c).mono ?_); (case rd6c => exact HR5.out); rintro e w6 ⟨rfl, hb⟩; have HR6 := am (HR5.out.drawn hb); have HO6 := am (HO5.out.drawn hb); have HN6 := am (HN5.out.drawn hb); have c6 := HR6.out.c1; have f6 := HR6.out.f1; clear hb) | (go_at_call 55; (with_reducible refine (blanks_calls R s (q3 + 1) (by omega) (by omega) _ ?rd7).mono ?_); (case rd7 => exact HR6.out.set _); rintro e w7 ⟨rfl, hr, ho⟩; rw [HG4.out] at hr; have HR7 := am hr; have HO7 := am ((HO6.out.set _ _).trans ho); have HN7 := am ((HN6.out.set _ _).trans ho); clear hr ho))
        go_roundg g
        case measure => omega
        case rel => exact ⟨a', q4, hq4, HX, ⟨HR7.out, HO7.out, HI.out _ _ _ _ _ (by omega) HI4.out HN7.out⟩⟩
       ·have HX := am h2
        have een := (beq_u8' c en).trans (decide_eq_false hcn)
        have ene := (bne_u8' c en).trans (congrArg (!·) (decide_eq_false hcn))
        have e44 : ((c.toNat : Int) != 44) = true := (bne_u8' c 44).trans (congrArg (!·) (decide_eq_false h44))
        clear h2 hcn h44
        go_wp2_with (first | (go_at_call 142; (with_reducible refine (SevEnds.val_of (HC1.out b q _ _ hq HE.out HW.out) rfl).mono ?_); rintro e w4 ⟨rfl, hv⟩; have HR4 := am hv.rd; have HO4 := am hv.on; have HI4 := am hv.i; clear hv) | (go_at_call 55; (with_reducible refine (blanks_calls R s q2 (by omega) hq2 _ ?rd5d).mono ?_); (case rd5d => exact HR4.out); rintro e w5 ⟨rfl, hr, ho⟩; rw [HG3.out] at hr; have HR5 := am hr; have HO5 := am (HO4.out.trans ho); have HN5 := am ho; clear hr ho) | (go_at_call 104; (with_reducible refine (peek_ok R s q3 c HC.out _ ?rd6d).mono ?_); (case rd6d => exact HR5.out); rintro e w6 ⟨rfl, hb⟩; have HR6 := am (HR5.out.drawn hb); have HO6 := am (HO5.out.drawn hb); have HN6 := am (HN5.out.drawn hb); have c6 := HR6.out.c1; have f6 := HR6.out.f1; clear hb) | (go_at_call 57; (with_reducible refine (fail_calls _ _ _ _).mono ?_); rintro e w9 ⟨rfl, hb⟩; have HB9 := am hb; clear hb))
        exact ⟨rfl, SevEnds.no HX.out (HO6.out.drawn HB9.out)⟩
set_option maxRecDepth 1000000 in
set_option maxHeartbeats 4000000 in
theorem sevObj_calls {α : Type} (R : Nat) (s : ByteArray) (en : UInt8) (one : α → Nat → Option (Out α)) (I : α → Nat → World → Prop) (W0 : World) (x0 x1 x2 x3 : Value)
  (hl : s.size ≤ 10000000000) (hI : ∀ a q q' W W', q ≤ q' → I a q W → On R W W' → I a q' W') (hle : ∀ a q a' q', q ≤ s.size → one a q = some (.val a' q') → q' ≤ s.size)
  (hone : ∀ a q o W, q ≤ s.size → one a q = some o → Inv R s W0 I a q W → Calls Tryz.prog 143 #[x0, x1, x2, x3] W (SevEnds R s W0 I o))
  (k : Nat) (a : α) (p : Nat) (o : Out α) (hp : p < s.size) (W : World) (h : Inv R s W0 I a p W) (hF : sevF one s.data.toList en k a p = some o) :
  Calls Tryz.prog 141 #[ptr R, .int .u8 en.toNat, .func (.func 143) #[] #[x0, x1, x2, x3]] W (SevEnds R s W0 I o) := by
 have HR1 := am (show RdB R s ((p + 1 : Nat) : Int) (W.setCell ⟨R, 1, none⟩ (.int .i64 ((p : Int) + 1))) from h.rd.set _)
 have HN1 := am (show On R W (W.setCell ⟨R, 1, none⟩ (.int .i64 ((p : Int) + 1))) from (On.refl R W).set 1 _)
 have HI := am hI
 have HL := am hle
 have HC1 := am hone
 have HV := am h
 have HF := am hF
 have c0 := h.rd.c1
 have f0 := h.rd.f1
 have hq1 := blanks_le s.data.toList (p + 1) (by rw [size_data]; omega)
 rw [size_data] at hq1
 have hge1 := blanks_ge s.data.toList (p + 1)
 clear hI hle hone h hF
 cases hc : s.data.toList[blanksF s.data.toList (p + 1)]? with
 | none =>
  have hps : s.size ≤ blanksF s.data.toList (p + 1) := by rw [List.getElem?_eq_none_iff, size_data] at hc; exact hc
  have HX := am (show o = .err 3 s.size by have := HF.out; simp only [sevF, hc] at this; injection this with this; rw [← this, size_data])
  clear hc
  generalize hgen : blanksF s.data.toList (p + 1) = q1 at *
  have GEN := am hgen
  clear hgen
  go_enter Tryz.func141, Tryz.ntmps141
  go_wp2_with (first | (go_at_call 55; (with_reducible refine (blanks_calls R s (p + 1) (by omega) (by omega) _ ?rd1).mono ?_); (case rd1 => exact HR1.out); rintro e w1 ⟨rfl, hr, ho⟩; (try rw [GEN.out] at hr); have HR2 := am hr; have HO2 := am (HV.out.on.trans (HN1.out.trans ho)); have HN2 := am (HN1.out.trans ho); clear hr ho) | (go_at_call 104; (with_reducible refine (peek_short R s q1 hps _ ?rd2).mono ?_); (case rd2 => exact HR2.out); rintro e w2 ⟨rfl, hb⟩; have HB := am hb; clear hb))
  exact ⟨rfl, SevEnds.no HX.out (HO2.out.drawn HB.out)⟩
 | some c =>
  have HC := am hc
  by_cases hcn : c = en
  ·have HX := am (show o = .val a (blanksF s.data.toList (p + 1) + 1) by have := HF.out; simp only [sevF, hc, if_pos hcn] at this; injection this with this; exact this.symm)
   have een := (beq_u8' c en).trans (decide_eq_true hcn)
   have hlt := at_lt' hc
   clear hc hcn
   generalize hgen : blanksF s.data.toList (p + 1) = q1 at *
   have GEN := am hgen
   clear hgen
   go_enter Tryz.func141, Tryz.ntmps141
   go_wp2_with (first | (go_at_call 55; (with_reducible refine (blanks_calls R s (p + 1) (by omega) (by omega) _ ?rd1).mono ?_); (case rd1 => exact HR1.out); rintro e w1 ⟨rfl, hr, ho⟩; (try rw [GEN.out] at hr); have HR2 := am hr; have HO2 := am (HV.out.on.trans (HN1.out.trans ho)); have HN2 := am (HN1.out.trans ho); clear hr ho) | (go_at_call 104; (with_reducible refine (peek_ok R s q1 c HC.out _ ?rd2).mono ?_); (case rd2 => exact HR2.out); rintro e w2 ⟨rfl, hb⟩; have HR3 := am (HR2.out.drawn hb); have HO3 := am (HO2.out.drawn hb); have HN3 := am (HN2.out.drawn hb); have c3 := HR3.out.c1; have f3 := HR3.out.f1; clear hb))
   go_end0
   exact SevEnds.ok HX.out ⟨HR3.out.set _, HO3.out.set _ _, HI.out _ _ _ _ _ (by omega) HV.out.i (HN3.out.set _ _)⟩
  ·have HX := am (show sevL one s.data.toList en k a (blanksF s.data.toList (p + 1)) = some o by have := HF.out; simp only [sevF, hc, if_neg hcn] at this; exact this)
   have een := (beq_u8' c en).trans (decide_eq_false hcn)
   have hlt := at_lt' hc
   clear hc hcn HF
   generalize hgen : blanksF s.data.toList (p + 1) = q1 at *
   have GEN := am hgen
   clear hgen
   go_enter Tryz.func141, Tryz.ntmps141
   go_wp2_with (first | (go_at_call 55; (with_reducible refine (blanks_calls R s (p + 1) (by omega) (by omega) _ ?rd1).mono ?_); (case rd1 => exact HR1.out); rintro e w1 ⟨rfl, hr, ho⟩; (try rw [GEN.out] at hr); have HR2 := am hr; have HO2 := am (HV.out.on.trans (HN1.out.trans ho)); have HN2 := am (HN1.out.trans ho); clear hr ho) | (go_at_call 104; (with_reducible refine (peek_ok R s q1 c HC.out _ ?rd2).mono ?_); (case rd2 => exact HR2.out); rintro e w2 ⟨rfl, hb⟩; have HR3 := am (HR2.out.drawn hb); have HO3 := am (HO2.out.drawn hb); have HN3 := am (HN2.out.drawn hb); clear hb))
   go_loopg [] k (fun g wr => ∃ (b : α) (q : Nat), q ≤ s.size ∧ Aside0 (sevL one s.data.toList en g b q = some o) ∧ Aside0 (Inv R s W0 I b q wr))
   case atStart => exact ⟨a, q1, hq1, HX, ⟨HR3.out, HO3.out, HI.out _ _ _ _ _ (by omega) HV.out.i HN3.out⟩⟩
   case round =>
    obtain ⟨b, q, hq, HF, HW⟩ := hrel
    clear HR1 HN1 HV HC een HX HR2 HO2 HN2 HR3 HO3 HN3 c0 f0 hlt hq1 hp hge1
    cases gk with
    | zero => exact absurd HF.out (by simp [sevL])
    | succ g =>
     rcases sevL_item _ _ _ _ _ _ _ HF.out with ⟨e, p1, h1, h2⟩ | ⟨a', q2, h1, h2⟩
     ·have HE := am h1
      have HX := am h2
      clear h1 h2
      go_wp2_with (go_at_call 143; (with_reducible refine (SevEnds.err_of (HC1.out b q _ _ hq HE.out HW.out) rfl).mono ?_); rintro e w3 ⟨rfl, ho⟩; have HO4 := am ho; clear ho)
      exact ⟨rfl, SevEnds.no HX.out HO4.out⟩
     ·have HE := am h1
      have hq2 := HL.out _ _ _ _ hq h1
      have hq3 := blanks_le s.data.toList q2 (by rw [size_data]; omega)
      rw [size_data] at hq3
      have hge3 := blanks_ge s.data.toList q2
      clear h1
      rcases h2 with ⟨hc, h2⟩ | ⟨c, hc, h2⟩
      ·have hps : s.size ≤ blanksF s.data.toList q2 := by rw [List.getElem?_eq_none_iff, size_data] at hc; exact hc
       have HX := am (h2.trans (by rw [size_data]))
       clear hc h2
       generalize hg3 : blanksF s.data.toList q2 = q3 at *
       have HG3 := am hg3
       clear hg3
       go_wp2_with (first | (go_at_call 143; (with_reducible refine (SevEnds.val_of (HC1.out b q _ _ hq HE.out HW.out) rfl).mono ?_); rintro e w4 ⟨rfl, hv⟩; have HR4 := am hv.rd; have HO4 := am hv.on; have HI4 := am hv.i; clear hv) | (go_at_call 55; (with_reducible refine (blanks_calls R s q2 (by omega) hq2 _ ?rd5).mono ?_); (case rd5 => exact HR4.out); rintro e w5 ⟨rfl, hr, ho⟩; rw [HG3.out] at hr; have HR5 := am hr; have HO5 := am (HO4.out.trans ho); have HN5 := am ho; clear hr ho) | (go_at_call 104; (with_reducible refine (peek_short R s q3 hps _ ?rd6).mono ?_); (case rd6 => exact HR5.out); rintro e w6 ⟨rfl, hb⟩; have HB := am hb; clear hb))
       exact ⟨rfl, SevEnds.no HX.out (HO5.out.drawn HB.out)⟩
      ·have HC := am hc
       have hlt := at_lt' hc
       clear hc
       have hq4 := blanks_le s.data.toList (blanksF s.data.toList q2 + 1) (by rw [size_data]; omega)
       rw [size_data] at hq4
       have hge4 := blanks_ge s.data.toList (blanksF s.data.toList q2 + 1)
       generalize hg4 : blanksF s.data.toList (blanksF s.data.toList q2 + 1) = q4 at *
       generalize hg3 : blanksF s.data.toList q2 = q3 at *
       have HG3 := am hg3
       have HG4 := am hg4
       clear hg3 hg4
       rcases h2 with ⟨hcn, h2⟩ | ⟨hcn, h44, h2⟩ | ⟨hcn, h44, h2⟩
       ·have HX := am h2
        have een := (beq_u8' c en).trans (decide_eq_true hcn)
        have ene := (bne_u8' c en).trans (congrArg (!·) (decide_eq_true hcn))
        have e44 : ((c.toNat : Int) != 44) = false ∨ ((c.toNat : Int) != 44) = true := by cases ((c.toNat : Int) != 44); exact .inl rfl; exact .inr rfl
        clear h2 hcn
        rcases e44 with e44 | e44
        ·skip
         go_wp2_with (first | (go_at_call 143; (with_reducible refine (SevEnds.val_of (HC1.out b q _ _ hq HE.out HW.out) rfl).mono ?_); rintro e w4 ⟨rfl, hv⟩; have HR4 := am hv.rd; have HO4 := am hv.on; have HI4 := am hv.i; clear hv) | (go_at_call 55; (with_reducible refine (blanks_calls R s q2 (by omega) hq2 _ ?rd5).mono ?_); (case rd5 => exact HR4.out); rintro e w5 ⟨rfl, hr, ho⟩; rw [HG3.out] at hr; have HR5 := am hr; have HO5 := am (HO4.out.trans ho); have HN5 := am ho; clear hr ho) | (go_at_call 104; (with_reducible refine (peek_ok R s q3 c HC.out _ ?rd6).mono ?_); (case rd6 => exact HR5.out); rintro e w6 ⟨rfl, hb⟩; have HR6 := am (HR5.out.drawn hb); have HO6 := am (HO5.out.drawn hb); have HN6 := am (HN5.out.drawn hb); have c6 := HR6.out.c1; have f6 := HR6.out.f1; clear hb))
         go_end0
         exact SevEnds.ok HX.out ⟨HR6.out.set _, HO6.out.set _ _, HI.out _ _ _ _ _ (by omega) HI4.out (HN6.out.set _ _)⟩
        ·skip
         go_wp2_with (first | (go_at_call 143; (with_reducible refine (SevEnds.val_of (HC1.out b q _ _ hq HE.out HW.out) rfl).mono ?_); rintro e w4 ⟨rfl, hv⟩; have HR4 := am hv.rd; have HO4 := am hv.on; have HI4 := am hv.i; clear hv) | (go_at_call 55; (with_reducible refine (blanks_calls R s q2 (by omega) hq2 _ ?rd5b).mono ?_); (case rd5b => exact HR4.out); rintro e w5 ⟨rfl, hr, ho⟩; rw [HG3.out] at hr; have HR5 := am hr; have HO5 := am (HO4.out.trans ho); have HN5 := am ho; clear hr ho) | (go_at_call 104; (with_reducible refine (peek_ok R s q3 c HC.out _ ?rd6b).mono ?_); (case rd6b => exact HR5.out); rintro e w6 ⟨rfl, hb⟩; have HR6 := am (HR5.out.drawn hb); have HO6 := am (HO5.out.drawn hb); have HN6 := am (HN5.out.drawn hb); have c6 := HR6.out.c1; have f6 := HR6.out.f1; clear hb))
         go_end0
         exact SevEnds.ok HX.out ⟨HR6.out.set _, HO6.out.set _ _, HI.out _ _ _ _ _ (by omega) HI4.out (HN6.out.set _ _)⟩
       ·have HX := am h2
        have een := (beq_u8' c en).trans (decide_eq_false hcn)
        have ene := (bne_u8' c en).trans (congrArg (!·) (decide_eq_false hcn))
        have e44 : ((c.toNat : Int) != 44) = false := by rw [h44]; decide
        clear h2 hcn h44
        go_wp2_with (first | (go_at_call 143; (with_reducible refine (SevEnds.val_of (HC1.out b q _ _ hq HE.out HW.out) rfl).mono ?_); rintro e w4 ⟨rfl, hv⟩; have HR4 := am hv.rd; have HO4 := am hv.on; have HI4 := am hv.i; clear hv) | (go_at_call 55; (with_reducible refine (blanks_calls R s q2 (by omega) hq2 _ ?rd5c).mono ?_); (case rd5c => exact HR4.out); rintro e w5 ⟨rfl, hr, ho⟩; rw [HG3.out] at hr; have HR5 := am hr; have HO5 := am (HO4.out.trans ho); have HN5 := am ho; clear hr ho) | (go_at_call 104; (with_reducible refine (peek_ok R s q3 c HC.out _ ?rd6c).mono ?_); (case rd6c => exact HR5.out); rintro e w6 ⟨rfl, hb⟩; have HR6 := am (HR5.out.drawn hb); have HO6 := am (HO5.out.drawn hb); have HN6 := am (HN5.out.drawn hb); have c6 := HR6.out.c1; have f6 := HR6.out.f1; clear hb) | (go_at_call 55; (with_reducible refine (blanks_calls R s (q3 + 1) (by omega) (by omega) _ ?rd7).mono ?_); (case rd7 => exact HR6.out.set _); rintro e w7 ⟨rfl, hr, ho⟩; rw [HG4.out] at hr; have HR7 := am hr; have HO7 := am ((HO6.out.set _ _).trans ho); have HN7 := am ((HN6.out.set _ _).trans ho); clear hr ho))
        go_roundg g
        case measure => omega
        case rel => exact ⟨a', q4, hq4, HX, ⟨HR7.out, HO7.out, HI.out _ _ _ _ _ (by omega) HI4.out HN7.out⟩⟩
       ·have HX := am h2
        have een := (beq_u8' c en).trans (decide_eq_false hcn)
        have ene := (bne_u8' c en).trans (congrArg (!·) (decide_eq_false hcn))
        have e44 : ((c.toNat : Int) != 44) = true := (bne_u8' c 44).trans (congrArg (!·) (decide_eq_false h44))
        clear h2 hcn h44
        go_wp2_with (first | (go_at_call 143; (with_reducible refine (SevEnds.val_of (HC1.out b q _ _ hq HE.out HW.out) rfl).mono ?_); rintro e w4 ⟨rfl, hv⟩; have HR4 := am hv.rd; have HO4 := am hv.on; have HI4 := am hv.i; clear hv) | (go_at_call 55; (with_reducible refine (blanks_calls R s q2 (by omega) hq2 _ ?rd5d).mono ?_); (case rd5d => exact HR4.out); rintro e w5 ⟨rfl, hr, ho⟩; rw [HG3.out] at hr; have HR5 := am hr; have HO5 := am (HO4.out.trans ho); have HN5 := am ho; clear hr ho) | (go_at_call 104; (with_reducible refine (peek_ok R s q3 c HC.out _ ?rd6d).mono ?_); (case rd6d => exact HR5.out); rintro e w6 ⟨rfl, hb⟩; have HR6 := am (HR5.out.drawn hb); have HO6 := am (HO5.out.drawn hb); have HN6 := am (HN5.out.drawn hb); have c6 := HR6.out.c1; have f6 := HR6.out.f1; clear hb) | (go_at_call 57; (with_reducible refine (fail_calls _ _ _ _).mono ?_); rintro e w9 ⟨rfl, hb⟩; have HB9 := am hb; clear hb))
        exact ⟨rfl, SevEnds.no HX.out (HO6.out.drawn HB9.out)⟩
theorem litE_ge (l : List UInt8) (i : Nat) : i ≤ (litE l i).1 := by
 by_cases hq : l[i]? = some 101 ∨ l[i]? = some 69
 ·rw [litE_yes _ _ hq]
  by_cases hs : l[i + 1]? = some 43 ∨ l[i + 1]? = some 45
  ·rw [litX_yes _ _ hs]; split <;> simp only <;> omega
  ·rw [litX_no _ _ hs]; split <;> simp only <;> omega
 ·rw [litE_no _ _ hq]; exact Nat.le_refl _
theorem litD_ge (l : List UInt8) (i : Nat) : i ≤ (litD l i).1 := by
 unfold litD
 split
 ·split
  ·exact Nat.le_succ _
  ·exact Nat.le_trans (by omega) (litE_ge l _)
 ·exact litE_ge l i
theorem litF_pos (l : List UInt8) (h : (litF l).2 = true) : 1 ≤ (litF l).1 := by
 revert h
 show (if l[lit0 l]? = some 48 then litD l (lit0 l + 1) else if digsF (l.drop (lit0 l)) = 0 then (lit0 l, false) else litD l (lit0 l + digsF (l.drop (lit0 l)))).2 = true → 1 ≤ (if l[lit0 l]? = some 48 then litD l (lit0 l + 1) else if digsF (l.drop (lit0 l)) = 0 then (lit0 l, false) else litD l (lit0 l + digsF (l.drop (lit0 l)))).1
 intro h
 split at h
 ·rename_i h1
  rw [if_pos h1]
  exact Nat.le_trans (by omega) (litD_ge l _)
 ·rename_i h1
  rw [if_neg h1]
  split at h
  ·cases h
  ·rename_i h2
   rw [if_neg h2]
   exact Nat.le_trans (by omega) (litD_ge l _)
theorem numberF_val (s : List UInt8) (p q : Nat) (t : List UInt8) (hp : p ≤ s.length) (h : numberF s p = .val t q) : p < q ∧ q ≤ s.length := by
 unfold numberF at h
 have h1 := litF_le (s.drop p)
 rw [List.length_drop] at h1
 split at h
 ·rename_i h2
  have h3 := litF_pos _ h2
  injection h with _ h
  omega
 ·split at h <;> cases h
theorem wordF_val (s : List UInt8) : ∀ (w : List UInt8) (p q : Nat) (u : Unit), p ≤ s.length → wordF s w p = .val u q → q = p + w.length ∧ q ≤ s.length
 | [], p, q, u, hp, h => by
  simp only [wordF] at h
  injection h with _ h
  exact ⟨h.symm, by omega⟩
 | c :: w, p, q, u, hp, h => by
  cases hc : s[p]? with
  | none => rw [wordF_short _ _ _ _ hc] at h; cases h
  | some x =>
   have hlt := (List.getElem?_eq_some_iff.1 hc).1
   by_cases hx : x = c
   ·rw [wordF_on _ _ _ _ (by rw [hc, hx])] at h
    obtain ⟨h1, h2⟩ := wordF_val s w _ _ _ (by omega) h
    exact ⟨by rw [h1, List.length_cons]; omega, h2⟩
   ·rw [wordF_bad _ _ _ _ _ hc hx] at h; cases h
theorem textF_val (s : List UInt8) : ∀ (k : Nat) (out : List UInt8) (p q : Nat) (t : List UInt8), textF s k out p = some (.val t q) → p < q ∧ q ≤ s.length
 | 0, out, p, q, t, h => by simp [textF] at h
 | k + 1, out, p, q, t, h => by
  cases hc : s[p]? with
  | none => rw [textF_short _ _ _ _ hc] at h; injection h with h; cases h
  | some c =>
   have hlt := (List.getElem?_eq_some_iff.1 hc).1
   by_cases h34 : c = 34
   ·rw [textF_end _ _ _ _ _ hc h34] at h
    injection h with h
    injection h with _ h
    omega
   ·by_cases h32 : c.toNat < 32
    ·rw [textF_low _ _ _ _ _ hc h32] at h; injection h with h; cases h
    ·by_cases h92 : c = 92
     ·rw [textF_esc _ _ _ _ _ hc h92] at h
      cases hes : escF s p with
      | err e q1 => rw [hes] at h; injection h with h; cases h
      | val r q1 =>
       rw [hes] at h
       obtain ⟨h1, h2, _⟩ := escF_val _ _ _ _ hes
       have := textF_val s k _ _ _ _ h
       omega
     ·by_cases h128 : c.toNat < 128
      ·rw [textF_ascii _ _ _ _ _ hc h34 h32 h92 h128] at h
       have := textF_val s k _ _ _ _ h
       omega
      ·rw [textF_rune _ _ _ _ _ hc h128] at h
       split at h
       ·split at h <;> (injection h with h; cases h)
       ·have := textF_val s k _ _ _ _ h
        omega
theorem sevL_val {α : Type} (one : α → Nat → Option (Out α)) (s : List UInt8) (en : UInt8) (hone : ∀ a q a' q', q ≤ s.length → one a q = some (.val a' q') → q < q' ∧ q' ≤ s.length) :
  ∀ (k : Nat) (a a' : α) (q q' : Nat), q ≤ s.length → sevL one s en k a q = some (.val a' q') → q < q' ∧ q' ≤ s.length
 | 0, a, a', q, q', hq, h => by simp [sevL] at h
 | k + 1, a, a', q, q', hq, h => by
  rcases sevL_item _ _ _ _ _ _ _ h with ⟨e, p, _, h2⟩ | ⟨b, q1, h1, h2⟩
  ·cases h2
  ·obtain ⟨h3, h4⟩ := hone _ _ _ _ hq h1
   have h5 := blanks_ge s q1
   rcases h2 with ⟨_, h2⟩ | ⟨c, hc, h2⟩
   ·cases h2
   ·have hlt := (List.getElem?_eq_some_iff.1 hc).1
    rcases h2 with ⟨_, h2⟩ | ⟨_, _, h2⟩ | ⟨_, _, h2⟩
    ·injection h2 with _ h2
     omega
    ·have h6 := blanks_ge s (blanksF s q1 + 1)
     have h7 := blanks_le s (blanksF s q1 + 1) (by omega)
     have := sevL_val one s en hone k _ _ _ _ h7 h2
     omega
    ·cases h2
theorem sevF_val {α : Type} (one : α → Nat → Option (Out α)) (s : List UInt8) (en : UInt8) (hone : ∀ a q a' q', q ≤ s.length → one a q = some (.val a' q') → q < q' ∧ q' ≤ s.length) (k : Nat) (a a' : α) (p q' : Nat) (hp : p < s.length)
  (h : sevF one s en k a p = some (.val a' q')) : p < q' ∧ q' ≤ s.length := by
 unfold sevF at h
 have h6 := blanks_ge s (p + 1)
 have h7 := blanks_le s (p + 1) (by omega)
 cases hc : s[blanksF s (p + 1)]? with
 | none => rw [hc] at h; injection h with h; cases h
 | some c =>
  have hlt := (List.getElem?_eq_some_iff.1 hc).1
  rw [hc] at h
  simp only at h
  split at h
  ·injection h with h
   injection h with _ h
   omega
  ·have := sevL_val one s en hone k _ _ _ _ h7 h
   omega
theorem map_val {α β : Type} (f : α → β) (o : Out α) (b : β) (q : Nat) (h : o.map f = .val b q) : ∃ a, o = .val a q ∧ b = f a := by
 cases o with
 | val a p => injection h with h1 h2; exact ⟨a, by rw [h2], h1.symm⟩
 | err e p => cases h
theorem omap_val {α β : Type} (f : α → β) (o : Option (Out α)) (b : β) (q : Nat) (h : o.map (Out.map f) = some (.val b q)) : ∃ a, o = some (.val a q) ∧ b = f a := by
 cases o with
 | none => cases h
 | some o =>
  injection h with h
  obtain ⟨a, h1, h2⟩ := map_val f o b q h
  exact ⟨a, by rw [h1], h2⟩
theorem omap_some {α β : Type} (f : α → β) (o : Option (Out α)) (o' : Out β) (h : o.map (Out.map f) = some o') : ∃ o1, o = some o1 ∧ o' = o1.map f := by
 cases o with
 | none => cases h
 | some o => injection h with h; exact ⟨o, rfl, h.symm⟩
theorem oneI_val (s : List UInt8) (v : Nat → Option (Out J)) (hv : ∀ q j q', q ≤ s.length → v q = some (.val j q') → q < q' ∧ q' ≤ s.length) (a : List J) (q : Nat) (a' : List J) (q' : Nat) (hq : q ≤ s.length) (h : oneI v a q = some (.val a' q')) : q < q' ∧ q' ≤ s.length := by
 obtain ⟨j, h1, _⟩ := omap_val _ _ _ _ h
 exact hv _ _ _ hq h1
theorem oneM_val (s : List UInt8) (k : Nat) (v : Nat → Option (Out J)) (hv : ∀ q j q', q ≤ s.length → v q = some (.val j q') → q < q' ∧ q' ≤ s.length) (a : List ByteArray × List J) (q : Nat) (a' : List ByteArray × List J) (q' : Nat) (hq : q ≤ s.length) (h : oneM v s k a q = some (.val a' q')) : q < q' ∧ q' ≤ s.length := by
 unfold oneM at h
 split at h
 ·injection h with h; cases h
 ·split at h
  ·split at h
   ·cases h
   ·injection h with h; cases h
   ·rename_i nm q1 ht
    have h1 := textF_val _ _ _ _ _ _ ht
    split at h
    ·injection h with h; cases h
    ·split at h
     ·injection h with h; cases h
     ·rename_i c hc
      have hlt := (List.getElem?_eq_some_iff.1 hc).1
      split at h
      ·obtain ⟨j, h2, _⟩ := omap_val _ _ _ _ h
       have h3 := blanks_ge s q1
       have h4 := blanks_ge s (blanksF s q1 + 1)
       have h5 := blanks_le s (blanksF s q1 + 1) (by omega)
       have := hv _ _ _ h5 h2
       omega
      ·injection h with h; cases h
  ·injection h with h; cases h
theorem valueF_val (s : List UInt8) (k : Nat) : ∀ (r p q : Nat) (j : J), p ≤ s.length → valueF s k r p = some (.val j q) → p < q ∧ q ≤ s.length
 | r, p, q, j, hp, h => by
  unfold valueF at h
  split at h
  ·injection h with h; cases h
  ·rename_i c hc
   have hlt := (List.getElem?_eq_some_iff.1 hc).1
   split at h
   ·injection h with h
    obtain ⟨a, h1, _⟩ := map_val _ _ _ _ h
    have := wordF_val s _ _ _ _ hp h1
    simp only [List.length_cons, List.length_nil] at this
    omega
   ·split at h
    ·injection h with h
     obtain ⟨a, h1, _⟩ := map_val _ _ _ _ h
     have := wordF_val s _ _ _ _ hp h1
     simp only [List.length_cons, List.length_nil] at this
     omega
    ·split at h
     ·injection h with h
      obtain ⟨a, h1, _⟩ := map_val _ _ _ _ h
      have := wordF_val s _ _ _ _ hp h1
      simp only [List.length_cons, List.length_nil] at this
      omega
     ·split at h
      ·injection h with h
       obtain ⟨a, h1, _⟩ := map_val _ _ _ _ h
       exact numberF_val s _ _ _ hp h1
      ·split at h
       ·obtain ⟨a, h1, _⟩ := omap_val _ _ _ _ h
        have := textF_val s _ _ _ _ _ h1
        omega
       ·split at h
        ·cases r with
         | zero => injection h with h; cases h
         | succ r =>
          simp only at h
          split at h
          ·obtain ⟨a, h1, _⟩ := omap_val _ _ _ _ h
           exact sevF_val _ s _ (fun a q a' q' hq => oneI_val s _ (fun q j q' hq => valueF_val s k r q q' j hq) a q a' q' hq) k _ _ _ _ hlt h1
          ·obtain ⟨a, h1, _⟩ := omap_val _ _ _ _ h
           exact sevF_val _ s _ (fun a q a' q' hq => oneM_val s k _ (fun q j q' hq => valueF_val s k r q q' j hq) a q a' q' hq) k _ _ _ _ hlt h1
        ·injection h with h; cases h
end Go.Proofs.YtpdelcbkcebkpaaGreatDoor.X
namespace Go.Proofs.YtpdelcbkcebkpaaGreatDoor.X
open Go.RowKit Go.Lib Go.Proofs.YtpdelcbkcebkpaaGreatDoorW.PrintWords Go.Proofs.YtpdelcbkcebkpaaGreatDoorW.PrintLast Go.Proofs.YtpdelcbkcebkpaaGreatDoorW.PrintMore
theorem On.new {R : Nat} {W0 W : World} (h : On R W0 W) (b k : Nat) (u : Value) (hb : W0.heap.size ≤ b) (hR : R ≤ W0.heap.size) : On R W0 (W.setCell ⟨b, k, none⟩ u) :=
 ⟨h.below.setCell (Nat.le_trans hR hb) _, fun c _ hl => (Below.heap_setCell _ _ _ _ (by show c ≠ b; omega)).trans (h.kept c ‹_› hl), by rw [World.size_setCell]; exact h.size⟩
theorem On.grownRow {R : Nat} {W0 W1 W2 : World} {row : Option Nat} (h : On R W0 W1) (hg : W1.grownBy W2 row) (hrow : ∀ g, row = some g → W0.heap.size ≤ g) (hR : R ≤ W0.heap.size) : On R W0 W2 := by
 refine ⟨?_, ?_, Nat.le_trans h.size hg.size⟩
 ·obtain ⟨a, b, c, d, e⟩ := h.below
  exact ⟨hg.os.trans a, hg.tape.trans b, hg.output.trans c, Nat.le_trans d hg.size, fun k hk => (hg.block k (by omega) (fun hh => by have := hrow k hh.symm; omega)).trans (e k hk)⟩
 ·intro b hb hl
  exact (hg.block b (Nat.lt_of_lt_of_le hl h.size) (fun hh => by have := hrow b hh.symm; omega)).trans (h.kept b hb hl)
theorem On.alloc {R : Nat} {W0 W : World} (h : On R W0 W) (hR : R ≤ W0.heap.size) (o : Obj) : On R W0 (W.alloc o) :=
 h.grownRow (row := none) (World.grownBy_alloc W o _) (fun _ h => by cases h) hR
def jV (B : Nat) (j : J) (v : Value) (W : World) : Prop := ∃ v2 v3, v = .agg #[.int .i64 j.f0, .string j.f1, v2, v3] ∧ Kd.string.R 9 W B (fun _ => True) v2 j.f2 ∧ k25.R 25 W B (fun k => some k ≠ v2.ownBlock) v3 j.f3
def ValOK (R : Nat) (s : ByteArray) (k r : Nat) (d : Int) : Prop :=
 ∀ q o W, q ≤ s.size → valueF s.data.toList k r q = some o → RdB R s q W → Tabs W → Calls Tryz.prog 56 #[ptr R, .int .i64 d] W (Ends R s W o (jV W.heap.size))
structure LSt (R B V PR PD : Nat) (d : Int) (l : List J) (sv : Value) (W : World) : Prop where
 v : W.heap[V]? = some (.cells #[.int .i64 5, .string ⟨#[]⟩, .slice none 0 0, sv] 25 (0, 0))
 r : W.heap[PR]? = some (.cells #[ptr R] 105 (0, 0))
 dd : W.heap[PD]? = some (.cells #[.int .i64 d] 3 (0, 0))
 items : k25.R 25 W B (fun k => k ≠ V) sv l
def LI (R B V PR PD : Nat) (d : Int) (l : List J) (q : Nat) (W : World) : Prop := l.length ≤ q ∧ ∃ sv, LSt R B V PR PD d l sv W
theorem blk_on {R : Nat} {W W' : World} {b : Nat} {o : Obj} (h : W.heap[b]? = some o) (hb : b ≠ R) (hO : On R W W') : W'.heap[b]? = some o :=
 (hO.kept b hb (lt_of_block h)).trans h
theorem R_on {α : Type} {dd : Kd α} {e R B : Nat} {W W' : World} {ok : Nat → Prop} {v : Value} {l : List α} (h : dd.R e W B ok v l) (hR : R < B) (hO : On R W W') : dd.R e W' B ok v l :=
 Kd.R_mono (Kd.R_step (Kd.R_bound h) (fun k hk hlt => hO.kept k (by have := hk.2.1; omega) hlt)) (fun _ hk => hk.1)
theorem LSt.on {R B V PR PD : Nat} {d : Int} {l : List J} {sv : Value} {W W' : World} (h : LSt R B V PR PD d l sv W) (hR : R < B) (hV : B ≤ V) (hPR : PR ≠ R) (hPD : PD ≠ R) (hO : On R W W') : LSt R B V PR PD d l sv W' :=
 ⟨blk_on h.v (by omega) hO, blk_on h.r hPR hO, blk_on h.dd hPD hO, R_on h.items hR hO⟩
theorem LI.on {R B V PR PD : Nat} {d : Int} {l : List J} {q q' : Nat} {W W' : World} (hq : q ≤ q') (h : LI R B V PR PD d l q W) (hR : R < B) (hV : B ≤ V) (hPR : PR ≠ R) (hPD : PD ≠ R) (hO : On R W W') : LI R B V PR PD d l q' W' := by
 obtain ⟨h1, sv, h2⟩ := h
 exact ⟨by omega, sv, h2.on hR hV hPR hPD hO⟩
theorem callP_ {P : Program} {ops : Array Oper} {Q : Exit → Act → World → Prop} {oi : Oper} {N : Option Tmp} {a : Act} {w : World} {K : Act → World → Prop} {f : FuncId} {fn : Func} {ag : Array Operand} {ts : Array TypeId} (hf : P.funcs[f]? = some fn) (hname : (fn.name == "runtime.NumGoroutine") = false) (hb : fn.body.isSome = true) (args : Array Value)
  (hw : Region.wanted oi (yielded ops a.tmps) = true) (hN : oi.dst = N) (hop : oi.op = .call { callee := .value (.func f), args := ag, argTypes := ts }) (hargs : ag.map a.eval = args)
  (h : Calls P f args w fun e w' => (∃ v, e = .returned v ∧ K (a.put N v) w') ∨ (∃ c, e = .panicked c ∧ Q (.panic c) a w')) : if Region.wanted oi (yielded ops a.tmps) = true then Oper.wp P oi a w K Q else K (a.put N undef) w := by
 have he := enters_ hf hname hb args w
 have hrun : (execOp a.eval oi).run P w = .ok (.enter f args) w := by
  unfold execOp
  simp [hop, resolve, Deferred.ofValue, invoke, Act.eval, hargs, he]
 rw [if_pos hw]
 subst hN
 unfold Oper.wp
 rw [hrun, Oper.upon_enter]
 refine h.mono fun e w'' hh => ?_
 rcases hh with ⟨v, rfl, hk⟩ | ⟨c, rfl, hk⟩
 ·exact hk
 ·exact hk
theorem app0_step {P : Program} {ops : Array Oper} {o : Oper} {a : Act} {K : Act → World → Prop} {Q : Exit → Act → World → Prop} {B : Nat} {W : World} (hw : Region.wanted o (yielded ops a.tmps) = true) (s x : Operand) (t e : TypeId) (z : Value) (size bytes : Nat)
  (ho : o.op = .call { callee := .builtin .append, args := #[s, x], argTypes := #[t, t] }) (ht : P.underlying t = some (.slice e)) (hinfo : (P.info? e).map (fun i => (i.zero, i.size, i.bytes)) = some (some z, size, bytes)) (hz : z.cells.size = size) (hs0 : 0 < size) (hb0 : 0 < bytes)
  (v : Value) (n : Nat) (xs ys : List Value) (g : Nat) (hs : a.eval s = v) (hx : a.eval x = .slice (some ⟨g, 0, none⟩) 1 1) (hys : ys.length = size) (h1 : ∀ u ∈ ys, u.oneCell' = true) (hg : W.heap[g]? = some (.cells ys.toArray e (0, 0)))
  (HO : W.ownsRow B e size v n xs) (hbase : B ≤ W.heap.size) (hl : (n + 1) * bytes ≤ 140737488355328)
  (h : ∀ v1 w1, w1.ownsRow B e size v1 (n + 1) (xs ++ ys) → W.grownBy w1 v.ownBlock → (v1.ownBlock = v.ownBlock ∨ v1.ownBlock = some W.heap.size) → K (a.put o.dst v1) w1) {N : Option Tmp} :
  if Region.wanted o (yielded ops a.tmps) = true then Oper.wp P o a W K Q else K (a.put N undef) W := by
 obtain ⟨i0, hi, hzz⟩ := Option.map_eq_some_iff.1 hinfo
 simp only [Prod.mk.injEq] at hzz
 obtain ⟨hz0, hz1, hz2⟩ := hzz
 have hlen : n + 1 ≤ 140737488355328 := Nat.le_trans (Nat.le_mul_of_pos_right _ hb0) hl
 rw [if_pos hw]
 obtain ⟨v1, w1, hr, hown, hgr, _, hat⟩ := run_append_own_at (P := P) W B t o.type e i0 z size bytes ht hi hz0 hz1 hz2 hz hs0 v n xs HO ⟨g, 0, none⟩ 1 1 ys (by rw [hys]; simp)
  (by simpa using World.news_of_block (cs := ys.toArray) (t := e) (fr := (0, 0)) hg) h1 (by simp only [maxLen]; omega) hl hbase
 unfold Oper.wp execOp
 simp only [ho, resolve, invoke, builtin, Sem.run_bind, Sem.run_pure, Result.andThen_ok, List.map_toArray, List.map_cons, List.map_nil, hs, hx, hr]
 exact h v1 w1 hown hgr hat
theorem set4 (xs : List Value) (n : Nat) (hx : xs.length = n * 4) (z0 z1 z2 z3 c0 c1 c2 c3 : Value) : ((((xs ++ [z0, z1, z2, z3]).set (n * 4) c0).set (n * 4 + 1) c1).set (n * 4 + 2) c2).set (n * 4 + 3) c3 = xs ++ [c0, c1, c2, c3] := by
 rw [← hx]
 rw [List.set_append_right _ _ (Nat.le_refl _), List.set_append_right _ _ (by omega), List.set_append_right _ _ (by omega), List.set_append_right _ _ (by omega)]
 simp
theorem twoL_ {P : Program} {ops : Array Oper} {Q : Exit → Act → World → Prop} {md : Region.Mode} {S : World → Prop} {ds : List Nat} {i j : Nat} {Ni Nj : Option Tmp} {oi oj : Oper} {fuel : Nat} {l : Array Bool} {a : Act} {w : World} (li lj : Array Bool) (hi : ops[i]? = some oi) (hj : ops[j]? = some oj) (hNi : oi.dst = Ni) (hNj : oj.dst = Nj)
  (hc : (Region.ready md ops l == [i, j] && l.setIfInBounds i true == li && l.setIfInBounds j true == lj) = true) (hdi : i ∈ ds) (hdj : j ∈ ds)
  (h1 : ∀ K : Act → World → Prop, Shut (∀ a' w', wpAnyLast P md ops Q S ds fuel li a' w' → K a' w') → if Region.wanted oi (yielded ops a.tmps) = true then Oper.wp P oi a w K Q else K (a.put Ni undef) w)
  (h2 : ∀ K : Act → World → Prop, Shut (∀ a' w', wpAnyLast P md ops Q S ds fuel lj a' w' → K a' w') → if Region.wanted oj (yielded ops a.tmps) = true then Oper.wp P oj a w K Q else K (a.put Nj undef) w) :
  wpAnyLast P md ops Q S ds (fuel + 1) l a w := by
 subst hNi
 subst hNj
 simp only [Bool.and_eq_true, beq_iff_eq] at hc
 obtain ⟨⟨h3, h4⟩, h5⟩ := hc
 subst h4
 subst h5
 exact wpAnyLast_ready h3 (by simp) (AllReadyL.cons_last hi hdi (fun K hK => h1 K hK) (AllReadyL.cons_last hj hdj (fun K hK => h2 K hK) AllReadyL.nil))
theorem setCell_comm (w : World) (p q : Addr) (u v : Value) (h : p.block ≠ q.block) : (w.setCell p u).setCell q v = (w.setCell q v).setCell p u := by
 unfold World.setCell
 simp only
 congr 1
 apply Array.ext
 ·simp
 ·intro i h1 h2
  simp only [Array.getElem_modify]
  by_cases hp : p.block = i
  ·by_cases hq : q.block = i
   ·exact absurd (hp.trans hq.symm) h
   ·simp [hp, hq]
  ·by_cases hq : q.block = i
   ·simp [hp, hq]
   ·simp [hp, hq]
abbrev set4W (w : World) (g n : Nat) (c0 c1 c2 c3 : Value) : World := (((w.setCell ⟨g, n * 4, none⟩ c0).setCell ⟨g, n * 4 + 1, none⟩ c1).setCell ⟨g, n * 4 + 2, none⟩ c2).setCell ⟨g, n * 4 + 3, none⟩ c3
theorem set4W_comm (w : World) (V g n : Nat) (u c0 c1 c2 c3 : Value) (h : g ≠ V) : set4W (w.setCell ⟨V, 3, none⟩ u) g n c0 c1 c2 c3 = (set4W w g n c0 c1 c2 c3).setCell ⟨V, 3, none⟩ u := by
 unfold set4W
 rw [setCell_comm _ ⟨V, 3, none⟩ ⟨g, n * 4, none⟩ _ _ (Ne.symm h), setCell_comm _ ⟨V, 3, none⟩ ⟨g, n * 4 + 1, none⟩ _ _ (Ne.symm h), setCell_comm _ ⟨V, 3, none⟩ ⟨g, n * 4 + 2, none⟩ _ _ (Ne.symm h), setCell_comm _ ⟨V, 3, none⟩ ⟨g, n * 4 + 3, none⟩ _ _ (Ne.symm h)]
theorem set4W_heap (w : World) (g n b : Nat) (c0 c1 c2 c3 : Value) (h : b ≠ g) : (set4W w g n c0 c1 c2 c3).heap[b]? = w.heap[b]? := by
 unfold set4W
 rw [Below.heap_setCell _ _ _ _ h, Below.heap_setCell _ _ _ _ h, Below.heap_setCell _ _ _ _ h, Below.heap_setCell _ _ _ _ h]
theorem set4W_size (w : World) (g n : Nat) (c0 c1 c2 c3 : Value) : (set4W w g n c0 c1 c2 c3).heap.size = w.heap.size := by
 unfold set4W
 rw [World.size_setCell, World.size_setCell, World.size_setCell, World.size_setCell]
theorem items_fin {R B V g1 c1 : Nat} {ok : Nat → Prop} (hokV : ∀ k, ok k → k ≠ V) {l : List J} {j : J} {sv a0 a1 a2 u0 u1 u2 u3 : Value} {s : ByteArray} {q1 : Int} {W0 W w5 w6 : World} {inner : List Value} (hB : B = W0.heap.size)
  (hRB : R < W0.heap.size) (hV : W0.heap.size ≤ V) (hVW : V < W.heap.size) (hI : k25.R 25 W B ok sv l) (hokN : ∀ k, W.heap.size ≤ k → ok k) (hO5 : On R W w5)
  (hrep : Reps (k25.M w5 B (fun k => ok k ∧ some k ≠ sv.ownBlock)) 4 l inner) (hil : inner.length = l.length * 4) (h0 : ∀ k, sv.ownBlock = some k → ok k)
  (hM5 : k25.M w5 B (fun b => W.heap.size ≤ b) j [u0, u1, u2, u3])
  (hown : w6.ownsRow B 25 4 (.slice (some ⟨g1, 0, none⟩) (l.length + 1) c1) (l.length + 1) (inner ++ [.int .i64 0, .string ⟨#[]⟩, .slice none 0 0, .slice none 0 0]))
  (hg : w5.grownBy w6 sv.ownBlock) (hat : Value.ownBlock (.slice (some ⟨g1, 0, none⟩) (l.length + 1) c1) = sv.ownBlock ∨ Value.ownBlock (.slice (some ⟨g1, 0, none⟩) (l.length + 1) c1) = some w5.heap.size)
  (hV6 : w6.heap[V]? = some (.cells #[a0, a1, a2, sv] 25 (0, 0))) (hO6 : On R W0 w6) (hR6 : RdB R s q1 w6) (hV1 : g1 ≠ V) :
  let fin := (set4W w6 g1 l.length u0 u1 u2 u3).setCell ⟨V, 3, none⟩ (.slice (some ⟨g1, 0, none⟩) (l.length + 1) c1)
  fin.heap[V]? = some (.cells #[a0, a1, a2, .slice (some ⟨g1, 0, none⟩) (l.length + 1) c1] 25 (0, 0)) ∧ k25.R 25 fin B ok (.slice (some ⟨g1, 0, none⟩) (l.length + 1) c1) (l ++ [j]) ∧ On R W0 fin ∧ RdB R s q1 fin ∧ (∀ b, b ≠ V → b ≠ g1 → fin.heap[b]? = w6.heap[b]?) := by
 subst hB
 have hgB : W0.heap.size ≤ g1 := own_base hown g1 rfl
 have hgR : R ≠ g1 := by omega
 intro fin
 have hkeep : ∀ b, b ≠ V → b ≠ g1 → fin.heap[b]? = w6.heap[b]? := fun b h1 h2 => (Below.heap_setCell _ _ _ _ h1).trans (set4W_heap _ _ _ _ _ _ _ _ h2)
 refine ⟨?_, ?_, ?_, ?_, hkeep⟩
 ·have h1 := blk_set 3 (.slice (some ⟨g1, 0, none⟩) (l.length + 1) c1) ((set4W_heap w6 g1 l.length V u0 u1 u2 u3 (Ne.symm hV1)).trans hV6)
  exact h1
 ·have s0 := (hown.stored (l.length * 4) u0).1
  have s1 := (s0.stored (l.length * 4 + 1) u1).1
  have s2 := (s1.stored (l.length * 4 + 2) u2).1
  have s3 := (s2.stored (l.length * 4 + 3) u3).1
  rw [set4 inner l.length hil] at s3
  have hgr : w5.grownBy (set4W w6 g1 l.length u0 u1 u2 u3) sv.ownBlock := by
   refine ⟨hg.os, hg.tape, hg.output, by rw [set4W_size]; exact hg.size, fun k hk hne => ?_⟩
   have hkg : k ≠ g1 := by
    intro hh
    rcases hat with ha | ha
    ·exact hne (by rw [hh]; exact ha)
    ·have ha : some g1 = some w5.heap.size := ha
     injection ha with ha
     omega
   exact (set4W_heap _ _ _ _ _ _ _ _ hkg).trans (hg.block k hk hne)
  have hRR : k25.R 25 (set4W w6 g1 l.length u0 u1 u2 u3) W0.heap.size ok (.slice (some ⟨g1, 0, none⟩) (l.length + 1) c1) (l ++ [j]) := by
   refine Kd.R_appended (ok := ok) h0 hrep hM5 (fun k hk => ⟨hokN k hk, fun hh => ?_⟩) (fun k hk => hokN k ?_) s3 hgr ?_
   ·have := Kd.R_lt hI k hh.symm
    omega
   ·have := hO5.size
    omega
   ·rcases hat with ha | ha
    ·exact .inl ha
    ·exact .inr ⟨_, ha, Nat.le_refl _⟩
  exact Kd.R_far hRR hokV _
 ·have h1 : On R W0 (set4W w6 g1 l.length u0 u1 u2 u3) := ((((hO6.new g1 _ _ hgB (Nat.le_of_lt hRB)).new g1 _ _ hgB (Nat.le_of_lt hRB)).new g1 _ _ hgB (Nat.le_of_lt hRB)).new g1 _ _ hgB (Nat.le_of_lt hRB))
  exact h1.new V 3 _ hV (Nat.le_of_lt hRB)
 ·exact (hkeep R (by omega) hgR).trans hR6
end Go.Proofs.YtpdelcbkcebkpaaGreatDoor.X
