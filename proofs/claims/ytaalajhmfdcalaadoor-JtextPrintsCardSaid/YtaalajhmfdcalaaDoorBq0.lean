/- The texts of this work, put together: X0, Jp, K0, K1, K2, K3, K4, K5, K6, K7, X1, K8, U0, U1, U2, K9, K30, K31, K32, Uv, K33, K35, M6. -/
import Derived.Test.YtaalajhmfdcalaaDoorProg
import Derived.Below
import Derived.Deep.Draws
import Derived.Deep.AppendLies
import Derived.Maps.AppendAt
import Derived.OwnWalk
import Derived.Laws.BytesArg
import Derived.Laws.MakeOwn
import Derived.Laws.OwnMore
import Derived.Deep.OwnRows
import Derived.Tactics
import Derived.Lib.ConvBytes
import Derived.Laws.Slices
import Derived.WalkKit
import Derived.KernelRfl
import Derived.RowKit3
import Derived.Deep.LoopGhost
import Derived.Deep.QuietTactic
import Derived.BigQuiet
import Derived.WideLaws
import Derived.Deep.DeepCutAuto
import Derived.Deep.CutBlock
import Derived.Deep.RegionHeld3
import Derived.Laws.Rows
import Derived.Lib.AppendStr
import Derived.ArgAppend
import Derived.Laws.IdiomCopy
import Derived.OrdersHeld
import Derived.Laws.BitsLemmas
import Derived.RowKit
import Derived.Test.YtaalajhmfdcalaaDoorWp
import Derived.Shelf.Unicode.DecodeAny
import Derived.Lib.RuneBytes
import Derived.IntWalk
import Derived.Lib.Bytes2
import Derived.LoopTactic
import Derived.WalkLawsBesides
import Derived.WalkSmall
import Derived.RegionTactic
import Derived.RegionCalls
import Derived.Lib.SlBytesConst
import Derived.Shelf.Utf8.AppendRunePlain
import Derived.Laws.IdiomStrings
import Derived.Laws.Runes
import Derived.Laws.RangeAny
import Derived.Shelf.Unicode.ValidAny
import Derived.Lib.ValidLaws
set_option linter.unusedVariables false
set_option linter.unusedSimpArgs false
namespace Go.Proofs.YtaalajhmfdcalaaDoor.X
theorem am {p : Prop} (h : p) : Go.Proofs.YtaalajhmfdcalaaDoorW.PrintWords.Aside0 p := ⟨h⟩
theorem sAx {α : Type _} (l : List α) (i : Nat) (a : α) : l.toArray.setIfInBounds i a = (l.set i a).toArray := List.setIfInBounds_toArray ..
theorem sZx {α : Type _} (x : α) (l : List α) (a : α) : (x :: l).set 0 a = a :: l := rfl
theorem sSx {α : Type _} (x : α) (l : List α) (i : Nat) (a : α) : (x :: l).set (i + 1) a = x :: l.set i a := rfl
end Go.Proofs.YtaalajhmfdcalaaDoor.X
namespace Go.Proofs.YtaalajhmfdcalaaDoor.X
open Go.RowKit Go.Proofs.YtaalajhmfdcalaaDoorW.PrintWords Go.Proofs.YtaalajhmfdcalaaDoorW.PrintLast Go.Proofs.YtaalajhmfdcalaaDoorW.PrintMore
attribute [local go_sem] max2_int min2_int max_two min_two max_three min_three max_four min_four   -- for this text's walks alone
set_option linter.unusedVariables false
set_option linter.unusedSimpArgs false
def errW : Option Int → Value
 | none => .nilIface
 | some c => .iface 0 (.int .i64 c)
theorem errW_none : errW none = .nilIface := rfl
theorem errW_some (c : Int) : errW (some c) = .iface 0 (.int .i64 c) := rfl
theorem info5 : (Tryd.prog.info? 5).map (fun i => (i.zero, i.size, i.bytes)) = some (some (.int .u8 0), 1, 1) := by kernel_rfl
theorem info9 : (Tryd.prog.info? 9).map (fun i => (i.zero, i.size, i.bytes)) = some (some (.string ⟨#[]⟩), 1, 16) := by kernel_rfl
theorem info25 : (Tryd.prog.info? 25).map (fun i => (i.zero, i.size, i.bytes)) = some (some (.agg #[(.int .i64 0), (.string ⟨#[]⟩), (.slice none 0 0), (.slice none 0 0)]), 4, 72) := by kernel_rfl
structure S25 where
 f0 : Int
 f1 : ByteArray
 f2 : (List ByteArray)
 f3 : (List S25)
def z25 : S25 := ⟨(0 : Int), (⟨#[]⟩ : ByteArray), ([] : List ByteArray), ([] : List S25)⟩
def F25 (d : Kd S25) : Kd S25 := Kd.iso (Kd.pair (Kd.int .i64) (Kd.pair Kd.string (Kd.pair (Kd.slice 9 Kd.string) (Kd.slice 25 d)))) (fun x : S25 => (x.f0, x.f1, x.f2, x.f3))
theorem mono25 : Kd.Mono F25 := Kd.mono_iso _ (Kd.mono_pair (Kd.mono_const _) (Kd.mono_pair (Kd.mono_const _) (Kd.mono_pair (Kd.mono_const _) (Kd.mono_slice 25 Kd.mono_id))))
theorem sub25 : Kd.Sub F25 [9, 25] := Kd.sub_iso _ (Kd.sub_pair (Kd.sub_const _ (by decide)) (Kd.sub_pair (Kd.sub_const _ (by decide)) (Kd.sub_pair (Kd.sub_const _ (by decide)) (Kd.sub_slice 25 (by decide) Kd.sub_id))))
theorem sz25 : ∀ n, (Kd.upto F25 4 [9, 25] n).sz = 4 := Kd.upto_sz (fun _ => rfl)
def k25 : Kd S25 := Kd.fix F25 4 [9, 25] sz25 (Kd.upto_E sub25)
theorem k25_open {w : World} {x : S25} {cs : List Value} (h : k25.K w x cs) : ∃ A2 c2 A3 c3, cs = [.int .i64 x.f0, .string x.f1, .slice A2 x.f2.length c2, .slice A3 x.f3.length c3] ∧ x.f2.length ≤ c2 ∧ Kd.string.C w A2 x.f2.length x.f2 ∧ x.f3.length ≤ c3 ∧ k25.C w A3 x.f3.length x.f3 := by
 obtain ⟨n, h⟩ := h
 cases n with
 | zero => exact h.elim
 | succ n =>
  obtain ⟨_, _, rfl, rfl, ⟨_, _, rfl, rfl, ⟨_, _, rfl, ⟨A2, c2, rfl, l2, g2⟩, ⟨A3, c3, rfl, l3, g3⟩⟩⟩⟩ := h
  exact ⟨A2, c2, A3, c3, rfl, l2, g2, l3, Kd.fix_C g3⟩
theorem k25_openM {w : World} {base : Nat} {ok : Nat → Prop} {x : S25} {cs : List Value} (h : k25.M w base ok x cs) : ∃ v2 v3, cs = [.int .i64 x.f0, .string x.f1, v2, v3] ∧ Kd.string.R 9 w base ok v2 x.f2 ∧ k25.R 25 w base ok v3 x.f3 := by
 obtain ⟨n, h⟩ := h
 cases n with
 | zero => exact h.elim
 | succ n =>
  obtain ⟨_, _, rfl, rfl, ⟨_, _, rfl, rfl, ⟨_, _, rfl, ⟨v2, rfl, g2⟩, ⟨v3, rfl, g3⟩⟩⟩⟩ := h
  exact ⟨v2, v3, rfl, g2, Kd.fix_R g3⟩
theorem k25_mk (w : World) (x : S25) {A2 : Option Addr} {c2 : Nat} (l2 : x.f2.length ≤ c2) (g2 : Kd.string.C w A2 x.f2.length x.f2) {A3 : Option Addr} {c3 : Nat} (l3 : x.f3.length ≤ c3) (g3 : k25.C w A3 x.f3.length x.f3) : k25.K w x [.int .i64 x.f0, .string x.f1, .slice A2 x.f2.length c2, .slice A3 x.f3.length c3] := by
 obtain ⟨n3, q3⟩ := Kd.fix_C_back mono25 g3
 have r3 := Kd.upto_C_le mono25 sz25 (show n3 ≤ n3 by omega) q3
 exact ⟨n3 + 1, ⟨[.int .i64 x.f0], [.string x.f1, .slice A2 x.f2.length c2, .slice A3 x.f3.length c3], rfl, rfl, ⟨[.string x.f1], [.slice A2 x.f2.length c2, .slice A3 x.f3.length c3], rfl, rfl, ⟨[.slice A2 x.f2.length c2], [.slice A3 x.f3.length c3], rfl, ⟨A2, c2, rfl, l2, g2⟩, ⟨A3, c3, rfl, l3, r3⟩⟩⟩⟩⟩
theorem k25_mkM (w : World) (base : Nat) (ok : Nat → Prop) (x : S25) {v2 : Value} (g2 : Kd.string.R 9 w base ok v2 x.f2) {v3 : Value} (g3 : k25.R 25 w base ok v3 x.f3) : k25.M w base ok x [.int .i64 x.f0, .string x.f1, v2, v3] := by
 obtain ⟨n3, q3⟩ := Kd.fix_R_back mono25 g3
 have r3 := Kd.upto_R_le mono25 sz25 (show n3 ≤ n3 by omega) q3
 exact ⟨n3 + 1, ⟨[.int .i64 x.f0], [.string x.f1, v2, v3], rfl, rfl, ⟨[.string x.f1], [v2, v3], rfl, rfl, ⟨[v2], [v3], rfl, ⟨v2, rfl, g2⟩, ⟨v3, rfl, r3⟩⟩⟩⟩⟩
theorem k25_openF {W : World} {ok : Nat → Prop} {x : S25} {cs : List Value} (h : Kd.FK k25 W ok x cs) : ∃ A2 c2 A3 c3, cs = [.int .i64 x.f0, .string x.f1, .slice A2 x.f2.length c2, .slice A3 x.f3.length c3] ∧ x.f2.length ≤ c2 ∧ Kd.F Kd.string W ok A2 x.f2.length x.f2 ∧ x.f3.length ≤ c3 ∧ Kd.F k25 W ok A3 x.f3.length x.f3 := by
 obtain ⟨A2, c2, A3, c3, rfl, l2, _, l3, _⟩ := k25_open (Kd.FK_now h)
 exact ⟨A2, c2, A3, c3, rfl, l2, (fun W' hW => by obtain ⟨A2_, c2_, A3_, c3_, he, l2_, g2_, l3_, g3_⟩ := k25_open (h W' hW); injection (Option.some.inj (show some (Value.slice A2 x.f2.length c2) = some (Value.slice A2_ x.f2.length c2_) from congrArg (fun l => l[2]?) he)) with ha_ _ _; rw [ha_]; exact g2_), l3, (fun W' hW => by obtain ⟨A2_, c2_, A3_, c3_, he, l2_, g2_, l3_, g3_⟩ := k25_open (h W' hW); injection (Option.some.inj (show some (Value.slice A3 x.f3.length c3) = some (Value.slice A3_ x.f3.length c3_) from congrArg (fun l => l[3]?) he)) with ha_ _ _; rw [ha_]; exact g3_)⟩
def rd_T25 (xs : List S25) (i : Int) : S25 := xs.getD i.toNat z25
theorem at_T25 {w : World} {A : Option Addr} {n : Nat} {xs : List S25} (h : Kd.C k25 w A n xs) (i : Int) (h0 : 0 ≤ i) (h1 : i < n) : ∃ ad A2 c2 A3 c3, A = some ad ∧ w.cell? (ad.add (i.toNat * 4)) = some (.int .i64 (rd_T25 xs i).f0) ∧ w.cell? ⟨(ad.add (i.toNat * 4)).block, (ad.add (i.toNat * 4)).off + 1, none⟩ = some (.string (rd_T25 xs i).f1) ∧ w.cell? ⟨(ad.add (i.toNat * 4)).block, (ad.add (i.toNat * 4)).off + 2, none⟩ = some (.slice A2 (rd_T25 xs i).f2.length c2) ∧ w.cell? ⟨(ad.add (i.toNat * 4)).block, (ad.add (i.toNat * 4)).off + 3, none⟩ = some (.slice A3 (rd_T25 xs i).f3.length c3) ∧ (rd_T25 xs i).f2.length ≤ c2 ∧ Kd.string.C w A2 (rd_T25 xs i).f2.length (rd_T25 xs i).f2 ∧ (rd_T25 xs i).f3.length ≤ c3 ∧ k25.C w A3 (rd_T25 xs i).f3.length (rd_T25 xs i).f3 := by
 obtain ⟨ad, c, e, _, hK, hc0⟩ := Kd.C_get h z25 i h0 h1
 have hc : ∀ j u, c[j]? = some u → w.cell? (ad.add (i.toNat * 4 + j)) = some u := hc0
 obtain ⟨A2, c2, A3, c3, rfl, l2, g2, l3, g3⟩ := k25_open hK
 exact ⟨ad, A2, c2, A3, c3, e, hc 0 _ rfl, by rw [← add_field _ _ 1 (by omega)]; exact hc 1 _ rfl, by rw [← add_field _ _ 2 (by omega)]; exact hc 2 _ rfl, by rw [← add_field _ _ 3 (by omega)]; exact hc 3 _ rfl, l2, g2, l3, g3⟩
end Go.Proofs.YtaalajhmfdcalaaDoor.X
namespace Go.Proofs.YtaalajhmfdcalaaDoor.X
abbrev J := S25
inductive Out (α : Type)
 | val (a : α) (p : Nat)
 | err (e p : Nat)
def isBl (c : UInt8) : Bool := c == 32 || c == 9 || c == 10 || c == 13
def isDg (c : UInt8) : Bool := decide (48 ≤ c.toNat ∧ c.toNat ≤ 57)
def blanksF (s : List UInt8) (p : Nat) : Nat := p + ((s.drop p).takeWhile isBl).length
def wordF (s : List UInt8) : List UInt8 → Nat → Out Unit
 | [], p => .val () p
 | c :: w, p => match s[p]? with
  | none => .err 3 s.length
  | some x => if x = c then wordF s w (p + 1) else .err 40 p
def digsF (l : List UInt8) : Nat := (l.takeWhile isDg).length
def litE (l : List UInt8) (i : Nat) : Nat × Bool :=
 match l[i]? with
 | some c =>
  if c = 101 ∨ c = 69 then
   (let j := match l[i + 1]? with | some d => if d = 43 ∨ d = 45 then i + 2 else i + 1 | none => i + 1
    if digsF (l.drop j) = 0 then (j, false) else (j + digsF (l.drop j), true))
  else (i, true)
 | none => (i, true)
def litD (l : List UInt8) (i : Nat) : Nat × Bool :=
 if l[i]? = some 46 then (if digsF (l.drop (i + 1)) = 0 then (i + 1, false) else litE l (i + 1 + digsF (l.drop (i + 1)))) else litE l i
def litF (l : List UInt8) : Nat × Bool :=
 let i := if l[0]? = some 45 then 1 else 0
 if l[i]? = some 48 then litD l (i + 1) else if digsF (l.drop i) = 0 then (i, false) else litD l (i + digsF (l.drop i))
def numberF (s : List UInt8) (p : Nat) : Out (List UInt8) :=
 if (litF (s.drop p)).2 = true then .val ((s.drop p).take (litF (s.drop p)).1) (p + (litF (s.drop p)).1)
 else if s.length ≤ p + (litF (s.drop p)).1 then .err 3 s.length else .err 44 (p + (litF (s.drop p)).1)
def hexF (c : UInt8) : Option Nat :=
 if 48 ≤ c.toNat ∧ c.toNat ≤ 57 then some (c.toNat - 48) else if 97 ≤ c.toNat ∧ c.toNat ≤ 102 then some (c.toNat - 87) else if 65 ≤ c.toNat ∧ c.toNat ≤ 70 then some (c.toNat - 55) else none
def fourF (s : List UInt8) : Nat → Nat → Nat → Out Nat
 | 0, x, p => .val x p
 | k + 1, x, p => match s[p]? with
  | none => .err 3 s.length
  | some c => match hexF c with
   | none => .err 42 p
   | some h => fourF s k (x * 16 + h) (p + 1)
def escdF (c : UInt8) : Option Nat :=
 if c = 34 ∨ c = 92 ∨ c = 47 then some c.toNat else if c = 98 then some 8 else if c = 102 then some 12 else if c = 110 then some 10 else if c = 114 then some 13 else if c = 116 then some 9 else none
def mustF (s : List UInt8) (from_ : Nat) : List UInt8 → Nat → Out Unit
 | [], p => .val () p
 | c :: w, p => match s[p]? with
  | none => .err 3 s.length
  | some x => if x = c then mustF s from_ w (p + 1) else .err 43 from_
def escF (s : List UInt8) (from_ : Nat) : Out Nat :=
 match s[from_ + 1]? with
 | none => .err 3 s.length
 | some c => match escdF c with
  | some x => .val x (from_ + 2)
  | none =>
   if c = 117 then
    match fourF s 4 0 (from_ + 2) with
    | .err e p => .err e p
    | .val x p =>
     if 0xdc00 ≤ x ∧ x ≤ 0xdfff then .err 43 from_
     else if 0xd800 ≤ x ∧ x ≤ 0xdbff then
      match mustF s from_ [92, 117] p with
      | .err e p => .err e p
      | .val _ p => match fourF s 4 0 p with
       | .err e p => .err e p
       | .val y p => if y < 0xdc00 ∨ 0xdfff < y then .err 43 from_ else .val (0x10000 + (x - 0xd800) * 0x400 + (y - 0xdc00)) p
     else .val x p
   else .err 42 (from_ + 1)
def fullF (l : List UInt8) : Bool :=
 match l with
 | [] => false
 | c :: r =>
  let n := if c.toNat < 194 then 1 else if c.toNat < 224 then 2 else if c.toNat < 240 then 3 else if c.toNat < 245 then 4 else 1
  if n ≤ l.length then true
  else
   let lo := if c.toNat = 224 then 160 else if c.toNat = 240 then 144 else 128
   let hi := if c.toNat = 237 then 159 else if c.toNat = 244 then 143 else 191
   match r with
   | [] => false
   | d :: r2 => if d.toNat < lo ∨ hi < d.toNat then true else match r2 with
    | [] => false
    | e :: _ => decide (e.toNat < 128 ∨ 191 < e.toNat)
def textF (s : List UInt8) : Nat → List UInt8 → Nat → Option (Out (List UInt8))
 | 0, _, _ => none
 | k + 1, out, p => match s[p]? with
  | none => some (.err 3 s.length)
  | some c =>
   if c = 34 then some (.val out (p + 1))
   else if c.toNat < 32 then some (.err 41 p)
   else if c = 92 then
    match escF s p with
    | .err e q => some (.err e q)
    | .val r q => textF s k (out ++ Lib.encodeRune r) q
   else if c.toNat < 128 then textF s k (out ++ [c]) (p + 1)
   else if (Lib.decodeGo ⟨(s.drop p).toArray⟩).1 = 65533 ∧ (Lib.decodeGo ⟨(s.drop p).toArray⟩).2 < 2 then
    (if fullF (s.drop p) = true then some (.err 43 p) else some (.err 3 s.length))
   else textF s k (out ++ (s.drop p).take (Lib.decodeGo ⟨(s.drop p).toArray⟩).2) (p + (Lib.decodeGo ⟨(s.drop p).toArray⟩).2)
def sevL {α : Type} (one : α → Nat → Option (Out α)) (s : List UInt8) (en : UInt8) : Nat → α → Nat → Option (Out α)
 | 0, _, _ => none
 | k + 1, a, q => match one a q with
  | none => none
  | some (.err e p) => some (.err e p)
  | some (.val a' q1) => match s[blanksF s q1]? with
   | none => some (.err 3 s.length)
   | some c =>
    if c = en then some (.val a' (blanksF s q1 + 1))
    else if c = 44 then sevL one s en k a' (blanksF s (blanksF s q1 + 1))
    else some (.err 40 (blanksF s q1))
def sevF {α : Type} (one : α → Nat → Option (Out α)) (s : List UInt8) (en : UInt8) (k : Nat) (a : α) (p : Nat) : Option (Out α) :=
 match s[blanksF s (p + 1)]? with
 | none => some (.err 3 s.length)
 | some c => if c = en then some (.val a (blanksF s (p + 1) + 1)) else sevL one s en k a (blanksF s (p + 1))
def Out.map {α β : Type} (f : α → β) : Out α → Out β
 | .val a p => .val (f a) p
 | .err e p => .err e p
def bsJ (l : List UInt8) : ByteArray := ⟨l.toArray⟩
def oneI (v : Nat → Option (Out J)) (a : List J) (q : Nat) : Option (Out (List J)) := (v q).map (Out.map fun x => a ++ [x])
def oneM (v : Nat → Option (Out J)) (s : List UInt8) (k : Nat) (a : List ByteArray × List J) (q : Nat) : Option (Out (List ByteArray × List J)) :=
 match s[q]? with
 | none => some (.err 3 s.length)
 | some c =>
  if c = 34 then
   match textF s k [] (q + 1) with
   | none => none
   | some (.err e p) => some (.err e p)
   | some (.val nm q1) =>
    if nm ∈ a.1.map (fun b => b.data.toList) then some (.err 45 q)
    else match s[blanksF s q1]? with
     | none => some (.err 3 s.length)
     | some c =>
      if c = 58 then (v (blanksF s (blanksF s q1 + 1))).map (Out.map fun x => (a.1 ++ [bsJ nm], a.2 ++ [x]))
      else some (.err 40 (blanksF s q1))
  else some (.err 40 q)
def valueF (s : List UInt8) (k : Nat) : Nat → Nat → Option (Out J)
 | r, p => match s[p]? with
  | none => some (.err 3 s.length)
  | some c =>
   if c = 110 then some ((wordF s [110, 117, 108, 108] p).map fun _ => ⟨0, bsJ [], [], []⟩)
   else if c = 116 then some ((wordF s [116, 114, 117, 101] p).map fun _ => ⟨2, bsJ [], [], []⟩)
   else if c = 102 then some ((wordF s [102, 97, 108, 115, 101] p).map fun _ => ⟨1, bsJ [], [], []⟩)
   else if c = 45 ∨ isDg c = true then some ((numberF s p).map fun t => ⟨3, bsJ t, [], []⟩)
   else if c = 34 then (textF s k [] (p + 1)).map (Out.map fun t => ⟨4, bsJ t, [], []⟩)
   else if c = 91 ∨ c = 123 then
    match r with
    | 0 => some (.err 46 p)
    | r + 1 =>
     if c = 91 then (sevF (oneI (valueF s k r)) s 93 k [] p).map (Out.map fun a => ⟨5, bsJ [], [], a⟩)
     else (sevF (oneM (valueF s k r) s k) s 125 k ([], []) p).map (Out.map fun a => ⟨6, bsJ [], a.1, a.2⟩)
   else some (.err 40 p)
def parseJ (s : List UInt8) (k : Nat) : Option (Out J) :=
 if 16384 < s.length then some (.err 1 0)
 else match valueF s k 32 (blanksF s 0) with
  | none => none
  | some (.err e p) => some (.err e p)
  | some (.val v q) => if blanksF s q < s.length then some (.err 4 (blanksF s q)) else some (.val v 0)
end Go.Proofs.YtaalajhmfdcalaaDoor.X
namespace Go.Proofs.YtaalajhmfdcalaaDoor.X
open Go.RowKit Go.Proofs.YtaalajhmfdcalaaDoorW.PrintWords
def bs (l : List UInt8) : ByteArray := ⟨l.toArray⟩
theorem bs_size (l : List UInt8) : (bs l).size = l.length := by simp [bs, ByteArray.size]
theorem size_data (b : ByteArray) : b.data.toList.length = b.size := by rw [Array.length_toList]; rfl
theorem toList_data (b : ByteArray) : b.toList = b.data.toList := ByteArray.toList_eq b
theorem toList_bs (l : List UInt8) : (bs l).toList = l := by rw [toList_data]; rfl
theorem data_bs (l : List UInt8) : (bs l).data.toList = l := rfl
theorem bs_eq (a : ByteArray) : bs a.data.toList = a := by simp [bs]
theorem extract_bs (a : ByteArray) (i j : Nat) : a.extract i j = bs ((a.data.toList.drop i).take (j - i)) := by
 rw [← bs_eq (a.extract i j), Lib.extract_data]
theorem wr (n : Int) (h : -9223372036854775808 ≤ n ∧ n ≤ 9223372036854775807) : wrap64 n = n := (IntWalk.i64_left n).symm.trans (IntWalk.i64_in n h)
theorem tw_le (p : UInt8 → Bool) (l : List UInt8) : (l.takeWhile p).length ≤ l.length := (List.takeWhile_prefix p).length_le
theorem blk_free {w : World} {b : Nat} {c : Array Value} {t : TypeId} (h : w.heap[b]? = some (.cells c t (0, 0))) (k : Nat) : w.frozen? ⟨b, k, none⟩ = false := by simp [World.frozen?, h]
theorem blk_set {w : World} {b : Nat} {c : Array Value} {t : TypeId} {f : Nat × Nat} (k : Nat) (v : Value) (h : w.heap[b]? = some (.cells c t f)) : (w.setCell ⟨b, k, none⟩ v).heap[b]? = some (.cells (c.setIfInBounds k v) t f) := by
 obtain ⟨hlt, he⟩ := Array.getElem?_eq_some_iff.1 h
 show (w.heap.modify b _)[b]? = _
 rw [Array.getElem?_eq_getElem (by rw [Array.size_modify]; exact hlt), Array.getElem_modify_self, he]
 rfl
theorem own_slice {w : World} {base : Nat} {e : TypeId} {size n : Nat} {v : Value} {xs : List Value} (h : w.ownsRow base e size v n xs) : ∃ A c, v = .slice A n c := by
 rcases h.2 with ⟨rfl, rfl⟩ | ⟨g, cap, cur, rfl, _⟩
 ·exact ⟨_, _, rfl⟩
 ·exact ⟨_, _, rfl⟩
structure On (R : Nat) (W W' : World) : Prop where
 below : Below R W W'
 kept : ∀ b, b ≠ R → b < W.heap.size → W'.heap[b]? = W.heap[b]?
 size : W.heap.size ≤ W'.heap.size
theorem On.refl (R : Nat) (W : World) : On R W W := ⟨Below.refl _ _, fun _ _ _ => rfl, Nat.le_refl _⟩
theorem On.trans {R : Nat} {W W1 W2 : World} (h : On R W W1) (h' : On R W1 W2) : On R W W2 :=
 ⟨h.below.trans h'.below, fun b hb hl => (h'.kept b hb (Nat.lt_of_lt_of_le hl h.size)).trans (h.kept b hb hl), Nat.le_trans h.size h'.size⟩
theorem On.of_below {R : Nat} {W W' : World} (hR : R ≤ W.heap.size) (h : Below W.heap.size W W') : On R W W' := ⟨h.mono hR, fun b _ hl => h.block b hl, h.size⟩
theorem On.set {R : Nat} {W W' : World} (h : On R W W') (k : Nat) (v : Value) : On R W (W'.setCell ⟨R, k, none⟩ v) :=
 ⟨h.below.setCell (Nat.le_refl _) _, fun b hb hl => (Below.heap_setCell _ _ _ _ hb).trans (h.kept b hb hl), by rw [World.size_setCell]; exact h.size⟩
theorem On.drewN {R : Nat} {W W' : World} (h : On R W W') (n : Nat) : On R W (W'.drewN n) := ⟨below_drewN h.below n, h.kept, h.size⟩
def RdB (R : Nat) (s : ByteArray) (p : Int) (W : World) : Prop := W.heap[R]? = some (.cells #[.string s, .int .i64 p] 49 (0, 0))
theorem RdB.lt {R : Nat} {s : ByteArray} {p : Int} {W : World} (h : RdB R s p W) : R < W.heap.size := lt_of_block h
theorem RdB.below {R : Nat} {s : ByteArray} {p : Int} {W W' : World} (h : RdB R s p W) (hb : Below W.heap.size W W') : RdB R s p W' := (hb.block R h.lt).trans h
theorem RdB.set {R : Nat} {s : ByteArray} {p : Int} {W : World} (h : RdB R s p W) (q : Int) : RdB R s q (W.setCell ⟨R, 1, none⟩ (.int .i64 q)) := by
 unfold RdB at h ⊢
 rw [blk_set _ _ h]
 rfl
abbrev flt (e a : Int) : Value := .iface 45 (.agg #[.int .i64 e, .int .i64 a])
abbrev pan (e a : Int) : Ending := .panicked [{ v := flt e a, recovered := false }]
abbrev ptr (R : Nat) : Value := .pointer (some ⟨R, 0, none⟩)
theorem dr_trans {w w1 w2 : World} (h : Drawn0 w w1) (k : Drawn0 w1 w2) : Drawn0 w w2 := by
 obtain ⟨n, rfl⟩ := k
 exact h.step n
theorem RdB.drawn {R : Nat} {s : ByteArray} {p : Int} {W W' : World} (h : RdB R s p W) (hb : Drawn0 W W') : RdB R s p W' := by
 obtain ⟨n, rfl⟩ := hb
 exact h
theorem RdB.drewN {R : Nat} {s : ByteArray} {p : Int} {W : World} (h : RdB R s p W) (n : Nat) : RdB R s p (W.drewN n) := h
theorem RdB.drew {R : Nat} {s : ByteArray} {p : Int} {W : World} (h : RdB R s p W) : RdB R s p W.drew := h
theorem On.drawn {R : Nat} {W W' W1 : World} (h : On R W W') (hb : Drawn0 W' W1) : On R W W1 := by
 obtain ⟨n, rfl⟩ := hb
 exact h.drewN n
theorem fail_calls (r : Value) (e a : Int) (W : World) : Calls Tryd.prog 29 #[r, .int .i64 e, .int .i64 a] W fun x W' => x = pan e a ∧ Drawn0 W W' := by
 go_enter Tryd.func29, Tryd.ntmps29
 go_wp2
 exact ⟨rfl, rfl, Drawn0.refl _⟩
theorem short_calls (R : Nat) (s : ByteArray) (p : Int) (W : World) (h : RdB R s p W) : Calls Tryd.prog 61 #[ptr R] W fun x W' => x = pan 3 s.size ∧ Drawn0 W W' := by
 have d0 := blk_cell h 0
 dsimp at d0
 go_enter Tryd.func61, Tryd.ntmps61
 go_wp2_with (go_at_call 29; (with_reducible refine (fail_calls _ _ _ _).mono ?_); rintro e w1 ⟨rfl, hb⟩; have HB := am hb; clear hb)
 exact ⟨rfl, rfl, HB.out⟩
theorem peek_short (R : Nat) (s : ByteArray) (p : Nat) (hp : s.size ≤ p) (W : World) (h : RdB R s p W) : Calls Tryd.prog 39 #[ptr R] W fun x W' => x = pan 3 s.size ∧ Drawn0 W W' := by
 have H := am h
 have d0 := blk_cell h 0
 have d1 := blk_cell h 1
 dsimp at d0 d1
 clear h
 have hge : (s.size : Int) ≤ (p : Int) := by omega
 have hge1 : decide ((s.size : Int) ≤ (p : Int)) = true := decide_eq_true hge
 go_enter Tryd.func39, Tryd.ntmps39
 go_wp2
 go_quiet (fail)
 go_wp2_with (go_at_call 61; (with_reducible refine (short_calls R s p _ ?rd).mono ?_); (case rd => exact H.out.drawn ((Drawn0.refl _).step _)); rintro e w1 ⟨rfl, hb⟩; have HB := am hb; clear hb)
 exact ⟨rfl, rfl, dr_trans ((Drawn0.refl W).step _) HB.out⟩
theorem byte_at (s : ByteArray) (p : Nat) (c : UInt8) (h : s.data.toList[p]? = some c) : ∃ hp : p < s.size, s[p]'hp = c := by
 obtain ⟨h1, h2⟩ := List.getElem?_eq_some_iff.1 h
 exact ⟨by rw [size_data] at h1; exact h1, h2⟩
theorem peek_ok (R : Nat) (s : ByteArray) (p : Nat) (c : UInt8) (hc : s.data.toList[p]? = some c) (W : World) (h : RdB R s p W) : Calls Tryd.prog 39 #[ptr R] W fun x W' => x = .returned (.int .u8 c.toNat) ∧ Drawn0 W W' := by
 have H := am h
 have d0 := blk_cell h 0
 have d1 := blk_cell h 1
 dsimp at d0 d1
 clear h
 obtain ⟨hp, hb⟩ := byte_at s p c hc
 have HX := am hb
 clear hb hc
 have hlt : ¬ (s.size : Int) ≤ (p : Int) := by omega
 have hlt1 : decide ((s.size : Int) ≤ (p : Int)) = false := decide_eq_false hlt
 have hi0 : (0 : Int) ≤ (p : Int) := by omega
 have hi1 : (p : Int) < (s.size : Int) := by omega
 go_enter Tryd.func39, Tryd.ntmps39
 go_wp2
 go_quiet (fail)
 go_wp2
 go_quiet (fail)
 go_wp2
 go_ret
 have e := HX.out
 exact ⟨by rw [← e]; rfl, ((Drawn0.refl W).step _).step _⟩
def Ends {α : Type} (R : Nat) (s : ByteArray) (W : World) (o : Out α) (val : α → Value → World → Prop) (x : Ending) (W' : World) : Prop :=
 On R W W' ∧ match o with
  | .val a q => ∃ v, x = .returned v ∧ val a v W' ∧ RdB R s q W'
  | .err e q => x = pan e q
def unitV (_ : Unit) (v : Value) (_ : World) : Prop := v = .tuple #[]
def Lit (B C : Nat) (l : ByteArray) (i : Nat) (W : World) : Prop := W.heap[B]? = some (.cells #[.string l] 9 (0, 0)) ∧ W.heap[C]? = some (.cells #[.int .i64 i] 3 (0, 0)) ∧ B ≠ C
theorem Lit.below {B C : Nat} {l : ByteArray} {i : Nat} {W W' : World} (h : Lit B C l i W) (hb : Below W.heap.size W W') : Lit B C l i W' := ⟨(hb.block B (lt_of_block h.1)).trans h.1, (hb.block C (lt_of_block h.2.1)).trans h.2.1, h.2.2⟩
theorem Lit.set {B C : Nat} {l : ByteArray} {i : Nat} {W : World} (h : Lit B C l i W) (q : Nat) : Lit B C l q (W.setCell ⟨C, 0, none⟩ (.int .i64 q)) := by
 obtain ⟨h1, h2, h3⟩ := h
 refine ⟨(Below.heap_setCell _ _ _ _ h3).trans h1, ?_, h3⟩
 rw [blk_set _ _ h2]
 rfl
theorem bt_eq (s : ByteArray) (p : Nat) (c : UInt8) (h : p < s.size) : (((s[p]'h).toNat : Int) == (c.toNat : Int)) = decide (s.data.toList[p]? = some c) := by
 have e : s.data.toList[p]? = some (s[p]'h) := by rw [List.getElem?_eq_getElem (by rw [size_data]; exact h)]; rfl
 rw [e]
 by_cases hc : s[p]'h = c
 ·rw [hc]; simp
 ·have : ¬ ((s[p]'h).toNat : Int) = (c.toNat : Int) := fun hh => hc (UInt8.toNat.inj (by omega))
  simp [hc, this]
theorem is_calls (B C : Nat) (l : ByteArray) (i : Nat) (c : UInt8) (n : Int) (hn : n = (c.toNat : Int)) (W : World) (h : Lit B C l i W) :
  Calls Tryd.prog 81 #[.int .u8 n, .pointer (some ⟨C, 0, none⟩), .pointer (some ⟨B, 0, none⟩)] W fun x W' => x = .returned (.bool (decide (l.data.toList[i]? = some c))) ∧ Below W.heap.size W W' := by
 have d0 := blk_cell h.1 0
 have d1 := blk_cell h.2.1 0
 dsimp at d0 d1
 subst hn
 by_cases hlt : i < l.size
 ·have HX := am (bt_eq l i c hlt)
  have hlt' : (i : Int) < (l.size : Int) := by omega
  have hi0 : (0 : Int) ≤ (i : Int) := by omega
  go_enter Tryd.func81, Tryd.ntmps81
  go_wp2
  go_ret
  exact ⟨congrArg (fun b => Ending.returned (.bool b)) HX.out, Below.refl _ _⟩
 ·have HX := am (show decide (l.data.toList[i]? = some c) = false by rw [List.getElem?_eq_none (by rw [size_data]; omega)]; rfl)
  have hlt' : ¬ (i : Int) < (l.size : Int) := by omega
  go_enter Tryd.func81, Tryd.ntmps81
  go_wp2
  go_ret
  exact ⟨rfl, Below.refl _ _⟩
theorem digs_step (l : List UInt8) (i : Nat) (c : UInt8) (hc : l[i]? = some c) (hd : isDg c = true) : digsF (l.drop i) = digsF (l.drop (i + 1)) + 1 := by
 obtain ⟨hi, rfl⟩ := List.getElem?_eq_some_iff.1 hc
 unfold digsF
 rw [List.drop_eq_getElem_cons hi, List.takeWhile_cons, if_pos hd]
 rfl
theorem digs_stop (l : List UInt8) (i : Nat) (h : ∀ c, l[i]? = some c → isDg c = false) : digsF (l.drop i) = 0 := by
 unfold digsF
 by_cases hi : i < l.length
 ·rw [List.drop_eq_getElem_cons hi, List.takeWhile_cons, if_neg (by rw [h _ (List.getElem?_eq_getElem hi)]; simp)]
  rfl
 ·rw [List.drop_of_length_le (by omega)]
  rfl
theorem digs_len (l : List UInt8) (i : Nat) (h : i ≤ l.length) : i + digsF (l.drop i) ≤ l.length := by
 have := tw_le isDg (l.drop i)
 unfold digsF
 rw [List.length_drop] at this
 omega
theorem dg_iff (c : UInt8) : isDg c = (decide ((48 : Int) ≤ (c.toNat : Int)) && decide ((c.toNat : Int) ≤ 57)) := by
 unfold isDg
 rw [Bool.eq_iff_iff]
 simp
 omega
theorem digits_calls (B C : Nat) (l : ByteArray) (i : Nat) (hl : l.size ≤ 9223372036854775807) (hi : i ≤ l.size) (W : World) (h : Lit B C l i W) :
  Calls Tryd.prog 82 #[.pointer (some ⟨C, 0, none⟩), .pointer (some ⟨B, 0, none⟩)] W fun x W' => x = .returned (.int .i64 (digsF (l.data.toList.drop i) : Nat)) ∧ Lit B C l (i + digsF (l.data.toList.drop i)) W' ∧ On C W W' := by
 go_enter Tryd.func82, Tryd.ntmps82
 go_wp2
 go_loopw [3] (fun v wr => ∃ n : Nat, v = .int .i64 n ∧ i + n ≤ l.size ∧ n + digsF (l.data.toList.drop (i + n)) = digsF (l.data.toList.drop i) ∧ Lit B C l (i + n) wr ∧ On C W wr) (fun v _ => l.size - (intOf v).toNat)
 case atStart => exact ⟨0, rfl, by omega, by simp, h, On.refl _ _⟩
 case round =>
  obtain ⟨n, rfl, hn, hd, hL, hO⟩ := hrel
  have d0 := blk_cell hL.1 0
  have d1 := blk_cell hL.2.1 0
  have fz := blk_free hL.2.1 0
  dsimp at d0 d1
  have HD := am hd
  have HL := am hL
  have HO := am hO
  clear hd hL hO
  cases hc : l.data.toList[i + n]? with
  | none =>
   have HC := am hc
   have hge : ¬ ((i + n : Nat) : Int) < (l.size : Int) := by rw [List.getElem?_eq_none_iff, size_data] at hc; omega
   clear hc
   go_wp2
   go_ret
   have e0 : digsF (l.data.toList.drop (i + n)) = 0 := digs_stop _ _ (fun c hc => by rw [HC.out] at hc; cases hc)
   have e := HD.out
   rw [e0] at e
   rw [← e]
   exact ⟨rfl, HL.out, HO.out⟩
  | some c =>
   obtain ⟨hp, rfl⟩ := byte_at l (i + n) c hc
   have HC := am hc
   clear hc
   have hlt : (i : Int) + (n : Int) < (l.size : Int) := by omega
   have h0 : (0 : Int) ≤ (i : Int) + (n : Int) := by omega
   have stop : isDg l[i + n] = false → n = digsF (l.data.toList.drop i) := fun hf => by
    have e := HD.out
    rw [digs_stop _ _ (fun c hc => by rw [HC.out] at hc; injection hc with hc; rw [← hc]; exact hf)] at e
    exact e
   have STOP := am stop
   clear stop
   by_cases h48 : (48 : Int) ≤ (l[i + n].toNat : Int)
   ·by_cases h57 : (l[i + n].toNat : Int) ≤ 57
    ·have HN := am (digs_step _ _ _ HC.out (by rw [dg_iff]; simp; omega))
     have HL1 := am (HL.out.set (i + n + 1))
     have HO1 := am (HO.out.set 0 (.int .i64 ((i + n + 1 : Nat) : Int)))
     go_wp2
     go_roundw
     case rel => exact ⟨n + 1, by go_num, by omega, by have := HD.out; have := HN.out; rw [← Nat.add_assoc]; omega, by have e := HL1.out; rw [show ((i + n + 1 : Nat) : Int) = (i : Int) + n + 1 by omega] at e; exact e, by have e := HO1.out; rw [show ((i + n + 1 : Nat) : Int) = (i : Int) + n + 1 by omega] at e; exact e⟩
     case measure => simp [intOf]; omega
    ·have HS := am (STOP.out (by rw [dg_iff]; simp; omega))
     go_wp2
     go_ret
     have e := HS.out
     rw [← e]
     exact ⟨rfl, HL.out, HO.out⟩
   ·have HS := am (STOP.out (by rw [dg_iff]; simp; omega))
    go_wp2
    go_ret
    have e := HS.out
    rw [← e]
    exact ⟨rfl, HL.out, HO.out⟩
abbrev lit0 (l : List UInt8) : Nat := if l[0]? = some 45 then 1 else 0
theorem lit0_le (l : ByteArray) : lit0 l.data.toList ≤ l.size := by
 unfold lit0
 split
 ·rename_i h
  obtain ⟨h, _⟩ := List.getElem?_eq_some_iff.1 h
  rw [size_data] at h
  omega
 ·omega
theorem at_lt (l : ByteArray) (i : Nat) (c : UInt8) (h : l.data.toList[i]? = some c) : i + 1 ≤ l.size := by
 obtain ⟨h, _⟩ := List.getElem?_eq_some_iff.1 h
 rw [size_data] at h
 omega
theorem lit_start (w : World) (l : ByteArray) : Lit w.heap.size (w.heap.size + 1) l 0 ((w.alloc (Obj.cells #[Value.string l] 9)).alloc (Obj.cells #[Value.int IntKind.i64 0] 3)) ∧ Below w.heap.size w ((w.alloc (Obj.cells #[Value.string l] 9)).alloc (Obj.cells #[Value.int IntKind.i64 0] 3)) := by
 refine ⟨⟨?_, ?_, by omega⟩, below_alloc (below_alloc (Below.refl _ _) _) _⟩
 ·exact heap_alloc2_old _ _ _
 ·exact heap_alloc2_new _ _ _
theorem is_at (B C : Nat) (l : ByteArray) (i : Nat) (c : UInt8) (n : Int) (W : World) (h : Lit B C l i W) (hn : n = (c.toNat : Int)) (w0 : World) (hw : Below w0.heap.size w0 W) :
  Calls Tryd.prog 81 #[.int .u8 n, .pointer (some ⟨C, 0, none⟩), .pointer (some ⟨B, 0, none⟩)] W fun x W' => ∃ b : Bool, Aside0 (b = decide (l.data.toList[i]? = some c)) ∧ x = .returned (.bool b) ∧ Aside0 (Lit B C l i W' ∧ Below w0.heap.size w0 W') :=
 (is_calls B C l i c n hn W h).mono fun x W' ⟨h1, h2⟩ => ⟨_, am rfl, h1, am ⟨h.below h2, hw.trans (h2.mono hw.size)⟩⟩
theorem is_as (b : Bool) (B C : Nat) (l : ByteArray) (i : Nat) (c : UInt8) (n : Int) (W : World) (h : Lit B C l i W) (hn : n = (c.toNat : Int)) (w0 : World) (hw : Below w0.heap.size w0 W) (hb : decide (l.data.toList[i]? = some c) = b) :
  Calls Tryd.prog 81 #[.int .u8 n, .pointer (some ⟨C, 0, none⟩), .pointer (some ⟨B, 0, none⟩)] W fun x W' => x = .returned (.bool b) ∧ Aside0 (Lit B C l i W' ∧ Below w0.heap.size w0 W') :=
 (is_calls B C l i c n hn W h).mono fun x W' ⟨h1, h2⟩ => ⟨by rw [h1, hb], am ⟨h.below h2, hw.trans (h2.mono hw.size)⟩⟩
theorem digits_at (B C : Nat) (l : ByteArray) (i : Nat) (hl : l.size ≤ 9223372036854775807) (hi : i ≤ l.size) (W : World) (h : Lit B C l i W) (w0 : World) (hw : Below w0.heap.size w0 W) (hC : w0.heap.size ≤ C) :
  Calls Tryd.prog 82 #[.pointer (some ⟨C, 0, none⟩), .pointer (some ⟨B, 0, none⟩)] W fun x W' => x = .returned (.int .i64 (digsF (l.data.toList.drop i) : Nat)) ∧ Aside0 (Lit B C l (i + digsF (l.data.toList.drop i)) W' ∧ Below w0.heap.size w0 W') :=
 (digits_calls B C l i hl hi W h).mono fun x W' ⟨h1, h2, h3⟩ => ⟨h1, am ⟨h2, hw.trans (h3.below.mono hC)⟩⟩
theorem set_at {B C : Nat} {l : ByteArray} {i : Nat} {W w0 : World} (h : Aside0 (Lit B C l i W ∧ Below w0.heap.size w0 W)) (hC : w0.heap.size ≤ C) (q : Nat) (v : Int) (hv : v = (q : Int)) : Aside0 (Lit B C l q (W.setCell ⟨C, 0, none⟩ (.int .i64 v)) ∧ Below w0.heap.size w0 (W.setCell ⟨C, 0, none⟩ (.int .i64 v))) := by
 subst hv
 exact am ⟨h.out.1.set q, h.out.2.setCell hC _⟩
def litX (l : List UInt8) (i : Nat) : Nat × Bool :=
 let j := match l[i + 1]? with | some d => if d = 43 ∨ d = 45 then i + 2 else i + 1 | none => i + 1
 if digsF (l.drop j) = 0 then (j, false) else (j + digsF (l.drop j), true)
theorem litE_yes (l : List UInt8) (i : Nat) (h : l[i]? = some 101 ∨ l[i]? = some 69) : litE l i = litX l i := by
 unfold litE litX
 rcases h with h | h <;> (simp only [h]; exact if_pos (by decide))
theorem litE_no (l : List UInt8) (i : Nat) (h : ¬ (l[i]? = some 101 ∨ l[i]? = some 69)) : litE l i = (i, true) := by
 unfold litE
 cases hc : l[i]? with
 | none => rfl
 | some c => rw [hc] at h; simp at h; simp [h]
theorem litX_yes (l : List UInt8) (i : Nat) (h : l[i + 1]? = some 43 ∨ l[i + 1]? = some 45) : litX l i = if digsF (l.drop (i + 2)) = 0 then (i + 2, false) else (i + 2 + digsF (l.drop (i + 2)), true) := by
 unfold litX
 rcases h with h | h <;> simp [h]
theorem litX_no (l : List UInt8) (i : Nat) (h : ¬ (l[i + 1]? = some 43 ∨ l[i + 1]? = some 45)) : litX l i = if digsF (l.drop (i + 1)) = 0 then (i + 1, false) else (i + 1 + digsF (l.drop (i + 1)), true) := by
 unfold litX
 cases hc : l[i + 1]? with
 | none => rfl
 | some c => rw [hc] at h; simp at h; simp [h]
set_option maxHeartbeats 2000000 in
theorem literal_calls (l : ByteArray) (hl : l.size ≤ 9223372036854775806) (w : World) :
  Calls Tryd.prog 62 #[.string l] w fun x W' => x = .returned (.tuple #[.int .i64 ((litF l.data.toList).1 : Nat), .bool (litF l.data.toList).2]) ∧ Below w.heap.size w W' := by
 have hmf : ∀ (fn : Fn) (first cap : Array Value) (w : World), (Instr.makeFunc fn first cap).run Tryd.prog w = .ok (.func fn first cap) w := fun _ _ _ _ => rfl
 have ST := am (lit_start w l)
 go_enter Tryd.func62, Tryd.ntmps62
 go_upto_if 10 with (go_at_call 81; (with_reducible refine (is_at w.heap.size (w.heap.size + 1) l 0 45 _ _ ?h ?hn w ?hw).mono ?_); (case h => exact ST.out.1); (case hn => rfl); (case hw => exact ST.out.2); rintro e w1 ⟨b, HB, rfl, HA⟩)
 go_cut [] (fun wc => Aside0 (Lit w.heap.size (w.heap.size + 1) l (lit0 l.data.toList) wc ∧ Below w.heap.size w wc))
 case first =>
  have d1 := blk_cell HA.out.1.2.1 0
  have fz := blk_free HA.out.1.2.1 0
  dsimp at d1
  cases b with
  | true =>
   have HQ := set_at HA (by omega) 1 1 rfl
   have e0 : lit0 l.data.toList = 1 := if_pos (of_decide_eq_true HB.out.symm)
   go_wp2
   go_meet
   case rel => rw [e0]; exact HQ
  | false =>
   have e0 : lit0 l.data.toList = 0 := if_neg (of_decide_eq_false HB.out.symm)
   go_wp2
   go_meet
   case rel => rw [e0]; exact HA
 case rest =>
  clear HA HB
  have H : litF l.data.toList = (if l.data.toList[lit0 l.data.toList]? = some 48 then litD l.data.toList (lit0 l.data.toList + 1) else if digsF (l.data.toList.drop (lit0 l.data.toList)) = 0 then (lit0 l.data.toList, false) else litD l.data.toList (lit0 l.data.toList + digsF (l.data.toList.drop (lit0 l.data.toList)))) := rfl
  have hi0 := lit0_le l
  generalize lit0 l.data.toList = i0 at hcut H hi0
  have HF := am H
  clear H
  go_upto_if 14 with (go_at_call 81; (with_reducible refine (is_at w.heap.size (w.heap.size + 1) l i0 48 _ _ ?h ?hn w ?hw).mono ?_); (case h => exact hcut.out.1); (case hn => rfl); (case hw => exact hcut.out.2); rintro e w1 ⟨b, HB, rfl, HA⟩)
  go_cut [] (fun wc => ∃ i1 : Nat, Aside0 (litF l.data.toList = litD l.data.toList i1) ∧ Aside0 (i1 ≤ l.size) ∧ Aside0 (Lit w.heap.size (w.heap.size + 1) l i1 wc ∧ Below w.heap.size w wc))
  case first =>
   have d1 := blk_cell HA.out.1.2.1 0
   have fz := blk_free HA.out.1.2.1 0
   dsimp at d1
   cases b with
   | true =>
    have hq : l.data.toList[i0]? = some 48 := of_decide_eq_true HB.out.symm
    have hlt := at_lt l i0 _ hq
    have HQ := set_at HA (by omega) (i0 + 1) (i0 + 1) (by simp)
    have HE := am (HF.out.trans (if_pos hq))
    clear hq HF
    go_wp2
    go_meet
    case rel => exact ⟨i0 + 1, HE, ⟨hlt⟩, HQ⟩
   | false =>
    have hq : ¬ l.data.toList[i0]? = some 48 := of_decide_eq_false HB.out.symm
    have H := HF.out.trans (if_neg hq)
    have hd := digs_len l.data.toList i0 (by rw [size_data]; exact hi0)
    rw [size_data] at hd
    clear hq HF
    by_cases h0 : digsF (l.data.toList.drop i0) = 0
    ·have H2 := H.trans (if_pos h0)
     have HE := am H2
     have h0' : ((digsF (l.data.toList.drop i0) : Nat) : Int) = 0 := by omega
     clear H H2
     go_wp2_with (go_at_call 82; (with_reducible refine (digits_at w.heap.size (w.heap.size + 1) l (i0) (by omega) (by omega) _ ?h w ?hw (by omega)).mono ?_); (case h => exact HA.out.1); (case hw => exact HA.out.2); rintro e w2 ⟨rfl, HD⟩; have d2 := blk_cell HD.out.1.2.1 0; dsimp at d2)
     go_ret2
     rw [HE.out]
     exact ⟨rfl, HD.out.2⟩
    ·have H2 := H.trans (if_neg h0)
     have HE := am H2
     have h0' : ¬ ((digsF (l.data.toList.drop i0) : Nat) : Int) = 0 := by omega
     clear H H2
     go_wp2_with (go_at_call 82; (with_reducible refine (digits_at w.heap.size (w.heap.size + 1) l (i0) (by omega) (by omega) _ ?h w ?hw (by omega)).mono ?_); (case h => exact HA.out.1); (case hw => exact HA.out.2); rintro e w2 ⟨rfl, HD⟩; have d2 := blk_cell HD.out.1.2.1 0; dsimp at d2)
     go_meet
     case rel => exact ⟨_, HE, ⟨hd⟩, HD⟩
  case rest =>
   clear HA HB HF hi0
   obtain ⟨i1, HF1, ⟨hi1⟩, HL⟩ := hcut
   go_upto_if 22 with (go_at_call 81; (with_reducible refine (is_at w.heap.size (w.heap.size + 1) l i1 46 _ _ ?h ?hn w ?hw).mono ?_); (case h => exact HL.out.1); (case hn => rfl); (case hw => exact HL.out.2); rintro e w1 ⟨b, HB, rfl, HA⟩)
   go_cut [] (fun wc => ∃ i2 : Nat, Aside0 (litF l.data.toList = litE l.data.toList i2) ∧ Aside0 (i2 ≤ l.size) ∧ Aside0 (Lit w.heap.size (w.heap.size + 1) l i2 wc ∧ Below w.heap.size w wc))
   case first =>
    have d1 := blk_cell HA.out.1.2.1 0
    have fz := blk_free HA.out.1.2.1 0
    dsimp at d1
    cases b with
    | true =>
     have hq : l.data.toList[i1]? = some 46 := of_decide_eq_true HB.out.symm
     have hlt := at_lt l i1 _ hq
     have HQ := set_at HA (by omega) (i1 + 1) ((i1 : Int) + 1) (by simp)
     have H : litF l.data.toList = (if digsF (l.data.toList.drop (i1 + 1)) = 0 then (i1 + 1, false) else litE l.data.toList (i1 + 1 + digsF (l.data.toList.drop (i1 + 1)))) := HF1.out.trans (if_pos hq)
     have hd := digs_len l.data.toList (i1 + 1) (by rw [size_data]; exact hlt)
     rw [size_data] at hd
     clear hq HF1
     by_cases h0 : digsF (l.data.toList.drop (i1 + 1)) = 0
     ·have H2 := H.trans (if_pos h0)
      have HE := am H2
      have h0' : ((digsF (l.data.toList.drop (i1 + 1)) : Nat) : Int) = 0 := by omega
      clear H H2
      go_wp2_with (go_at_call 82; (with_reducible refine (digits_at w.heap.size (w.heap.size + 1) l (i1 + 1) (by omega) (by omega) _ ?h w ?hw (by omega)).mono ?_); (case h => exact HQ.out.1); (case hw => exact HQ.out.2); rintro e w2 ⟨rfl, HD⟩; have d2 := blk_cell HD.out.1.2.1 0; dsimp at d2)
      go_ret2
      rw [HE.out]
      exact ⟨by simp [h0], HD.out.2⟩
     ·have H2 := H.trans (if_neg h0)
      have HE := am H2
      have h0' : ¬ ((digsF (l.data.toList.drop (i1 + 1)) : Nat) : Int) = 0 := by omega
      clear H H2
      go_wp2_with (go_at_call 82; (with_reducible refine (digits_at w.heap.size (w.heap.size + 1) l (i1 + 1) (by omega) (by omega) _ ?h w ?hw (by omega)).mono ?_); (case h => exact HQ.out.1); (case hw => exact HQ.out.2); rintro e w2 ⟨rfl, HD⟩; have d2 := blk_cell HD.out.1.2.1 0; dsimp at d2)
      go_meet
      case rel => exact ⟨_, HE, ⟨hd⟩, HD⟩
    | false =>
     have hq : ¬ l.data.toList[i1]? = some 46 := of_decide_eq_false HB.out.symm
     have HE := am (HF1.out.trans (if_neg hq))
     clear hq HF1
     go_wp2
     go_meet
     case rel => exact ⟨_, HE, ⟨hi1⟩, HA⟩
   case rest =>
    clear HA HB HF1 HL hi1
    obtain ⟨i2, HF2, ⟨hi2⟩, HL⟩ := hcut
    go_upto_region 14 with fail
    go_cut [34] (fun v34 wc => v34 = .bool (decide (l.data.toList[i2]? = some 101 ∨ l.data.toList[i2]? = some 69)) ∧ Aside0 (Lit w.heap.size (w.heap.size + 1) l (i2) wc ∧ Below w.heap.size w wc))
    case first =>
     by_cases h1 : l.data.toList[i2]? = some 101
     ·have g1 := decide_eq_true h1
      have e1 : decide (l.data.toList[i2]? = some 101 ∨ l.data.toList[i2]? = some 69) = true := decide_eq_true (.inl h1)
      have G1 := am g1
      clear h1 g1
      go_wp2_with ((go_at_call 81; (with_reducible refine (is_as true w.heap.size (w.heap.size + 1) l (i2) 101 _ _ ?h ?hn w ?hw ?hb).mono ?_); (case h => exact HL.out.1); (case hn => rfl); (case hw => exact HL.out.2); (case hb => exact G1.out); rintro e w1 ⟨rfl, HA1⟩))
      go_meet
      case rel => exact ⟨by rw [e1], HA1⟩
     ·have g1 := decide_eq_false h1
      have G1 := am g1
      by_cases h2 : l.data.toList[i2]? = some 69
      ·have e1 : decide (l.data.toList[i2]? = some 101 ∨ l.data.toList[i2]? = some 69) = true := decide_eq_true (.inr h2)
       have G2 := am (decide_eq_true h2)
       clear h1 g1 h2
       go_wp2_with (first | ((go_at_call 81; (with_reducible refine (is_as false w.heap.size (w.heap.size + 1) l (i2) 101 _ _ ?h ?hn w ?hw ?hb).mono ?_); (case h => exact HL.out.1); (case hn => rfl); (case hw => exact HL.out.2); (case hb => exact G1.out); rintro e w1 ⟨rfl, HA1⟩)) | ((go_at_call 81; (with_reducible refine (is_as true w.heap.size (w.heap.size + 1) l (i2) 69 _ _ ?h ?hn w ?hw ?hb).mono ?_); (case h => exact HA1.out.1); (case hn => rfl); (case hw => exact HA1.out.2); (case hb => exact G2.out); rintro e w1 ⟨rfl, HA2⟩)))
       go_meet
       case rel => exact ⟨by rw [e1], HA2⟩
      ·have e1 : decide (l.data.toList[i2]? = some 101 ∨ l.data.toList[i2]? = some 69) = false := decide_eq_false (fun h => h.elim h1 h2)
       have G2 := am (decide_eq_false h2)
       clear h1 g1 h2
       go_wp2_with (first | ((go_at_call 81; (with_reducible refine (is_as false w.heap.size (w.heap.size + 1) l (i2) 101 _ _ ?h ?hn w ?hw ?hb).mono ?_); (case h => exact HL.out.1); (case hn => rfl); (case hw => exact HL.out.2); (case hb => exact G1.out); rintro e w1 ⟨rfl, HA1⟩)) | ((go_at_call 81; (with_reducible refine (is_as false w.heap.size (w.heap.size + 1) l (i2) 69 _ _ ?h ?hn w ?hw ?hb).mono ?_); (case h => exact HA1.out.1); (case hn => rfl); (case hw => exact HA1.out.2); (case hb => exact G2.out); rintro e w1 ⟨rfl, HA2⟩)))
       go_meet
       case rel => exact ⟨by rw [e1], HA2⟩
    case rest =>
     obtain ⟨hv34, HA⟩ := hcut
     by_cases hq : l.data.toList[i2]? = some 101 ∨ l.data.toList[i2]? = some 69
     ·rw [decide_eq_true hq] at hv34
      subst hv34
      have hlt : i2 + 1 ≤ l.size := by rcases hq with h | h <;> exact at_lt l i2 _ h
      have H : litF l.data.toList = litX l.data.toList i2 := HF2.out.trans (litE_yes _ _ hq)
      have HX := am H
      have HQ := set_at HA (by omega) (i2 + 1) ((i2 : Int) + 1) (by simp)
      have d1 := blk_cell HA.out.1.2.1 0
      have fz := blk_free HA.out.1.2.1 0
      dsimp at d1
      clear H hq HF2
      go_upto_region 16 with fail
      go_cut [42] (fun v42 wc => v42 = .bool (decide (l.data.toList[i2 + 1]? = some 43 ∨ l.data.toList[i2 + 1]? = some 45)) ∧ Aside0 (Lit w.heap.size (w.heap.size + 1) l (i2 + 1) wc ∧ Below w.heap.size w wc))
      case first =>
       by_cases h1 : l.data.toList[i2 + 1]? = some 43
       ·have g1 := decide_eq_true h1
        have e1 : decide (l.data.toList[i2 + 1]? = some 43 ∨ l.data.toList[i2 + 1]? = some 45) = true := decide_eq_true (.inl h1)
        have G1 := am g1
        clear h1 g1
        go_wp2_with ((go_at_call 81; (with_reducible refine (is_as true w.heap.size (w.heap.size + 1) l (i2 + 1) 43 _ _ ?h ?hn w ?hw ?hb).mono ?_); (case h => exact HQ.out.1); (case hn => rfl); (case hw => exact HQ.out.2); (case hb => exact G1.out); rintro e w1 ⟨rfl, HA1⟩))
        go_meet
        case rel => exact ⟨by rw [e1], HA1⟩
       ·have g1 := decide_eq_false h1
        have G1 := am g1
        by_cases h2 : l.data.toList[i2 + 1]? = some 45
        ·have e1 : decide (l.data.toList[i2 + 1]? = some 43 ∨ l.data.toList[i2 + 1]? = some 45) = true := decide_eq_true (.inr h2)
         have G2 := am (decide_eq_true h2)
         clear h1 g1 h2
         go_wp2_with (first | ((go_at_call 81; (with_reducible refine (is_as false w.heap.size (w.heap.size + 1) l (i2 + 1) 43 _ _ ?h ?hn w ?hw ?hb).mono ?_); (case h => exact HQ.out.1); (case hn => rfl); (case hw => exact HQ.out.2); (case hb => exact G1.out); rintro e w1 ⟨rfl, HA1⟩)) | ((go_at_call 81; (with_reducible refine (is_as true w.heap.size (w.heap.size + 1) l (i2 + 1) 45 _ _ ?h ?hn w ?hw ?hb).mono ?_); (case h => exact HA1.out.1); (case hn => rfl); (case hw => exact HA1.out.2); (case hb => exact G2.out); rintro e w1 ⟨rfl, HA2⟩)))
         go_meet
         case rel => exact ⟨by rw [e1], HA2⟩
        ·have e1 : decide (l.data.toList[i2 + 1]? = some 43 ∨ l.data.toList[i2 + 1]? = some 45) = false := decide_eq_false (fun h => h.elim h1 h2)
         have G2 := am (decide_eq_false h2)
         clear h1 g1 h2
         go_wp2_with (first | ((go_at_call 81; (with_reducible refine (is_as false w.heap.size (w.heap.size + 1) l (i2 + 1) 43 _ _ ?h ?hn w ?hw ?hb).mono ?_); (case h => exact HQ.out.1); (case hn => rfl); (case hw => exact HQ.out.2); (case hb => exact G1.out); rintro e w1 ⟨rfl, HA1⟩)) | ((go_at_call 81; (with_reducible refine (is_as false w.heap.size (w.heap.size + 1) l (i2 + 1) 45 _ _ ?h ?hn w ?hw ?hb).mono ?_); (case h => exact HA1.out.1); (case hn => rfl); (case hw => exact HA1.out.2); (case hb => exact G2.out); rintro e w1 ⟨rfl, HA2⟩)))
         go_meet
         case rel => exact ⟨by rw [e1], HA2⟩
      case rest =>
       obtain ⟨hv42, HA3⟩ := hcut
       by_cases hq : l.data.toList[i2 + 1]? = some 43 ∨ l.data.toList[i2 + 1]? = some 45
       ·rw [decide_eq_true hq] at hv42
        subst hv42
        have hlt : i2 + 2 ≤ l.size := by rcases hq with h | h <;> exact at_lt l (i2 + 1) _ h
        have H := HX.out.trans (litX_yes _ _ hq)
        have HQ2 := set_at HA3 (by omega) (i2 + 2) ((i2 : Int) + 1 + 1) (by omega)
        have d3 := blk_cell HA3.out.1.2.1 0
        have fz3 := blk_free HA3.out.1.2.1 0
        have hd := digs_len l.data.toList (i2 + 2) (by rw [size_data]; exact hlt)
        rw [size_data] at hd
        dsimp at d3
        clear hq
        by_cases h0 : digsF (l.data.toList.drop (i2 + 2)) = 0
        ·have H2 := H.trans (if_pos h0)
         have HE := am H2
         have h0' : ((digsF (l.data.toList.drop (i2 + 2)) : Nat) : Int) = 0 := by omega
         clear H H2
         go_wp2_with (go_at_call 82; (with_reducible refine (digits_at w.heap.size (w.heap.size + 1) l (i2 + 2) (by omega) (by omega) _ ?h w ?hw (by omega)).mono ?_); (case h => exact HQ2.out.1); (case hw => exact HQ2.out.2); rintro e w2 ⟨rfl, HD⟩; have d2 := blk_cell HD.out.1.2.1 0; dsimp at d2)
         go_ret2
         rw [HE.out]
         exact ⟨by simp [h0], HD.out.2⟩
        ·have H2 := H.trans (if_neg h0)
         have HE := am H2
         have h0' : ¬ ((digsF (l.data.toList.drop (i2 + 2)) : Nat) : Int) = 0 := by omega
         clear H H2
         go_wp2_with (go_at_call 82; (with_reducible refine (digits_at w.heap.size (w.heap.size + 1) l (i2 + 2) (by omega) (by omega) _ ?h w ?hw (by omega)).mono ?_); (case h => exact HQ2.out.1); (case hw => exact HQ2.out.2); rintro e w2 ⟨rfl, HD⟩; have d2 := blk_cell HD.out.1.2.1 0; dsimp at d2)
         go_ret2
         rw [HE.out]
         exact ⟨rfl, HD.out.2⟩
       ·rw [decide_eq_false hq] at hv42
        subst hv42
        have H := HX.out.trans (litX_no _ _ hq)
        have hd := digs_len l.data.toList (i2 + 1) (by rw [size_data]; exact hlt)
        rw [size_data] at hd
        clear hq
        by_cases h0 : digsF (l.data.toList.drop (i2 + 1)) = 0
        ·have H2 := H.trans (if_pos h0)
         have HE := am H2
         have h0' : ((digsF (l.data.toList.drop (i2 + 1)) : Nat) : Int) = 0 := by omega
         clear H H2
         go_wp2_with (go_at_call 82; (with_reducible refine (digits_at w.heap.size (w.heap.size + 1) l (i2 + 1) (by omega) (by omega) _ ?h w ?hw (by omega)).mono ?_); (case h => exact HA3.out.1); (case hw => exact HA3.out.2); rintro e w2 ⟨rfl, HD⟩; have d2 := blk_cell HD.out.1.2.1 0; dsimp at d2)
         go_ret2
         rw [HE.out]
         exact ⟨by simp [h0], HD.out.2⟩
        ·have H2 := H.trans (if_neg h0)
         have HE := am H2
         have h0' : ¬ ((digsF (l.data.toList.drop (i2 + 1)) : Nat) : Int) = 0 := by omega
         clear H H2
         go_wp2_with (go_at_call 82; (with_reducible refine (digits_at w.heap.size (w.heap.size + 1) l (i2 + 1) (by omega) (by omega) _ ?h w ?hw (by omega)).mono ?_); (case h => exact HA3.out.1); (case hw => exact HA3.out.2); rintro e w2 ⟨rfl, HD⟩; have d2 := blk_cell HD.out.1.2.1 0; dsimp at d2)
         go_ret2
         rw [HE.out]
         exact ⟨rfl, HD.out.2⟩
     ·rw [decide_eq_false hq] at hv34
      subst hv34
      have HE := am (HF2.out.trans (litE_no _ _ hq))
      have d1 := blk_cell HA.out.1.2.1 0
      dsimp at d1
      clear hq HF2
      go_wp2
      go_ret2
      rw [HE.out]
      exact ⟨rfl, HA.out.2⟩
theorem blanks_step (s : List UInt8) (p : Nat) (c : UInt8) (hc : s[p]? = some c) (hb : isBl c = true) : blanksF s p = blanksF s (p + 1) := by
 obtain ⟨hi, rfl⟩ := List.getElem?_eq_some_iff.1 hc
 unfold blanksF
 rw [List.drop_eq_getElem_cons hi, List.takeWhile_cons, if_pos hb, List.length_cons]
 omega
theorem blanks_stop (s : List UInt8) (p : Nat) (h : ∀ c, s[p]? = some c → isBl c = false) : blanksF s p = p := by
 unfold blanksF
 by_cases hi : p < s.length
 ·rw [List.drop_eq_getElem_cons hi, List.takeWhile_cons, if_neg (by rw [h _ (List.getElem?_eq_getElem hi)]; simp)]
  rfl
 ·rw [List.drop_of_length_le (by omega)]
  rfl
theorem blanks_le (s : List UInt8) (p : Nat) (h : p ≤ s.length) : blanksF s p ≤ s.length := by
 have := tw_le isBl (s.drop p)
 unfold blanksF
 rw [List.length_drop] at this
 omega
theorem blanks_ge (s : List UInt8) (p : Nat) : p ≤ blanksF s p := Nat.le_add_right _ _
theorem beq_u8 (a : UInt8) (n : Nat) (h : n < 256) : ((a.toNat : Int) == (n : Int)) = decide (a = UInt8.ofNat n) := by
 have e : (UInt8.ofNat n).toNat = n := by simp; omega
 by_cases hc : a = UInt8.ofNat n
 ·rw [hc, e]; simp
 ·have : ¬ (a.toNat : Int) = (n : Int) := fun hh => hc (UInt8.toNat.inj (by rw [e]; omega))
  simp [hc, this]
theorem at_lt' {s : ByteArray} {q : Nat} {c : UInt8} (h : s.data.toList[q]? = some c) : q < s.size := (byte_at s q c h).1
set_option maxHeartbeats 2000000 in
theorem blanks_calls (R : Nat) (s : ByteArray) (p : Nat) (hl : s.size ≤ 9223372036854775806) (hp : p ≤ s.size) (W : World) (h : RdB R s p W) :
  Calls Tryd.prog 27 #[ptr R] W fun x W' => x = .returned (.tuple #[]) ∧ RdB R s (blanksF s.data.toList p : Nat) W' ∧ On R W W' := by
 go_enter Tryd.func27, Tryd.ntmps27
 go_wp2
 go_loopg [] (s.size - p) (fun g wr => ∃ q : Nat, q + g = s.size ∧ Aside0 (blanksF s.data.toList q = blanksF s.data.toList p) ∧ Aside0 (RdB R s q wr) ∧ Aside0 (On R W wr))
 case atStart => exact ⟨p, by omega, ⟨rfl⟩, ⟨h⟩, ⟨On.refl _ _⟩⟩
 case round =>
  obtain ⟨q, hq, HE, HR, HO⟩ := hrel
  have d0 := blk_cell HR.out 0
  have d1 := blk_cell HR.out 1
  have fz := blk_free HR.out 1
  dsimp at d0 d1
  have h0 : (0 : Int) ≤ (q : Int) := by omega
  by_cases hlt : (q : Int) < (s.size : Int)
  ·have hlt1 : decide ((q : Int) < (s.size : Int)) = true := decide_eq_true hlt
   have hqs : q < s.size := by omega
   have HC := am (show s.data.toList[q]? = some (s[q]'hqs) by rw [List.getElem?_eq_getElem (by rw [size_data]; exact hqs)]; rfl)
   have e32 := beq_u8 (s[q]'hqs) 32 (by omega)
   have e9 := beq_u8 (s[q]'hqs) 9 (by omega)
   have e10 := beq_u8 (s[q]'hqs) 10 (by omega)
   have e13 := beq_u8 (s[q]'hqs) 13 (by omega)
   have goon : isBl (s[q]'hqs) = true → Aside0 (blanksF s.data.toList (q + 1) = blanksF s.data.toList p) := fun hb => ⟨(blanks_step _ _ _ HC.out hb).symm.trans HE.out⟩
   have GO := am goon
   have HR1 := am (show RdB R s ((q + 1 : Nat) : Int) (wr.setCell ⟨R, 1, none⟩ (.int .i64 ((q : Int) + 1))) from HR.out.set _)
   clear goon
   generalize hx : s[q]'hqs = c at *
   by_cases c32 : c = 32
   ·subst c32
    have f32 : (((32 : UInt8).toNat : Int) == 32) = true := by decide
    have GO1 := GO.out (by decide)
    clear e32 e9 e10 e13 GO
    go_wp2_with fail
    go_quiet (fail)
    go_wp2
    go_roundg (gk - 1)
    case measure => omega
    case rel => exact ⟨q + 1, by omega, GO1, HR1, ⟨(HO.out.drewN _).set _ _⟩⟩
   ·skip
    by_cases c9 : c = 9
    ·subst c9
     have f9 : (((9 : UInt8).toNat : Int) == 9) = true := by decide
     have f32 : (((9 : UInt8).toNat : Int) == 32) = false := by decide
     have GO1 := GO.out (by decide)
     clear e32 e9 e10 e13 GO
     clear c32
     go_wp2_with fail
     go_quiet (fail)
     go_wp2
     go_roundg (gk - 1)
     case measure => omega
     case rel => exact ⟨q + 1, by omega, GO1, HR1, ⟨(HO.out.drewN _).set _ _⟩⟩
    ·skip
     by_cases c10 : c = 10
     ·subst c10
      have f10 : (((10 : UInt8).toNat : Int) == 10) = true := by decide
      have f32 : (((10 : UInt8).toNat : Int) == 32) = false := by decide
      have f9 : (((10 : UInt8).toNat : Int) == 9) = false := by decide
      have GO1 := GO.out (by decide)
      clear e32 e9 e10 e13 GO
      clear c32
      clear c9
      go_wp2_with fail
      go_quiet (fail)
      go_wp2
      go_roundg (gk - 1)
      case measure => omega
      case rel => exact ⟨q + 1, by omega, GO1, HR1, ⟨(HO.out.drewN _).set _ _⟩⟩
     ·skip
      by_cases c13 : c = 13
      ·subst c13
       have f13 : (((13 : UInt8).toNat : Int) == 13) = true := by decide
       have f32 : (((13 : UInt8).toNat : Int) == 32) = false := by decide
       have f9 : (((13 : UInt8).toNat : Int) == 9) = false := by decide
       have f10 : (((13 : UInt8).toNat : Int) == 10) = false := by decide
       have GO1 := GO.out (by decide)
       clear e32 e9 e10 e13 GO
       clear c32
       clear c9
       clear c10
       go_wp2_with fail
       go_quiet (fail)
       go_wp2
       go_roundg (gk - 1)
       case measure => omega
       case rel => exact ⟨q + 1, by omega, GO1, HR1, ⟨(HO.out.drewN _).set _ _⟩⟩
      ·skip
       have f32 : ((c.toNat : Int) == 32) = false := e32.trans (decide_eq_false c32)
       have f9 : ((c.toNat : Int) == 9) = false := e9.trans (decide_eq_false c9)
       have f10 : ((c.toNat : Int) == 10) = false := e10.trans (decide_eq_false c10)
       have f13 : ((c.toNat : Int) == 13) = false := e13.trans (decide_eq_false c13)
       have hno : isBl c = false := by simp [isBl, c32, c9, c10, c13]
       have HE1 := am ((blanks_stop s.data.toList q (fun c' hc' => by rw [HC.out] at hc'; injection hc' with hc'; rw [← hc']; exact hno)).symm.trans HE.out)
       clear e32 e9 e10 e13 GO c32 c9 c10 c13 hno
       go_wp2_with fail
       go_quiet (fail)
       go_wp2
       go_end0
       rw [← HE1.out]
       exact ⟨rfl, HR.out, HO.out.drewN _⟩
  ·have hlt1 : decide ((q : Int) < (s.size : Int)) = false := decide_eq_false hlt
   have HE1 := am ((blanks_stop s.data.toList q (fun c' hc' => by have := at_lt' hc'; omega)).symm.trans HE.out)
   have hlt2 : decide (q < s.size) = false := decide_eq_false (by omega)
   clear hlt hq
   go_wp2_with fail
   go_quiet (fail)
   go_wp2
   go_end0
   rw [← HE1.out]
   exact ⟨rfl, HR.out, HO.out.drewN _⟩
theorem Ends.ok {α : Type} {R : Nat} {s : ByteArray} {W W' : World} {o : Out α} {val : α → Value → World → Prop} {a : α} {q : Nat} {v : Value} (ho : o = .val a q) (hv : val a v W') (hr : RdB R s q W') (hO : On R W W') : Ends R s W o val (.returned v) W' := by
 subst ho; exact ⟨hO, v, rfl, hv, hr⟩
theorem Ends.no {α : Type} {R : Nat} {s : ByteArray} {W W' : World} {o : Out α} {val : α → Value → World → Prop} {e q : Nat} (ho : o = .err e q) (hO : On R W W') : Ends R s W o val (pan e q) W' := by
 subst ho; exact ⟨hO, rfl⟩
theorem peek_quiet (R : Nat) (s : ByteArray) (p : Nat) (c : UInt8) (hc : s.data.toList[p]? = some c) (W : World) (n : Nat) (h : RdB R s p W) : Calls Tryd.prog 39 #[ptr R] (W.drewN n) fun x W' => x = .returned (.int .u8 c.toNat) ∧ ∃ m, W' = W.drewN m :=
 Calls.quiet_of ((peek_ok R s p c hc _ (h.drewN n)).mono fun _ _ ⟨h1, h2⟩ => ⟨h1, h2.out⟩)
theorem any_dummy {G : Prop} (W : World) (hG : G) (_ : wpAny Tryd.prog .any #[] (fun _ _ _ => True) 0 #[] ⟨#[], []⟩ W) : G := hG
theorem wordF_short (s w : List UInt8) (c : UInt8) (p : Nat) (h : s[p]? = none) : wordF s (c :: w) p = .err 3 s.length := by simp [wordF, h]
theorem wordF_bad (s w : List UInt8) (c x : UInt8) (p : Nat) (h : s[p]? = some x) (hx : x ≠ c) : wordF s (c :: w) p = .err 40 p := by simp [wordF, h, hx]
theorem wordF_on (s w : List UInt8) (c : UInt8) (p : Nat) (h : s[p]? = some c) : wordF s (c :: w) p = wordF s w (p + 1) := by simp [wordF, h]
set_option maxHeartbeats 2000000 in
theorem word_calls (R : Nat) (s w : ByteArray) (p : Nat) (hl : s.size + w.size ≤ 9223372036854775806) (hp : p ≤ s.size) (W : World) (h : RdB R s p W) :
  Calls Tryd.prog 40 #[ptr R, .string w] W (Ends R s W (wordF s.data.toList w.data.toList p) unitV) := by
 go_enter Tryd.func40, Tryd.ntmps40
 go_wp2
 go_loopg [7] w.size (fun g v wr => ∃ k : Nat, v = .int .i64 k ∧ k + g = w.size ∧ p + k ≤ s.size ∧ Aside0 (wordF s.data.toList w.data.toList p = wordF s.data.toList (w.data.toList.drop k) (p + k)) ∧ Aside0 (RdB R s (p + k : Nat) wr) ∧ Aside0 (On R W wr))
 case atStart => exact ⟨0, rfl, by omega, by omega, ⟨rfl⟩, ⟨h⟩, ⟨On.refl _ _⟩⟩
 case round =>
  obtain ⟨k, rfl, hk, hpk, HE, HR, HO⟩ := hrel
  have d0 := blk_cell HR.out 0
  have d1 := blk_cell HR.out 1
  have fz := blk_free HR.out 1
  dsimp at d0 d1
  have h0 : (0 : Int) ≤ (k : Int) := by omega
  by_cases hlt : (k : Int) < (w.size : Int)
  ·have hkw : k < w.size := by omega
   have HW := am (show w.data.toList.drop k = w[k]'hkw :: w.data.toList.drop (k + 1) from List.drop_eq_getElem_cons (by rw [size_data]; exact hkw))
   cases hc : s.data.toList[p + k]? with
   | none =>
    have hps : s.size ≤ p + k := by rw [List.getElem?_eq_none_iff, size_data] at hc; exact hc
    have HX := am (HE.out.trans ((congrArg (fun l => wordF s.data.toList l (p + k)) HW.out).trans ((wordF_short _ _ _ _ hc).trans (by rw [size_data]))))
    clear hc
    go_wp2_with fail
    go_region_with ((go_at_call 39; (with_reducible refine (peek_short R s (p + k) hps _ ?rd).mono ?_); (case rd => exact HR.out); rintro e w1 ⟨rfl, hb⟩; refine any_dummy w1 ⟨rfl, Ends.no HX.out ((HO.out.drewN 1).drawn hb)⟩ ?_))
    all_goals trivial
   | some c =>
    by_cases hcw : c = w[k]'hkw
    ·have HX := am (HE.out.trans ((congrArg (fun l => wordF s.data.toList l (p + k)) HW.out).trans (wordF_on _ _ _ _ (by rw [hc, hcw]))))
     have heq : ((c.toNat : Int) == ((w[k]'hkw).toNat : Int)) = true := by rw [hcw]; simp
     have hne : ((c.toNat : Int) != ((w[k]'hkw).toNat : Int)) = false := by rw [hcw]; simp
     have HC := am hc
     clear hc hcw
     go_wp2_with fail
     go_quiet (exact peek_quiet R s (p + k) c HC.out wr _ HR.out)
     go_wp2
     go_roundg (gk - 1)
     case measure => omega
     case rel => exact ⟨k + 1, by go_num, by omega, by have := at_lt' HC.out; omega, ⟨by have := HX.out; rw [← Nat.add_assoc]; exact this⟩, ⟨by have e := (HR.out.drewN nq).set ((p + k + 1 : Nat) : Int); rw [show ((p + k + 1 : Nat) : Int) = (p : Int) + k + 1 by omega] at e; rw [← Nat.add_assoc, show ((p + k + 1 : Nat) : Int) = (p : Int) + k + 1 by omega]; exact e⟩, ⟨(HO.out.drewN _).set _ _⟩⟩
    ·have HX := am (HE.out.trans ((congrArg (fun l => wordF s.data.toList l (p + k)) HW.out).trans (wordF_bad _ _ _ _ _ hc hcw)))
     have heq : ((c.toNat : Int) == ((w[k]'hkw).toNat : Int)) = false := by
      have : ¬ (c.toNat : Int) = ((w[k]'hkw).toNat : Int) := fun hh => hcw (UInt8.toNat.inj (by omega))
      simp [this]
     have hne : ((c.toNat : Int) != ((w[k]'hkw).toNat : Int)) = true := by simp [bne, heq]
     have HC := am hc
     clear hc hcw
     go_wp2_with fail
     go_quiet (exact peek_quiet R s (p + k) c HC.out wr _ HR.out)
     go_wp2_with (go_at_call 29; (with_reducible refine (fail_calls _ _ _ _).mono ?_); rintro e w1 ⟨rfl, hb⟩; have HB := am hb; clear hb)
     exact ⟨rfl, Ends.no HX.out ((HO.out.drewN _).drawn HB.out)⟩
  ·have hge : w.size = k := by omega
   have HX := am (HE.out.trans (show _ = Out.val () (p + k) by rw [List.drop_of_length_le (by rw [size_data]; omega)]; rfl))
   go_wp2
   go_end0
   exact Ends.ok HX.out rfl HR.out HO.out
theorem litE_le (l : List UInt8) (i : Nat) (h : i ≤ l.length) : (litE l i).1 ≤ l.length := by
 by_cases hq : l[i]? = some 101 ∨ l[i]? = some 69
 ·have hlt : i + 1 ≤ l.length := by rcases hq with h | h <;> exact (List.getElem?_eq_some_iff.1 h).1
  rw [litE_yes _ _ hq]
  by_cases hs : l[i + 1]? = some 43 ∨ l[i + 1]? = some 45
  ·have hlt2 : i + 2 ≤ l.length := by rcases hs with h | h <;> exact (List.getElem?_eq_some_iff.1 h).1
   rw [litX_yes _ _ hs]
   have := digs_len l (i + 2) hlt2
   split <;> simp <;> omega
  ·rw [litX_no _ _ hs]
   have := digs_len l (i + 1) hlt
   split <;> simp <;> omega
 ·rw [litE_no _ _ hq]; exact h
theorem litD_le (l : List UInt8) (i : Nat) (h : i ≤ l.length) : (litD l i).1 ≤ l.length := by
 unfold litD
 by_cases hq : l[i]? = some 46
 ·have hlt : i + 1 ≤ l.length := (List.getElem?_eq_some_iff.1 hq).1
  have := digs_len l (i + 1) hlt
  rw [if_pos hq]
  split
  ·exact hlt
  ·exact litE_le l _ (by omega)
 ·rw [if_neg hq]; exact litE_le l _ h
theorem litF_le (l : List UInt8) : (litF l).1 ≤ l.length := by
 show (if l[lit0 l]? = some 48 then litD l (lit0 l + 1) else if digsF (l.drop (lit0 l)) = 0 then (lit0 l, false) else litD l (lit0 l + digsF (l.drop (lit0 l)))).1 ≤ l.length
 have h0 : lit0 l ≤ l.length := by
  have := lit0_le (bs l)
  rw [bs_size, data_bs] at this
  exact this
 have := digs_len l (lit0 l) h0
 split
 ·rename_i hq
  exact litD_le l _ (List.getElem?_eq_some_iff.1 hq).1
 ·split
  ·exact h0
  ·exact litD_le l _ (by omega)
def textV (t : List UInt8) (v : Value) (_ : World) : Prop := v = .string (bs t)
theorem drop_extract (s : ByteArray) (p : Nat) : (s.extract p s.size).data.toList = s.data.toList.drop p := by
 rw [Lib.extract_data, List.take_of_length_le (by rw [List.length_drop, size_data]; omega)]
set_option maxHeartbeats 2000000 in
theorem number_calls (R : Nat) (s : ByteArray) (p : Nat) (hl : s.size ≤ 9223372036854775806) (hp : p ≤ s.size) (W : World) (h : RdB R s p W) :
  Calls Tryd.prog 41 #[ptr R] W (Ends R s W (numberF s.data.toList p) textV) := by
 have d0 := blk_cell h 0
 have d1 := blk_cell h 1
 dsimp at d0 d1
 have HL := literal_calls (s.extract p s.size) (by rw [ByteArray.size_extract]; omega)
 have hle := litF_le (s.data.toList.drop p)
 rw [List.length_drop, size_data] at hle
 rw [drop_extract] at HL
 have HF := am (show numberF s.data.toList p = if (litF (s.data.toList.drop p)).2 = true then .val ((s.data.toList.drop p).take (litF (s.data.toList.drop p)).1) (p + (litF (s.data.toList.drop p)).1) else if s.data.toList.length ≤ p + (litF (s.data.toList.drop p)).1 then .err 3 s.data.toList.length else .err 44 (p + (litF (s.data.toList.drop p)).1) from rfl)
 generalize hlit : litF (s.data.toList.drop p) = nb at HL hle HF
 obtain ⟨n, b⟩ := nb
 clear hlit
 dsimp at HL hle HF
 have HQ := am HL
 clear HL
 have H := am h
 have h0 : (0 : Int) ≤ (p : Int) := by omega
 have h1 : (p : Int) ≤ (s.size : Int) := by omega
 go_enter Tryd.func41, Tryd.ntmps41
 go_upto_region 1 with fail
 go_cut [3, 4] (fun v3 v4 wc => v3 = .int .i64 n ∧ v4 = .bool b ∧ Aside0 (Below W.heap.size W wc))
 case first =>
  go_region_with ((go_at_call 62; (with_reducible refine (HQ.out _).mono ?_); rintro e w1 ⟨rfl, hb⟩; have HB := am hb; clear hb))
  all_goals (go_wp2_with fail; go_meet; exact ⟨rfl, rfl, ⟨(below_drew1 (Below.refl W.heap.size W)).trans HB.out⟩⟩)
 case rest =>
  obtain ⟨rfl, rfl, HW⟩ := hcut
  have HR := am (H.out.below HW.out)
  have HO := am (On.of_below (Nat.le_of_lt H.out.lt) HW.out)
  clear H HQ d0 d1 h
  have d0 := blk_cell HR.out 0
  have d1 := blk_cell HR.out 1
  have fz := blk_free HR.out 1
  dsimp at d0 d1
  have HR1 := am (HR.out.set ((p + n : Nat) : Int))
  have HO1 := am (HO.out.set 1 (.int .i64 ((p + n : Nat) : Int)))
  rw [show ((p + n : Nat) : Int) = (p : Int) + (n : Int) by omega] at HR1 HO1
  cases b with
  | true =>
   have HE := am (HF.out.trans (if_pos rfl))
   have h2 : (p : Int) ≤ (p : Int) + (n : Int) := by omega
   have h3 : (p : Int) + (n : Int) ≤ (s.size : Int) := by omega
   go_wp2
   go_quiet (fail)
   go_wp2
   go_ret
   have e : s.extract p (p + n) = bs ((s.data.toList.drop p).take n) := by rw [extract_bs, Nat.add_sub_cancel_left]
   exact Ends.ok HE.out (congrArg Value.string e) (HR1.out.drewN nq) (HO1.out.drewN nq)
  | false =>
   have HE := am (HF.out.trans (if_neg (by simp)))
   by_cases hge : s.size ≤ p + n
   ·have HX := am (HE.out.trans (if_pos hge))
    clear HE
    go_wp2_with (go_at_call 39; (with_reducible refine (peek_short R s (p + n) hge _ ?rd).mono ?_); (case rd => exact HR1.out); rintro e w1 ⟨rfl, hb⟩; have HB := am hb; clear hb)
    exact ⟨rfl, Ends.no HX.out (HO1.out.drawn HB.out)⟩
   ·have HX := am (HE.out.trans (if_neg hge))
    have HC := am (show s.data.toList[p + n]? = some (s[p + n]'(by omega)) by rw [List.getElem?_eq_getElem (by rw [size_data]; omega)]; rfl)
    generalize s[p + n]'(by omega) = c at HC
    clear HE
    go_wp2_with (first | (go_at_call 39; (with_reducible refine (peek_ok R s (p + n) c HC.out _ ?rd).mono ?_); (case rd => exact HR1.out); rintro e w1 ⟨rfl, hb⟩; have HB := am hb; have d3 := blk_cell (HR1.out.drawn hb) 1; dsimp at d3; clear hb) | (go_at_call 29; (with_reducible refine (fail_calls _ _ _ _).mono ?_); rintro e w2 ⟨rfl, hb⟩; have HB2 := am hb; clear hb))
    exact ⟨rfl, Ends.no HX.out ((HO1.out.drawn HB.out).drawn HB2.out)⟩
def numV (x : Nat) (v : Value) (_ : World) : Prop := v = .int .i32 x
theorem fourF_short (s : List UInt8) (k x p : Nat) (h : s[p]? = none) : fourF s (k + 1) x p = .err 3 s.length := by simp [fourF, h]
theorem fourF_bad (s : List UInt8) (k x p : Nat) (c : UInt8) (h : s[p]? = some c) (hx : hexF c = none) : fourF s (k + 1) x p = .err 42 p := by simp [fourF, h, hx]
theorem fourF_on (s : List UInt8) (k x p : Nat) (c : UInt8) (d : Nat) (h : s[p]? = some c) (hx : hexF c = some d) : fourF s (k + 1) x p = fourF s k (x * 16 + d) (p + 1) := by simp [fourF, h, hx]
set_option maxHeartbeats 2000000 in
theorem four_calls (R : Nat) (s : ByteArray) (p : Nat) (hl : s.size ≤ 9223372036854775806) (hp : p ≤ s.size) (W : World) (h : RdB R s p W) :
  Calls Tryd.prog 85 #[ptr R] W (Ends R s W (fourF s.data.toList 4 0 p) numV) := by
 go_enter Tryd.func85, Tryd.ntmps85
 go_wp2
 go_loopg [3, 5] 4 (fun g v3 v5 wr => ∃ k x : Nat, v3 = .int .i32 x ∧ v5 = .int .i64 k ∧ k + g = 4 ∧ x < 16 ^ k ∧ p + k ≤ s.size ∧ Aside0 (fourF s.data.toList 4 0 p = fourF s.data.toList g x (p + k)) ∧ Aside0 (RdB R s (p + k : Nat) wr) ∧ Aside0 (On R W wr))
 case atStart => exact ⟨0, 0, rfl, rfl, rfl, by decide, by omega, ⟨rfl⟩, ⟨h⟩, ⟨On.refl _ _⟩⟩
 case round =>
  obtain ⟨k, x, rfl, rfl, hk, hx, hpk, HE, HR, HO⟩ := hrel
  cases gk with
  | zero =>
   obtain rfl : k = 4 := by omega
   have HX := am (HE.out.trans (show _ = Out.val x (p + 4) from rfl))
   go_wp2
   go_ret
   exact Ends.ok HX.out rfl HR.out HO.out
  | succ g =>
   have hx4 : x < 4096 := by
    have : 16 ^ k ≤ 16 ^ 3 := Nat.pow_le_pow_right (by omega) (by omega)
    omega
   have hk4 : (k : Int) < 4 := by omega
   have d1 := blk_cell HR.out 1
   have fz := blk_free HR.out 1
   dsimp at d1
   cases hc : s.data.toList[p + k]? with
   | none =>
    have hps : s.size ≤ p + k := by rw [List.getElem?_eq_none_iff, size_data] at hc; exact hc
    have HX := am (HE.out.trans ((fourF_short _ _ _ _ hc).trans (by rw [size_data])))
    clear hc
    go_wp2_with (go_at_call 39; (with_reducible refine (peek_short R s (p + k) hps _ ?rd).mono ?_); (case rd => exact HR.out); rintro e w1 ⟨rfl, hb⟩; have HB := am hb; clear hb)
    exact ⟨rfl, Ends.no HX.out (HO.out.drawn HB.out)⟩
   | some c =>
    have HC := am hc
    have hpk1 := at_lt' hc
    have hu := c.toNat_lt
    clear hc
    by_cases hA : 48 ≤ c.toNat ∧ c.toNat ≤ 57
    ·have HX := am (HE.out.trans (fourF_on _ _ _ _ _ _ HC.out (by unfold hexF; rw [if_pos hA])))
     have a1 : (48 : Int) ≤ (c.toNat : Int) := by omega
     have a2 : (c.toNat : Int) ≤ 57 := by omega
     go_wp2_with (go_at_call 39; (with_reducible refine (peek_ok R s (p + k) c HC.out _ ?rd).mono ?_); (case rd => exact HR.out); rintro e w1 ⟨rfl, hb⟩; have HB := am hb; have d3 := blk_cell (HR.out.drawn hb) 1; have f3 := blk_free (HR.out.drawn hb) 1; dsimp at d3; clear hb)
     go_roundg g
     case measure => omega
     case rel => exact ⟨k + 1, x * 16 + (c.toNat - 48), congrArg (Value.int .i32) (by omega), congrArg (Value.int .i64) (by omega), by omega, by rw [Nat.pow_succ]; omega, by omega, ⟨by have := HX.out; rw [← Nat.add_assoc]; exact this⟩, ⟨by have e := (HR.out.drawn HB.out).set ((p + k + 1 : Nat) : Int); rw [show ((p + k + 1 : Nat) : Int) = (p : Int) + k + 1 by omega] at e; rw [← Nat.add_assoc, show ((p + k + 1 : Nat) : Int) = (p : Int) + k + 1 by omega]; exact e⟩, ⟨(HO.out.drawn HB.out).set _ _⟩⟩
    ·by_cases hB : 97 ≤ c.toNat ∧ c.toNat ≤ 102
     ·have HX := am (HE.out.trans (fourF_on _ _ _ _ _ _ HC.out (by unfold hexF; rw [if_neg hA, if_pos hB])))
      have a1 : (97 : Int) ≤ (c.toNat : Int) := by omega
      have a2 : (c.toNat : Int) ≤ 102 := by omega
      have a3 : ¬ (c.toNat : Int) ≤ 57 := by omega
      have a4 : (48 : Int) ≤ (c.toNat : Int) := by omega
      have a5 : decide ((c.toNat : Int) ≤ 57) = false := decide_eq_false a3
      go_wp2_with (go_at_call 39; (with_reducible refine (peek_ok R s (p + k) c HC.out _ ?rd).mono ?_); (case rd => exact HR.out); rintro e w1 ⟨rfl, hb⟩; have HB := am hb; have d3 := blk_cell (HR.out.drawn hb) 1; have f3 := blk_free (HR.out.drawn hb) 1; dsimp at d3; clear hb)
      go_roundg g
      case measure => omega
      case rel => exact ⟨k + 1, x * 16 + (c.toNat - 87), congrArg (Value.int .i32) (by omega), congrArg (Value.int .i64) (by omega), by omega, by rw [Nat.pow_succ]; omega, by omega, ⟨by have := HX.out; rw [← Nat.add_assoc]; exact this⟩, ⟨by have e := (HR.out.drawn HB.out).set ((p + k + 1 : Nat) : Int); rw [show ((p + k + 1 : Nat) : Int) = (p : Int) + k + 1 by omega] at e; rw [← Nat.add_assoc, show ((p + k + 1 : Nat) : Int) = (p : Int) + k + 1 by omega]; exact e⟩, ⟨(HO.out.drawn HB.out).set _ _⟩⟩
     ·by_cases hC : 65 ≤ c.toNat ∧ c.toNat ≤ 70
      ·have HX := am (HE.out.trans (fourF_on _ _ _ _ _ _ HC.out (by unfold hexF; rw [if_neg hA, if_neg hB, if_pos hC])))
       have a1 : (65 : Int) ≤ (c.toNat : Int) := by omega
       have a2 : (c.toNat : Int) ≤ 70 := by omega
       have a3 : ¬ (c.toNat : Int) ≤ 57 := by omega
       have a4 : (48 : Int) ≤ (c.toNat : Int) := by omega
       have a5 : ¬ (97 : Int) ≤ (c.toNat : Int) := by omega
       have a6 : decide ((c.toNat : Int) ≤ 57) = false := decide_eq_false a3
       have a7 : decide ((97 : Int) ≤ (c.toNat : Int)) = false := decide_eq_false a5
       go_wp2_with (go_at_call 39; (with_reducible refine (peek_ok R s (p + k) c HC.out _ ?rd).mono ?_); (case rd => exact HR.out); rintro e w1 ⟨rfl, hb⟩; have HB := am hb; have d3 := blk_cell (HR.out.drawn hb) 1; have f3 := blk_free (HR.out.drawn hb) 1; dsimp at d3; clear hb)
       go_roundg g
       case measure => omega
       case rel => exact ⟨k + 1, x * 16 + (c.toNat - 55), congrArg (Value.int .i32) (by omega), congrArg (Value.int .i64) (by omega), by omega, by rw [Nat.pow_succ]; omega, by omega, ⟨by have := HX.out; rw [← Nat.add_assoc]; exact this⟩, ⟨by have e := (HR.out.drawn HB.out).set ((p + k + 1 : Nat) : Int); rw [show ((p + k + 1 : Nat) : Int) = (p : Int) + k + 1 by omega] at e; rw [← Nat.add_assoc, show ((p + k + 1 : Nat) : Int) = (p : Int) + k + 1 by omega]; exact e⟩, ⟨(HO.out.drawn HB.out).set _ _⟩⟩
      ·have HX := am (HE.out.trans (fourF_bad _ _ _ _ _ HC.out (by unfold hexF; rw [if_neg hA, if_neg hB, if_neg hC])))
       go_wp2_with (first | (go_at_call 39; (with_reducible refine (peek_ok R s (p + k) c HC.out _ ?rd).mono ?_); (case rd => exact HR.out); rintro e w1 ⟨rfl, hb⟩; have HB := am hb; have d3 := blk_cell (HR.out.drawn hb) 1; have f3 := blk_free (HR.out.drawn hb) 1; dsimp at d3; clear hb) | (go_at_call 29; (with_reducible refine (fail_calls _ _ _ _).mono ?_); rintro e w2 ⟨rfl, hb⟩; have HB2 := am hb; clear hb))
       all_goals exact ⟨rfl, Ends.no HX.out ((HO.out.drawn HB.out).drawn HB2.out)⟩
end Go.Proofs.YtaalajhmfdcalaaDoor.X
namespace Go.Proofs.YtaalajhmfdcalaaDoor.X
open Go.RowKit Go.Proofs.YtaalajhmfdcalaaDoorW.PrintWords Go.Proofs.YtaalajhmfdcalaaDoorW.PrintLast Go.Proofs.YtaalajhmfdcalaaDoorW.PrintMore
attribute [local go_sem] max2_int min2_int max_two min_two max_three min_three max_four min_four   -- for this text's walks alone
set_option linter.unusedVariables false
set_option linter.unusedSimpArgs false
def jtext_escaped.j0 : Nat → Int → Int → Bool → Option (Int × Bool)
 | 0, _, _, _ => none
 | k + 1, x0, x4, x5 => if x5 = true then (some (wrap32 (x0), true)) else (if x4 = 98 then (some (8, true)) else (if x4 = 102 then (some (12, true)) else (if x4 = 110 then (some (10, true)) else (if x4 = 114 then (some (13, true)) else (if x4 = 116 then (some (9, true)) else (some (0, false)))))))
def jtext_escaped.f (k : Nat) (a0 : Int) : Option (Int × Bool) := if a0 = 34 then (jtext_escaped.j0 k a0 a0 (a0 == 34)) else (if a0 = 92 then (jtext_escaped.j0 k a0 a0 (a0 == 92)) else (jtext_escaped.j0 k a0 a0 (a0 == 47)))
theorem jtext_escaped.mono_l : ∀ k, (∀ y0 y1 y2, LeO (jtext_escaped.j0 k y0 y1 y2) (jtext_escaped.j0 (k + 1) y0 y1 y2))
 | 0 => fun _ _ _ r h => by simp [jtext_escaped.j0] at h
 | k + 1 => by
  have ih0 := jtext_escaped.mono_l k
  ·intro y0 y1 y2
   unfold jtext_escaped.j0
   repeat' first
   | (with_reducible exact ih0 _ _ _)
   | (with_reducible exact LeO.refl _)
   | (with_reducible exact LeO.none _)
   | (with_reducible refine LeO.ite ?_ ?_)
   | (with_reducible refine LeO.bind ?_ (fun _ => ?_))
   | exact ih0 _ _ _
   | exact LeO.none _
   | refine LeO.ite ?_ ?_
   | refine LeO.bind ?_ (fun _ => ?_)
theorem jtext_escaped.mono : ∀ a0 k, LeO (jtext_escaped.f k a0) (jtext_escaped.f (k + 1) a0) := by
 intro a0 k
 have ih0 := jtext_escaped.mono_l k
 unfold jtext_escaped.f
 repeat' first
   | (with_reducible exact ih0 _ _ _)
   | (with_reducible exact LeO.refl _)
   | (with_reducible exact LeO.none _)
   | (with_reducible refine LeO.ite ?_ ?_)
   | (with_reducible refine LeO.bind ?_ (fun _ => ?_))
   | exact ih0 _ _ _
   | exact LeO.none _
   | refine LeO.ite ?_ ?_
   | refine LeO.bind ?_ (fun _ => ?_)
set_option maxHeartbeats 8000000 in
set_option maxRecDepth 100000 in
theorem jtext_escaped.calls (k : Nat) (a0 : Int) (r1 : Int) (r2 : Bool) (w : World) (h : jtext_escaped.f k a0 = some (r1, r2)) :
  Calls Tryd.prog 84 #[.int .u8 a0] w fun e w' => e = .returned (.tuple #[.int .i32 r1, .bool r2]) ∧ Drawn0 w w' := by
 have H : (if a0 = 34 then (jtext_escaped.j0 k a0 a0 (a0 == 34)) else (if a0 = 92 then (jtext_escaped.j0 k a0 a0 (a0 == 92)) else (jtext_escaped.j0 k a0 a0 (a0 == 47)))) = some (r1, r2) := h
 clear h
 have HC2 := am H
 clear H
 go_enter Tryd.func84, Tryd.ntmps84
 go_upto_if 5 with (fail)
 go_cut [5] (fun v5 wc => ∃ (kq : Nat) (x5_1 : Bool), v5 = .bool x5_1 ∧ Aside0 (jtext_escaped.j0 kq a0 a0 x5_1 = some (r1, r2)) ∧ Aside0 (kq ≤ k) ∧ Drawn0 w wc)
 case first =>
  have H := HC2.out
  clear HC2
  by_cases c3 : a0 = 34
  ·rw [if_pos c3] at H
   have c3b0 : (a0 == 34) = true := beq_iff_eq.mpr c3
   have c3b1 : (a0 != 34) = false := bne_eq_false_iff_eq.mpr c3
   clear c3
   (first | rw [c3b0] | (simp only [i64_w, i32_w]; rw [c3b0]) | skip)
   have H' := am H
   clear H
   go_wp2
   go_meet
   case rel => exact ⟨_, ((a0 == 34)), (by first | rfl | (simp; done) | (simp [*]; done)), H', ⟨by first | omega | exact Nat.le_refl _⟩, by repeat (first | exact Drawn0.refl _ | apply Drawn0.step)⟩
  ·rw [if_neg c3] at H
   have c3b0 : (a0 == 34) = false := beq_eq_false_iff_ne.mpr c3
   have c3b1 : (a0 != 34) = true := bne_iff_ne.mpr c3
   (first | rw [c3b0] | (simp only [i64_w, i32_w]; rw [c3b0]) | skip)
   by_cases c4 : a0 = 92
   ·rw [if_pos c4] at H
    have c4b0 : (a0 == 92) = true := beq_iff_eq.mpr c4
    have c4b1 : (a0 != 92) = false := bne_eq_false_iff_eq.mpr c4
    clear c4
    have H' := am H
    clear H
    go_wp2
    go_meet
    case rel => exact ⟨_, ((a0 == 92)), (by first | rfl | (simp; done) | (simp [*]; done)), H', ⟨by first | omega | exact Nat.le_refl _⟩, by repeat (first | exact Drawn0.refl _ | apply Drawn0.step)⟩
   ·rw [if_neg c4] at H
    have c4b0 : (a0 == 92) = false := beq_eq_false_iff_ne.mpr c4
    have c4b1 : (a0 != 92) = true := bne_iff_ne.mpr c4
    have H' := am H
    clear H
    go_wp2
    go_meet
    case rel => exact ⟨_, ((a0 == 47)), (by first | rfl | (simp; done) | (simp [*]; done)), H', ⟨by first | omega | exact Nat.le_refl _⟩, by repeat (first | exact Drawn0.refl _ | apply Drawn0.step)⟩
 case rest =>
  clear HC2
  try clear p2
  try clear c3
  try clear c3b0
  try clear c3b1
  try clear c4
  try clear c4b0
  try clear c4b1
  obtain ⟨kq, x5_1, rfl, HA, HJ1, ⟨mc1, rfl⟩⟩ := hcut
  cases kq with
  | zero => exact absurd HA.out (by simp [jtext_escaped.j0])
  | succ kj1 =>
   have H := HA.out
   clear HA
   simp only [jtext_escaped.j0] at H
   by_cases c5 : x5_1 = true
   ·subst c5
    have H1 : (some (wrap32 (a0), true)) = some (r1, r2) := by rw [if_pos rfl] at H; exact H
    clear H
    have H := H1
    clear H1
    simp only [Option.some.injEq, Prod.mk.injEq] at H
    obtain ⟨rfl, rfl⟩ := H
    go_wp2
    go_ret2
    exact ⟨by first | rfl | (simp; done) | (simp [*]; done), by repeat (first | exact Drawn0.refl _ | apply Drawn0.step)⟩
   ·replace c5 := Bool.eq_false_iff.mpr c5
    subst c5
    have H1 : (if a0 = 98 then (some (8, true)) else (if a0 = 102 then (some (12, true)) else (if a0 = 110 then (some (10, true)) else (if a0 = 114 then (some (13, true)) else (if a0 = 116 then (some (9, true)) else (some (0, false))))))) = some (r1, r2) := by rw [if_neg (show ¬ (false = true) by decide)] at H; exact H
    clear H
    have H := H1
    clear H1
    by_cases c6 : a0 = 98
    ·rw [if_pos c6] at H
     have c6b0 : (a0 == 98) = true := beq_iff_eq.mpr c6
     have c6b1 : (a0 != 98) = false := bne_eq_false_iff_eq.mpr c6
     clear c6
     simp only [Option.some.injEq, Prod.mk.injEq] at H
     obtain ⟨rfl, rfl⟩ := H
     go_wp2
     go_ret2
     exact ⟨by first | rfl | (simp; done) | (simp [*]; done), by repeat (first | exact Drawn0.refl _ | apply Drawn0.step)⟩
    ·rw [if_neg c6] at H
     have c6b0 : (a0 == 98) = false := beq_eq_false_iff_ne.mpr c6
     have c6b1 : (a0 != 98) = true := bne_iff_ne.mpr c6
     by_cases c7 : a0 = 102
     ·rw [if_pos c7] at H
      have c7b0 : (a0 == 102) = true := beq_iff_eq.mpr c7
      have c7b1 : (a0 != 102) = false := bne_eq_false_iff_eq.mpr c7
      clear c7
      simp only [Option.some.injEq, Prod.mk.injEq] at H
      obtain ⟨rfl, rfl⟩ := H
      go_wp2
      go_ret2
      exact ⟨by first | rfl | (simp; done) | (simp [*]; done), by repeat (first | exact Drawn0.refl _ | apply Drawn0.step)⟩
     ·rw [if_neg c7] at H
      have c7b0 : (a0 == 102) = false := beq_eq_false_iff_ne.mpr c7
      have c7b1 : (a0 != 102) = true := bne_iff_ne.mpr c7
      by_cases c8 : a0 = 110
      ·rw [if_pos c8] at H
       have c8b0 : (a0 == 110) = true := beq_iff_eq.mpr c8
       have c8b1 : (a0 != 110) = false := bne_eq_false_iff_eq.mpr c8
       clear c8
       simp only [Option.some.injEq, Prod.mk.injEq] at H
       obtain ⟨rfl, rfl⟩ := H
       go_wp2
       go_ret2
       exact ⟨by first | rfl | (simp; done) | (simp [*]; done), by repeat (first | exact Drawn0.refl _ | apply Drawn0.step)⟩
      ·rw [if_neg c8] at H
       have c8b0 : (a0 == 110) = false := beq_eq_false_iff_ne.mpr c8
       have c8b1 : (a0 != 110) = true := bne_iff_ne.mpr c8
       by_cases c9 : a0 = 114
       ·rw [if_pos c9] at H
        have c9b0 : (a0 == 114) = true := beq_iff_eq.mpr c9
        have c9b1 : (a0 != 114) = false := bne_eq_false_iff_eq.mpr c9
        clear c9
        simp only [Option.some.injEq, Prod.mk.injEq] at H
        obtain ⟨rfl, rfl⟩ := H
        go_wp2
        go_ret2
        exact ⟨by first | rfl | (simp; done) | (simp [*]; done), by repeat (first | exact Drawn0.refl _ | apply Drawn0.step)⟩
       ·rw [if_neg c9] at H
        have c9b0 : (a0 == 114) = false := beq_eq_false_iff_ne.mpr c9
        have c9b1 : (a0 != 114) = true := bne_iff_ne.mpr c9
        by_cases c10 : a0 = 116
        ·rw [if_pos c10] at H
         have c10b0 : (a0 == 116) = true := beq_iff_eq.mpr c10
         have c10b1 : (a0 != 116) = false := bne_eq_false_iff_eq.mpr c10
         clear c10
         simp only [Option.some.injEq, Prod.mk.injEq] at H
         obtain ⟨rfl, rfl⟩ := H
         go_wp2
         go_ret2
         exact ⟨by first | rfl | (simp; done) | (simp [*]; done), by repeat (first | exact Drawn0.refl _ | apply Drawn0.step)⟩
        ·rw [if_neg c10] at H
         have c10b0 : (a0 == 116) = false := beq_eq_false_iff_ne.mpr c10
         have c10b1 : (a0 != 116) = true := bne_iff_ne.mpr c10
         simp only [Option.some.injEq, Prod.mk.injEq] at H
         obtain ⟨rfl, rfl⟩ := H
         go_wp2
         go_ret2
         exact ⟨by first | rfl | (simp; done) | (simp [*]; done), by repeat (first | exact Drawn0.refl _ | apply Drawn0.step)⟩
end Go.Proofs.YtaalajhmfdcalaaDoor.X
namespace Go.Proofs.YtaalajhmfdcalaaDoor.X
open Go.RowKit Go.Proofs.YtaalajhmfdcalaaDoorW.PrintWords
theorem RdB.c0 {R : Nat} {s : ByteArray} {p : Int} {W : World} (h : RdB R s p W) : W.cell? ⟨R, 0, none⟩ = some (.string s) := blk_cell h 0
theorem RdB.c1 {R : Nat} {s : ByteArray} {p : Int} {W : World} (h : RdB R s p W) : W.cell? ⟨R, 1, none⟩ = some (.int .i64 p) := blk_cell h 1
theorem RdB.f1 {R : Nat} {s : ByteArray} {p : Int} {W : World} (h : RdB R s p W) : W.frozen? ⟨R, 1, none⟩ = false := blk_free h 1
set_option maxRecDepth 100000 in
theorem esc_all : ∀ n : Fin 256, jtext_escaped.f 9 (n.val : Int) = some (match escdF (UInt8.ofNat n.val) with | some x => ((x : Int), true) | none => (0, false)) := by decide +kernel
theorem esc_f (c : UInt8) : jtext_escaped.f 9 (c.toNat : Int) = some (match escdF c with | some x => ((x : Int), true) | none => (0, false)) := by
 have h := esc_all ⟨c.toNat, c.toNat_lt⟩
 simp only [UInt8.ofNat_toNat] at h
 exact h
theorem esc_yes (c : UInt8) (x : Nat) (h : escdF c = some x) (w : World) : Calls Tryd.prog 84 #[.int .u8 c.toNat] w fun e w' => e = .returned (.tuple #[.int .i32 x, .bool true]) ∧ Drawn0 w w' :=
 jtext_escaped.calls 9 c.toNat x true w (by rw [esc_f, h])
theorem esc_no (c : UInt8) (h : escdF c = none) (w : World) : Calls Tryd.prog 84 #[.int .u8 c.toNat] w fun e w' => e = .returned (.tuple #[.int .i32 0, .bool false]) ∧ Drawn0 w w' :=
 jtext_escaped.calls 9 c.toNat 0 false w (by rw [esc_f, h])
theorem Calls.val_of {α : Type} {f R : Nat} {s : ByteArray} {W : World} {args : Array Value} {o : Out α} {val : α → Value → World → Prop} {a : α} {q : Nat} (h : Calls Tryd.prog f args W (Ends R s W o val)) (ho : o = .val a q) :
  Calls Tryd.prog f args W fun x W' => ∃ v, x = .returned v ∧ val a v W' ∧ RdB R s q W' ∧ On R W W' :=
 h.mono fun x W' ⟨h1, h2⟩ => by
  subst ho
  obtain ⟨v, h3, h4, h5⟩ := h2
  exact ⟨v, h3, h4, h5, h1⟩
theorem Calls.err_of {α : Type} {f R : Nat} {s : ByteArray} {W : World} {args : Array Value} {o : Out α} {val : α → Value → World → Prop} {e q : Nat} (h : Calls Tryd.prog f args W (Ends R s W o val)) (ho : o = .err e q) :
  Calls Tryd.prog f args W fun x W' => x = pan e q ∧ On R W W' :=
 h.mono fun x W' ⟨h1, h2⟩ => by
  subst ho
  exact ⟨h2, h1⟩
theorem hexF_lt (c : UInt8) (d : Nat) (h : hexF c = some d) : d < 16 := by
 unfold hexF at h
 split at h
 ·injection h with h; omega
 ·split at h
  ·injection h with h; omega
  ·split at h
   ·injection h with h; omega
   ·cases h
theorem fourF_val (s : List UInt8) : ∀ (k x p y q : Nat), fourF s k x p = .val y q → q = p + k ∧ (p ≤ s.length → q ≤ s.length) ∧ y < (x + 1) * 16 ^ k
 | 0, x, p, y, q, h => by
  simp only [fourF, Out.val.injEq] at h
  obtain ⟨rfl, rfl⟩ := h
  exact ⟨rfl, fun h => h, by omega⟩
 | k + 1, x, p, y, q, h => by
  cases hc : s[p]? with
  | none => rw [fourF_short _ _ _ _ hc] at h; cases h
  | some c =>
   have hlt := (List.getElem?_eq_some_iff.1 hc).1
   cases hx : hexF c with
   | none => rw [fourF_bad _ _ _ _ _ hc hx] at h; cases h
   | some d =>
    rw [fourF_on _ _ _ _ _ _ hc hx] at h
    obtain ⟨h1, h2, h3⟩ := fourF_val s k _ _ _ _ h
    have hd := hexF_lt c d hx
    refine ⟨by omega, fun _ => h2 (by omega), ?_⟩
    have : (x * 16 + d + 1) * 16 ^ k ≤ ((x + 1) * 16) * 16 ^ k := Nat.mul_le_mul_right _ (by omega)
    rw [Nat.pow_succ]
    calc y < (x * 16 + d + 1) * 16 ^ k := h3
     _ ≤ ((x + 1) * 16) * 16 ^ k := this
     _ = (x + 1) * (16 ^ k * 16) := by rw [Nat.mul_assoc, Nat.mul_comm 16]
def pairF (s : List UInt8) (p x q : Nat) : Out Nat :=
 match mustF s p [92, 117] q with
 | .err e p => .err e p
 | .val _ p' => match fourF s 4 0 p' with
  | .err e p => .err e p
  | .val y p2 => if y < 0xdc00 ∨ 0xdfff < y then .err 43 p else .val (0x10000 + (x - 0xd800) * 0x400 + (y - 0xdc00)) p2
theorem drawn_heap {w w1 : World} (h : Drawn0 w w1) {b : Nat} : w1.heap[b]? = w.heap[b]? := by
 obtain ⟨n, rfl⟩ := h
 rfl
theorem blk_cellF {w : World} {b : Nat} {c : Array Value} {t : TypeId} {f : Nat × Nat} (h : w.heap[b]? = some (.cells c t f)) (k : Nat) : w.cell? ⟨b, k, none⟩ = c[k]? := by simp [World.cell?, h]
theorem mustF_short (s w : List UInt8) (f p : Nat) (c : UInt8) (h : s[p]? = none) : mustF s f (c :: w) p = .err 3 s.length := by simp [mustF, h]
theorem mustF_bad (s w : List UInt8) (f p : Nat) (c x : UInt8) (h : s[p]? = some x) (hx : x ≠ c) : mustF s f (c :: w) p = .err 43 f := by simp [mustF, h, hx]
theorem mustF_on (s w : List UInt8) (f p : Nat) (c : UInt8) (h : s[p]? = some c) : mustF s f (c :: w) p = mustF s f w (p + 1) := by simp [mustF, h]
set_option maxRecDepth 1000000 in
set_option maxHeartbeats 4000000 in
theorem escape_calls (R : Nat) (s : ByteArray) (p : Nat) (hl : s.size ≤ 9223372036854775800) (hp : p < s.size) (W : World) (h : RdB R s p W) :
  Calls Tryd.prog 64 #[ptr R] W (Ends R s W (escF s.data.toList p) numV) := by
 have HR1 := am (show RdB R s ((p + 1 : Nat) : Int) (W.setCell ⟨R, 1, none⟩ (.int .i64 ((p : Int) + 1))) from h.set _)
 have HO1 := am ((On.refl R W).set 1 (.int .i64 ((p : Int) + 1)))
 have c0 := h.c1
 have f0 := h.f1
 cases hc : s.data.toList[p + 1]? with
 | none =>
  have hps : s.size ≤ p + 1 := by rw [List.getElem?_eq_none_iff, size_data] at hc; exact hc
  have HX := am (show escF s.data.toList p = .err 3 s.size by rw [← size_data s]; simp only [escF, hc])
  clear hc
  go_enter Tryd.func64, Tryd.ntmps64
  go_wp2_with (go_at_call 39; (with_reducible refine (peek_short R s (p + 1) hps _ ?rd).mono ?_); (case rd => exact HR1.out); rintro e w1 ⟨rfl, hb⟩; have HB := am hb; clear hb)
  exact ⟨rfl, Ends.no HX.out (HO1.out.drawn HB.out)⟩
 | some c =>
  have HC := am hc
  have hu := c.toNat_lt
  cases hx : escdF c with
  | some x =>
   have HX := am (show escF s.data.toList p = .val x (p + 2) by simp only [escF, hc, hx])
   have HS := am hx
   clear hc hx
   go_enter Tryd.func64, Tryd.ntmps64
   go_wp2_with (first | (go_at_call 39; (with_reducible refine (peek_ok R s (p + 1) c HC.out _ ?rd).mono ?_); (case rd => exact HR1.out); rintro e w1 ⟨rfl, hb⟩; have HB := am hb; clear hb) | (go_at_call 84; (with_reducible refine (esc_yes c x HS.out _).mono ?_); rintro e w2 ⟨rfl, hb⟩; have HR2 := am ((HR1.out.drawn HB.out).drawn hb); have HO2 := am ((HO1.out.drawn HB.out).drawn hb); have c2 := HR2.out.c1; have f2 := HR2.out.f1; clear hb))
   go_ret
   exact Ends.ok HX.out rfl (HR2.out.set _) (HO2.out.set _ _)
  | none =>
   have HS := am hx
   by_cases h117 : c = 117
   ·have hlt2 := at_lt' hc
    have HL2 := am (show p + 2 ≤ s.size by omega)
    have e117 : ((c.toNat : Int) != 117) = false := by rw [h117]; decide
    cases hf : fourF s.data.toList 4 0 (p + 2) with
    | err e q =>
     have HX := am (show escF s.data.toList p = .err e q by simp only [escF, hc, hx, if_pos h117, hf])
     have HF := am hf
     clear hc hx hf h117
     go_enter Tryd.func64, Tryd.ntmps64
     go_wp2_with (first | (go_at_call 39; (with_reducible refine (peek_ok R s (p + 1) c HC.out _ ?rd).mono ?_); (case rd => exact HR1.out); rintro e w1 ⟨rfl, hb⟩; have HB := am hb; clear hb) | (go_at_call 84; (with_reducible refine (esc_no c HS.out _).mono ?_); rintro e w2 ⟨rfl, hb⟩; have HR2 := am ((HR1.out.drawn HB.out).drawn hb); have HO2 := am ((HO1.out.drawn HB.out).drawn hb); have c2 := HR2.out.c1; have f2 := HR2.out.f1; have HR3 := am (show RdB R s ((p + 2 : Nat) : Int) (w2.setCell ⟨R, 1, none⟩ (.int .i64 ((p : Int) + 1 + 1))) from HR2.out.set _); have HO3 := am (HO2.out.set 1 (.int .i64 ((p : Int) + 1 + 1))); clear hb) | (go_at_call 85; (with_reducible refine (Calls.err_of (four_calls R s (p + 2) (by omega) HL2.out _ ?rd) HF.out).mono ?_); (case rd => exact HR3.out); rintro e w4 ⟨rfl, ho⟩; have HO4 := am (HO3.out.trans ho); clear ho))
     exact ⟨rfl, Ends.no HX.out HO4.out⟩
    | val x q =>
     obtain ⟨hq1, hq2, hx3⟩ := fourF_val _ _ _ _ _ _ hf
     have hqs := hq2 (by rw [size_data]; omega)
     rw [size_data] at hqs
     clear hq1 hq2
     have hx4 : x < 65536 := by simpa using hx3
     have HF := am hf
     by_cases hA : 0xdc00 ≤ x ∧ x ≤ 0xdfff
     ·have HX := am (show escF s.data.toList p = .err 43 p by simp only [escF, hc, hx, if_pos h117, hf, if_pos hA])
      clear hc hx hf h117
      have a1 : (56320 : Int) ≤ (x : Int) := by omega
      have a2 : (x : Int) ≤ 57343 := by omega
      go_enter Tryd.func64, Tryd.ntmps64
      go_wp2_with (first | (go_at_call 39; (with_reducible refine (peek_ok R s (p + 1) c HC.out _ ?rd).mono ?_); (case rd => exact HR1.out); rintro e w1 ⟨rfl, hb⟩; have HB := am hb; clear hb) | (go_at_call 84; (with_reducible refine (esc_no c HS.out _).mono ?_); rintro e w2 ⟨rfl, hb⟩; have HR2 := am ((HR1.out.drawn HB.out).drawn hb); have HO2 := am ((HO1.out.drawn HB.out).drawn hb); have c2 := HR2.out.c1; have f2 := HR2.out.f1; have HR3 := am (show RdB R s ((p + 2 : Nat) : Int) (w2.setCell ⟨R, 1, none⟩ (.int .i64 ((p : Int) + 1 + 1))) from HR2.out.set _); have HO3 := am (HO2.out.set 1 (.int .i64 ((p : Int) + 1 + 1))); clear hb) | (go_at_call 85; (with_reducible refine (Calls.val_of (four_calls R s (p + 2) (by omega) HL2.out _ ?rd) HF.out).mono ?_); (case rd => exact HR3.out); rintro e w4 ⟨v, rfl, rfl, hr, ho⟩; have HR4 := am hr; have HO4 := am (HO3.out.trans ho); have c4 := hr.c1; have f4 := hr.f1; clear hr ho) | (go_at_call 29; (with_reducible refine (fail_calls _ _ _ _).mono ?_); rintro e w9 ⟨rfl, hb⟩; have HB9 := am hb; clear hb))
      exact ⟨rfl, Ends.no HX.out (HO4.out.drawn HB9.out)⟩
     ·by_cases hB : 0xd800 ≤ x ∧ x ≤ 0xdbff
      ·have HX := am (show escF s.data.toList p = pairF s.data.toList p x q by simp only [escF, hc, hx, if_pos h117, hf, if_neg hA, if_pos hB]; rfl)
       clear hc hx hf h117
       have a1 : ¬ (56320 : Int) ≤ (x : Int) := by omega
       have a2 : (55296 : Int) ≤ (x : Int) := by omega
       have a3 : (x : Int) ≤ 56319 := by omega
       have a4 : decide ((56320 : Int) ≤ (x : Int)) = false := decide_eq_false a1
       have kc := fun (w : World) (C : Array Value) (n c : Nat) => Lib.run_convert_bytes_const (P := Tryd.prog) w 58 5 C n c Tryd.underlying58 Tryd.underlying5
       go_enter Tryd.func64, Tryd.ntmps64
       go_wp2_with (first | (go_at_call 39; (with_reducible refine (peek_ok R s (p + 1) c HC.out _ ?rd).mono ?_); (case rd => exact HR1.out); rintro e w1 ⟨rfl, hb⟩; have HB := am hb; clear hb) | (go_at_call 84; (with_reducible refine (esc_no c HS.out _).mono ?_); rintro e w2 ⟨rfl, hb⟩; have HR2 := am ((HR1.out.drawn HB.out).drawn hb); have HO2 := am ((HO1.out.drawn HB.out).drawn hb); have c2 := HR2.out.c1; have f2 := HR2.out.f1; have HR3 := am (show RdB R s ((p + 2 : Nat) : Int) (w2.setCell ⟨R, 1, none⟩ (.int .i64 ((p : Int) + 1 + 1))) from HR2.out.set _); have HO3 := am (HO2.out.set 1 (.int .i64 ((p : Int) + 1 + 1))); clear hb) | (go_at_call 85; (with_reducible refine (Calls.val_of (four_calls R s (p + 2) (by omega) HL2.out _ ?rd) HF.out).mono ?_); (case rd => exact HR3.out); rintro e w4 ⟨v, rfl, rfl, hr, ho⟩; have HR4 := am hr; have HO4 := am (HO3.out.trans ho); have c4 := hr.c1; have f4 := hr.f1; clear hr ho))
       have hRB : w4.heap.size ≠ R := by have := HR4.out.lt; omega
       have HB0 := am (show (w4.alloc (Obj.cells #[Value.int IntKind.u8 92, Value.int IntKind.u8 117] 5 (2, 3))).heap[w4.heap.size]? = some (Obj.cells #[Value.int IntKind.u8 92, Value.int IntKind.u8 117] 5 (2, 3)) from heap_alloc_new _ _)
       have HR7 := am (show RdB R s (q : Nat) (w4.alloc (Obj.cells #[Value.int IntKind.u8 92, Value.int IntKind.u8 117] 5 (2, 3))) from HR4.out.below (below_alloc (Below.refl _ _) _))
       have HO7 := am (HO4.out.trans (On.of_below (Nat.le_of_lt HR4.out.lt) (below_alloc (Below.refl _ _) (Obj.cells #[Value.int IntKind.u8 92, Value.int IntKind.u8 117] 5 (2, 3)))))
       go_loopg [75] 2 (fun g v wr => ∃ k : Nat, v = .int .i64 k ∧ k + g = 2 ∧ q + k ≤ s.size ∧ Aside0 (mustF s.data.toList p [92, 117] q = mustF s.data.toList p (([92, 117] : List UInt8).drop k) (q + k)) ∧ Aside0 (RdB R s (q + k : Nat) wr) ∧ Aside0 (On R W wr) ∧ Aside0 (wr.heap[w4.heap.size]? = some (Obj.cells #[Value.int IntKind.u8 92, Value.int IntKind.u8 117] 5 (2, 3))))
       case atStart => exact ⟨0, rfl, rfl, by omega, ⟨rfl⟩, HR7, HO7, HB0⟩
       case round =>
        clear HB0 HR7 HO7 HR4 HO4 c4 f4 c2 f2 HR3 HO3 HR2 HO2 HB
        obtain ⟨k, rfl, hk, hqk, HE, HR, HO, HB⟩ := hrel
        have d0 := blk_cellF HB.out 0
        have d1 := blk_cellF HB.out 1
        have c7 := HR.out.c1
        have f7 := HR.out.f1
        dsimp at d0 d1
        have hk3 : k = 0 ∨ k = 1 ∨ k = 2 := by omega
        rcases hk3 with rfl | rfl | rfl
        ·skip
         cases hc : s.data.toList[q + 0]? with
         | none =>
          have hps : s.size ≤ q + 0 := by rw [List.getElem?_eq_none_iff, size_data] at hc; exact hc
          have HY := am (HX.out.trans (show pairF s.data.toList p x q = .err 3 s.size by unfold pairF; rw [HE.out.trans (mustF_short _ _ _ _ _ hc), size_data]))
          clear hc
          go_wp2_with (go_at_call 39; (with_reducible refine (peek_short R s (q + 0) hps _ ?rd).mono ?_); (case rd => exact HR.out); rintro e w1 ⟨rfl, hb⟩; have HB := am hb; clear hb)
          exact ⟨rfl, Ends.no HY.out (HO.out.drawn HB.out)⟩
         | some c =>
          have HC := am hc
          by_cases hcb : c = 92
          ·have HE1 := am (HE.out.trans (mustF_on s.data.toList [117] p (q + 0) 92 (by rw [hc, hcb])))
           have hpk := at_lt' hc
           have e1 : ((c.toNat : Int) != 92) = false := by rw [hcb]; decide
           clear hc hcb
           go_wp2_with (go_at_call 39; (with_reducible refine (peek_ok R s (q + 0) c HC.out _ ?rd).mono ?_); (case rd => exact HR.out); rintro e w1 ⟨rfl, hb⟩; have HR5 := am (HR.out.drawn hb); have HO5 := am (HO.out.drawn hb); have c5 := HR5.out.c1; have f5 := HR5.out.f1; have HB5 := am ((drawn_heap hb).trans HB.out); clear hb)
           go_roundg 1
           case measure => omega
           case rel => exact ⟨1, by go_num, rfl, by omega, ⟨HE1.out⟩, ⟨HR5.out.set _⟩, ⟨HO5.out.set _ _⟩, ⟨(Below.heap_setCell _ _ _ _ hRB).trans HB5.out⟩⟩
          ·have HY := am (HX.out.trans (show pairF s.data.toList p x q = .err 43 p by unfold pairF; rw [HE.out.trans (mustF_bad _ _ _ _ _ _ hc hcb)]))
           have hne : ¬ (c.toNat : Int) = 92 := fun hh => hcb (UInt8.toNat.inj (by have : (92 : UInt8).toNat = 92 := rfl; omega))
           have e1 : ((c.toNat : Int) != 92) = true := by simp [bne, hne]
           clear hc hcb
           go_wp2_with (first | (go_at_call 39; (with_reducible refine (peek_ok R s (q + 0) c HC.out _ ?rd).mono ?_); (case rd => exact HR.out); rintro e w1 ⟨rfl, hb⟩; have HO5 := am (HO.out.drawn hb); clear hb) | (go_at_call 29; (with_reducible refine (fail_calls _ _ _ _).mono ?_); rintro e w9 ⟨rfl, hb⟩; have HB9 := am hb; clear hb))
           exact ⟨rfl, Ends.no HY.out (HO5.out.drawn HB9.out)⟩
        ·skip
         cases hc : s.data.toList[q + 1]? with
         | none =>
          have hps : s.size ≤ q + 1 := by rw [List.getElem?_eq_none_iff, size_data] at hc; exact hc
          have HY := am (HX.out.trans (show pairF s.data.toList p x q = .err 3 s.size by unfold pairF; rw [HE.out.trans (mustF_short _ _ _ _ _ hc), size_data]))
          clear hc
          go_wp2_with (go_at_call 39; (with_reducible refine (peek_short R s (q + 1) hps _ ?rd).mono ?_); (case rd => exact HR.out); rintro e w1 ⟨rfl, hb⟩; have HB := am hb; clear hb)
          exact ⟨rfl, Ends.no HY.out (HO.out.drawn HB.out)⟩
         | some c =>
          have HC := am hc
          by_cases hcb : c = 117
          ·have HE1 := am (HE.out.trans (mustF_on s.data.toList [] p (q + 1) 117 (by rw [hc, hcb])))
           have hpk := at_lt' hc
           have e1 : ((c.toNat : Int) != 117) = false := by rw [hcb]; decide
           clear hc hcb
           go_wp2_with (go_at_call 39; (with_reducible refine (peek_ok R s (q + 1) c HC.out _ ?rd).mono ?_); (case rd => exact HR.out); rintro e w1 ⟨rfl, hb⟩; have HR5 := am (HR.out.drawn hb); have HO5 := am (HO.out.drawn hb); have c5 := HR5.out.c1; have f5 := HR5.out.f1; have HB5 := am ((drawn_heap hb).trans HB.out); clear hb)
           go_roundg 0
           case measure => omega
           case rel => exact ⟨2, by go_num, rfl, by omega, ⟨HE1.out⟩, ⟨HR5.out.set _⟩, ⟨HO5.out.set _ _⟩, ⟨(Below.heap_setCell _ _ _ _ hRB).trans HB5.out⟩⟩
          ·have HY := am (HX.out.trans (show pairF s.data.toList p x q = .err 43 p by unfold pairF; rw [HE.out.trans (mustF_bad _ _ _ _ _ _ hc hcb)]))
           have hne : ¬ (c.toNat : Int) = 117 := fun hh => hcb (UInt8.toNat.inj (by have : (117 : UInt8).toNat = 117 := rfl; omega))
           have e1 : ((c.toNat : Int) != 117) = true := by simp [bne, hne]
           clear hc hcb
           go_wp2_with (first | (go_at_call 39; (with_reducible refine (peek_ok R s (q + 1) c HC.out _ ?rd).mono ?_); (case rd => exact HR.out); rintro e w1 ⟨rfl, hb⟩; have HO5 := am (HO.out.drawn hb); clear hb) | (go_at_call 29; (with_reducible refine (fail_calls _ _ _ _).mono ?_); rintro e w9 ⟨rfl, hb⟩; have HB9 := am hb; clear hb))
           exact ⟨rfl, Ends.no HY.out (HO5.out.drawn HB9.out)⟩
        ·have HE2 := am (HE.out.trans (show _ = Out.val () (q + 2) from rfl))
         have HL5 := am hqk
         cases hg : fourF s.data.toList 4 0 (q + 2) with
         | err e q2 =>
          have HY := am (HX.out.trans (show pairF s.data.toList p x q = .err e q2 by unfold pairF; rw [HE2.out]; simp only [hg]))
          have HG := am hg
          clear hg
          go_wp2_with (go_at_call 85; (with_reducible refine (Calls.err_of (four_calls R s (q + 2) (by omega) HL5.out _ ?rd) HG.out).mono ?_); (case rd => exact HR.out); rintro e w6 ⟨rfl, ho⟩; have HO6 := am (HO.out.trans ho); clear ho)
          exact ⟨rfl, Ends.no HY.out HO6.out⟩
         | val y q2 =>
          have hy4 : y < 65536 := by simpa using (fourF_val _ _ _ _ _ _ hg).2.2
          have HG := am hg
          have HZ := HX.out.trans (show pairF s.data.toList p x q = if y < 0xdc00 ∨ 0xdfff < y then .err 43 p else .val (0x10000 + (x - 0xd800) * 0x400 + (y - 0xdc00)) q2 by unfold pairF; rw [HE2.out]; simp only [hg])
          clear hg
          by_cases y1 : y < 0xdc00
          ·have HY := am (HZ.trans (if_pos (.inl y1)))
           have b1 : (y : Int) < 56320 := by omega
           clear HZ
           go_wp2_with (first | (go_at_call 85; (with_reducible refine (Calls.val_of (four_calls R s (q + 2) (by omega) HL5.out _ ?rd) HG.out).mono ?_); (case rd => exact HR.out); rintro e w6 ⟨v, rfl, rfl, hr, ho⟩; have HR6 := am hr; have HO6 := am (HO.out.trans ho); clear hr ho) | (go_at_call 29; (with_reducible refine (fail_calls _ _ _ _).mono ?_); rintro e w9 ⟨rfl, hb⟩; have HB9 := am hb; clear hb))
           exact ⟨rfl, Ends.no HY.out (HO6.out.drawn HB9.out)⟩
          ·by_cases y2 : 0xdfff < y
           ·have HY := am (HZ.trans (if_pos (.inr y2)))
            have b1 : ¬ (y : Int) < 56320 := by omega
            have b2 : (57343 : Int) < (y : Int) := by omega
            have b3 : decide ((y : Int) < 56320) = false := decide_eq_false b1
            clear HZ
            go_wp2_with (first | (go_at_call 85; (with_reducible refine (Calls.val_of (four_calls R s (q + 2) (by omega) HL5.out _ ?rd) HG.out).mono ?_); (case rd => exact HR.out); rintro e w6 ⟨v, rfl, rfl, hr, ho⟩; have HR6 := am hr; have HO6 := am (HO.out.trans ho); clear hr ho) | (go_at_call 29; (with_reducible refine (fail_calls _ _ _ _).mono ?_); rintro e w9 ⟨rfl, hb⟩; have HB9 := am hb; clear hb))
            exact ⟨rfl, Ends.no HY.out (HO6.out.drawn HB9.out)⟩
           ·have HY := am (HZ.trans (if_neg (by omega)))
            have b1 : ¬ (y : Int) < 56320 := by omega
            have b2 : ¬ (57343 : Int) < (y : Int) := by omega
            have b3 : decide ((y : Int) < 56320) = false := decide_eq_false b1
            have b4 : decide ((57343 : Int) < (y : Int)) = false := decide_eq_false b2
            clear HZ
            go_wp2_with (go_at_call 85; (with_reducible refine (Calls.val_of (four_calls R s (q + 2) (by omega) HL5.out _ ?rd) HG.out).mono ?_); (case rd => exact HR.out); rintro e w6 ⟨v, rfl, rfl, hr, ho⟩; have HR6 := am hr; have HO6 := am (HO.out.trans ho); clear hr ho)
            go_ret
            exact Ends.ok HY.out (congrArg (Value.int .i32) (by omega)) HR6.out HO6.out
      ·have HX := am (show escF s.data.toList p = .val x q by simp only [escF, hc, hx, if_pos h117, hf, if_neg hA, if_neg hB])
       clear hc hx hf h117
       by_cases a0 : 0xdc00 ≤ x
       ·have a1 : ¬ (x : Int) ≤ 57343 := by omega
        have a2 : (56320 : Int) ≤ (x : Int) := by omega
        have a3 : ¬ (x : Int) ≤ 56319 := by omega
        have a4 : (55296 : Int) ≤ (x : Int) := by omega
        have b1 : decide ((x : Int) ≤ 57343) = false := decide_eq_false a1
        have b3 : decide ((x : Int) ≤ 56319) = false := decide_eq_false a3
        go_enter Tryd.func64, Tryd.ntmps64
        go_wp2_with (first | (go_at_call 39; (with_reducible refine (peek_ok R s (p + 1) c HC.out _ ?rd).mono ?_); (case rd => exact HR1.out); rintro e w1 ⟨rfl, hb⟩; have HB := am hb; clear hb) | (go_at_call 84; (with_reducible refine (esc_no c HS.out _).mono ?_); rintro e w2 ⟨rfl, hb⟩; have HR2 := am ((HR1.out.drawn HB.out).drawn hb); have HO2 := am ((HO1.out.drawn HB.out).drawn hb); have c2 := HR2.out.c1; have f2 := HR2.out.f1; have HR3 := am (show RdB R s ((p + 2 : Nat) : Int) (w2.setCell ⟨R, 1, none⟩ (.int .i64 ((p : Int) + 1 + 1))) from HR2.out.set _); have HO3 := am (HO2.out.set 1 (.int .i64 ((p : Int) + 1 + 1))); clear hb) | (go_at_call 85; (with_reducible refine (Calls.val_of (four_calls R s (p + 2) (by omega) HL2.out _ ?rd) HF.out).mono ?_); (case rd => exact HR3.out); rintro e w4 ⟨v, rfl, rfl, hr, ho⟩; have HR4 := am hr; have HO4 := am (HO3.out.trans ho); have c4 := hr.c1; have f4 := hr.f1; clear hr ho))
        go_ret
        exact Ends.ok HX.out rfl HR4.out HO4.out
       ·have a1 : ¬ (55296 : Int) ≤ (x : Int) := by omega
        have a2 : ¬ (56320 : Int) ≤ (x : Int) := by omega
        have b1 : decide ((55296 : Int) ≤ (x : Int)) = false := decide_eq_false a1
        have b2 : decide ((56320 : Int) ≤ (x : Int)) = false := decide_eq_false a2
        go_enter Tryd.func64, Tryd.ntmps64
        go_wp2_with (first | (go_at_call 39; (with_reducible refine (peek_ok R s (p + 1) c HC.out _ ?rd).mono ?_); (case rd => exact HR1.out); rintro e w1 ⟨rfl, hb⟩; have HB := am hb; clear hb) | (go_at_call 84; (with_reducible refine (esc_no c HS.out _).mono ?_); rintro e w2 ⟨rfl, hb⟩; have HR2 := am ((HR1.out.drawn HB.out).drawn hb); have HO2 := am ((HO1.out.drawn HB.out).drawn hb); have c2 := HR2.out.c1; have f2 := HR2.out.f1; have HR3 := am (show RdB R s ((p + 2 : Nat) : Int) (w2.setCell ⟨R, 1, none⟩ (.int .i64 ((p : Int) + 1 + 1))) from HR2.out.set _); have HO3 := am (HO2.out.set 1 (.int .i64 ((p : Int) + 1 + 1))); clear hb) | (go_at_call 85; (with_reducible refine (Calls.val_of (four_calls R s (p + 2) (by omega) HL2.out _ ?rd) HF.out).mono ?_); (case rd => exact HR3.out); rintro e w4 ⟨v, rfl, rfl, hr, ho⟩; have HR4 := am hr; have HO4 := am (HO3.out.trans ho); have c4 := hr.c1; have f4 := hr.f1; clear hr ho))
        go_ret
        exact Ends.ok HX.out rfl HR4.out HO4.out
   ·have HX := am (show escF s.data.toList p = .err 42 (p + 1) by simp only [escF, hc, hx, if_neg h117])
    have hne : ¬ (c.toNat : Int) = 117 := fun hh => h117 (UInt8.toNat.inj (by have : (117 : UInt8).toNat = 117 := rfl; omega))
    have e117 : ((c.toNat : Int) != 117) = true := by simp [bne, hne]
    clear hc hx h117
    go_enter Tryd.func64, Tryd.ntmps64
    go_wp2_with (first | (go_at_call 39; (with_reducible refine (peek_ok R s (p + 1) c HC.out _ ?rd).mono ?_); (case rd => exact HR1.out); rintro e w1 ⟨rfl, hb⟩; have HB := am hb; clear hb) | (go_at_call 84; (with_reducible refine (esc_no c HS.out _).mono ?_); rintro e w2 ⟨rfl, hb⟩; have HR2 := am ((HR1.out.drawn HB.out).drawn hb); have HO2 := am ((HO1.out.drawn HB.out).drawn hb); have c2 := HR2.out.c1; have f2 := HR2.out.f1; have HR3 := am (show RdB R s ((p + 2 : Nat) : Int) (w2.setCell ⟨R, 1, none⟩ (.int .i64 ((p : Int) + 1 + 1))) from HR2.out.set _); have HO3 := am (HO2.out.set 1 (.int .i64 ((p : Int) + 1 + 1))); clear hb) | (go_at_call 29; (with_reducible refine (fail_calls _ _ _ _).mono ?_); rintro e w9 ⟨rfl, hb⟩; have HB9 := am hb; clear hb))
    exact ⟨rfl, Ends.no HX.out (HO2.out.drawn HB9.out)⟩
end Go.Proofs.YtaalajhmfdcalaaDoor.X
namespace Go.Proofs
open Go.Shelf Go.RowKit
def Tryd.lays242_ren : Go.Shelf.Ren := ⟨fun | 242 => 63 | 278 => 83 | n => n, fun | 4 => 4 | 5 => 5 | 21 => 21 | 37 => 58 | 46 => 106 | 51 => 114 | n => n, fun  | n => n⟩
theorem Tryd.lays242 : Go.Proofs.Lays.n242 Tryd.prog Tryd.lays242_ren := {
 mixed := by kernel_rfl
 f242 := Tryd.func63.trans (congrArg some (by kernel_rfl))
 f278 := Tryd.func83.trans (congrArg some (by kernel_rfl))
 t4 := Tryd.underlying4
 a4 := Tryd.isAgg4
 z4 := Tryd.sizeOf4
 v4 := Tryd.zeroValue4
 t5 := Tryd.underlying5
 a5 := Tryd.isAgg5
 z5 := Tryd.sizeOf5
 v5 := Tryd.zeroValue5
 t21 := Tryd.underlying21
 a21 := Tryd.isAgg21
 z21 := Tryd.sizeOf21
 v21 := Tryd.zeroValue21
 t37 := Tryd.underlying58
 a37 := Tryd.isAgg58
 z37 := Tryd.sizeOf58
 v37 := Tryd.zeroValue58
 t46 := Tryd.underlying106
 a46 := Tryd.isAgg106
 z46 := Tryd.sizeOf106
 v46 := Tryd.zeroValue106
 t51 := Tryd.underlying114
 a51 := Tryd.isAgg114
 z51 := Tryd.sizeOf114
 v51 := Tryd.zeroValue114 }
def Tryd.lays197_ren : Go.Shelf.Ren := ⟨fun | 197 => 65 | 260 => 86 | n => n, fun | 0 => 0 | 3 => 3 | 4 => 4 | 5 => 5 | 9 => 9 | 21 => 21 | 46 => 106 | 105 => 94 | 119 => 117 | 138 => 119 | 139 => 120 | n => n, fun | 3 => 1 | 4 => 2 | n => n⟩
theorem Tryd.lays197 : Go.Proofs.Lays.n197 Tryd.prog Tryd.lays197_ren := {
 mixed := by kernel_rfl
 f197 := Tryd.func65.trans (congrArg some (by kernel_rfl))
 f260 := Tryd.func86.trans (congrArg some (by kernel_rfl))
 t0 := Tryd.underlying0
 a0 := Tryd.isAgg0
 z0 := Tryd.sizeOf0
 v0 := Tryd.zeroValue0
 t3 := Tryd.underlying3
 a3 := Tryd.isAgg3
 z3 := Tryd.sizeOf3
 v3 := Tryd.zeroValue3
 t4 := Tryd.underlying4
 a4 := Tryd.isAgg4
 z4 := Tryd.sizeOf4
 v4 := Tryd.zeroValue4
 t5 := Tryd.underlying5
 a5 := Tryd.isAgg5
 z5 := Tryd.sizeOf5
 v5 := Tryd.zeroValue5
 t9 := Tryd.underlying9
 a9 := Tryd.isAgg9
 z9 := Tryd.sizeOf9
 v9 := Tryd.zeroValue9
 t21 := Tryd.underlying21
 a21 := Tryd.isAgg21
 z21 := Tryd.sizeOf21
 v21 := Tryd.zeroValue21
 t46 := Tryd.underlying106
 a46 := Tryd.isAgg106
 z46 := Tryd.sizeOf106
 v46 := Tryd.zeroValue106
 t105 := Tryd.underlying94
 a105 := Tryd.isAgg94
 z105 := Tryd.sizeOf94
 v105 := Tryd.zeroValue94
 t119 := Tryd.underlying117
 a119 := Tryd.isAgg117
 z119 := Tryd.sizeOf117
 t138 := Tryd.underlying119
 a138 := Tryd.isAgg119
 z138 := Tryd.sizeOf119
 v138 := Tryd.zeroValue119
 t139 := Tryd.underlying120
 a139 := Tryd.isAgg120
 z139 := Tryd.sizeOf120
 v139 := Tryd.zeroValue120
 g3 := by kernel_rfl
 g4 := by kernel_rfl }
end Go.Proofs
namespace Go.Proofs.YtaalajhmfdcalaaDoor.X
open Go.RowKit Go.Lib Go.Proofs.YtaalajhmfdcalaaDoorW.PrintWords
abbrev Tabs (W : World) : Prop := Lib.Utf8Tabs 1 2 W
def fullN (n x1 x2 sz lo hi : Nat) : Bool := if sz ≤ n then true else if 1 < n ∧ (x1 < lo ∨ hi < x1) then true else if 2 < n ∧ (x2 < 128 ∨ 191 < x2) then true else false
def fullG (l : List UInt8) : Bool :=
 match l with
 | [] => false
 | c :: _ => fullN l.length (l.getD 1 0).toNat (l.getD 2 0).toNat (firstT c.toNat % 8) (accLo (firstT c.toNat / 16)) (accHi (firstT c.toNat / 16))
theorem getD_at (s : ByteArray) (k : Nat) (h : k < s.size) : s.data.toList.getD k 0 = s[k]'h := by
 rw [List.getD_eq_getElem?_getD, List.getElem?_eq_getElem (by rw [size_data]; exact h)]
 rfl
theorem fullG_eq (s : ByteArray) (h : 0 < s.size) : fullG s.data.toList = fullN s.size (s.data.toList.getD 1 0).toNat (s.data.toList.getD 2 0).toNat (firstT (s[0]'h).toNat % 8) (accLo (firstT (s[0]'h).toNat / 16)) (accHi (firstT (s[0]'h).toNat / 16)) := by
 have e := getD_at s 0 h
 have hs := size_data s
 cases hl : s.data.toList with
 | nil => rw [hl] at hs; simp at hs; omega
 | cons c r =>
  rw [hl] at e
  have e : c = s[0]'h := e
  unfold fullG
  rw [← e, ← hs, hl]
set_option maxHeartbeats 4000000 in
set_option maxRecDepth 1000000 in
theorem fullRune_calls (s : ByteArray) (w : World) (hT : Tabs w) :
  Calls Tryd.prog 66 #[.string s] w fun e w' => e = .returned (.bool (fullG s.data.toList)) ∧ Below w.heap.size w w' := by
 by_cases h0 : s.size = 0
 ·have hz : (s.size : Int) = 0 := by omega
  have hG : fullG s.data.toList = false := by
   have := size_data s
   cases hl : s.data.toList with
   | nil => rfl
   | cons c r => rw [hl] at this; simp at this; omega
  have HG := am hG
  clear hG
  go_enter Tryd.func66, Tryd.ntmps66
  go_wp2
  go_ret
  exact ⟨by rw [HG.out]; rfl, Below.refl _ _⟩
 ·have hz0 : (0 : Int) < (s.size : Int) := by omega
  have hzn : ¬ (s.size : Int) = 0 := by omega
  have HG := am (fullG_eq s (by omega))
  obtain ⟨x0, hx0⟩ : ∃ x0, s[0]'(by omega) = x0 := ⟨_, rfl⟩
  obtain ⟨x1, hx1⟩ : ∃ x1, s.data.toList.getD 1 0 = x1 := ⟨_, rfl⟩
  obtain ⟨x2, hx2⟩ : ∃ x2, s.data.toList.getD 2 0 = x2 := ⟨_, rfl⟩
  rw [hx0, hx1, hx2] at HG
  have l0 := x0.toNat_lt; have l1 := x1.toNat_lt; have l2 := x2.toNat_lt
  have hc0 := hT.1 x0.toNat (by omega)
  have s1 : ∀ h : 1 < s.size, s[1]'h = x1 := fun h => by rw [← hx1]; exact (getD_at s 1 h).symm
  have s2 : ∀ h : 2 < s.size, s[2]'h = x2 := fun h => by rw [← hx2]; exact (getD_at s 2 h).symm
  have S1 := am s1
  have S2 := am s2
  clear s1 s2 hx1 hx2
  have HX := firstT_cases x0.toNat
  rcases HX with hX | hX | hX | hX | hX | hX | hX | hX | hX
  ·rw [hX] at HG hc0
   have HG1 := am (HG.out.trans (show fullN _ _ _ (240 % 8) _ _ = true by unfold fullN; rw [if_pos (by omega)]))
   clear hT HG hX
   go_enter Tryd.func66, Tryd.ntmps66
   go_wp2
   go_ret
   exact ⟨by rw [HG1.out]; rfl, Below.refl _ _⟩
  ·rw [hX] at HG hc0
   have HG1 := am (HG.out.trans (show fullN _ _ _ (241 % 8) _ _ = true by unfold fullN; rw [if_pos (by omega)]))
   clear hT HG hX
   go_enter Tryd.func66, Tryd.ntmps66
   go_wp2
   go_ret
   exact ⟨by rw [HG1.out]; rfl, Below.refl _ _⟩
  ·rw [hX] at HG hc0
   have ha0 : w.cell? ⟨2, 0, none⟩ = some (.int .u8 128) := (hT.2 0 (by omega)).1
   have ha1 : w.cell? ⟨2, 1, none⟩ = some (.int .u8 191) := (hT.2 0 (by omega)).2
   have HG2 := am (HG.out.trans (show fullN _ _ _ (2 % 8) (accLo (2 / 16)) (accHi (2 / 16)) = fullN s.size x1.toNat x2.toNat 2 128 191 from rfl))
   clear hT HG hX
   by_cases hsz : 2 ≤ s.size
   ·have HG1 := am (HG2.out.trans (by unfold fullN; rw [if_pos hsz]))
    have hz1 : (2 : Int) ≤ (s.size : Int) := by omega
    go_enter Tryd.func66, Tryd.ntmps66
    go_wp2
    go_ret
    exact ⟨by rw [HG1.out]; rfl, by repeat (first | exact Below.refl _ _ | apply below_drewN | apply below_drew1 | apply below_alloc)⟩
   ·have hzs : ¬ (2 : Int) ≤ (s.size : Int) := by omega
    by_cases h1 : s.size = 1
    ·have HG1 := am (HG2.out.trans (show _ = false by unfold fullN; rw [if_neg hsz, if_neg (by omega), if_neg (by omega)]))
     have g1 : (s.size : Int) = 1 := by omega
     clear hsz h0 h1 hzs hzn
     go_enter Tryd.func66, Tryd.ntmps66
     go_wp2_with fail
     go_quiet (fail)
     go_wp2
     go_ret
     exact ⟨by rw [HG1.out]; rfl, by repeat (first | exact Below.refl _ _ | apply below_drewN | apply below_drew1 | apply below_alloc)⟩
    ·omega
  ·rw [hX] at HG hc0
   have ha0 : w.cell? ⟨2, 2, none⟩ = some (.int .u8 160) := (hT.2 1 (by omega)).1
   have ha1 : w.cell? ⟨2, 3, none⟩ = some (.int .u8 191) := (hT.2 1 (by omega)).2
   have HG2 := am (HG.out.trans (show fullN _ _ _ (19 % 8) (accLo (19 / 16)) (accHi (19 / 16)) = fullN s.size x1.toNat x2.toNat 3 160 191 from rfl))
   clear hT HG hX
   by_cases hsz : 3 ≤ s.size
   ·have HG1 := am (HG2.out.trans (by unfold fullN; rw [if_pos hsz]))
    have hz1 : (3 : Int) ≤ (s.size : Int) := by omega
    go_enter Tryd.func66, Tryd.ntmps66
    go_wp2
    go_ret
    exact ⟨by rw [HG1.out]; rfl, by repeat (first | exact Below.refl _ _ | apply below_drewN | apply below_drew1 | apply below_alloc)⟩
   ·have hzs : ¬ (3 : Int) ≤ (s.size : Int) := by omega
    by_cases h1 : s.size = 1
    ·have HG1 := am (HG2.out.trans (show _ = false by unfold fullN; rw [if_neg hsz, if_neg (by omega), if_neg (by omega)]))
     have g1 : (s.size : Int) = 1 := by omega
     clear hsz h0 h1 hzs hzn
     go_enter Tryd.func66, Tryd.ntmps66
     go_wp2_with fail
     go_quiet (fail)
     go_wp2
     go_ret
     exact ⟨by rw [HG1.out]; rfl, by repeat (first | exact Below.refl _ _ | apply below_drewN | apply below_drew1 | apply below_alloc)⟩
    ·have k1 : (1 : Int) < (s.size : Int) := by omega
     have k2 : decide ((1 : Int) < (s.size : Int)) = true := decide_eq_true k1
     have hs1 := S1.out (by omega)
     by_cases hlo : x1.toNat < 160
     ·have HG1 := am (HG2.out.trans (show _ = true by unfold fullN; rw [if_neg hsz, if_pos (by omega)]))
      have q1 : (x1.toNat : Int) < 160 := by omega
      have q2 : decide ((x1.toNat : Int) < 160) = true := decide_eq_true q1
      clear h1
      go_enter Tryd.func66, Tryd.ntmps66
      go_wp2_with fail
      go_quiet (fail)
      go_wp2
      go_ret
      exact ⟨by rw [HG1.out]; rfl, by repeat (first | exact Below.refl _ _ | apply below_drewN | apply below_drew1 | apply below_alloc)⟩
     ·have q1 : ¬ (x1.toNat : Int) < 160 := by omega
      have q2 : decide ((x1.toNat : Int) < 160) = false := decide_eq_false q1
      have q3 : decide (x1.toNat < 160) = false := decide_eq_false hlo
      by_cases hhi : 191 < x1.toNat
      ·have HG1 := am (HG2.out.trans (show _ = true by unfold fullN; rw [if_neg hsz, if_pos (by omega)]))
       have r1 : (191 : Int) < (x1.toNat : Int) := by omega
       have r2 : decide ((191 : Int) < (x1.toNat : Int)) = true := decide_eq_true r1
       clear h1
       go_enter Tryd.func66, Tryd.ntmps66
       go_wp2_with fail
       go_quiet (fail)
       go_wp2
       go_ret
       exact ⟨by rw [HG1.out]; rfl, by repeat (first | exact Below.refl _ _ | apply below_drewN | apply below_drew1 | apply below_alloc)⟩
      ·have r1 : ¬ (191 : Int) < (x1.toNat : Int) := by omega
       have r2 : decide ((191 : Int) < (x1.toNat : Int)) = false := decide_eq_false r1
       have r3 : decide (191 < x1.toNat) = false := decide_eq_false hhi
       have HG1 := am (HG2.out.trans (show _ = false by unfold fullN; rw [if_neg hsz, if_neg (by omega), if_neg (by omega)]))
       have g2 : (s.size : Int) = 2 := by omega
       clear h1
       go_enter Tryd.func66, Tryd.ntmps66
       go_wp2_with fail
       go_quiet (fail)
       go_wp2
       go_ret
       exact ⟨by rw [HG1.out]; rfl, by repeat (first | exact Below.refl _ _ | apply below_drewN | apply below_drew1 | apply below_alloc)⟩
  ·rw [hX] at HG hc0
   have ha0 : w.cell? ⟨2, 0, none⟩ = some (.int .u8 128) := (hT.2 0 (by omega)).1
   have ha1 : w.cell? ⟨2, 1, none⟩ = some (.int .u8 191) := (hT.2 0 (by omega)).2
   have HG2 := am (HG.out.trans (show fullN _ _ _ (3 % 8) (accLo (3 / 16)) (accHi (3 / 16)) = fullN s.size x1.toNat x2.toNat 3 128 191 from rfl))
   clear hT HG hX
   by_cases hsz : 3 ≤ s.size
   ·have HG1 := am (HG2.out.trans (by unfold fullN; rw [if_pos hsz]))
    have hz1 : (3 : Int) ≤ (s.size : Int) := by omega
    go_enter Tryd.func66, Tryd.ntmps66
    go_wp2
    go_ret
    exact ⟨by rw [HG1.out]; rfl, by repeat (first | exact Below.refl _ _ | apply below_drewN | apply below_drew1 | apply below_alloc)⟩
   ·have hzs : ¬ (3 : Int) ≤ (s.size : Int) := by omega
    by_cases h1 : s.size = 1
    ·have HG1 := am (HG2.out.trans (show _ = false by unfold fullN; rw [if_neg hsz, if_neg (by omega), if_neg (by omega)]))
     have g1 : (s.size : Int) = 1 := by omega
     clear hsz h0 h1 hzs hzn
     go_enter Tryd.func66, Tryd.ntmps66
     go_wp2_with fail
     go_quiet (fail)
     go_wp2
     go_ret
     exact ⟨by rw [HG1.out]; rfl, by repeat (first | exact Below.refl _ _ | apply below_drewN | apply below_drew1 | apply below_alloc)⟩
    ·have k1 : (1 : Int) < (s.size : Int) := by omega
     have k2 : decide ((1 : Int) < (s.size : Int)) = true := decide_eq_true k1
     have hs1 := S1.out (by omega)
     by_cases hlo : x1.toNat < 128
     ·have HG1 := am (HG2.out.trans (show _ = true by unfold fullN; rw [if_neg hsz, if_pos (by omega)]))
      have q1 : (x1.toNat : Int) < 128 := by omega
      have q2 : decide ((x1.toNat : Int) < 128) = true := decide_eq_true q1
      clear h1
      go_enter Tryd.func66, Tryd.ntmps66
      go_wp2_with fail
      go_quiet (fail)
      go_wp2
      go_ret
      exact ⟨by rw [HG1.out]; rfl, by repeat (first | exact Below.refl _ _ | apply below_drewN | apply below_drew1 | apply below_alloc)⟩
     ·have q1 : ¬ (x1.toNat : Int) < 128 := by omega
      have q2 : decide ((x1.toNat : Int) < 128) = false := decide_eq_false q1
      have q3 : decide (x1.toNat < 128) = false := decide_eq_false hlo
      by_cases hhi : 191 < x1.toNat
      ·have HG1 := am (HG2.out.trans (show _ = true by unfold fullN; rw [if_neg hsz, if_pos (by omega)]))
       have r1 : (191 : Int) < (x1.toNat : Int) := by omega
       have r2 : decide ((191 : Int) < (x1.toNat : Int)) = true := decide_eq_true r1
       clear h1
       go_enter Tryd.func66, Tryd.ntmps66
       go_wp2_with fail
       go_quiet (fail)
       go_wp2
       go_ret
       exact ⟨by rw [HG1.out]; rfl, by repeat (first | exact Below.refl _ _ | apply below_drewN | apply below_drew1 | apply below_alloc)⟩
      ·have r1 : ¬ (191 : Int) < (x1.toNat : Int) := by omega
       have r2 : decide ((191 : Int) < (x1.toNat : Int)) = false := decide_eq_false r1
       have r3 : decide (191 < x1.toNat) = false := decide_eq_false hhi
       have HG1 := am (HG2.out.trans (show _ = false by unfold fullN; rw [if_neg hsz, if_neg (by omega), if_neg (by omega)]))
       have g2 : (s.size : Int) = 2 := by omega
       clear h1
       go_enter Tryd.func66, Tryd.ntmps66
       go_wp2_with fail
       go_quiet (fail)
       go_wp2
       go_ret
       exact ⟨by rw [HG1.out]; rfl, by repeat (first | exact Below.refl _ _ | apply below_drewN | apply below_drew1 | apply below_alloc)⟩
  ·rw [hX] at HG hc0
   have ha0 : w.cell? ⟨2, 4, none⟩ = some (.int .u8 128) := (hT.2 2 (by omega)).1
   have ha1 : w.cell? ⟨2, 5, none⟩ = some (.int .u8 159) := (hT.2 2 (by omega)).2
   have HG2 := am (HG.out.trans (show fullN _ _ _ (35 % 8) (accLo (35 / 16)) (accHi (35 / 16)) = fullN s.size x1.toNat x2.toNat 3 128 159 from rfl))
   clear hT HG hX
   by_cases hsz : 3 ≤ s.size
   ·have HG1 := am (HG2.out.trans (by unfold fullN; rw [if_pos hsz]))
    have hz1 : (3 : Int) ≤ (s.size : Int) := by omega
    go_enter Tryd.func66, Tryd.ntmps66
    go_wp2
    go_ret
    exact ⟨by rw [HG1.out]; rfl, by repeat (first | exact Below.refl _ _ | apply below_drewN | apply below_drew1 | apply below_alloc)⟩
   ·have hzs : ¬ (3 : Int) ≤ (s.size : Int) := by omega
    by_cases h1 : s.size = 1
    ·have HG1 := am (HG2.out.trans (show _ = false by unfold fullN; rw [if_neg hsz, if_neg (by omega), if_neg (by omega)]))
     have g1 : (s.size : Int) = 1 := by omega
     clear hsz h0 h1 hzs hzn
     go_enter Tryd.func66, Tryd.ntmps66
     go_wp2_with fail
     go_quiet (fail)
     go_wp2
     go_ret
     exact ⟨by rw [HG1.out]; rfl, by repeat (first | exact Below.refl _ _ | apply below_drewN | apply below_drew1 | apply below_alloc)⟩
    ·have k1 : (1 : Int) < (s.size : Int) := by omega
     have k2 : decide ((1 : Int) < (s.size : Int)) = true := decide_eq_true k1
     have hs1 := S1.out (by omega)
     by_cases hlo : x1.toNat < 128
     ·have HG1 := am (HG2.out.trans (show _ = true by unfold fullN; rw [if_neg hsz, if_pos (by omega)]))
      have q1 : (x1.toNat : Int) < 128 := by omega
      have q2 : decide ((x1.toNat : Int) < 128) = true := decide_eq_true q1
      clear h1
      go_enter Tryd.func66, Tryd.ntmps66
      go_wp2_with fail
      go_quiet (fail)
      go_wp2
      go_ret
      exact ⟨by rw [HG1.out]; rfl, by repeat (first | exact Below.refl _ _ | apply below_drewN | apply below_drew1 | apply below_alloc)⟩
     ·have q1 : ¬ (x1.toNat : Int) < 128 := by omega
      have q2 : decide ((x1.toNat : Int) < 128) = false := decide_eq_false q1
      have q3 : decide (x1.toNat < 128) = false := decide_eq_false hlo
      by_cases hhi : 159 < x1.toNat
      ·have HG1 := am (HG2.out.trans (show _ = true by unfold fullN; rw [if_neg hsz, if_pos (by omega)]))
       have r1 : (159 : Int) < (x1.toNat : Int) := by omega
       have r2 : decide ((159 : Int) < (x1.toNat : Int)) = true := decide_eq_true r1
       clear h1
       go_enter Tryd.func66, Tryd.ntmps66
       go_wp2_with fail
       go_quiet (fail)
       go_wp2
       go_ret
       exact ⟨by rw [HG1.out]; rfl, by repeat (first | exact Below.refl _ _ | apply below_drewN | apply below_drew1 | apply below_alloc)⟩
      ·have r1 : ¬ (159 : Int) < (x1.toNat : Int) := by omega
       have r2 : decide ((159 : Int) < (x1.toNat : Int)) = false := decide_eq_false r1
       have r3 : decide (159 < x1.toNat) = false := decide_eq_false hhi
       have HG1 := am (HG2.out.trans (show _ = false by unfold fullN; rw [if_neg hsz, if_neg (by omega), if_neg (by omega)]))
       have g2 : (s.size : Int) = 2 := by omega
       clear h1
       go_enter Tryd.func66, Tryd.ntmps66
       go_wp2_with fail
       go_quiet (fail)
       go_wp2
       go_ret
       exact ⟨by rw [HG1.out]; rfl, by repeat (first | exact Below.refl _ _ | apply below_drewN | apply below_drew1 | apply below_alloc)⟩
  ·rw [hX] at HG hc0
   have ha0 : w.cell? ⟨2, 6, none⟩ = some (.int .u8 144) := (hT.2 3 (by omega)).1
   have ha1 : w.cell? ⟨2, 7, none⟩ = some (.int .u8 191) := (hT.2 3 (by omega)).2
   have HG2 := am (HG.out.trans (show fullN _ _ _ (52 % 8) (accLo (52 / 16)) (accHi (52 / 16)) = fullN s.size x1.toNat x2.toNat 4 144 191 from rfl))
   clear hT HG hX
   by_cases hsz : 4 ≤ s.size
   ·have HG1 := am (HG2.out.trans (by unfold fullN; rw [if_pos hsz]))
    have hz1 : (4 : Int) ≤ (s.size : Int) := by omega
    go_enter Tryd.func66, Tryd.ntmps66
    go_wp2
    go_ret
    exact ⟨by rw [HG1.out]; rfl, by repeat (first | exact Below.refl _ _ | apply below_drewN | apply below_drew1 | apply below_alloc)⟩
   ·have hzs : ¬ (4 : Int) ≤ (s.size : Int) := by omega
    by_cases h1 : s.size = 1
    ·have HG1 := am (HG2.out.trans (show _ = false by unfold fullN; rw [if_neg hsz, if_neg (by omega), if_neg (by omega)]))
     have g1 : (s.size : Int) = 1 := by omega
     clear hsz h0 h1 hzs hzn
     go_enter Tryd.func66, Tryd.ntmps66
     go_wp2_with fail
     go_quiet (fail)
     go_wp2
     go_ret
     exact ⟨by rw [HG1.out]; rfl, by repeat (first | exact Below.refl _ _ | apply below_drewN | apply below_drew1 | apply below_alloc)⟩
    ·have k1 : (1 : Int) < (s.size : Int) := by omega
     have k2 : decide ((1 : Int) < (s.size : Int)) = true := decide_eq_true k1
     have hs1 := S1.out (by omega)
     by_cases hlo : x1.toNat < 144
     ·have HG1 := am (HG2.out.trans (show _ = true by unfold fullN; rw [if_neg hsz, if_pos (by omega)]))
      have q1 : (x1.toNat : Int) < 144 := by omega
      have q2 : decide ((x1.toNat : Int) < 144) = true := decide_eq_true q1
      clear h1
      go_enter Tryd.func66, Tryd.ntmps66
      go_wp2_with fail
      go_quiet (fail)
      go_wp2
      go_ret
      exact ⟨by rw [HG1.out]; rfl, by repeat (first | exact Below.refl _ _ | apply below_drewN | apply below_drew1 | apply below_alloc)⟩
     ·have q1 : ¬ (x1.toNat : Int) < 144 := by omega
      have q2 : decide ((x1.toNat : Int) < 144) = false := decide_eq_false q1
      have q3 : decide (x1.toNat < 144) = false := decide_eq_false hlo
      by_cases hhi : 191 < x1.toNat
      ·have HG1 := am (HG2.out.trans (show _ = true by unfold fullN; rw [if_neg hsz, if_pos (by omega)]))
       have r1 : (191 : Int) < (x1.toNat : Int) := by omega
       have r2 : decide ((191 : Int) < (x1.toNat : Int)) = true := decide_eq_true r1
       clear h1
       go_enter Tryd.func66, Tryd.ntmps66
       go_wp2_with fail
       go_quiet (fail)
       go_wp2
       go_ret
       exact ⟨by rw [HG1.out]; rfl, by repeat (first | exact Below.refl _ _ | apply below_drewN | apply below_drew1 | apply below_alloc)⟩
      ·have r1 : ¬ (191 : Int) < (x1.toNat : Int) := by omega
       have r2 : decide ((191 : Int) < (x1.toNat : Int)) = false := decide_eq_false r1
       have r3 : decide (191 < x1.toNat) = false := decide_eq_false hhi
       by_cases h2 : s.size = 2
       ·have HG1 := am (HG2.out.trans (show _ = false by unfold fullN; rw [if_neg hsz, if_neg (by omega), if_neg (by omega)]))
        have g2 : (s.size : Int) = 2 := by omega
        clear h1 h2
        go_enter Tryd.func66, Tryd.ntmps66
        go_wp2_with fail
        go_quiet (fail)
        go_wp2
        go_ret
        exact ⟨by rw [HG1.out]; rfl, by repeat (first | exact Below.refl _ _ | apply below_drewN | apply below_drew1 | apply below_alloc)⟩
       ·have m1 : (2 : Int) < (s.size : Int) := by omega
        have m2 : decide ((2 : Int) < (s.size : Int)) = true := decide_eq_true m1
        have hs2 := S2.out (by omega)
        by_cases ho : x2.toNat < 128
        ·have HG1 := am (HG2.out.trans (show _ = true by unfold fullN; rw [if_neg hsz, if_neg (by omega), if_pos (by omega)]))
         have n1 : (x2.toNat : Int) < 128 := by omega
         clear h1 h2
         go_enter Tryd.func66, Tryd.ntmps66
         go_wp2_with fail
         go_quiet (fail)
         go_wp2
         go_ret
         exact ⟨by rw [HG1.out]; rfl, by repeat (first | exact Below.refl _ _ | apply below_drewN | apply below_drew1 | apply below_alloc)⟩
        ·have n1 : ¬ (x2.toNat : Int) < 128 := by omega
         have n2 : decide ((x2.toNat : Int) < 128) = false := decide_eq_false n1
         by_cases hp : 191 < x2.toNat
         ·have HG1 := am (HG2.out.trans (show _ = true by unfold fullN; rw [if_neg hsz, if_neg (by omega), if_pos (by omega)]))
          have o1 : (191 : Int) < (x2.toNat : Int) := by omega
          clear h1 h2
          go_enter Tryd.func66, Tryd.ntmps66
          go_wp2_with fail
          go_quiet (fail)
          go_wp2
          go_ret
          exact ⟨by rw [HG1.out]; rfl, by repeat (first | exact Below.refl _ _ | apply below_drewN | apply below_drew1 | apply below_alloc)⟩
         ·have HG1 := am (HG2.out.trans (show _ = false by unfold fullN; rw [if_neg hsz, if_neg (by omega), if_neg (by omega)]))
          have o1 : ¬ (191 : Int) < (x2.toNat : Int) := by omega
          have o2 : decide ((191 : Int) < (x2.toNat : Int)) = false := decide_eq_false o1
          clear h1 h2
          go_enter Tryd.func66, Tryd.ntmps66
          go_wp2_with fail
          go_quiet (fail)
          go_wp2
          go_ret
          exact ⟨by rw [HG1.out]; rfl, by repeat (first | exact Below.refl _ _ | apply below_drewN | apply below_drew1 | apply below_alloc)⟩
  ·rw [hX] at HG hc0
   have ha0 : w.cell? ⟨2, 0, none⟩ = some (.int .u8 128) := (hT.2 0 (by omega)).1
   have ha1 : w.cell? ⟨2, 1, none⟩ = some (.int .u8 191) := (hT.2 0 (by omega)).2
   have HG2 := am (HG.out.trans (show fullN _ _ _ (4 % 8) (accLo (4 / 16)) (accHi (4 / 16)) = fullN s.size x1.toNat x2.toNat 4 128 191 from rfl))
   clear hT HG hX
   by_cases hsz : 4 ≤ s.size
   ·have HG1 := am (HG2.out.trans (by unfold fullN; rw [if_pos hsz]))
    have hz1 : (4 : Int) ≤ (s.size : Int) := by omega
    go_enter Tryd.func66, Tryd.ntmps66
    go_wp2
    go_ret
    exact ⟨by rw [HG1.out]; rfl, by repeat (first | exact Below.refl _ _ | apply below_drewN | apply below_drew1 | apply below_alloc)⟩
   ·have hzs : ¬ (4 : Int) ≤ (s.size : Int) := by omega
    by_cases h1 : s.size = 1
    ·have HG1 := am (HG2.out.trans (show _ = false by unfold fullN; rw [if_neg hsz, if_neg (by omega), if_neg (by omega)]))
     have g1 : (s.size : Int) = 1 := by omega
     clear hsz h0 h1 hzs hzn
     go_enter Tryd.func66, Tryd.ntmps66
     go_wp2_with fail
     go_quiet (fail)
     go_wp2
     go_ret
     exact ⟨by rw [HG1.out]; rfl, by repeat (first | exact Below.refl _ _ | apply below_drewN | apply below_drew1 | apply below_alloc)⟩
    ·have k1 : (1 : Int) < (s.size : Int) := by omega
     have k2 : decide ((1 : Int) < (s.size : Int)) = true := decide_eq_true k1
     have hs1 := S1.out (by omega)
     by_cases hlo : x1.toNat < 128
     ·have HG1 := am (HG2.out.trans (show _ = true by unfold fullN; rw [if_neg hsz, if_pos (by omega)]))
      have q1 : (x1.toNat : Int) < 128 := by omega
      have q2 : decide ((x1.toNat : Int) < 128) = true := decide_eq_true q1
      clear h1
      go_enter Tryd.func66, Tryd.ntmps66
      go_wp2_with fail
      go_quiet (fail)
      go_wp2
      go_ret
      exact ⟨by rw [HG1.out]; rfl, by repeat (first | exact Below.refl _ _ | apply below_drewN | apply below_drew1 | apply below_alloc)⟩
     ·have q1 : ¬ (x1.toNat : Int) < 128 := by omega
      have q2 : decide ((x1.toNat : Int) < 128) = false := decide_eq_false q1
      have q3 : decide (x1.toNat < 128) = false := decide_eq_false hlo
      by_cases hhi : 191 < x1.toNat
      ·have HG1 := am (HG2.out.trans (show _ = true by unfold fullN; rw [if_neg hsz, if_pos (by omega)]))
       have r1 : (191 : Int) < (x1.toNat : Int) := by omega
       have r2 : decide ((191 : Int) < (x1.toNat : Int)) = true := decide_eq_true r1
       clear h1
       go_enter Tryd.func66, Tryd.ntmps66
       go_wp2_with fail
       go_quiet (fail)
       go_wp2
       go_ret
       exact ⟨by rw [HG1.out]; rfl, by repeat (first | exact Below.refl _ _ | apply below_drewN | apply below_drew1 | apply below_alloc)⟩
      ·have r1 : ¬ (191 : Int) < (x1.toNat : Int) := by omega
       have r2 : decide ((191 : Int) < (x1.toNat : Int)) = false := decide_eq_false r1
       have r3 : decide (191 < x1.toNat) = false := decide_eq_false hhi
       by_cases h2 : s.size = 2
       ·have HG1 := am (HG2.out.trans (show _ = false by unfold fullN; rw [if_neg hsz, if_neg (by omega), if_neg (by omega)]))
        have g2 : (s.size : Int) = 2 := by omega
        clear h1 h2
        go_enter Tryd.func66, Tryd.ntmps66
        go_wp2_with fail
        go_quiet (fail)
        go_wp2
        go_ret
        exact ⟨by rw [HG1.out]; rfl, by repeat (first | exact Below.refl _ _ | apply below_drewN | apply below_drew1 | apply below_alloc)⟩
       ·have m1 : (2 : Int) < (s.size : Int) := by omega
        have m2 : decide ((2 : Int) < (s.size : Int)) = true := decide_eq_true m1
        have hs2 := S2.out (by omega)
        by_cases ho : x2.toNat < 128
        ·have HG1 := am (HG2.out.trans (show _ = true by unfold fullN; rw [if_neg hsz, if_neg (by omega), if_pos (by omega)]))
         have n1 : (x2.toNat : Int) < 128 := by omega
         clear h1 h2
         go_enter Tryd.func66, Tryd.ntmps66
         go_wp2_with fail
         go_quiet (fail)
         go_wp2
         go_ret
         exact ⟨by rw [HG1.out]; rfl, by repeat (first | exact Below.refl _ _ | apply below_drewN | apply below_drew1 | apply below_alloc)⟩
        ·have n1 : ¬ (x2.toNat : Int) < 128 := by omega
         have n2 : decide ((x2.toNat : Int) < 128) = false := decide_eq_false n1
         by_cases hp : 191 < x2.toNat
         ·have HG1 := am (HG2.out.trans (show _ = true by unfold fullN; rw [if_neg hsz, if_neg (by omega), if_pos (by omega)]))
          have o1 : (191 : Int) < (x2.toNat : Int) := by omega
          clear h1 h2
          go_enter Tryd.func66, Tryd.ntmps66
          go_wp2_with fail
          go_quiet (fail)
          go_wp2
          go_ret
          exact ⟨by rw [HG1.out]; rfl, by repeat (first | exact Below.refl _ _ | apply below_drewN | apply below_drew1 | apply below_alloc)⟩
         ·have HG1 := am (HG2.out.trans (show _ = false by unfold fullN; rw [if_neg hsz, if_neg (by omega), if_neg (by omega)]))
          have o1 : ¬ (191 : Int) < (x2.toNat : Int) := by omega
          have o2 : decide ((191 : Int) < (x2.toNat : Int)) = false := decide_eq_false o1
          clear h1 h2
          go_enter Tryd.func66, Tryd.ntmps66
          go_wp2_with fail
          go_quiet (fail)
          go_wp2
          go_ret
          exact ⟨by rw [HG1.out]; rfl, by repeat (first | exact Below.refl _ _ | apply below_drewN | apply below_drew1 | apply below_alloc)⟩
  ·rw [hX] at HG hc0
   have ha0 : w.cell? ⟨2, 8, none⟩ = some (.int .u8 128) := (hT.2 4 (by omega)).1
   have ha1 : w.cell? ⟨2, 9, none⟩ = some (.int .u8 143) := (hT.2 4 (by omega)).2
   have HG2 := am (HG.out.trans (show fullN _ _ _ (68 % 8) (accLo (68 / 16)) (accHi (68 / 16)) = fullN s.size x1.toNat x2.toNat 4 128 143 from rfl))
   clear hT HG hX
   by_cases hsz : 4 ≤ s.size
   ·have HG1 := am (HG2.out.trans (by unfold fullN; rw [if_pos hsz]))
    have hz1 : (4 : Int) ≤ (s.size : Int) := by omega
    go_enter Tryd.func66, Tryd.ntmps66
    go_wp2
    go_ret
    exact ⟨by rw [HG1.out]; rfl, by repeat (first | exact Below.refl _ _ | apply below_drewN | apply below_drew1 | apply below_alloc)⟩
   ·have hzs : ¬ (4 : Int) ≤ (s.size : Int) := by omega
    by_cases h1 : s.size = 1
    ·have HG1 := am (HG2.out.trans (show _ = false by unfold fullN; rw [if_neg hsz, if_neg (by omega), if_neg (by omega)]))
     have g1 : (s.size : Int) = 1 := by omega
     clear hsz h0 h1 hzs hzn
     go_enter Tryd.func66, Tryd.ntmps66
     go_wp2_with fail
     go_quiet (fail)
     go_wp2
     go_ret
     exact ⟨by rw [HG1.out]; rfl, by repeat (first | exact Below.refl _ _ | apply below_drewN | apply below_drew1 | apply below_alloc)⟩
    ·have k1 : (1 : Int) < (s.size : Int) := by omega
     have k2 : decide ((1 : Int) < (s.size : Int)) = true := decide_eq_true k1
     have hs1 := S1.out (by omega)
     by_cases hlo : x1.toNat < 128
     ·have HG1 := am (HG2.out.trans (show _ = true by unfold fullN; rw [if_neg hsz, if_pos (by omega)]))
      have q1 : (x1.toNat : Int) < 128 := by omega
      have q2 : decide ((x1.toNat : Int) < 128) = true := decide_eq_true q1
      clear h1
      go_enter Tryd.func66, Tryd.ntmps66
      go_wp2_with fail
      go_quiet (fail)
      go_wp2
      go_ret
      exact ⟨by rw [HG1.out]; rfl, by repeat (first | exact Below.refl _ _ | apply below_drewN | apply below_drew1 | apply below_alloc)⟩
     ·have q1 : ¬ (x1.toNat : Int) < 128 := by omega
      have q2 : decide ((x1.toNat : Int) < 128) = false := decide_eq_false q1
      have q3 : decide (x1.toNat < 128) = false := decide_eq_false hlo
      by_cases hhi : 143 < x1.toNat
      ·have HG1 := am (HG2.out.trans (show _ = true by unfold fullN; rw [if_neg hsz, if_pos (by omega)]))
       have r1 : (143 : Int) < (x1.toNat : Int) := by omega
       have r2 : decide ((143 : Int) < (x1.toNat : Int)) = true := decide_eq_true r1
       clear h1
       go_enter Tryd.func66, Tryd.ntmps66
       go_wp2_with fail
       go_quiet (fail)
       go_wp2
       go_ret
       exact ⟨by rw [HG1.out]; rfl, by repeat (first | exact Below.refl _ _ | apply below_drewN | apply below_drew1 | apply below_alloc)⟩
      ·have r1 : ¬ (143 : Int) < (x1.toNat : Int) := by omega
       have r2 : decide ((143 : Int) < (x1.toNat : Int)) = false := decide_eq_false r1
       have r3 : decide (143 < x1.toNat) = false := decide_eq_false hhi
       by_cases h2 : s.size = 2
       ·have HG1 := am (HG2.out.trans (show _ = false by unfold fullN; rw [if_neg hsz, if_neg (by omega), if_neg (by omega)]))
        have g2 : (s.size : Int) = 2 := by omega
        clear h1 h2
        go_enter Tryd.func66, Tryd.ntmps66
        go_wp2_with fail
        go_quiet (fail)
        go_wp2
        go_ret
        exact ⟨by rw [HG1.out]; rfl, by repeat (first | exact Below.refl _ _ | apply below_drewN | apply below_drew1 | apply below_alloc)⟩
       ·have m1 : (2 : Int) < (s.size : Int) := by omega
        have m2 : decide ((2 : Int) < (s.size : Int)) = true := decide_eq_true m1
        have hs2 := S2.out (by omega)
        by_cases ho : x2.toNat < 128
        ·have HG1 := am (HG2.out.trans (show _ = true by unfold fullN; rw [if_neg hsz, if_neg (by omega), if_pos (by omega)]))
         have n1 : (x2.toNat : Int) < 128 := by omega
         clear h1 h2
         go_enter Tryd.func66, Tryd.ntmps66
         go_wp2_with fail
         go_quiet (fail)
         go_wp2
         go_ret
         exact ⟨by rw [HG1.out]; rfl, by repeat (first | exact Below.refl _ _ | apply below_drewN | apply below_drew1 | apply below_alloc)⟩
        ·have n1 : ¬ (x2.toNat : Int) < 128 := by omega
         have n2 : decide ((x2.toNat : Int) < 128) = false := decide_eq_false n1
         by_cases hp : 191 < x2.toNat
         ·have HG1 := am (HG2.out.trans (show _ = true by unfold fullN; rw [if_neg hsz, if_neg (by omega), if_pos (by omega)]))
          have o1 : (191 : Int) < (x2.toNat : Int) := by omega
          clear h1 h2
          go_enter Tryd.func66, Tryd.ntmps66
          go_wp2_with fail
          go_quiet (fail)
          go_wp2
          go_ret
          exact ⟨by rw [HG1.out]; rfl, by repeat (first | exact Below.refl _ _ | apply below_drewN | apply below_drew1 | apply below_alloc)⟩
         ·have HG1 := am (HG2.out.trans (show _ = false by unfold fullN; rw [if_neg hsz, if_neg (by omega), if_neg (by omega)]))
          have o1 : ¬ (191 : Int) < (x2.toNat : Int) := by omega
          have o2 : decide ((191 : Int) < (x2.toNat : Int)) = false := decide_eq_false o1
          clear h1 h2
          go_enter Tryd.func66, Tryd.ntmps66
          go_wp2_with fail
          go_quiet (fail)
          go_wp2
          go_ret
          exact ⟨by rw [HG1.out]; rfl, by repeat (first | exact Below.refl _ _ | apply below_drewN | apply below_drew1 | apply below_alloc)⟩
def cellsOf (l : List UInt8) : List Value := l.map fun b => Value.int .u8 b.toNat
theorem cellsOf_length (l : List UInt8) : (cellsOf l).length = l.length := by simp [cellsOf]
theorem cellsOf_append (a b : List UInt8) : cellsOf (a ++ b) = cellsOf a ++ cellsOf b := by simp [cellsOf]
def Own (B : Nat) (W : World) (v : Value) (l : List UInt8) : Prop := W.ownsRow B 5 1 v l.length (cellsOf l) ∧ B ≤ W.heap.size
theorem Own.nil (B : Nat) (W : World) (h : B ≤ W.heap.size) : Own B W (.slice none 0 0) [] := ⟨World.ownsRow_nil _ _ _ _, h⟩
theorem Own.slice {B : Nat} {W : World} {v : Value} {l : List UInt8} (h : Own B W v l) : ∃ A c, v = .slice A l.length c := own_slice h.1
theorem Own.heap {B : Nat} {W W' : World} {v : Value} {l : List UInt8} (h : Own B W v l) (hs : W.heap.size ≤ W'.heap.size) (hg : ∀ g, v.ownBlock = some g → W'.heap[g]? = W.heap[g]?) : Own B W' v l := by
 obtain ⟨⟨h1, h2⟩, h3⟩ := h
 refine ⟨⟨h1, ?_⟩, Nat.le_trans h3 hs⟩
 rcases h2 with ⟨h, hn⟩ | ⟨g, cap, cur, rfl, hb, hh, hr⟩
 ·exact .inl ⟨h, hn⟩
 ·exact .inr ⟨g, cap, cur, rfl, hb, (hg g rfl).trans hh, hr⟩
theorem Own.lt {B : Nat} {W : World} {v : Value} {l : List UInt8} (h : Own B W v l) (g : Nat) (hg : v.ownBlock = some g) : B ≤ g ∧ g < W.heap.size := h.1.lt g hg
theorem Own.on {R B : Nat} {W W' : World} {v : Value} {l : List UInt8} (h : Own B W v l) (hRB : R < B) (hO : On R W W') : Own B W' v l :=
 h.heap hO.size fun g hg => hO.kept g (by have := (h.lt g hg).1; omega) (h.lt g hg).2
theorem On.grown {R : Nat} {W W1 W2 : World} (h : On R W W1) {v : Value} {B : Nat} {l : List UInt8} (ho : Own B W1 v l) (hB : W.heap.size ≤ B) (hRW : R ≤ W.heap.size) (hg : W1.grownBy W2 v.ownBlock) : On R W W2 := by
 refine ⟨?_, ?_, Nat.le_trans h.size hg.size⟩
 ·obtain ⟨a, b, c, d, e⟩ := h.below
  exact ⟨hg.os.trans a, hg.tape.trans b, hg.output.trans c, Nat.le_trans d hg.size, fun k hk => (hg.block k (by omega) (fun hh => by have := (ho.lt k hh.symm).1; omega)).trans (e k hk)⟩
 ·intro b hb hl
  exact (hg.block b (Nat.lt_of_lt_of_le hl h.size) (fun hh => by have := (ho.lt b hh.symm).1; omega)).trans (h.kept b hb hl)
theorem RdB.grown {R B : Nat} {s : ByteArray} {p : Int} {W W' : World} {v : Value} {l : List UInt8} (h : RdB R s p W) (ho : Own B W v l) (hRB : R < B) (hg : W.grownBy W' v.ownBlock) : RdB R s p W' :=
 (hg.block R h.lt (fun hh => by have := (ho.lt R hh.symm).1; omega)).trans h
theorem Tabs.on {R : Nat} {s : ByteArray} {p : Int} {W W' : World} (hT : Tabs W) (hR : RdB R s p W) (hO : On R W W') : Tabs W' := by
 have key : ∀ (g k : Nat) (n : Int), W.cell? ⟨g, 0, none⟩ = some (.int .u8 n) → W'.heap[g]? = W.heap[g]? := fun g k n hc => by
  have hlt : g < W.heap.size := by
   rcases Nat.lt_or_ge g W.heap.size with h | h
   ·exact h
   ·simp [World.cell?, Array.getElem?_eq_none h] at hc
  refine hO.kept g ?_ hlt
  rintro rfl
  rw [show W.cell? ⟨g, 0, none⟩ = some (.string s) from blk_cell hR 0] at hc
  cases hc
 have e1 := key _ 0 _ (hT.1 0 (by omega))
 have e2 := key _ 0 _ (hT.2 0 (by omega)).1
 exact ⟨fun c hc => (World.cell?_of_block (a := ⟨_, c, none⟩) e1).trans (hT.1 c hc), fun i hi => ⟨(World.cell?_of_block (a := ⟨_, 2 * i, none⟩) e2).trans (hT.2 i hi).1, (World.cell?_of_block (a := ⟨_, 2 * i + 1, none⟩) e2).trans (hT.2 i hi).2⟩⟩
theorem cellsOf_rune (r : Nat) : cellsOf (encodeRune r) = runeCells r := by
 unfold cellsOf encodeRune runeCells
 rw [List.map_map]
 apply List.map_congr_left
 intro x hx
 obtain ⟨h0, h1⟩ := encodeRuneZ_byte r x hx
 simp only [Function.comp_apply]
 congr 1
 have : x.toNat.toUInt8.toNat = x.toNat := by simp; omega
 rw [this]
 omega
theorem appendRune_calls (B : Nat) (v : Value) (l : List UInt8) (r : Nat) (hr : r ≤ 2147483647) (W : World) (hl : l.length ≤ 100000000000) (h : Own B W v l) :
  Calls Tryd.prog 63 #[v, .int .i32 r] W fun e W' => ∃ v' o, e = .returned v' ∧ Own B W' v' (l ++ encodeRune r) ∧ (W.alloc o).grownBy W' v.ownBlock :=
 (show Calls Tryd.prog 63 #[v, .int .i32 r] W _ from Any.utf8_AppendRune_plain Tryd.lays242 info5 B v l.length (cellsOf l) r (by omega) (by omega) W h.1 (by omega) h.2).mono fun e W' ⟨v', he, ho, o, hg⟩ =>
  ⟨v', o, he, ⟨by rw [List.length_append, cellsOf_append, cellsOf_rune, ← cellsOf_length (encodeRune r), cellsOf_rune]; exact ho, Nat.le_trans h.2 (by have := hg.size; simp at this; omega)⟩, hg⟩
theorem decode_calls (s : ByteArray) (w : World) (hT : Tabs w) : Calls Tryd.prog 65 #[.string s] w fun e w' => e = .returned (.tuple #[.int .i32 (decodeGo s).1, .int .i64 (decodeGo s).2]) ∧ Below w.heap.size w w' :=
 Any.utf8_DecodeRuneInString Tryd.lays197 s w hT
theorem own_string {B : Nat} {W : World} {v : Value} {l : List UInt8} (h : Own B W v l) : (convert 58 9 v).run Tryd.prog W = .ok (.string (bs l)) W := by
 obtain ⟨A, c, rfl⟩ := h.slice
 cases A with
 | none =>
  have hn : l = [] := by
   rcases h.1.2 with ⟨_, hn⟩ | ⟨g, cap, cur, he, _⟩
   ·exact List.eq_nil_of_length_eq_zero hn
   ·cases he
  subst hn
  exact run_convert_bytes_nil (P := Tryd.prog) W 58 5 Tryd.underlying58 Tryd.underlying5 _ _ 9 Tryd.underlying9
 | some a =>
  have ho : Value.ownBlock (.slice (some a) l.length c) = some a.block := rfl
  obtain ⟨off, hoff⟩ : ∃ x, a = ⟨x, 0, none⟩ := by
   rcases h.1.2 with ⟨he, _⟩ | ⟨g, cap, cur, he, _⟩
   ·cases he
   ·injection he with he _ _; injection he with he; exact ⟨g, he⟩
  subst hoff
  refine run_convert_bytes_back W 58 9 5 ⟨off, 0, none⟩ c l Tryd.underlying58 Tryd.underlying5 Tryd.underlying9 fun j hj => ?_
  exact h.1.cells ho j _ (by simp [cellsOf, List.getElem?_eq_getElem hj])
def nF (c : Nat) : Nat := if c < 194 then 1 else if c < 224 then 2 else if c < 240 then 3 else if c < 245 then 4 else 1
def loF (c : Nat) : Nat := if c = 224 then 160 else if c = 240 then 144 else 128
def hiF (c : Nat) : Nat := if c = 237 then 159 else if c = 244 then 143 else 191
theorem full_tab : ∀ c : Fin 256, (194 ≤ c.val ∧ c.val < 245 → firstT c.val % 8 = nF c.val ∧ accLo (firstT c.val / 16) = loF c.val ∧ accHi (firstT c.val / 16) = hiF c.val) ∧ (¬ (194 ≤ c.val ∧ c.val < 245) → firstT c.val % 8 ≤ 1 ∧ nF c.val = 1) := by decide +kernel
theorem fullF_n (c : UInt8) (r : List UInt8) : fullF (c :: r) = if nF c.toNat ≤ (c :: r).length then true else match r with
  | [] => false
  | d :: r2 => if d.toNat < loF c.toNat ∨ hiF c.toNat < d.toNat then true else match r2 with
   | [] => false
   | e :: _ => decide (e.toNat < 128 ∨ 191 < e.toNat) := rfl
theorem fullN_eq (r : List UInt8) (n lo hi : Nat) (hn : n ≤ 4) : (if n ≤ r.length + 1 then true else match r with
  | [] => false
  | d :: r2 => if d.toNat < lo ∨ hi < d.toNat then true else match r2 with
   | [] => false
   | e :: _ => decide (e.toNat < 128 ∨ 191 < e.toNat)) = fullN (r.length + 1) (r.getD 0 0).toNat (r.getD 1 0).toNat n lo hi := by
 unfold fullN
 match r with
 | [] => simp
 | [d] => simp
 | d :: e :: r =>
  simp only [List.length_cons, List.getD_cons_zero, List.getD_cons_succ]
  by_cases h1 : n ≤ r.length + 1 + 1 + 1
  ·rw [if_pos h1, if_pos h1]
  ·rw [if_neg h1, if_neg h1]
   by_cases h2 : d.toNat < lo ∨ hi < d.toNat
   ·rw [if_pos h2, if_pos ⟨by omega, h2⟩]
   ·rw [if_neg h2, if_neg (fun h => h2 h.2)]
    by_cases h3 : e.toNat < 128 ∨ 191 < e.toNat
    ·rw [if_pos ⟨by omega, h3⟩]; exact decide_eq_true h3
    ·rw [if_neg (fun h => h3 h.2)]; exact decide_eq_false h3
theorem fullF_eq (l : List UInt8) : fullF l = fullG l := by
 cases l with
 | nil => rfl
 | cons c r =>
  have hu := c.toNat_lt
  obtain ⟨h1, h2⟩ := full_tab ⟨c.toNat, hu⟩
  dsimp only at h1 h2
  rw [fullF_n]
  show _ = fullN (r.length + 1) (r.getD 0 0).toNat (r.getD 1 0).toNat (firstT c.toNat % 8) (accLo (firstT c.toNat / 16)) (accHi (firstT c.toNat / 16))
  by_cases hc : 194 ≤ c.toNat ∧ c.toNat < 245
  ·obtain ⟨e1, e2, e3⟩ := h1 hc
   rw [e1, e2, e3]
   exact fullN_eq r _ _ _ (by unfold nF; (repeat' split) <;> omega)
  ·obtain ⟨e1, e2⟩ := h2 hc
   rw [e2, if_pos (by simp)]
   unfold fullN
   rw [if_pos (by omega)]
theorem escdF_le (c : UInt8) (x : Nat) (h : escdF c = some x) : x ≤ 255 := by
 unfold escdF at h
 have := c.toNat_lt
 repeat' split at h
 all_goals first | (injection h with h; omega) | cases h
theorem mustF_val (s : List UInt8) (f : Nat) : ∀ (w : List UInt8) (p q : Nat) (u : Unit), mustF s f w p = .val u q → q = p + w.length ∧ (p ≤ s.length → q ≤ s.length)
 | [], p, q, u, h => by
  simp only [mustF, Out.val.injEq] at h
  obtain ⟨_, rfl⟩ := h
  exact ⟨rfl, fun h => h⟩
 | c :: w, p, q, u, h => by
  cases hc : s[p]? with
  | none => rw [mustF_short _ _ _ _ _ hc] at h; cases h
  | some x =>
   have hlt := (List.getElem?_eq_some_iff.1 hc).1
   by_cases hx : x = c
   ·rw [mustF_on _ _ _ _ _ (by rw [hc, hx])] at h
    obtain ⟨h1, h2⟩ := mustF_val s f w _ _ _ h
    exact ⟨by rw [h1, List.length_cons]; omega, fun _ => h2 (by omega)⟩
   ·rw [mustF_bad _ _ _ _ _ _ hc hx] at h; cases h
theorem pairF_val (s : List UInt8) (p x p1 r q : Nat) (hx : x ≤ 0xdbff) (h1 : p1 ≤ s.length) (h : pairF s p x p1 = .val r q) : p1 + 6 = q ∧ q ≤ s.length ∧ r ≤ 1114111 := by
 unfold pairF at h
 cases hm : mustF s p [92, 117] p1 with
 | err e q => rw [hm] at h; cases h
 | val u p2 =>
  rw [hm] at h
  obtain ⟨h2, h3⟩ := mustF_val _ _ _ _ _ _ hm
  simp only at h
  cases hf : fourF s 4 0 p2 with
  | err e q => rw [hf] at h; cases h
  | val y p3 =>
   rw [hf] at h
   obtain ⟨h4, h5, h6⟩ := fourF_val _ _ _ _ _ _ hf
   simp only at h
   simp only [List.length_cons, List.length_nil] at h2
   split at h
   ·cases h
   ·injection h with h h'
    have := h5 (h3 h1)
    omega
theorem escF_val (s : List UInt8) (p r q : Nat) (h : escF s p = .val r q) : p + 2 ≤ q ∧ q ≤ s.length ∧ r ≤ 1114111 := by
 unfold escF at h
 cases hc : s[p + 1]? with
 | none => rw [hc] at h; cases h
 | some c =>
  have hlt := (List.getElem?_eq_some_iff.1 hc).1
  rw [hc] at h
  simp only at h
  cases hx : escdF c with
  | some x =>
   rw [hx] at h
   have := escdF_le c x hx
   injection h with h h'
   omega
  | none =>
   rw [hx] at h
   simp only at h
   split at h
   ·cases hf : fourF s 4 0 (p + 2) with
    | err e q => rw [hf] at h; cases h
    | val x p1 =>
     rw [hf] at h
     obtain ⟨h4, h5, h6⟩ := fourF_val _ _ _ _ _ _ hf
     have h7 := h5 (by omega)
     simp only at h
     split at h
     ·cases h
     ·split at h
      ·rename_i hx
       obtain ⟨a, b, c⟩ := pairF_val s p x p1 r q (by omega) h7 h
       omega
      ·injection h with h h'
       omega
   ·cases h
theorem dec_width (s : ByteArray) (h : 0 < s.size) : 1 ≤ (decodeGo s).2 ∧ (decodeGo s).2 ≤ s.size := by
 have h0 : ¬ s.size = 0 := by omega
 simp only [Lib.decodeGo, h0, if_false]
 rw [Lib.decode_at]
 unfold decodeN
 repeat' split
 all_goals (simp only; omega)
theorem textF_short (s : List UInt8) (k : Nat) (out : List UInt8) (p : Nat) (h : s[p]? = none) : textF s (k + 1) out p = some (.err 3 s.length) := by simp only [textF, h]
theorem textF_end (s : List UInt8) (k : Nat) (out : List UInt8) (p : Nat) (c : UInt8) (h : s[p]? = some c) (hc : c = 34) : textF s (k + 1) out p = some (.val out (p + 1)) := by simp only [textF, h, if_pos hc]
theorem textF_low (s : List UInt8) (k : Nat) (out : List UInt8) (p : Nat) (c : UInt8) (h : s[p]? = some c) (hc : c.toNat < 32) : textF s (k + 1) out p = some (.err 41 p) := by
 have h34 : ¬ c = 34 := by rintro rfl; revert hc; decide
 simp only [textF, h, if_neg h34, if_pos hc]
theorem textF_esc (s : List UInt8) (k : Nat) (out : List UInt8) (p : Nat) (c : UInt8) (h : s[p]? = some c) (hc : c = 92) : textF s (k + 1) out p = (match escF s p with | .err e q => some (.err e q) | .val r q => textF s k (out ++ encodeRune r) q) := by
 subst hc
 simp only [textF, h]
 rfl
theorem textF_ascii (s : List UInt8) (k : Nat) (out : List UInt8) (p : Nat) (c : UInt8) (h : s[p]? = some c) (h34 : c ≠ 34) (h32 : ¬ c.toNat < 32) (h92 : c ≠ 92) (h128 : c.toNat < 128) : textF s (k + 1) out p = textF s k (out ++ [c]) (p + 1) := by
 simp only [textF, h, if_neg h34, if_neg h32, if_neg h92, if_pos h128]
theorem textF_rune (s : List UInt8) (k : Nat) (out : List UInt8) (p : Nat) (c : UInt8) (h : s[p]? = some c) (h128 : ¬ c.toNat < 128) : textF s (k + 1) out p =
  if (decodeGo ⟨(s.drop p).toArray⟩).1 = 65533 ∧ (decodeGo ⟨(s.drop p).toArray⟩).2 < 2 then (if fullF (s.drop p) = true then some (.err 43 p) else some (.err 3 s.length))
  else textF s k (out ++ (s.drop p).take (decodeGo ⟨(s.drop p).toArray⟩).2) (p + (decodeGo ⟨(s.drop p).toArray⟩).2) := by
 have h34 : ¬ c = 34 := by rintro rfl; exact h128 (by decide)
 have h92 : ¬ c = 92 := by rintro rfl; exact h128 (by decide)
 have h32 : ¬ c.toNat < 32 := by omega
 simp only [textF, h, if_neg h34, if_neg h32, if_neg h92, if_neg h128]
end Go.Proofs.YtaalajhmfdcalaaDoor.X
namespace Go.Proofs.YtaalajhmfdcalaaDoor.X
open Go.RowKit Go.Lib Go.Proofs.YtaalajhmfdcalaaDoorW.PrintWords Go.Proofs.YtaalajhmfdcalaaDoorW.PrintLast Go.Proofs.YtaalajhmfdcalaaDoorW.PrintMore
theorem strCells_cells' (s : ByteArray) : strCells s = cellsOf s.data.toList := rfl
theorem Tabs.bel {W W' : World} (hT : Tabs W) (hb : Below W.heap.size W W') : Tabs W' := by
 have key : ∀ (a : Addr) (v : Value), W.cell? a = some v → W'.cell? a = some v := fun a v h => (hb.cell (World.block_lt_of_cell? W _ h)).trans h
 exact ⟨fun c hc => key _ _ (hT.1 c hc), fun i hi => ⟨key _ _ (hT.2 i hi).1, key _ _ (hT.2 i hi).2⟩⟩
structure St where
 out : List UInt8
 e : Nat
def failF (st : St) (e : Nat) : St := if st.e = 0 then ⟨st.out, e⟩ else st
def putF (free : Bool) (st : St) (s : List UInt8) : St := if st.e ≠ 0 then st else if free = false ∧ 16384 < st.out.length + s.length then ⟨st.out, 1⟩ else ⟨st.out ++ s, 0⟩
structure Wr (Wd : Nat) (free : Bool) (st : St) (sl : Value) (W : World) : Prop where
 blk : W.heap[Wd]? = some (.cells #[sl, .bool free, .int .i64 st.e] 60 (0, 0))
 own : Own (Wd + 1) W sl st.out
structure WrOn (Wd : Nat) (sl sl' : Value) (W W' : World) : Prop where
 low : Below Wd W W'
 kept : ∀ b, b < W.heap.size → b ≠ Wd → some b ≠ sl.ownBlock → W'.heap[b]? = W.heap[b]?
 size : W.heap.size ≤ W'.heap.size
 at_ : sl'.ownBlock = sl.ownBlock ∨ ∃ b, sl'.ownBlock = some b ∧ W.heap.size ≤ b
theorem WrOn.refl (Wd : Nat) (sl : Value) (W : World) : WrOn Wd sl sl W W := ⟨Below.refl _ _, fun _ _ _ _ => rfl, Nat.le_refl _, .inl rfl⟩
theorem WrOn.ne {Wd : Nat} {sl sl' : Value} {W W' : World} (h : WrOn Wd sl sl' W W') {b : Nat} (hb : b < W.heap.size) (hne : some b ≠ sl.ownBlock) : some b ≠ sl'.ownBlock := by
 rcases h.at_ with h1 | ⟨c, h1, h2⟩
 ·rw [h1]; exact hne
 ·rw [h1]
  intro hh
  injection hh with hh
  omega
theorem WrOn.trans {Wd : Nat} {sl sl1 sl2 : Value} {W W1 W2 : World} (h : WrOn Wd sl sl1 W W1) (h' : WrOn Wd sl1 sl2 W1 W2) : WrOn Wd sl sl2 W W2 := by
 refine ⟨h.low.trans h'.low, fun b hb hne hs => (h'.kept b (Nat.lt_of_lt_of_le hb h.size) hne (h.ne hb hs)).trans (h.kept b hb hne hs), Nat.le_trans h.size h'.size, ?_⟩
 rcases h'.at_ with h1 | ⟨c, h1, h2⟩
 ·rcases h.at_ with h3 | ⟨d, h3, h4⟩
  ·exact .inl (h1.trans h3)
  ·exact .inr ⟨d, h1.trans h3, h4⟩
 ·exact .inr ⟨c, h1, Nat.le_trans h.size h2⟩
theorem WrOn.of_below {Wd : Nat} {sl : Value} {W W' : World} (hW : Wd ≤ W.heap.size) (h : Below W.heap.size W W') : WrOn Wd sl sl W W' :=
 ⟨h.mono hW, fun b hb _ _ => h.block b hb, h.size, .inl rfl⟩
theorem Wr.lt {Wd : Nat} {free : Bool} {st : St} {sl : Value} {W : World} (h : Wr Wd free st sl W) : Wd < W.heap.size := lt_of_block h.blk
theorem Wr.below {Wd : Nat} {free : Bool} {st : St} {sl : Value} {W W' : World} (h : Wr Wd free st sl W) (hb : Below W.heap.size W W') : Wr Wd free st sl W' :=
 ⟨(hb.block Wd h.lt).trans h.blk, h.own.heap hb.size fun g hg => hb.block g (h.own.lt g hg).2⟩
theorem Wr.slice {Wd : Nat} {free : Bool} {st : St} {sl : Value} {W : World} (h : Wr Wd free st sl W) : ∃ A c, sl = .slice A st.out.length c := h.own.slice
theorem Wr.setE {Wd : Nat} {free : Bool} {st : St} {sl : Value} {W : World} (h : Wr Wd free st sl W) (e : Nat) (x : Int) (hx : x = (e : Int)) : Wr Wd free ⟨st.out, e⟩ sl (W.setCell ⟨Wd, 2, none⟩ (.int .i64 x)) ∧ WrOn Wd sl sl W (W.setCell ⟨Wd, 2, none⟩ (.int .i64 x)) := by
 subst hx
 refine ⟨⟨(blk_set 2 _ h.blk).trans rfl, h.own.heap (by rw [World.size_setCell]; exact Nat.le_refl _) fun g hg => Below.heap_setCell _ _ _ _ (by have := (h.own.lt g hg).1; show g ≠ Wd; omega)⟩, ⟨Below.setCell (Below.refl Wd W) (Nat.le_refl Wd) _, fun b _ hne _ => Below.heap_setCell _ _ _ _ hne, by rw [World.size_setCell]; exact Nat.le_refl _, .inl rfl⟩⟩
theorem Wr.app {Wd : Nat} {free : Bool} {st : St} {sl v1 : Value} {l : List UInt8} {W W1 : World} (h : Wr Wd free st sl W) (he : st.e = 0) (ho : Own (Wd + 1) W1 v1 (st.out ++ l)) (hg : W.grownBy W1 sl.ownBlock) (hat : v1.ownBlock = sl.ownBlock ∨ ∃ b, v1.ownBlock = some b ∧ W.heap.size ≤ b) :
  Wr Wd free ⟨st.out ++ l, 0⟩ v1 (W1.setCell ⟨Wd, 0, none⟩ v1) ∧ WrOn Wd sl v1 W (W1.setCell ⟨Wd, 0, none⟩ v1) := by
 have hlt := h.lt
 have hne : some Wd ≠ sl.ownBlock := fun hh => by have := (h.own.lt Wd hh.symm).1; omega
 have hb1 := (hg.block Wd hlt hne).trans h.blk
 refine ⟨⟨?_, ho.heap (by rw [World.size_setCell]; exact Nat.le_refl _) fun g hg => Below.heap_setCell _ _ _ _ (by have := (ho.lt g hg).1; show g ≠ Wd; omega)⟩, ⟨?_, fun b hb hbn hs => (Below.heap_setCell _ _ _ _ hbn).trans (hg.block b hb hs), by rw [World.size_setCell]; exact hg.size, hat⟩⟩
 ·rw [he] at hb1
  exact (blk_set 0 _ hb1).trans rfl
 ·have hb : Below Wd W W1 := ⟨hg.os, hg.tape, hg.output, hg.size, fun k hk => hg.block k (Nat.lt_trans hk hlt) (fun hh => by have := (h.own.lt k hh.symm).1; omega)⟩
  exact Below.setCell hb (Nat.le_refl Wd) _
theorem Own.str {P : Program} {ops : Array Oper} {rest : List Oper} {o : Oper} {a : Act} {Q : Exit → Act → World → Prop} {B : Nat} {W : World} (hgd : o.guard = none) (s x : Operand) (t u : TypeId)
  (ho : o.op = .call { callee := .builtin .append, args := #[s, x], argTypes := #[t, u] }) (ht : P.underlying t = some (.slice 5)) (hu : P.underlying u = some .string) (hinfo : (P.info? 5).map (fun i => (i.zero, i.size, i.bytes)) = some (some (.int .u8 0), 1, 1))
  (v : Value) (l : List UInt8) (y : ByteArray) (hs : a.eval s = v) (hx : a.eval x = .string y) (HO : Own B W v l) (hl : l.length + y.size ≤ 140737488355328)
  (h : ∀ v1 w1, Own B w1 v1 (l ++ y.data.toList) → W.grownBy w1 v.ownBlock → (v1.ownBlock = v.ownBlock ∨ ∃ b, v1.ownBlock = some b ∧ W.heap.size ≤ b) → wpList P ops Q rest (a.put o.dst v1) w1) :
  wpList P ops Q (o :: rest) a W := by
 obtain ⟨i0, hi, hzz⟩ := Option.map_eq_some_iff.1 hinfo
 simp only [Prod.mk.injEq] at hzz
 obtain ⟨hz0, hz1, hz2⟩ := hzz
 obtain ⟨v1, w1, hr, hown, hg, hnil⟩ := Lib.run_append_own_string (P := P) W B t u o.type 5 i0 ht hu hi hz0 hz1 hz2 v l.length (cellsOf l) HO.1 y (by simp only [maxLen]; omega) hl HO.2
 have hat : v1.ownBlock = v.ownBlock ∨ ∃ b, v1.ownBlock = some b ∧ W.heap.size ≤ b := by
  rcases HO.1.2 with ⟨hv, hn⟩ | ⟨g, cap, cur, hv, hbg, hgb, hnc, hcm, hcs, htake⟩
  ·by_cases hm : y.size = 0
   ·rw [hnil.2 ⟨hv, hm⟩, hv]; exact .inl rfl
   ·have h2 := run_append_nil_string (P := P) W t u o.type 5 i0 (.int .u8 0) ht hu hi hz0 y (by omega) (by omega) (by rw [hz2]; omega)
    rw [hv] at hr
    have h3 := hr.symm.trans h2
    injection h3 with h3 _
    rw [h3]
    exact .inr ⟨_, rfl, Nat.le_refl _⟩
  ·by_cases hroom : l.length + y.size ≤ cap
   ·have h2 := Lib.run_append_room_string (P := P) W t u o.type 5 i0 ht hu hi hz1 g l.length cap cur hgb y hroom (by omega)
    rw [hv] at hr
    have h3 := hr.symm.trans h2
    injection h3 with h3 _
    rw [h3, hv]
    exact .inl rfl
   ·have ho1 := HO.1
    rw [hv] at ho1
    have holds : ∀ j u, (cellsOf l)[j]? = some u → W.cell? ((⟨g, 0, none⟩ : Addr).add j) = some u := ho1.cells (g := g) rfl
    have h2 := Lib.run_append_grow_string (P := P) W t u o.type 5 i0 (.int .u8 0) ht hu hi hz0 ⟨g, 0, none⟩ l.length cap (cellsOf l) (by rw [hz1, cellsOf_length]; omega) holds y (by omega) (by omega) (by rw [hz2]; exact growslice_fits (by omega) (by omega))
    rw [hv] at hr
    have h3 := hr.symm.trans h2
    injection h3 with h3 _
    rw [h3]
    exact .inr ⟨_, rfl, Nat.le_refl _⟩
 have e : cellsOf l ++ strCells y = cellsOf (l ++ y.data.toList) := by rw [cellsOf_append, strCells_cells']
 rw [e] at hown
 have ho1 : Own B w1 v1 (l ++ y.data.toList) := ⟨by rw [List.length_append, size_data]; exact hown, Nat.le_trans HO.2 hg.size⟩
 refine wpList_plain hgd fun K' hK' => ?_
 unfold Oper.wp execOp
 simp only [ho, resolve, invoke, builtin, Sem.run_bind, Sem.run_pure, Result.andThen_ok, List.map_toArray, List.map_cons, List.map_nil, hs, hx, hr]
 exact hK' _ _ (h v1 w1 ho1 hg hat)
theorem bool_of (b : Bool) : b = true ∨ b = false := by cases b; exact .inr rfl; exact .inl rfl
set_option maxRecDepth 1000000 in
set_option maxHeartbeats 4000000 in
theorem wfail_calls (Wd : Nat) (free : Bool) (st : St) (sl : Value) (e : Nat) (x : Int) (hx : x = (e : Int)) (W : World) (h : Wr Wd free st sl W) :
  Calls Tryd.prog 50 #[ptr Wd, .int .i64 x] W fun x W' => x = .returned (.tuple #[]) ∧ Wr Wd free (failF st e) sl W' ∧ WrOn Wd sl sl W W' := by
 subst hx
 have c2 := (blk_cell h.blk 2).trans rfl
 have f2 := blk_free h.blk 2
 have H := am h
 have HX := am (h.setE e e rfl)
 dsimp at c2
 by_cases he : st.e = 0
 ·have hF : failF st e = ⟨st.out, e⟩ := by unfold failF; rw [if_pos he]
  have HF := am hF
  have e0 : ((st.e : Int) == 0) = true := by rw [he]; rfl
  clear h hF
  go_enter Tryd.func50, Tryd.ntmps50
  go_wp2
  go_end0
  rw [HF.out]
  exact ⟨rfl, HX.out.1, HX.out.2⟩
 ·have hF : failF st e = st := by unfold failF; rw [if_neg he]
  have HF := am hF
  have e0 : ((st.e : Int) == 0) = false := by
   have : ¬ (st.e : Int) = 0 := by omega
   simp only [beq_eq_false_iff_ne, ne_eq]
   exact this
  clear h hF he
  go_enter Tryd.func50, Tryd.ntmps50
  go_wp2
  go_end0
  rw [HF.out]
  exact ⟨rfl, H.out, WrOn.refl _ _ _⟩
def WEnds (Wd : Nat) (free : Bool) (sl : Value) (W : World) (st' : St) (x : Ending) (W' : World) : Prop :=
 x = .returned (.tuple #[]) ∧ ∃ sl', Wr Wd free st' sl' W' ∧ WrOn Wd sl sl' W W'
structure Room (free : Bool) (st : St) (n : Nat) : Prop where
 all : st.out.length + n ≤ 4611686018427387904
 fre : free = true → st.out.length + n ≤ 140737488355328
 bnd : free = false → st.out.length ≤ 16384
theorem putF_len (free : Bool) (st : St) (s : List UInt8) : (putF free st s).out.length ≤ st.out.length + s.length := by
 unfold putF
 repeat' split
 ·omega
 ·show st.out.length ≤ _; omega
 ·show (st.out ++ s).length ≤ _; rw [List.length_append]; omega
theorem Room.put {free : Bool} {st : St} {n : Nat} (s : List UInt8) (h : Room free st (s.length + n)) : Room free (putF free st s) n := by
 have h1 := putF_len free st s
 refine ⟨by have := h.all; omega, fun hf => by have := h.fre hf; omega, fun hf => ?_⟩
 have h2 := h.bnd hf
 unfold putF
 repeat' split
 ·exact h2
 ·exact h2
 ·rename_i h3 h4
  show (st.out ++ s).length ≤ _
  rw [List.length_append]
  have : ¬ 16384 < st.out.length + s.length := fun hh => h4 ⟨hf, hh⟩
  omega
theorem Room.fail {free : Bool} {st : St} {n : Nat} (e : Nat) (h : Room free st n) : Room free (failF st e) n := by
 unfold failF
 split
 ·exact ⟨h.all, h.fre, h.bnd⟩
 ·exact h
theorem Room.less {free : Bool} {st : St} {n m : Nat} (h : Room free st n) (hm : m ≤ n) : Room free st m := ⟨by have := h.all; omega, fun hf => by have := h.fre hf; omega, h.bnd⟩
set_option maxRecDepth 1000000 in
set_option maxHeartbeats 4000000 in
theorem put_calls (Wd : Nat) (free : Bool) (st : St) (sl : Value) (s : ByteArray) (W : World) (hl : Room free st s.size) (h : Wr Wd free st sl W) :
  Calls Tryd.prog 52 #[ptr Wd, .string s] W (WEnds Wd free sl W (putF free st s.data.toList)) := by
 obtain ⟨A, c, hsl⟩ := h.slice
 subst hsl
 have hall := hl.all
 have HRM := am hl
 clear hl
 have c0 := (blk_cell h.blk 0).trans rfl
 have c1 := (blk_cell h.blk 1).trans rfl
 have c2 := (blk_cell h.blk 2).trans rfl
 have f0 := blk_free h.blk 0
 have f2 := blk_free h.blk 2
 have H := am h
 dsimp at c0 c1 c2
 by_cases he : st.e = 0
 ·have e0 : ((st.e : Int) != 0) = false := by rw [he]; rfl
  by_cases hlong : free = false ∧ 16384 < st.out.length + s.size
  ·have HF := am (show putF free st s.data.toList = failF st 1 by unfold putF failF; rw [if_neg (by simp [he]), if_pos (by rw [size_data]; exact hlong), if_pos he])
   obtain ⟨hf, hlong⟩ := hlong
   subst hf
   have HONE := am (show (1 : Int) = ((1 : Nat) : Int) from rfl)
   have a1 : (16384 : Int) < (st.out.length : Int) + (s.size : Int) := by omega
   clear h
   go_enter Tryd.func52, Tryd.ntmps52
   go_wp2_with (go_at_call 50; (with_reducible refine (wfail_calls Wd false st (.slice A st.out.length c) 1 1 HONE.out _ ?wr).mono ?_); (case wr => exact H.out); rintro e w1 ⟨rfl, hw, ho⟩; have HW := am hw; have HO := am ho; clear hw ho)
   go_end0
   rw [HF.out]
   exact ⟨rfl, _, HW.out, HO.out⟩
  ·have HF := am (show putF free st s.data.toList = ⟨st.out ++ s.data.toList, 0⟩ by unfold putF; rw [if_neg (by simp [he]), if_neg (by rw [size_data]; exact hlong)])
   have hw : free = true ∨ (free = false ∧ ¬ (16384 : Int) < (st.out.length : Int) + (s.size : Int)) := by
    rcases bool_of free with hf | hf
    ·exact .inl hf
    ·exact .inr ⟨hf, fun hh => hlong ⟨hf, by omega⟩⟩
   clear h hlong
   rcases hw with hf | ⟨hf, a1⟩
   ·subst hf
    go_enter Tryd.func52, Tryd.ntmps52
    go_wp2_with (at_builtin; refine Own.str (B := Wd + 1) rfl (.tmp 31) (.tmp 32) 58 9 rfl Tryd.underlying58 Tryd.underlying9 info5 _ st.out s rfl rfl ?own (HRM.out.fre rfl) ?_; (case own => exact H.out.own); intro v1 w5 ho hg hat; have HA := am (H.out.app he ho hg hat); have b0 := (blk_cell ((hg.block Wd H.out.lt (fun hh => by have := (H.out.own.lt Wd hh.symm).1; omega)).trans H.out.blk) 0).trans rfl; have g0 := blk_free ((hg.block Wd H.out.lt (fun hh => by have := (H.out.own.lt Wd hh.symm).1; omega)).trans H.out.blk) 0; dsimp at b0; obtain ⟨A', cp', e5⟩ := ho.slice; rw [List.length_append, size_data] at e5; subst e5; clear ho hg hat)
    go_end0
    rw [HF.out]
    exact ⟨rfl, _, HA.out.1, HA.out.2⟩
   ·subst hf
    have HSM := am (show st.out.length + s.size ≤ 16384 by omega)
    go_enter Tryd.func52, Tryd.ntmps52
    go_wp2_with (at_builtin; refine Own.str (B := Wd + 1) rfl (.tmp 31) (.tmp 32) 58 9 rfl Tryd.underlying58 Tryd.underlying9 info5 _ st.out s rfl rfl ?own2 (by have := HSM.out; omega) ?_; (case own2 => exact H.out.own); intro v1 w5 ho hg hat; have HA := am (H.out.app he ho hg hat); have b0 := (blk_cell ((hg.block Wd H.out.lt (fun hh => by have := (H.out.own.lt Wd hh.symm).1; omega)).trans H.out.blk) 0).trans rfl; have g0 := blk_free ((hg.block Wd H.out.lt (fun hh => by have := (H.out.own.lt Wd hh.symm).1; omega)).trans H.out.blk) 0; dsimp at b0; obtain ⟨A', cp', e5⟩ := ho.slice; rw [List.length_append, size_data] at e5; subst e5; clear ho hg hat)
    go_end0
    rw [HF.out]
    exact ⟨rfl, _, HA.out.1, HA.out.2⟩
 ·have HF := am (show putF free st s.data.toList = st by unfold putF; rw [if_pos he])
  have e0 : ((st.e : Int) != 0) = true := by
   have : ¬ (st.e : Int) = 0 := by omega
   simp only [bne_iff_ne, ne_eq]
   exact this
  clear h he
  go_enter Tryd.func52, Tryd.ntmps52
  go_wp2
  go_end0
  rw [HF.out]
  exact ⟨rfl, _, H.out, WrOn.refl _ _ _⟩
def hexD (n : Nat) : UInt8 := ([48, 49, 50, 51, 52, 53, 54, 55, 56, 57, 97, 98, 99, 100, 101, 102] : List UInt8).getD (n % 16) 48
def unitB (c : Nat) : List UInt8 := [92, 117, hexD (c / 4096), hexD (c / 256), hexD (c / 16), hexD c]
theorem val_step {P : Program} {ops : Array Oper} {rest : List Oper} {o : Oper} {a : Act} {Q : Exit → Act → World → Prop} {w : World} {v : Value} (hg : o.guard = none) (hrun : (execOp a.eval o).run P w = .ok (.value v) w) (h : wpList P ops Q rest (a.put o.dst v) w) : wpList P ops Q (o :: rest) a w := by
 refine wpList_plain hg fun K' hK' => ?_
 unfold Oper.wp
 rw [hrun]
 exact hK' _ _ h
theorem hex_index (d : Nat) (hd : d < 16) (w : World) : (Instr.index 9 (.string ⟨#[48, 49, 50, 51, 52, 53, 54, 55, 56, 57, 97, 98, 99, 100, 101, 102]⟩) (.int .i32 d)).run Tryd.prog w = .ok (.int .u8 (hexD d).toNat) w := by
 rcases (by omega : d = 0 ∨ d = 1 ∨ d = 2 ∨ d = 3 ∨ d = 4 ∨ d = 5 ∨ d = 6 ∨ d = 7 ∨ d = 8 ∨ d = 9 ∨ d = 10 ∨ d = 11 ∨ d = 12 ∨ d = 13 ∨ d = 14 ∨ d = 15) with rfl | rfl | rfl | rfl | rfl | rfl | rfl | rfl | rfl | rfl | rfl | rfl | rfl | rfl | rfl | rfl
 all_goals kernel_rfl
theorem hex_conv (d : Nat) (hd : d < 16) (w : World) : (convert 5 9 (.int .u8 (hexD d).toNat)).run Tryd.prog w = .ok (.string (bs [hexD d])) w := by
 rcases (by omega : d = 0 ∨ d = 1 ∨ d = 2 ∨ d = 3 ∨ d = 4 ∨ d = 5 ∨ d = 6 ∨ d = 7 ∨ d = 8 ∨ d = 9 ∨ d = 10 ∨ d = 11 ∨ d = 12 ∨ d = 13 ∨ d = 14 ∨ d = 15) with rfl | rfl | rfl | rfl | rfl | rfl | rfl | rfl | rfl | rfl | rfl | rfl | rfl | rfl | rfl | rfl
 all_goals kernel_rfl
theorem bs_append (a b : List UInt8) : bs a ++ bs b = bs (a ++ b) := by
 apply ByteArray.ext
 simp [bs]
theorem exec_index {P : Program} {f : Operand → Value} {o : Oper} {t : TypeId} {x i : Operand} {v : Value} {w : World} (ho : o.op = .index t x i) (h : (Instr.index t (f x) (f i)).run P w = .ok v w) : (execOp f o).run P w = .ok (.value v) w := by
 unfold execOp
 simp [ho, h]
theorem exec_convert {P : Program} {f : Operand → Value} {o : Oper} {t u : TypeId} {x : Operand} {v : Value} {w : World} (ho : o.op = .convert t u x) (h : (convert t u (f x)).run P w = .ok v w) : (execOp f o).run P w = .ok (.value v) w := by
 unfold execOp
 simp [ho, h]
theorem and15 (x : Nat) (h : x < 2147483648) : bits .and .i32 (x : Int) 15 = ((x % 16 : Nat) : Int) := by
 have := bits_mask .i32 31 (by decide) wraps_i32 4 (by decide) x (by omega) (by omega)
 have e : ((2 : Int) ^ 4 - 1) = 15 := by decide
 first
  | (rw [e] at this; rw [this]; omega)
  | (simpa using this)
theorem hexD_mod (n : Nat) : hexD (n % 16) = hexD n := by
 unfold hexD
 rw [Nat.mod_mod]
set_option maxRecDepth 1000000 in
set_option maxHeartbeats 1000000 in
theorem unit_calls (Wd : Nat) (free : Bool) (st : St) (sl : Value) (c : Nat) (hc : c ≤ 65535) (W : World) (hl : Room free st 6) (h : Wr Wd free st sl W) :
  Calls Tryd.prog 76 #[ptr Wd, .int .i32 c] W (WEnds Wd free sl W (putF free st (unitB c))) := by
 have H := am h
 have HC := am hc
 clear h
 go_enter Tryd.func76, Tryd.ntmps76
 go_wp2
 go_loopg [4, 5] 5 (fun g v4 v5 wr => wr = W ∧ ∃ l : List UInt8, v4 = .string (bs l) ∧ ((v5 = .int .i64 12 ∧ g = 5 ∧ Aside0 (l = [92, 117])) ∨ (v5 = .int .i64 8 ∧ g = 4 ∧ Aside0 (l = [92, 117, hexD (c / 4096)])) ∨ (v5 = .int .i64 4 ∧ g = 3 ∧ Aside0 (l = [92, 117, hexD (c / 4096), hexD (c / 256)])) ∨ (v5 = .int .i64 0 ∧ g = 2 ∧ Aside0 (l = [92, 117, hexD (c / 4096), hexD (c / 256), hexD (c / 16)])) ∨ (v5 = .int .i64 (-4) ∧ g = 1 ∧ Aside0 (l = unitB c))))
 case atStart => exact ⟨rfl, _, rfl, .inl ⟨rfl, rfl, ⟨rfl⟩⟩⟩
 case round =>
  obtain ⟨rfl, l, rfl, hrel⟩ := hrel
  rcases hrel with ⟨rfl, rfl, HL⟩ | ⟨rfl, rfl, HL⟩ | ⟨rfl, rfl, HL⟩ | ⟨rfl, rfl, HL⟩ | ⟨rfl, rfl, HL⟩
  ·have hm : c / 4096 % 16 < 16 := Nat.mod_lt _ (by omega)
   have fa : bits .and .i32 ((c : Int) / 4096) 15 = ((c / 4096 % 16 : Nat) : Int) := by
    have := and15 (c / 4096) (by have := HC.out; omega)
    rw [← this]
    first | done | rfl
   have HD := am (hexD_mod (c / 4096))
   generalize hdd : c / 4096 % 16 = d at *
   clear hdd
   have hz1 : (bs l).size ≤ 100 := by rw [bs_size, HL.out]; show _ ≤ 100; simp
   have hz2 : (bs [hexD d]).size = 1 := bs_size _
   go_wp2_with (first | ((with_reducible refine gate_dst (N := 15) rfl ?_); refine val_step rfl (exec_index rfl (hex_index d hm _)) ?_) | ((with_reducible refine gate_dst (N := 16) rfl ?_); refine val_step rfl (exec_convert rfl (hex_conv d hm _)) ?_))
   go_roundg 4
   case measure => omega
   case rel => exact ⟨rfl, l ++ [hexD d], congrArg Value.string (bs_append l [hexD d]), .inr (.inl ⟨rfl, rfl, ⟨by rw [HL.out, HD.out]; rfl⟩⟩)⟩
  ·have hm : c / 256 % 16 < 16 := Nat.mod_lt _ (by omega)
   have fa : bits .and .i32 ((c : Int) / 256) 15 = ((c / 256 % 16 : Nat) : Int) := by
    have := and15 (c / 256) (by have := HC.out; omega)
    rw [← this]
    first | done | rfl
   have HD := am (hexD_mod (c / 256))
   generalize hdd : c / 256 % 16 = d at *
   clear hdd
   have hz1 : (bs l).size ≤ 100 := by rw [bs_size, HL.out]; show _ ≤ 100; simp
   have hz2 : (bs [hexD d]).size = 1 := bs_size _
   go_wp2_with (first | ((with_reducible refine gate_dst (N := 15) rfl ?_); refine val_step rfl (exec_index rfl (hex_index d hm _)) ?_) | ((with_reducible refine gate_dst (N := 16) rfl ?_); refine val_step rfl (exec_convert rfl (hex_conv d hm _)) ?_))
   go_roundg 3
   case measure => omega
   case rel => exact ⟨rfl, l ++ [hexD d], congrArg Value.string (bs_append l [hexD d]), .inr (.inr (.inl ⟨rfl, rfl, ⟨by rw [HL.out, HD.out]; rfl⟩⟩))⟩
  ·have hm : c / 16 % 16 < 16 := Nat.mod_lt _ (by omega)
   have fa : bits .and .i32 ((c : Int) / 16) 15 = ((c / 16 % 16 : Nat) : Int) := by
    have := and15 (c / 16) (by have := HC.out; omega)
    rw [← this]
    first | done | rfl
   have HD := am (hexD_mod (c / 16))
   generalize hdd : c / 16 % 16 = d at *
   clear hdd
   have hz1 : (bs l).size ≤ 100 := by rw [bs_size, HL.out]; show _ ≤ 100; simp
   have hz2 : (bs [hexD d]).size = 1 := bs_size _
   go_wp2_with (first | ((with_reducible refine gate_dst (N := 15) rfl ?_); refine val_step rfl (exec_index rfl (hex_index d hm _)) ?_) | ((with_reducible refine gate_dst (N := 16) rfl ?_); refine val_step rfl (exec_convert rfl (hex_conv d hm _)) ?_))
   go_roundg 2
   case measure => omega
   case rel => exact ⟨rfl, l ++ [hexD d], congrArg Value.string (bs_append l [hexD d]), .inr (.inr (.inr (.inl ⟨rfl, rfl, ⟨by rw [HL.out, HD.out]; rfl⟩⟩)))⟩
  ·have hm : c % 16 < 16 := Nat.mod_lt _ (by omega)
   have fa : bits .and .i32 ((c : Int)) 15 = ((c % 16 : Nat) : Int) := by
    have := and15 (c) (by have := HC.out; omega)
    rw [← this]
    first | done | rfl
   have HD := am (hexD_mod (c))
   generalize hdd : c % 16 = d at *
   clear hdd
   have hz1 : (bs l).size ≤ 100 := by rw [bs_size, HL.out]; show _ ≤ 100; simp
   have hz2 : (bs [hexD d]).size = 1 := bs_size _
   go_wp2_with (first | ((with_reducible refine gate_dst (N := 15) rfl ?_); refine val_step rfl (exec_index rfl (hex_index d hm _)) ?_) | ((with_reducible refine gate_dst (N := 16) rfl ?_); refine val_step rfl (exec_convert rfl (hex_conv d hm _)) ?_))
   go_roundg 1
   case measure => omega
   case rel => exact ⟨rfl, l ++ [hexD d], congrArg Value.string (bs_append l [hexD d]), .inr (.inr (.inr (.inr ⟨rfl, rfl, ⟨by rw [HL.out, HD.out]; rfl⟩⟩)))⟩
  ·go_wp2_with (go_at_call 52; (with_reducible refine (put_calls Wd free st sl (bs l) _ ?hl ?wr).mono ?_); (case hl => rw [bs_size, HL.out]; exact hl); (case wr => exact H.out); rintro e w1 ⟨rfl, sl', hw, ho⟩; have HW := am hw; have HO := am ho; clear hw ho)
   go_end0
   have e := HW.out
   rw [data_bs, HL.out] at e
   exact ⟨rfl, sl', e, HO.out⟩
def setIt (W : World) (k : Nat) (o : Obj) : World := { W with heap := W.heap.setIfInBounds k o }
theorem setIt_same {W : World} {k : Nat} {o o' : Obj} (h : W.heap[k]? = some o) : (setIt W k o').heap[k]? = some o' := by
 have := lt_of_block h
 simp [setIt, this]
theorem setIt_other (W : World) (k b : Nat) (o : Obj) (h : b ≠ k) : (setIt W k o).heap[b]? = W.heap[b]? := by
 simp [setIt, Ne.symm h]
theorem setIt_size (W : World) (k : Nat) (o : Obj) : (setIt W k o).heap.size = W.heap.size := by simp [setIt]
theorem next_at {P : Program} (W : World) (k : Nat) (s : ByteArray) (pos : Nat) (hb : W.heap[k]? = some (.stringIter s pos)) (h : pos < s.size) (ty : TypeId) :
  (Instr.next (.pointer (some ⟨k, 0, none⟩)) true ty).run P W = .ok (.tuple #[.bool true, .int .i64 pos, .int .i32 (Utf8.decode s pos).1]) (setIt W k (.stringIter s (pos + (Utf8.decode s pos).2))) := by
 simp only [Instr.next, getObj, setObj, Sem.run_bind, Sem.run, hb, Result.andThen, h, if_true]
 simp [goInt, setIt]
theorem next_end {P : Program} (W : World) (k : Nat) (s : ByteArray) (pos : Nat) (hb : W.heap[k]? = some (.stringIter s pos)) (h : ¬ pos < s.size) (ty : TypeId) :
  (Instr.next (.pointer (some ⟨k, 0, none⟩)) true ty).run P W = .ok (.tuple #[.bool false]) W := by
 simp [Instr.next, getObj, Sem.run, hb, h]
theorem range_str {P : Program} (W : World) (t : TypeId) (s : ByteArray) (h : P.underlying t = some .string) : (Instr.range t (.string s)).run P W = .ok (.pointer (some ⟨W.heap.size, 0, none⟩)) (W.alloc (.stringIter s 0)) :=
 run_range_string W t s h
theorem dec_small (s : ByteArray) (pos : Nat) : (Utf8.decode s pos).1 ≤ 2097151 ∧ 1 ≤ (Utf8.decode s pos).2 := by
 have hb : ∀ k, (s.get! (pos + k)).toNat < 256 := fun k => (s.get! (pos + k)).toNat_lt
 have h0 := hb 0; have h1 := hb 1; have h2 := hb 2; have h3 := hb 3
 simp only [Utf8.decode]
 repeat' split
 all_goals simp_all [Utf8.runeError]
 all_goals omega
def runeB (c : Nat) : List (List UInt8) :=
 if c = 34 ∨ c = 92 then [[92, UInt8.ofNat c]] else if c = 8 then [[92, 98]] else if c = 9 then [[92, 116]] else if c = 10 then [[92, 110]] else if c = 12 then [[92, 102]] else if c = 13 then [[92, 114]]
 else if 32 ≤ c ∧ c ≤ 126 then [[UInt8.ofNat c]] else if 65535 < c then [unitB (55296 + (c - 65536) / 1024), unitB (56320 + (c - 65536) % 1024)] else [unitB c]
def quoteL (s : ByteArray) : Nat → Nat → List (List UInt8)
 | 0, _ => []
 | k + 1, pos => if pos < s.size then runeB (Utf8.decode s pos).1 ++ quoteL s k (pos + (Utf8.decode s pos).2) else []
def putsF (free : Bool) (st : St) (l : List (List UInt8)) : St := l.foldl (putF free) st
def quoteB (s : ByteArray) : List (List UInt8) := [34] :: (quoteL s (s.size + 1) 0 ++ [[34]])
theorem quoteL_end (s : ByteArray) (k pos : Nat) (h : ¬ pos < s.size) : quoteL s k pos = [] := by
 cases k with
 | zero => rfl
 | succ k => simp only [quoteL, if_neg h]
theorem quoteL_on (s : ByteArray) (k pos : Nat) (h : pos < s.size) : quoteL s (k + 1) pos = runeB (Utf8.decode s pos).1 ++ quoteL s k (pos + (Utf8.decode s pos).2) := by simp only [quoteL, if_pos h]
theorem putsF_cons (free : Bool) (st : St) (a : List UInt8) (l : List (List UInt8)) : putsF free st (a :: l) = putsF free (putF free st a) l := rfl
theorem enc_ascii (c : Nat) (h : c < 128) : Utf8.encode (c : Int) = bs [UInt8.ofNat c] := by
 have hv : Utf8.valid (c : Int) = true := by rw [validRune_eq]; unfold validRune; exact decide_eq_true (.inl ⟨by omega, by omega⟩)
 unfold Utf8.encode
 simp only [hv, if_true, Int.toNat_natCast]
 rw [if_pos (by omega)]
 rfl
theorem and1023 (x : Nat) (h : x < 2147483648) : bits .and .i32 (x : Int) 1023 = ((x % 1024 : Nat) : Int) := by
 have := bits_mask .i32 31 (by decide) wraps_i32 10 (by decide) x (by omega) (by omega)
 have e : ((2 : Int) ^ 10 - 1) = 1023 := by decide
 first
  | (rw [e] at this; rw [this]; omega)
  | (simpa using this)
theorem w32 (x : Int) (h0 : -2147483648 ≤ x) (h1 : x < 2147483648) : wrap32 x = x := by unfold wrap32; omega
theorem big_u (c : Nat) (h1 : 65535 < c) (h2 : c ≤ 2097151) : ∃ u : Nat, u ≤ 2031615 ∧ c - 65536 = u ∧ (c : Int) - 65536 = (u : Int) := ⟨c - 65536, by omega, by omega, by omega⟩
theorem big_n (u : Nat) (h : u ≤ 2031615) : ∃ n1 n2 u2 : Nat, n1 ≤ 65535 ∧ n2 ≤ 65535 ∧ 55296 + u / 1024 = n1 ∧ 56320 + u % 1024 = n2 ∧ bits .and .i32 (u : Int) 1023 = (u2 : Int) ∧ 55296 + (u : Int) / 1024 = (n1 : Int) ∧ 56320 + (u2 : Int) = (n2 : Int) :=
 ⟨55296 + u / 1024, 56320 + u % 1024, u % 1024, by omega, by omega, by omega, by omega, and1023 u (by omega), by omega, by omega⟩
theorem big_facts (c : Nat) (h1 : 65535 < c) (h2 : c ≤ 2097151) : ∃ u n1 n2 u2 : Nat, n1 ≤ 65535 ∧ n2 ≤ 65535 ∧ 55296 + (c - 65536) / 1024 = n1 ∧ 56320 + (c - 65536) % 1024 = n2 ∧ wrap32 ((c : Int) - 65536) = (u : Int) ∧ (c : Int) - 65536 = (u : Int) ∧ bits .and .i32 (u : Int) 1023 = (u2 : Int) ∧
  55296 + (u : Int) / 1024 = (n1 : Int) ∧ wrap32 (55296 + (u : Int) / 1024) = (n1 : Int) ∧ 56320 + (u2 : Int) = (n2 : Int) ∧ wrap32 (56320 + (u2 : Int)) = (n2 : Int) ∧ wrap32 (n1 : Int) = (n1 : Int) ∧ wrap32 (n2 : Int) = (n2 : Int) := by
 obtain ⟨u, hu, e1, e2⟩ := big_u c h1 h2
 obtain ⟨n1, n2, u2, g1, g2, e3, e4, e5, e6, e7⟩ := big_n u hu
 exact ⟨u, n1, n2, u2, g1, g2, by rw [e1]; exact e3, by rw [e1]; exact e4, by rw [e2]; exact w32 _ (by omega) (by omega), e2, e5, e6, by rw [e6]; exact w32 _ (by omega) (by omega), e7, by rw [e7]; exact w32 _ (by omega) (by omega), w32 _ (by omega) (by omega), w32 _ (by omega) (by omega)⟩
theorem Wr.it {Wd k : Nat} {free : Bool} {st : St} {sl : Value} {W : World} {s : ByteArray} {p : Nat} (o : Obj) (h : Wr Wd free st sl W) (hk : W.heap[k]? = some (.stringIter s p)) : Wr Wd free st sl (setIt W k o) := by
 have h1 : Wd ≠ k := by rintro rfl; rw [h.blk] at hk; cases hk
 refine ⟨(setIt_other _ _ _ _ h1).trans h.blk, h.own.heap (by rw [setIt_size]; exact Nat.le_refl _) fun g hg => setIt_other _ _ _ _ ?_⟩
 rintro rfl
 obtain ⟨cells, hc⟩ := own_typed h.own.1 _ hg
 rw [hk] at hc
 cases hc
theorem WrOn.it {Wd k : Nat} {sl sl' : Value} {W W' : World} (o : Obj) (h : WrOn Wd sl sl' W W') (hk : W.heap.size ≤ k) (hW : Wd ≤ W.heap.size) : WrOn Wd sl sl' W (setIt W' k o) := by
 refine ⟨⟨h.low.os, h.low.tape, h.low.output, by rw [setIt_size]; exact h.low.size, fun b hb => (setIt_other _ _ _ _ (by omega)).trans (h.low.block b hb)⟩, fun b hb h1 h2 => (setIt_other _ _ _ _ (by omega)).trans (h.kept b hb h1 h2), by rw [setIt_size]; exact h.size, h.at_⟩
theorem it_on {Wd k : Nat} {sl sl' : Value} {W W' : World} {free : Bool} {st : St} {s : ByteArray} {p : Nat} (hk : W.heap[k]? = some (.stringIter s p)) (hw : Wr Wd free st sl W) (h : WrOn Wd sl sl' W W') : W'.heap[k]? = some (.stringIter s p) := by
 refine (h.kept k (lt_of_block hk) ?_ ?_).trans hk
 ·rintro rfl; rw [hw.blk] at hk; cases hk
 ·intro hh
  obtain ⟨cells, hc⟩ := own_typed hw.own.1 k hh.symm
  rw [hk] at hc
  cases hc
theorem unitB_len (c : Nat) : (unitB c).length = 6 := rfl
set_option maxRecDepth 1000000 in
set_option maxHeartbeats 1000000 in
theorem quote_calls (Wd : Nat) (free : Bool) (st : St) (sl : Value) (s : ByteArray) (W : World) (hs : s.size ≤ 288230376151711743) (hl : Room free st (12 * s.size + 14)) (h : Wr Wd free st sl W) :
  Calls Tryd.prog 53 #[ptr Wd, .string s] W (WEnds Wd free sl W (putsF free st (quoteB s))) := by
 have H := am h
 have HRM := am (hl.less (show 1 + (12 * s.size + 13) ≤ 12 * s.size + 14 by omega))
 have HW := am h.lt
 have hrs := fun w => range_str (P := Tryd.prog) w 9 s Tryd.underlying9
 clear h hl
 go_enter Tryd.func53, Tryd.ntmps53
 go_wp2_with (go_at_call 52; (with_reducible refine (put_calls Wd free st sl ⟨#[34]⟩ _ ?rmp15 ?wrp15).mono ?_); (case rmp15 => exact HRM.out.less (show 1 ≤ _ by omega)); (case wrp15 => exact H.out); rintro e w1 ⟨rfl, sl1, hw_, ho_⟩; have HW1 := am hw_; have HO1 := am ho_; clear hw_ ho_)
 have HI1 := am (heap_alloc_new w1 (.stringIter s 0))
 have HW2 := am (HW1.out.below (below_alloc (Below.refl _ _) (.stringIter s 0)))
 have HO2 := am (HO1.out.trans (WrOn.of_below (Nat.le_of_lt HW1.out.lt) (below_alloc (Below.refl _ _) (.stringIter s 0))))
 have hle := HO1.out.size
 go_loopg [] (s.size + 1) (fun g wr => ∃ (pos : Nat) (st2 : St) (sl2 : Value), s.size + 1 ≤ pos + g ∧ Aside0 (wr.heap[w1.heap.size]? = some (.stringIter s pos)) ∧ Aside0 (Wr Wd free st2 sl2 wr) ∧ Aside0 (WrOn Wd sl sl2 W wr) ∧ Aside0 (Room free st2 (12 * (s.size - pos) + 13)) ∧ Aside0 (putsF free st2 (quoteL s g pos ++ [[34]]) = putsF free st (quoteB s)))
 case atStart => exact ⟨0, putF free st [34], sl1, by omega, HI1, HW2, HO2, ⟨HRM.out.put [34]⟩, ⟨rfl⟩⟩
 case round =>
  obtain ⟨pos, st2, sl2, hpg, HI, HW3, HO3, HR3, HX⟩ := hrel
  clear HI1 HW1 HW2 HO1 HO2
  by_cases hlt : pos < s.size
  ·cases gk with
   | zero => omega
   | succ g =>
    have HXr := am ((congrArg (fun l => putsF free st2 (l ++ [[34]])) (quoteL_on s g pos hlt)).symm.trans HX.out)
    obtain ⟨hc1, hc2⟩ := dec_small s pos
    have hnx := fun ty => next_at (P := Tryd.prog) wr w1.heap.size s pos HI.out hlt ty
    have HIn := am (setIt_same (o' := .stringIter s (pos + (Utf8.decode s pos).2)) HI.out)
    have HWn := am (HW3.out.it (.stringIter s (pos + (Utf8.decode s pos).2)) HI.out)
    have HOn := am (HO3.out.it (.stringIter s (pos + (Utf8.decode s pos).2)) hle (Nat.le_of_lt HW.out))
    have hp1 : s.size + 1 ≤ (pos + (Utf8.decode s pos).2) + g := by omega
    have HRn := am (HR3.out.less (show 12 + (12 * (s.size - (pos + (Utf8.decode s pos).2)) + 13) ≤ 12 * (s.size - pos) + 13 by omega))
    have hlt2 := hlt
    generalize hp2 : pos + (Utf8.decode s pos).2 = pos2 at *
    generalize (Utf8.decode s pos).1 = c at *
    generalize hwn : setIt wr w1.heap.size (.stringIter s pos2) = wn at *
    clear hp2 hwn hc2 HI HW3 HO3 HR3 HX
    by_cases h34 : c = 34
    ·have e34 : ((c : Int) == 34) = true := by simp only [beq_iff_eq]; omega
     have hrb : runeB c = [[92, UInt8.ofNat c]] := by unfold runeB; rw [if_pos (by omega)]
     have hcv := enc_ascii c (by omega)
     clear h34
     have hz1 : (bs [UInt8.ofNat c]).size = 1 := bs_size _
     have hz0 : ByteArray.size ⟨#[92]⟩ = 1 := rfl
     have HCC := am (show (⟨#[92]⟩ : ByteArray) ++ bs [UInt8.ofNat c] = bs [92, UInt8.ofNat c] from bs_append [92] [UInt8.ofNat c])
     have HXc := am (show putsF free (putF free st2 [92, UInt8.ofNat c]) (quoteL s g pos2 ++ [[34]]) = putsF free st (quoteB s) by have := HXr.out; rw [hrb] at this; exact this)
     clear hrb
     go_wp2_with ((go_at_call 52; (with_reducible refine (put_calls Wd free st2 sl2 (⟨#[92]⟩ ++ bs [UInt8.ofNat c]) _ ?rmp1 ?wrp1).mono ?_); (case rmp1 => exact (HRn.out.less (show [92, UInt8.ofNat c].length ≤ _ by simp only [List.length_cons, List.length_nil]; omega))); (case wrp1 => exact HWn.out); rintro e w5 ⟨rfl, sl5, hw_, ho_⟩; have HW5 := am hw_; have HO5 := am ho_; clear hw_ ho_))
     go_roundg g
     case measure => omega
     case rel => exact ⟨pos2, putF free st2 [92, UInt8.ofNat c], sl5, hp1, ⟨it_on HIn.out HWn.out HO5.out⟩, HW5, ⟨HOn.out.trans HO5.out⟩, ⟨Room.put [92, UInt8.ofNat c] (HRn.out.less (show [92, UInt8.ofNat c].length + (12 * (s.size - pos2) + 13) ≤ _ by simp only [List.length_cons, List.length_nil]; omega))⟩, HXc⟩
    have e34 : ((c : Int) == 34) = false := by simp only [beq_eq_false_iff_ne, ne_eq]; omega
    by_cases h92 : c = 92
    ·have e92 : ((c : Int) == 92) = true := by simp only [beq_iff_eq]; omega
     have hrb : runeB c = [[92, UInt8.ofNat c]] := by unfold runeB; rw [if_pos (by omega)]
     have hcv := enc_ascii c (by omega)
     clear h92
     have hz1 : (bs [UInt8.ofNat c]).size = 1 := bs_size _
     have hz0 : ByteArray.size ⟨#[92]⟩ = 1 := rfl
     have HCC := am (show (⟨#[92]⟩ : ByteArray) ++ bs [UInt8.ofNat c] = bs [92, UInt8.ofNat c] from bs_append [92] [UInt8.ofNat c])
     have HXc := am (show putsF free (putF free st2 [92, UInt8.ofNat c]) (quoteL s g pos2 ++ [[34]]) = putsF free st (quoteB s) by have := HXr.out; rw [hrb] at this; exact this)
     clear hrb
     go_wp2_with ((go_at_call 52; (with_reducible refine (put_calls Wd free st2 sl2 (⟨#[92]⟩ ++ bs [UInt8.ofNat c]) _ ?rmp2 ?wrp2).mono ?_); (case rmp2 => exact (HRn.out.less (show [92, UInt8.ofNat c].length ≤ _ by simp only [List.length_cons, List.length_nil]; omega))); (case wrp2 => exact HWn.out); rintro e w5 ⟨rfl, sl5, hw_, ho_⟩; have HW5 := am hw_; have HO5 := am ho_; clear hw_ ho_))
     go_roundg g
     case measure => omega
     case rel => exact ⟨pos2, putF free st2 [92, UInt8.ofNat c], sl5, hp1, ⟨it_on HIn.out HWn.out HO5.out⟩, HW5, ⟨HOn.out.trans HO5.out⟩, ⟨Room.put [92, UInt8.ofNat c] (HRn.out.less (show [92, UInt8.ofNat c].length + (12 * (s.size - pos2) + 13) ≤ _ by simp only [List.length_cons, List.length_nil]; omega))⟩, HXc⟩
    have e92 : ((c : Int) == 92) = false := by simp only [beq_eq_false_iff_ne, ne_eq]; omega
    by_cases h8 : c = 8
    ·have e8 : ((c : Int) == 8) = true := by simp only [beq_iff_eq]; omega
     have hrb : runeB c = [[92, 98]] := by unfold runeB; rw [if_neg (by omega)]; exact if_pos h8
     clear h8
     have HXc := am (show putsF free (putF free st2 [92, 98]) (quoteL s g pos2 ++ [[34]]) = putsF free st (quoteB s) by have := HXr.out; rw [hrb] at this; exact this)
     clear hrb
     go_wp2_with ((go_at_call 52; (with_reducible refine (put_calls Wd free st2 sl2 ⟨#[92, 98]⟩ _ ?rmp3 ?wrp3).mono ?_); (case rmp3 => exact (HRn.out.less (show [92, 98].length ≤ _ by simp only [List.length_cons, List.length_nil]; omega))); (case wrp3 => exact HWn.out); rintro e w5 ⟨rfl, sl5, hw_, ho_⟩; have HW5 := am hw_; have HO5 := am ho_; clear hw_ ho_))
     go_roundg g
     case measure => omega
     case rel => exact ⟨pos2, putF free st2 [92, 98], sl5, hp1, ⟨it_on HIn.out HWn.out HO5.out⟩, HW5, ⟨HOn.out.trans HO5.out⟩, ⟨Room.put [92, 98] (HRn.out.less (show [92, 98].length + (12 * (s.size - pos2) + 13) ≤ _ by simp only [List.length_cons, List.length_nil]; omega))⟩, HXc⟩
    have e8 : ((c : Int) == 8) = false := by simp only [beq_eq_false_iff_ne, ne_eq]; omega
    by_cases h9 : c = 9
    ·have e9 : ((c : Int) == 9) = true := by simp only [beq_iff_eq]; omega
     have hrb : runeB c = [[92, 116]] := by unfold runeB; rw [if_neg (by omega), if_neg h8]; exact if_pos h9
     clear h9
     have HXc := am (show putsF free (putF free st2 [92, 116]) (quoteL s g pos2 ++ [[34]]) = putsF free st (quoteB s) by have := HXr.out; rw [hrb] at this; exact this)
     clear hrb
     go_wp2_with ((go_at_call 52; (with_reducible refine (put_calls Wd free st2 sl2 ⟨#[92, 116]⟩ _ ?rmp4 ?wrp4).mono ?_); (case rmp4 => exact (HRn.out.less (show [92, 116].length ≤ _ by simp only [List.length_cons, List.length_nil]; omega))); (case wrp4 => exact HWn.out); rintro e w5 ⟨rfl, sl5, hw_, ho_⟩; have HW5 := am hw_; have HO5 := am ho_; clear hw_ ho_))
     go_roundg g
     case measure => omega
     case rel => exact ⟨pos2, putF free st2 [92, 116], sl5, hp1, ⟨it_on HIn.out HWn.out HO5.out⟩, HW5, ⟨HOn.out.trans HO5.out⟩, ⟨Room.put [92, 116] (HRn.out.less (show [92, 116].length + (12 * (s.size - pos2) + 13) ≤ _ by simp only [List.length_cons, List.length_nil]; omega))⟩, HXc⟩
    have e9 : ((c : Int) == 9) = false := by simp only [beq_eq_false_iff_ne, ne_eq]; omega
    by_cases h10 : c = 10
    ·have e10 : ((c : Int) == 10) = true := by simp only [beq_iff_eq]; omega
     have hrb : runeB c = [[92, 110]] := by unfold runeB; rw [if_neg (by omega), if_neg h8, if_neg h9]; exact if_pos h10
     clear h10
     have HXc := am (show putsF free (putF free st2 [92, 110]) (quoteL s g pos2 ++ [[34]]) = putsF free st (quoteB s) by have := HXr.out; rw [hrb] at this; exact this)
     clear hrb
     go_wp2_with ((go_at_call 52; (with_reducible refine (put_calls Wd free st2 sl2 ⟨#[92, 110]⟩ _ ?rmp5 ?wrp5).mono ?_); (case rmp5 => exact (HRn.out.less (show [92, 110].length ≤ _ by simp only [List.length_cons, List.length_nil]; omega))); (case wrp5 => exact HWn.out); rintro e w5 ⟨rfl, sl5, hw_, ho_⟩; have HW5 := am hw_; have HO5 := am ho_; clear hw_ ho_))
     go_roundg g
     case measure => omega
     case rel => exact ⟨pos2, putF free st2 [92, 110], sl5, hp1, ⟨it_on HIn.out HWn.out HO5.out⟩, HW5, ⟨HOn.out.trans HO5.out⟩, ⟨Room.put [92, 110] (HRn.out.less (show [92, 110].length + (12 * (s.size - pos2) + 13) ≤ _ by simp only [List.length_cons, List.length_nil]; omega))⟩, HXc⟩
    have e10 : ((c : Int) == 10) = false := by simp only [beq_eq_false_iff_ne, ne_eq]; omega
    by_cases h12 : c = 12
    ·have e12 : ((c : Int) == 12) = true := by simp only [beq_iff_eq]; omega
     have hrb : runeB c = [[92, 102]] := by unfold runeB; rw [if_neg (by omega), if_neg h8, if_neg h9, if_neg h10]; exact if_pos h12
     clear h12
     have HXc := am (show putsF free (putF free st2 [92, 102]) (quoteL s g pos2 ++ [[34]]) = putsF free st (quoteB s) by have := HXr.out; rw [hrb] at this; exact this)
     clear hrb
     go_wp2_with ((go_at_call 52; (with_reducible refine (put_calls Wd free st2 sl2 ⟨#[92, 102]⟩ _ ?rmp6 ?wrp6).mono ?_); (case rmp6 => exact (HRn.out.less (show [92, 102].length ≤ _ by simp only [List.length_cons, List.length_nil]; omega))); (case wrp6 => exact HWn.out); rintro e w5 ⟨rfl, sl5, hw_, ho_⟩; have HW5 := am hw_; have HO5 := am ho_; clear hw_ ho_))
     go_roundg g
     case measure => omega
     case rel => exact ⟨pos2, putF free st2 [92, 102], sl5, hp1, ⟨it_on HIn.out HWn.out HO5.out⟩, HW5, ⟨HOn.out.trans HO5.out⟩, ⟨Room.put [92, 102] (HRn.out.less (show [92, 102].length + (12 * (s.size - pos2) + 13) ≤ _ by simp only [List.length_cons, List.length_nil]; omega))⟩, HXc⟩
    have e12 : ((c : Int) == 12) = false := by simp only [beq_eq_false_iff_ne, ne_eq]; omega
    by_cases h13 : c = 13
    ·have e13 : ((c : Int) == 13) = true := by simp only [beq_iff_eq]; omega
     have hrb : runeB c = [[92, 114]] := by unfold runeB; rw [if_neg (by omega), if_neg h8, if_neg h9, if_neg h10, if_neg h12]; exact if_pos h13
     clear h13
     have HXc := am (show putsF free (putF free st2 [92, 114]) (quoteL s g pos2 ++ [[34]]) = putsF free st (quoteB s) by have := HXr.out; rw [hrb] at this; exact this)
     clear hrb
     go_wp2_with ((go_at_call 52; (with_reducible refine (put_calls Wd free st2 sl2 ⟨#[92, 114]⟩ _ ?rmp7 ?wrp7).mono ?_); (case rmp7 => exact (HRn.out.less (show [92, 114].length ≤ _ by simp only [List.length_cons, List.length_nil]; omega))); (case wrp7 => exact HWn.out); rintro e w5 ⟨rfl, sl5, hw_, ho_⟩; have HW5 := am hw_; have HO5 := am ho_; clear hw_ ho_))
     go_roundg g
     case measure => omega
     case rel => exact ⟨pos2, putF free st2 [92, 114], sl5, hp1, ⟨it_on HIn.out HWn.out HO5.out⟩, HW5, ⟨HOn.out.trans HO5.out⟩, ⟨Room.put [92, 114] (HRn.out.less (show [92, 114].length + (12 * (s.size - pos2) + 13) ≤ _ by simp only [List.length_cons, List.length_nil]; omega))⟩, HXc⟩
    have e13 : ((c : Int) == 13) = false := by simp only [beq_eq_false_iff_ne, ne_eq]; omega
    by_cases hpr : 32 ≤ c ∧ c ≤ 126
    ·have hrb : runeB c = [[UInt8.ofNat c]] := by unfold runeB; rw [if_neg (by omega), if_neg h8, if_neg h9, if_neg h10, if_neg h12, if_neg h13, if_pos hpr]
     have a1 : (32 : Int) ≤ (c : Int) := by omega
     have a2 : (c : Int) ≤ 126 := by omega
     have hcv := enc_ascii c (by omega)
     have HXc := am (show putsF free (putF free st2 [UInt8.ofNat c]) (quoteL s g pos2 ++ [[34]]) = putsF free st (quoteB s) by have := HXr.out; rw [hrb] at this; exact this)
     clear hrb
     go_wp2_with ((go_at_call 52; (with_reducible refine (put_calls Wd free st2 sl2 (bs [UInt8.ofNat c]) _ ?rmp8 ?wrp8).mono ?_); (case rmp8 => exact (HRn.out.less (show [UInt8.ofNat c].length ≤ _ by simp only [List.length_cons, List.length_nil]; omega))); (case wrp8 => exact HWn.out); rintro e w5 ⟨rfl, sl5, hw_, ho_⟩; have HW5 := am hw_; have HO5 := am ho_; clear hw_ ho_))
     go_roundg g
     case measure => omega
     case rel => exact ⟨pos2, putF free st2 [UInt8.ofNat c], sl5, hp1, ⟨it_on HIn.out HWn.out HO5.out⟩, HW5, ⟨HOn.out.trans HO5.out⟩, ⟨Room.put [UInt8.ofNat c] (HRn.out.less (show [UInt8.ofNat c].length + (12 * (s.size - pos2) + 13) ≤ _ by simp only [List.length_cons, List.length_nil]; omega))⟩, HXc⟩
    by_cases hlo : 32 ≤ c
    ·have a1 : (32 : Int) ≤ (c : Int) := by omega
     have a2 : ¬ (c : Int) ≤ 126 := by omega
     have a3 : decide ((c : Int) ≤ 126) = false := decide_eq_false a2
     by_cases hbig : 65535 < c
     ·have hrb : runeB c = [unitB (55296 + (c - 65536) / 1024), unitB (56320 + (c - 65536) % 1024)] := by unfold runeB; rw [if_neg (by omega), if_neg h8, if_neg h9, if_neg h10, if_neg h12, if_neg h13, if_neg hpr, if_pos hbig]
      have b1 : (65535 : Int) < (c : Int) := by omega
      obtain ⟨u, n1, n2, u2, hn1', hn2', k1, k2, hsub, hsub2, hm, hA1, hA2, hA3, hA4, hA5, hA6⟩ := big_facts c hbig hc1
      rw [k1, k2] at hrb
      have HN1 := am hn1'
      have HN2 := am hn2'
      have HXc := am (show putsF free (putF free (putF free st2 (unitB n1)) (unitB n2)) (quoteL s g pos2 ++ [[34]]) = putsF free st (quoteB s) by have := HXr.out; rw [hrb] at this; exact this)
      clear hrb hpr k1 k2 hn1' hn2'
      have HRu := am (HRn.out.less (show (unitB n1).length + ((unitB n2).length + (12 * (s.size - pos2) + 13)) ≤ _ by rw [unitB_len, unitB_len]; omega))
      go_wp2_with (first | (go_at_call 76; (with_reducible refine (unit_calls Wd free st2 sl2 n1 HN1.out _ ?rmp9 ?wrp9).mono ?_); (case rmp9 => exact (HRu.out.less (by rw [unitB_len]; omega))); (case wrp9 => exact HWn.out); rintro e w5 ⟨rfl, sl5, hw_, ho_⟩; have HW5 := am hw_; have HO5 := am ho_; clear hw_ ho_) | (go_at_call 76; (with_reducible refine (unit_calls Wd free (putF free st2 (unitB n1)) sl5 n2 HN2.out _ ?rmp10 ?wrp10).mono ?_); (case rmp10 => exact ((HRu.out.put _).less (by rw [unitB_len]; omega))); (case wrp10 => exact HW5.out); rintro e w6 ⟨rfl, sl6, hw_, ho_⟩; have HW6 := am hw_; have HO6 := am ho_; clear hw_ ho_))
      go_roundg g
      case measure => omega
      case rel => exact ⟨pos2, _, sl6, hp1, ⟨it_on HIn.out HWn.out (HO5.out.trans HO6.out)⟩, HW6, ⟨HOn.out.trans (HO5.out.trans HO6.out)⟩, ⟨(HRu.out.put _).put _⟩, HXc⟩
     ·have hrb : runeB c = [unitB c] := by unfold runeB; rw [if_neg (by omega), if_neg h8, if_neg h9, if_neg h10, if_neg h12, if_neg h13, if_neg hpr, if_neg hbig]
      have HXc := am (show putsF free (putF free st2 (unitB c)) (quoteL s g pos2 ++ [[34]]) = putsF free st (quoteB s) by have := HXr.out; rw [hrb] at this; exact this)
      clear hrb hpr
      have b1 : ¬ (65535 : Int) < (c : Int) := by omega
      have b2 : decide ((65535 : Int) < (c : Int)) = false := decide_eq_false b1
      have HRu := am (HRn.out.less (show (unitB c).length + (12 * (s.size - pos2) + 13) ≤ _ by rw [unitB_len]; omega))
      go_wp2_with (go_at_call 76; (with_reducible refine (unit_calls Wd free st2 sl2 c (by omega) _ ?rmq11 ?wrq11).mono ?_); (case rmq11 => exact HRu.out.less (by rw [unitB_len]; omega)); (case wrq11 => exact HWn.out); rintro e w5 ⟨rfl, sl5, hw_, ho_⟩; have HW5 := am hw_; have HO5 := am ho_; clear hw_ ho_)
      go_roundg g
      case measure => omega
      case rel => exact ⟨pos2, _, sl5, hp1, ⟨it_on HIn.out HWn.out HO5.out⟩, HW5, ⟨HOn.out.trans HO5.out⟩, ⟨HRu.out.put _⟩, HXc⟩
    ·have a1 : ¬ (32 : Int) ≤ (c : Int) := by omega
     have a3 : decide ((32 : Int) ≤ (c : Int)) = false := decide_eq_false a1
     by_cases hbig : 65535 < c
     ·have hrb : runeB c = [unitB (55296 + (c - 65536) / 1024), unitB (56320 + (c - 65536) % 1024)] := by unfold runeB; rw [if_neg (by omega), if_neg h8, if_neg h9, if_neg h10, if_neg h12, if_neg h13, if_neg hpr, if_pos hbig]
      have b1 : (65535 : Int) < (c : Int) := by omega
      obtain ⟨u, n1, n2, u2, hn1', hn2', k1, k2, hsub, hsub2, hm, hA1, hA2, hA3, hA4, hA5, hA6⟩ := big_facts c hbig hc1
      rw [k1, k2] at hrb
      have HN1 := am hn1'
      have HN2 := am hn2'
      have HXc := am (show putsF free (putF free (putF free st2 (unitB n1)) (unitB n2)) (quoteL s g pos2 ++ [[34]]) = putsF free st (quoteB s) by have := HXr.out; rw [hrb] at this; exact this)
      clear hrb hpr k1 k2 hn1' hn2'
      have HRu := am (HRn.out.less (show (unitB n1).length + ((unitB n2).length + (12 * (s.size - pos2) + 13)) ≤ _ by rw [unitB_len, unitB_len]; omega))
      go_wp2_with (first | (go_at_call 76; (with_reducible refine (unit_calls Wd free st2 sl2 n1 HN1.out _ ?rmp12 ?wrp12).mono ?_); (case rmp12 => exact (HRu.out.less (by rw [unitB_len]; omega))); (case wrp12 => exact HWn.out); rintro e w5 ⟨rfl, sl5, hw_, ho_⟩; have HW5 := am hw_; have HO5 := am ho_; clear hw_ ho_) | (go_at_call 76; (with_reducible refine (unit_calls Wd free (putF free st2 (unitB n1)) sl5 n2 HN2.out _ ?rmp13 ?wrp13).mono ?_); (case rmp13 => exact ((HRu.out.put _).less (by rw [unitB_len]; omega))); (case wrp13 => exact HW5.out); rintro e w6 ⟨rfl, sl6, hw_, ho_⟩; have HW6 := am hw_; have HO6 := am ho_; clear hw_ ho_))
      go_roundg g
      case measure => omega
      case rel => exact ⟨pos2, _, sl6, hp1, ⟨it_on HIn.out HWn.out (HO5.out.trans HO6.out)⟩, HW6, ⟨HOn.out.trans (HO5.out.trans HO6.out)⟩, ⟨(HRu.out.put _).put _⟩, HXc⟩
     ·have hrb : runeB c = [unitB c] := by unfold runeB; rw [if_neg (by omega), if_neg h8, if_neg h9, if_neg h10, if_neg h12, if_neg h13, if_neg hpr, if_neg hbig]
      have HXc := am (show putsF free (putF free st2 (unitB c)) (quoteL s g pos2 ++ [[34]]) = putsF free st (quoteB s) by have := HXr.out; rw [hrb] at this; exact this)
      clear hrb hpr
      have b1 : ¬ (65535 : Int) < (c : Int) := by omega
      have b2 : decide ((65535 : Int) < (c : Int)) = false := decide_eq_false b1
      have HRu := am (HRn.out.less (show (unitB c).length + (12 * (s.size - pos2) + 13) ≤ _ by rw [unitB_len]; omega))
      go_wp2_with (go_at_call 76; (with_reducible refine (unit_calls Wd free st2 sl2 c (by omega) _ ?rmq14 ?wrq14).mono ?_); (case rmq14 => exact HRu.out.less (by rw [unitB_len]; omega)); (case wrq14 => exact HWn.out); rintro e w5 ⟨rfl, sl5, hw_, ho_⟩; have HW5 := am hw_; have HO5 := am ho_; clear hw_ ho_)
      go_roundg g
      case measure => omega
      case rel => exact ⟨pos2, _, sl5, hp1, ⟨it_on HIn.out HWn.out HO5.out⟩, HW5, ⟨HOn.out.trans HO5.out⟩, ⟨HRu.out.put _⟩, HXc⟩
  ·have HXe := am ((congrArg (fun l => putsF free st2 (l ++ [[34]])) (quoteL_end s gk pos hlt)).symm.trans HX.out)
   have hnx := fun ty => next_end (P := Tryd.prog) wr w1.heap.size s pos HI.out hlt ty
   go_wp2_with (go_at_call 52; (with_reducible refine (put_calls Wd free st2 sl2 ⟨#[34]⟩ _ ?rmp16 ?wrp16).mono ?_); (case rmp16 => exact HR3.out.less (show 1 ≤ _ by omega)); (case wrp16 => exact HW3.out); rintro e w5 ⟨rfl, sl5, hw_, ho_⟩; have HW5 := am hw_; have HO5 := am ho_; clear hw_ ho_)
   go_end0
   exact ⟨rfl, sl5, by rw [← HXe.out]; exact HW5.out, HO3.out.trans HO5.out⟩
end Go.Proofs.YtaalajhmfdcalaaDoor.X
namespace Go.Proofs
open Go.Shelf Go.RowKit
def Tryd.lays196_ren : Go.Shelf.Ren := ⟨fun | 196 => 75 | 259 => 89 | n => n, fun | 0 => 0 | 3 => 3 | 4 => 4 | 5 => 5 | 9 => 9 | 12 => 12 | 46 => 106 | 53 => 137 | 119 => 117 | 138 => 119 | 139 => 120 | n => n, fun | 3 => 1 | 4 => 2 | n => n⟩
theorem Tryd.lays196 : Go.Proofs.Lays.n196 Tryd.prog Tryd.lays196_ren := {
 mixed := by kernel_rfl
 f196 := Tryd.func75.trans (congrArg some (by kernel_rfl))
 f259 := Tryd.func89.trans (congrArg some (by kernel_rfl))
 t0 := Tryd.underlying0
 a0 := Tryd.isAgg0
 z0 := Tryd.sizeOf0
 v0 := Tryd.zeroValue0
 t3 := Tryd.underlying3
 a3 := Tryd.isAgg3
 z3 := Tryd.sizeOf3
 v3 := Tryd.zeroValue3
 t4 := Tryd.underlying4
 a4 := Tryd.isAgg4
 z4 := Tryd.sizeOf4
 v4 := Tryd.zeroValue4
 t5 := Tryd.underlying5
 a5 := Tryd.isAgg5
 z5 := Tryd.sizeOf5
 v5 := Tryd.zeroValue5
 t9 := Tryd.underlying9
 a9 := Tryd.isAgg9
 z9 := Tryd.sizeOf9
 v9 := Tryd.zeroValue9
 t12 := Tryd.underlying12
 a12 := Tryd.isAgg12
 z12 := Tryd.sizeOf12
 v12 := Tryd.zeroValue12
 t46 := Tryd.underlying106
 a46 := Tryd.isAgg106
 z46 := Tryd.sizeOf106
 v46 := Tryd.zeroValue106
 t53 := Tryd.underlying137
 a53 := Tryd.isAgg137
 z53 := Tryd.sizeOf137
 v53 := Tryd.zeroValue137
 t119 := Tryd.underlying117
 a119 := Tryd.isAgg117
 z119 := Tryd.sizeOf117
 t138 := Tryd.underlying119
 a138 := Tryd.isAgg119
 z138 := Tryd.sizeOf119
 v138 := Tryd.zeroValue119
 t139 := Tryd.underlying120
 a139 := Tryd.isAgg120
 z139 := Tryd.sizeOf120
 v139 := Tryd.zeroValue120
 g3 := by kernel_rfl
 g4 := by kernel_rfl }
end Go.Proofs
namespace Go.Proofs.YtaalajhmfdcalaaDoor.X
open Go.RowKit Go.Lib Go.Proofs.YtaalajhmfdcalaaDoorW.PrintWords Go.Proofs.YtaalajhmfdcalaaDoorW.PrintLast Go.Proofs.YtaalajhmfdcalaaDoorW.PrintMore
def wordB (i : Nat) : ByteArray := if i = 0 then ⟨#[110, 117, 108, 108]⟩ else if i = 1 then ⟨#[102, 97, 108, 115, 101]⟩ else ⟨#[116, 114, 117, 101]⟩
structure GLw (W : World) : Prop where
 w0 : W.cell? ⟨0, 0, none⟩ = some (.string (wordB 0))
 w1 : W.cell? ⟨0, 1, none⟩ = some (.string (wordB 1))
 w2 : W.cell? ⟨0, 2, none⟩ = some (.string (wordB 2))
theorem GLw.below {W W' : World} (h : GLw W) (hb : Below W.heap.size W W') : GLw W' := by
 have key : ∀ (a : Addr) (v : Value), W.cell? a = some v → W'.cell? a = some v := fun a v h => (hb.cell (World.block_lt_of_cell? W _ h)).trans h
 exact ⟨key _ _ h.w0, key _ _ h.w1, key _ _ h.w2⟩
def nodeOK (f0 : Int) (f1 : ByteArray) (n2 n3 : Nat) : Bool :=
 if f0 = 0 ∨ f0 = 1 ∨ f0 = 2 then decide (f1.size = 0 ∧ n2 = 0 ∧ n3 = 0)
 else if f0 = 3 then decide ((litF f1.data.toList).2 = true ∧ (litF f1.data.toList).1 = f1.size ∧ n2 = 0 ∧ n3 = 0)
 else if f0 = 4 then decide (validD f1.data.toList = true ∧ n2 = 0 ∧ n3 = 0)
 else if f0 = 5 then decide (f1.size = 0 ∧ n2 = 0)
 else if f0 = 6 then decide (f1.size = 0 ∧ n2 = n3)
 else false
theorem str_ne (b : ByteArray) (h : ¬ b.size = 0) : (b.toList == (⟨#[]⟩ : ByteArray).toList) = false ∧ (b.toList == []) = false := by
 have h1 : b.toList ≠ [] := by
  rw [toList_data]
  intro hh
  apply h
  rw [← size_data, hh]
  rfl
 have e : (⟨#[]⟩ : ByteArray).toList = [] := by rw [toList_data]
 rw [e]
 simp [h1]
theorem str_empty (b : ByteArray) (h : b.size = 0) : b = ⟨#[]⟩ := by
 apply ByteArray.ext
 exact Array.eq_empty_of_size_eq_zero h
theorem beq_nat0 (n : Nat) : ((n : Int) == 0) = decide (n = 0) := by
 by_cases h : n = 0
 ·simp [h]
 ·have : ¬ (n : Int) = 0 := by omega
  simp [h]
theorem beq_nn (n m : Nat) : ((n : Int) == (m : Int)) = decide (n = m) := by
 by_cases h : n = m
 ·simp [h]
 ·have : ¬ (n : Int) = (m : Int) := by omega
  simp [h, this]
abbrev jVal (f0 : Int) (f1 : ByteArray) (A2 A3 : Option Addr) (n2 c2 n3 c3 : Nat) : Value := .agg #[.int .i64 f0, .string f1, .slice A2 n2 c2, .slice A3 n3 c3]
set_option maxRecDepth 1000000 in
set_option maxHeartbeats 1000000 in
theorem node0 (f1 : ByteArray) (A2 A3 : Option Addr) (n2 c2 n3 c3 : Nat) (W : World) (hG : GLw W) :
  Calls Tryd.prog 51 #[jVal 0 f1 A2 A3 n2 c2 n3 c3] W fun x W' => x = .returned (.tuple #[.iface 78 (.agg #[.string (wordB 0)]), .bool (nodeOK 0 f1 n2 n3)]) ∧ Below W.heap.size W W' := by
 have g := hG.w0
 have g' : ∀ o : Obj, (W.alloc o).cell? ⟨0, 0, none⟩ = some (.string (wordB 0)) := fun o => (hG.below (below_alloc (Below.refl _ _) o)).w0
 clear hG
 by_cases h1 : f1.size = 0
 ·have e1 := str_empty f1 h1
  subst e1
  by_cases h2 : n2 = 0
  ·subst h2
   by_cases h3 : n3 = 0
   ·subst h3
    have HX := am (show nodeOK 0 ⟨#[]⟩ 0 0 = true by unfold nodeOK; rfl)
    go_enter Tryd.func51, Tryd.ntmps51
    go_wp2
    go_quiet (fail)
    go_wp2
    go_ret2
    rw [HX.out]
    exact ⟨rfl, by repeat (first | exact Below.refl _ _ | apply below_drewN | apply below_drew1 | apply below_alloc)⟩
   ·have e3 := (beq_nat0 n3).trans (decide_eq_false h3)
    have HX := am (show nodeOK 0 ⟨#[]⟩ 0 n3 = false by unfold nodeOK; simp [h3])
    go_enter Tryd.func51, Tryd.ntmps51
    go_wp2
    go_quiet (fail)
    go_wp2
    go_ret2
    rw [HX.out]
    exact ⟨rfl, by repeat (first | exact Below.refl _ _ | apply below_drewN | apply below_drew1 | apply below_alloc)⟩
  ·have e2 := (beq_nat0 n2).trans (decide_eq_false h2)
   have HX := am (show nodeOK 0 ⟨#[]⟩ n2 n3 = false by unfold nodeOK; simp [h2])
   go_enter Tryd.func51, Tryd.ntmps51
   go_wp2
   go_quiet (fail)
   go_wp2
   go_ret2
   rw [HX.out]
   exact ⟨rfl, by repeat (first | exact Below.refl _ _ | apply below_drewN | apply below_drew1 | apply below_alloc)⟩
 ·obtain ⟨e1, e1'⟩ := str_ne f1 h1
  have HX := am (show nodeOK 0 f1 n2 n3 = false by unfold nodeOK; simp [h1])
  go_enter Tryd.func51, Tryd.ntmps51
  go_wp2
  go_quiet (fail)
  go_wp2
  go_ret2
  rw [HX.out]
  exact ⟨rfl, by repeat (first | exact Below.refl _ _ | apply below_drewN | apply below_drew1 | apply below_alloc)⟩
set_option maxRecDepth 1000000 in
set_option maxHeartbeats 1000000 in
theorem node1 (f1 : ByteArray) (A2 A3 : Option Addr) (n2 c2 n3 c3 : Nat) (W : World) (hG : GLw W) :
  Calls Tryd.prog 51 #[jVal 1 f1 A2 A3 n2 c2 n3 c3] W fun x W' => x = .returned (.tuple #[.iface 78 (.agg #[.string (wordB 1)]), .bool (nodeOK 1 f1 n2 n3)]) ∧ Below W.heap.size W W' := by
 have g := hG.w1
 have g' : ∀ o : Obj, (W.alloc o).cell? ⟨0, 1, none⟩ = some (.string (wordB 1)) := fun o => (hG.below (below_alloc (Below.refl _ _) o)).w1
 clear hG
 by_cases h1 : f1.size = 0
 ·have e1 := str_empty f1 h1
  subst e1
  by_cases h2 : n2 = 0
  ·subst h2
   by_cases h3 : n3 = 0
   ·subst h3
    have HX := am (show nodeOK 1 ⟨#[]⟩ 0 0 = true by unfold nodeOK; rfl)
    go_enter Tryd.func51, Tryd.ntmps51
    go_wp2
    go_quiet (fail)
    go_wp2
    go_ret2
    rw [HX.out]
    exact ⟨rfl, by repeat (first | exact Below.refl _ _ | apply below_drewN | apply below_drew1 | apply below_alloc)⟩
   ·have e3 := (beq_nat0 n3).trans (decide_eq_false h3)
    have HX := am (show nodeOK 1 ⟨#[]⟩ 0 n3 = false by unfold nodeOK; simp [h3])
    go_enter Tryd.func51, Tryd.ntmps51
    go_wp2
    go_quiet (fail)
    go_wp2
    go_ret2
    rw [HX.out]
    exact ⟨rfl, by repeat (first | exact Below.refl _ _ | apply below_drewN | apply below_drew1 | apply below_alloc)⟩
  ·have e2 := (beq_nat0 n2).trans (decide_eq_false h2)
   have HX := am (show nodeOK 1 ⟨#[]⟩ n2 n3 = false by unfold nodeOK; simp [h2])
   go_enter Tryd.func51, Tryd.ntmps51
   go_wp2
   go_quiet (fail)
   go_wp2
   go_ret2
   rw [HX.out]
   exact ⟨rfl, by repeat (first | exact Below.refl _ _ | apply below_drewN | apply below_drew1 | apply below_alloc)⟩
 ·obtain ⟨e1, e1'⟩ := str_ne f1 h1
  have HX := am (show nodeOK 1 f1 n2 n3 = false by unfold nodeOK; simp [h1])
  go_enter Tryd.func51, Tryd.ntmps51
  go_wp2
  go_quiet (fail)
  go_wp2
  go_ret2
  rw [HX.out]
  exact ⟨rfl, by repeat (first | exact Below.refl _ _ | apply below_drewN | apply below_drew1 | apply below_alloc)⟩
set_option maxRecDepth 1000000 in
set_option maxHeartbeats 1000000 in
theorem node2 (f1 : ByteArray) (A2 A3 : Option Addr) (n2 c2 n3 c3 : Nat) (W : World) (hG : GLw W) :
  Calls Tryd.prog 51 #[jVal 2 f1 A2 A3 n2 c2 n3 c3] W fun x W' => x = .returned (.tuple #[.iface 78 (.agg #[.string (wordB 2)]), .bool (nodeOK 2 f1 n2 n3)]) ∧ Below W.heap.size W W' := by
 have g := hG.w2
 have g' : ∀ o : Obj, (W.alloc o).cell? ⟨0, 2, none⟩ = some (.string (wordB 2)) := fun o => (hG.below (below_alloc (Below.refl _ _) o)).w2
 clear hG
 by_cases h1 : f1.size = 0
 ·have e1 := str_empty f1 h1
  subst e1
  by_cases h2 : n2 = 0
  ·subst h2
   by_cases h3 : n3 = 0
   ·subst h3
    have HX := am (show nodeOK 2 ⟨#[]⟩ 0 0 = true by unfold nodeOK; rfl)
    go_enter Tryd.func51, Tryd.ntmps51
    go_wp2
    go_quiet (fail)
    go_wp2
    go_ret2
    rw [HX.out]
    exact ⟨rfl, by repeat (first | exact Below.refl _ _ | apply below_drewN | apply below_drew1 | apply below_alloc)⟩
   ·have e3 := (beq_nat0 n3).trans (decide_eq_false h3)
    have HX := am (show nodeOK 2 ⟨#[]⟩ 0 n3 = false by unfold nodeOK; simp [h3])
    go_enter Tryd.func51, Tryd.ntmps51
    go_wp2
    go_quiet (fail)
    go_wp2
    go_ret2
    rw [HX.out]
    exact ⟨rfl, by repeat (first | exact Below.refl _ _ | apply below_drewN | apply below_drew1 | apply below_alloc)⟩
  ·have e2 := (beq_nat0 n2).trans (decide_eq_false h2)
   have HX := am (show nodeOK 2 ⟨#[]⟩ n2 n3 = false by unfold nodeOK; simp [h2])
   go_enter Tryd.func51, Tryd.ntmps51
   go_wp2
   go_quiet (fail)
   go_wp2
   go_ret2
   rw [HX.out]
   exact ⟨rfl, by repeat (first | exact Below.refl _ _ | apply below_drewN | apply below_drew1 | apply below_alloc)⟩
 ·obtain ⟨e1, e1'⟩ := str_ne f1 h1
  have HX := am (show nodeOK 2 f1 n2 n3 = false by unfold nodeOK; simp [h1])
  go_enter Tryd.func51, Tryd.ntmps51
  go_wp2
  go_quiet (fail)
  go_wp2
  go_ret2
  rw [HX.out]
  exact ⟨rfl, by repeat (first | exact Below.refl _ _ | apply below_drewN | apply below_drew1 | apply below_alloc)⟩
set_option maxRecDepth 1000000 in
set_option maxHeartbeats 1000000 in
theorem node5 (f1 : ByteArray) (A2 A3 : Option Addr) (n2 c2 n3 c3 : Nat) (W : World) :
  Calls Tryd.prog 51 #[jVal 5 f1 A2 A3 n2 c2 n3 c3] W fun x W' => x = .returned (.tuple #[.iface 82 (.agg #[.slice A3 n3 c3]), .bool (nodeOK 5 f1 n2 n3)]) ∧ Below W.heap.size W W' := by
 by_cases h1 : f1.size = 0
 ·have e1 := str_empty f1 h1
  subst e1
  by_cases h2 : n2 = 0
  ·subst h2
   have HX := am (show nodeOK 5 ⟨#[]⟩ 0 n3 = true by unfold nodeOK; rfl)
   go_enter Tryd.func51, Tryd.ntmps51
   go_wp2
   go_quiet (fail)
   go_wp2
   go_ret2
   rw [HX.out]
   exact ⟨rfl, by repeat (first | exact Below.refl _ _ | apply below_drewN | apply below_drew1 | apply below_alloc)⟩
  ·have e2 := (beq_nat0 n2).trans (decide_eq_false h2)
   have HX := am (show nodeOK 5 ⟨#[]⟩ n2 n3 = false by unfold nodeOK; simp [h2])
   go_enter Tryd.func51, Tryd.ntmps51
   go_wp2
   go_quiet (fail)
   go_wp2
   go_ret2
   rw [HX.out]
   exact ⟨rfl, by repeat (first | exact Below.refl _ _ | apply below_drewN | apply below_drew1 | apply below_alloc)⟩
 ·obtain ⟨e1, e1'⟩ := str_ne f1 h1
  have HX := am (show nodeOK 5 f1 n2 n3 = false by unfold nodeOK; simp [h1])
  go_enter Tryd.func51, Tryd.ntmps51
  go_wp2
  go_quiet (fail)
  go_wp2
  go_ret2
  rw [HX.out]
  exact ⟨rfl, by repeat (first | exact Below.refl _ _ | apply below_drewN | apply below_drew1 | apply below_alloc)⟩
set_option maxRecDepth 1000000 in
set_option maxHeartbeats 1000000 in
theorem node6 (f1 : ByteArray) (A2 A3 : Option Addr) (n2 c2 n3 c3 : Nat) (W : World) :
  Calls Tryd.prog 51 #[jVal 6 f1 A2 A3 n2 c2 n3 c3] W fun x W' => x = .returned (.tuple #[.iface 84 (.agg #[.slice A2 n2 c2, .slice A3 n3 c3]), .bool (nodeOK 6 f1 n2 n3)]) ∧ Below W.heap.size W W' := by
 by_cases h1 : f1.size = 0
 ·have e1 := str_empty f1 h1
  subst e1
  by_cases h2 : n2 = n3
  ·subst h2
   have HX := am (show nodeOK 6 ⟨#[]⟩ n2 n2 = true by unfold nodeOK; simp; rfl)
   go_enter Tryd.func51, Tryd.ntmps51
   go_wp2
   go_quiet (fail)
   go_wp2
   go_ret2
   rw [HX.out]
   exact ⟨rfl, by repeat (first | exact Below.refl _ _ | apply below_drewN | apply below_drew1 | apply below_alloc)⟩
  ·have e2 := (beq_nn n2 n3).trans (decide_eq_false h2)
   have HX := am (show nodeOK 6 ⟨#[]⟩ n2 n3 = false by unfold nodeOK; simp [h2])
   go_enter Tryd.func51, Tryd.ntmps51
   go_wp2
   go_quiet (fail)
   go_wp2
   go_ret2
   rw [HX.out]
   exact ⟨rfl, by repeat (first | exact Below.refl _ _ | apply below_drewN | apply below_drew1 | apply below_alloc)⟩
 ·obtain ⟨e1, e1'⟩ := str_ne f1 h1
  have HX := am (show nodeOK 6 f1 n2 n3 = false by unfold nodeOK; simp [h1])
  go_enter Tryd.func51, Tryd.ntmps51
  go_wp2
  go_quiet (fail)
  go_wp2
  go_ret2
  rw [HX.out]
  exact ⟨rfl, by repeat (first | exact Below.refl _ _ | apply below_drewN | apply below_drew1 | apply below_alloc)⟩
set_option maxRecDepth 1000000 in
set_option maxHeartbeats 1000000 in
theorem nodeX (f0 : Int) (h0 : ¬ f0 = 0) (h1 : ¬ f0 = 1) (h2 : ¬ f0 = 2) (h3 : ¬ f0 = 3) (h4 : ¬ f0 = 4) (h5 : ¬ f0 = 5) (h6 : ¬ f0 = 6) (f1 : ByteArray) (A2 A3 : Option Addr) (n2 c2 n3 c3 : Nat) (W : World) :
  Calls Tryd.prog 51 #[jVal f0 f1 A2 A3 n2 c2 n3 c3] W fun x W' => x = .returned (.tuple #[.nilIface, .bool (nodeOK f0 f1 n2 n3)]) ∧ Below W.heap.size W W' := by
 have HX := am (show nodeOK f0 f1 n2 n3 = false by unfold nodeOK; simp [h0, h1, h2, h3, h4, h5, h6])
 have e0 : (f0 == 0) = false := by simp [h0]
 have e1 : (f0 == 1) = false := by simp [h1]
 have e2 : (f0 == 2) = false := by simp [h2]
 have e3 : (f0 == 3) = false := by simp [h3]
 have e4 : (f0 == 4) = false := by simp [h4]
 have e5 : (f0 == 5) = false := by simp [h5]
 have e6 : (f0 == 6) = false := by simp [h6]
 clear h0 h1 h2 h3 h4 h5 h6
 go_enter Tryd.func51, Tryd.ntmps51
 go_wp2
 go_ret2
 rw [HX.out]
 exact ⟨rfl, by repeat (first | exact Below.refl _ _ | apply below_drewN | apply below_drew1 | apply below_alloc)⟩
theorem box4_after {W w1 : World} {a b c d : Value} {ty : TypeId} (h : Below (W.alloc (Obj.cells #[a, b, c, d] ty)).heap.size (W.alloc (Obj.cells #[a, b, c, d] ty)) w1) :
  Below W.heap.size W w1 ∧ w1.cell? ⟨W.heap.size, 1, none⟩ = some b ∧ w1.cell? ⟨W.heap.size, 2, none⟩ = some c ∧ w1.cell? ⟨W.heap.size, 3, none⟩ = some d := by
 have hs : W.heap.size < (W.alloc (Obj.cells #[a, b, c, d] ty)).heap.size := by rw [World.size_alloc]; omega
 refine ⟨(below_alloc (Below.refl _ _) _).trans (h.mono (Nat.le_of_lt hs)), ?_, ?_, ?_⟩
 ·exact (h.cell (p := ⟨W.heap.size, 1, none⟩) hs).trans (World.cell?_alloc_at _ _ _ 1 rfl)
 ·exact (h.cell (p := ⟨W.heap.size, 2, none⟩) hs).trans (World.cell?_alloc_at _ _ _ 2 rfl)
 ·exact (h.cell (p := ⟨W.heap.size, 3, none⟩) hs).trans (World.cell?_alloc_at _ _ _ 3 rfl)
set_option maxRecDepth 1000000 in
set_option maxHeartbeats 1000000 in
theorem node3 (f1 : ByteArray) (A2 A3 : Option Addr) (n2 c2 n3 c3 : Nat) (W : World) (hz : f1.size ≤ 9223372036854775806) :
  Calls Tryd.prog 51 #[jVal 3 f1 A2 A3 n2 c2 n3 c3] W fun x W' => x = .returned (.tuple #[.iface 78 (.agg #[.string f1]), .bool (nodeOK 3 f1 n2 n3)]) ∧ Below W.heap.size W W' := by
 cases hl2 : (litF f1.data.toList).2
 ·have HX := am (show nodeOK 3 f1 n2 n3 = false by unfold nodeOK; simp [hl2])
  go_enter Tryd.func51, Tryd.ntmps51
  go_upto_region 8 with (go_at_call 62; (with_reducible refine (literal_calls f1 hz _).mono ?_); rintro e w1 ⟨rfl, hb⟩; obtain ⟨hb4, d1, d2, d3⟩ := box4_after hb; have HB3 := am hb4; clear hb hb4)
  go_quiet (fail)
  go_wp2
  go_ret2
  rw [HX.out]
  exact ⟨rfl, by repeat (first | exact HB3.out | apply below_drewN | apply below_drew1 | apply below_alloc)⟩
 ·by_cases h1 : (litF f1.data.toList).1 = f1.size
  ·have e1 := (beq_nn (litF f1.data.toList).1 f1.size).trans (decide_eq_true h1)
   by_cases h2 : n2 = 0
   ·subst h2
    by_cases h3 : n3 = 0
    ·subst h3
     have HX0 := am h1
     clear h1
     have HX := am (show nodeOK 3 f1 0 0 = true by unfold nodeOK; have := HX0.out; simp [hl2, this])
     go_enter Tryd.func51, Tryd.ntmps51
     go_upto_region 8 with (go_at_call 62; (with_reducible refine (literal_calls f1 hz _).mono ?_); rintro e w1 ⟨rfl, hb⟩; obtain ⟨hb4, d1, d2, d3⟩ := box4_after hb; have HB3 := am hb4; clear hb hb4)
     go_quiet (fail)
     go_wp2
     go_ret2
     rw [HX.out]
     exact ⟨rfl, by repeat (first | exact HB3.out | apply below_drewN | apply below_drew1 | apply below_alloc)⟩
    ·have e3 := (beq_nat0 n3).trans (decide_eq_false h3)
     clear h1
     have HX := am (show nodeOK 3 f1 0 n3 = false by unfold nodeOK; simp [h3])
     go_enter Tryd.func51, Tryd.ntmps51
     go_upto_region 8 with (go_at_call 62; (with_reducible refine (literal_calls f1 hz _).mono ?_); rintro e w1 ⟨rfl, hb⟩; obtain ⟨hb4, d1, d2, d3⟩ := box4_after hb; have HB3 := am hb4; clear hb hb4)
     go_quiet (fail)
     go_wp2
     go_ret2
     rw [HX.out]
     exact ⟨rfl, by repeat (first | exact HB3.out | apply below_drewN | apply below_drew1 | apply below_alloc)⟩
   ·have e2 := (beq_nat0 n2).trans (decide_eq_false h2)
    clear h1
    have HX := am (show nodeOK 3 f1 n2 n3 = false by unfold nodeOK; simp [h2])
    go_enter Tryd.func51, Tryd.ntmps51
    go_upto_region 8 with (go_at_call 62; (with_reducible refine (literal_calls f1 hz _).mono ?_); rintro e w1 ⟨rfl, hb⟩; obtain ⟨hb4, d1, d2, d3⟩ := box4_after hb; have HB3 := am hb4; clear hb hb4)
    go_quiet (fail)
    go_wp2
    go_ret2
    rw [HX.out]
    exact ⟨rfl, by repeat (first | exact HB3.out | apply below_drewN | apply below_drew1 | apply below_alloc)⟩
  ·have e1 := (beq_nn (litF f1.data.toList).1 f1.size).trans (decide_eq_false h1)
   have HX := am (show nodeOK 3 f1 n2 n3 = false by unfold nodeOK; simp [h1])
   go_enter Tryd.func51, Tryd.ntmps51
   go_upto_region 8 with (go_at_call 62; (with_reducible refine (literal_calls f1 hz _).mono ?_); rintro e w1 ⟨rfl, hb⟩; obtain ⟨hb4, d1, d2, d3⟩ := box4_after hb; have HB3 := am hb4; clear hb hb4)
   go_quiet (fail)
   go_wp2
   go_ret2
   rw [HX.out]
   exact ⟨rfl, by repeat (first | exact HB3.out | apply below_drewN | apply below_drew1 | apply below_alloc)⟩
def insF (x : ByteArray × J) : List (ByteArray × J) → List (ByteArray × J)
 | [] => [x]
 | y :: l => if Op.bytesLess y.1.toList x.1.toList = true then y :: insF x l else x :: y :: l
def sortF (l : List (ByteArray × J)) : List (ByteArray × J) := l.foldl (fun a x => insF x a) []
def itemsW (free : Bool) (one : J → St → St) : Nat → List J → St → St
 | _, [], st => st
 | i, y :: l, st => itemsW free one (i + 1) l (one y (if i = 0 then st else putF free st [44]))
def membersW (free : Bool) (one : J → St → St) : List ByteArray → Nat → List ByteArray → List J → St → St
 | seen, i, nm :: ns, y :: ys, st =>
  let st1 := if i = 0 then st else putF free st [44]
  if st1.e ≠ 0 then st1
  else if validD nm.data.toList = false then failF st1 47
  else if nm.data.toList ∈ seen.map (fun b => b.data.toList) then failF st1 45
  else membersW free one (seen ++ [nm]) (i + 1) ns ys (one y (putF free (putsF free st1 (quoteB nm)) [58]))
 | _, _, _, _, st => st
def namesOf (canon : Bool) (ns : List ByteArray) (ys : List J) : List ByteArray := if canon then (sortF (ns.zip ys)).map Prod.fst else ns
def itemsOf (canon : Bool) (ns : List ByteArray) (ys : List J) : List J := if canon then (sortF (ns.zip ys)).map Prod.snd else ys
def valW (free canon : Bool) : Nat → J → St → St
 | 0, v, st =>
  if st.e ≠ 0 then st
  else if v.f0 = 5 ∨ v.f0 = 6 then ⟨st.out, 46⟩
  else if nodeOK v.f0 v.f1 v.f2.length v.f3.length = false then ⟨st.out, 47⟩
  else if v.f0 = 3 then putF free st v.f1.data.toList
  else if v.f0 = 4 then putsF free st (quoteB v.f1)
  else putF free st (wordB v.f0.toNat).data.toList
 | r + 1, v, st =>
  if st.e ≠ 0 then st
  else if nodeOK v.f0 v.f1 v.f2.length v.f3.length = false then ⟨st.out, 47⟩
  else if v.f0 = 5 then putF free (itemsW free (valW free canon r) 0 v.f3 (putF free st [91])) [93]
  else if v.f0 = 6 then putF free (membersW free (valW free canon r) [] 0 (namesOf canon v.f2 v.f3) (itemsOf canon v.f2 v.f3) (putF free st [123])) [125]
  else if v.f0 = 3 then putF free st v.f1.data.toList
  else if v.f0 = 4 then putsF free st (quoteB v.f1)
  else putF free st (wordB v.f0.toNat).data.toList
def wtJ : Nat → J → Nat
 | 0, v => 12 * v.f1.size + 16
 | r + 1, v => 12 * v.f1.size + 16 + (v.f2.map (fun s => 12 * s.size + 16)).sum + (v.f3.map (fun y => wtJ r y + 1)).sum
def SmJ : Nat → J → Prop
 | 0, v => v.f1.size ≤ 288230376151711743
 | r + 1, v => v.f1.size ≤ 288230376151711743 ∧ (∀ s, s ∈ v.f2 → s.size ≤ 288230376151711743) ∧ ∀ y, y ∈ v.f3 → SmJ r y
def LnJ : Nat → J → Prop
 | 0, _ => True
 | r + 1, v => v.f3.length ≤ 1000000 ∧ ∀ y, y ∈ v.f3 → LnJ r y
theorem SmJ.text {r : Nat} {v : J} (h : SmJ r v) : v.f1.size ≤ 288230376151711743 := by
 cases r with
 | zero => exact h
 | succ r => exact h.1
theorem wtJ_text (r : Nat) (v : J) : 12 * v.f1.size + 16 ≤ wtJ r v := by
 cases r with
 | zero => exact Nat.le_refl _
 | succ r => unfold wtJ; omega
structure Fit (free : Bool) (st : St) (n : Nat) : Prop where
 fre : free = true → st.out.length + n ≤ 140737488355328
 bnd : free = false → st.out.length ≤ 16384
theorem Fit.room {free : Bool} {st : St} {n m : Nat} (h : Fit free st n) (hm : m ≤ n) (hb : m ≤ 4611686018427371520) : Room free st m := by
 refine ⟨?_, fun hf => by have := h.fre hf; omega, h.bnd⟩
 cases free with
 | true => have := h.fre rfl; omega
 | false => have := h.bnd rfl; omega
theorem Fit.less {free : Bool} {st : St} {n m : Nat} (h : Fit free st n) (hm : m ≤ n) : Fit free st m := ⟨fun hf => by have := h.fre hf; omega, h.bnd⟩
theorem Fit.put {free : Bool} {st : St} {n m : Nat} (s : List UInt8) (h : Fit free st m) (hm : s.length + n ≤ m) : Fit free (putF free st s) n := by
 have h1 := putF_len free st s
 refine ⟨fun hf => by have := h.fre hf; omega, fun hf => ?_⟩
 have h2 := h.bnd hf
 unfold putF
 repeat' split
 ·exact h2
 ·exact h2
 ·rename_i h3 h4
  show (st.out ++ s).length ≤ _
  rw [List.length_append]
  have : ¬ 16384 < st.out.length + s.length := fun hh => h4 ⟨hf, hh⟩
  omega
def lensL (l : List (List UInt8)) : Nat := (l.map List.length).sum
theorem Fit.puts {free : Bool} {n : Nat} : ∀ (l : List (List UInt8)) {st : St} {m : Nat}, Fit free st m → lensL l + n ≤ m → Fit free (putsF free st l) n
 | [], st, m, h, hm => h.less (by omega)
 | a :: l, st, m, h, hm => Fit.puts l (h.put (n := lensL l + n) a (by simp only [lensL, List.map_cons, List.sum_cons] at hm ⊢; omega)) (Nat.le_refl _)
theorem runeB_lens (c : Nat) : lensL (runeB c) ≤ 12 := by
 unfold runeB
 repeat' split
 all_goals simp [lensL, unitB]
theorem quoteL_lens (s : ByteArray) : ∀ (k pos : Nat), lensL (quoteL s k pos) ≤ 12 * (s.size - pos)
 | 0, pos => by simp [quoteL, lensL]
 | k + 1, pos => by
  by_cases h : pos < s.size
  ·rw [quoteL_on s k pos h]
   have h1 := runeB_lens (Utf8.decode s pos).1
   have h2 := quoteL_lens s k (pos + (Utf8.decode s pos).2)
   have h3 := (dec_small s pos).2
   have e : lensL (runeB (Utf8.decode s pos).1 ++ quoteL s k (pos + (Utf8.decode s pos).2)) = lensL (runeB (Utf8.decode s pos).1) + lensL (quoteL s k (pos + (Utf8.decode s pos).2)) := by simp [lensL]
   omega
  ·rw [quoteL_end s (k + 1) pos h]
   simp [lensL]
theorem quoteB_lens (s : ByteArray) : lensL (quoteB s) ≤ 12 * s.size + 2 := by
 have h := quoteL_lens s (s.size + 1) 0
 have e : lensL (quoteB s) = 1 + (lensL (quoteL s (s.size + 1) 0) + 1) := by simp [lensL, quoteB]
 omega
theorem Fit.quote {free : Bool} {st : St} {n m : Nat} (s : ByteArray) (h : Fit free st m) (hm : 12 * s.size + 2 + n ≤ m) : Fit free (putsF free st (quoteB s)) n :=
 h.puts (quoteB s) (by have := quoteB_lens s; omega)
theorem Fit.failF {free : Bool} {st : St} {n : Nat} (e : Nat) (h : Fit free st n) : Fit free (failF st e) n := by
 unfold X.failF
 split
 ·exact ⟨h.fre, h.bnd⟩
 ·exact h
theorem Fit.err {free : Bool} {st : St} {n : Nat} (e : Nat) (h : Fit free st n) : Fit free ⟨st.out, e⟩ n := ⟨h.fre, h.bnd⟩
def Sm (canon : Bool) (a b : St) : Prop := a = b ∨ (canon = true ∧ a.e ≠ 0 ∧ b.e ≠ 0)
theorem Sm.refl (canon : Bool) (a : St) : Sm canon a a := .inl rfl
theorem Sm.trans {canon : Bool} {a b c : St} (h : Sm canon a b) (h' : Sm canon b c) : Sm canon a c := by
 rcases h with rfl | ⟨h1, h2, h3⟩
 ·exact h'
 ·rcases h' with rfl | ⟨_, h5, h6⟩
  ·exact .inr ⟨h1, h2, h3⟩
  ·exact .inr ⟨h1, h2, h6⟩
theorem Sm.eq {a b : St} (h : Sm false a b) : a = b := by
 rcases h with h | ⟨h, _⟩
 ·exact h
 ·cases h
theorem putF_bad (free : Bool) (st : St) (s : List UInt8) (h : st.e ≠ 0) : putF free st s = st := by unfold putF; rw [if_pos h]
theorem failF_e (st : St) (e : Nat) (h : e ≠ 0) : (failF st e).e ≠ 0 := by
 unfold failF
 split
 ·exact h
 ·rename_i h1; exact h1
theorem putsF_bad (free : Bool) (st : St) (h : st.e ≠ 0) : ∀ l, putsF free st l = st
 | [] => rfl
 | a :: l => by rw [putsF_cons, putF_bad free st a h]; exact putsF_bad free st h l
theorem valW_bad (free canon : Bool) (r : Nat) (v : J) (st : St) (h : st.e ≠ 0) : valW free canon r v st = st := by
 cases r with
 | zero => unfold valW; rw [if_pos h]
 | succ r => unfold valW; rw [if_pos h]
def Quits (one : J → St → St) : Prop := ∀ y st, st.e ≠ 0 → one y st = st
theorem comma_bad (free : Bool) (i : Nat) (st : St) (h : st.e ≠ 0) : (if i = 0 then st else putF free st [44]) = st := by
 split
 ·rfl
 ·exact putF_bad _ _ _ h
theorem itemsW_bad (free : Bool) {one : J → St → St} (ho : Quits one) : ∀ (l : List J) (i : Nat) (st : St), st.e ≠ 0 → itemsW free one i l st = st
 | [], i, st, h => rfl
 | y :: l, i, st, h => by unfold itemsW; rw [comma_bad free i st h, ho y st h]; exact itemsW_bad free ho l (i + 1) st h
theorem membersW_bad (free : Bool) {one : J → St → St} (seen : List ByteArray) (i : Nat) (ns : List ByteArray) (ys : List J) (st : St) (h : st.e ≠ 0) : membersW free one seen i ns ys st = st := by
 cases ns with
 | nil => unfold membersW; rfl
 | cons nm ns =>
  cases ys with
  | nil => unfold membersW; rfl
  | cons y ys => unfold membersW; rw [comma_bad free i st h]; simp only [if_pos h]
theorem Sm.put {canon : Bool} {a b : St} (free : Bool) (s : List UInt8) (h : Sm canon a b) : Sm canon (putF free a s) (putF free b s) := by
 rcases h with rfl | ⟨h1, h2, h3⟩
 ·exact .inl rfl
 ·rw [putF_bad _ _ _ h2, putF_bad _ _ _ h3]; exact .inr ⟨h1, h2, h3⟩
theorem Sm.items {canon : Bool} {a b : St} (free : Bool) {one : J → St → St} (ho : Quits one) (i : Nat) (l : List J) (h : Sm canon a b) : Sm canon (itemsW free one i l a) (itemsW free one i l b) := by
 rcases h with rfl | ⟨h1, h2, h3⟩
 ·exact .inl rfl
 ·rw [itemsW_bad free ho _ _ _ h2, itemsW_bad free ho _ _ _ h3]; exact .inr ⟨h1, h2, h3⟩
theorem Sm.members {canon : Bool} {a b : St} (free : Bool) {one : J → St → St} (seen : List ByteArray) (i : Nat) (ns : List ByteArray) (ys : List J) (h : Sm canon a b) : Sm canon (membersW free one seen i ns ys a) (membersW free one seen i ns ys b) := by
 rcases h with rfl | ⟨h1, h2, h3⟩
 ·exact .inl rfl
 ·rw [membersW_bad _ _ _ _ _ _ h2, membersW_bad _ _ _ _ _ _ h3]; exact .inr ⟨h1, h2, h3⟩
theorem membersW_twice (free : Bool) {one : J → St → St} (ho : Quits one) : ∀ (ns : List ByteArray) (ys : List J) (seen : List ByteArray) (i : Nat) (st : St), ns.length = ys.length → seen.Nodup → ¬ (seen ++ ns).Nodup → (membersW free one seen i ns ys st).e ≠ 0
 | [], ys, seen, i, st, hl, hs, hn => by rw [List.append_nil] at hn; exact absurd hs hn
 | nm :: ns, [], seen, i, st, hl, hs, hn => by simp at hl
 | nm :: ns, y :: ys, seen, i, st, hl, hs, hn => by
  unfold membersW
  by_cases h1 : (if i = 0 then st else putF free st [44]).e ≠ 0
  ·simp only [if_pos h1]; exact h1
  ·simp only [if_neg h1]
   by_cases h2 : validD nm.data.toList = false
   ·rw [if_pos h2]; exact failF_e _ _ (by decide)
   ·rw [if_neg h2]
    by_cases h3 : nm.data.toList ∈ seen.map (fun b => b.data.toList)
    ·rw [if_pos h3]; exact failF_e _ _ (by decide)
    ·rw [if_neg h3]
     have hnm : nm ∉ seen := fun hh => h3 (List.mem_map.2 ⟨nm, hh, rfl⟩)
     refine membersW_twice free ho ns ys (seen ++ [nm]) (i + 1) _ (by simpa using hl) ?_ ?_
     ·rw [List.nodup_append]
      exact ⟨hs, by simp, fun a ha b hb => by rw [List.mem_singleton.1 hb]; rintro rfl; exact hnm ha⟩
     ·rw [List.append_assoc]; exact hn
end Go.Proofs.YtaalajhmfdcalaaDoor.X
namespace Go.Proofs.YtaalajhmfdcalaaDoor.X
open Go.RowKit Go.Lib Go.Proofs.YtaalajhmfdcalaaDoorW.PrintWords
theorem putF_ok {free : Bool} {st : St} {s : List UInt8} (h : (putF free st s).e = 0) : st.e = 0 ∧ (putF free st s).out = st.out ++ s := by
 unfold putF at h ⊢
 by_cases he : st.e ≠ 0
 ·rw [if_pos he] at h; exact absurd h he
 ·rw [if_neg he] at h ⊢
  split at h
  ·cases h
  ·rename_i h2; rw [if_neg h2]; exact ⟨by omega, rfl⟩
theorem putsF_ok {free : Bool} : ∀ (l : List (List UInt8)) {st : St}, (putsF free st l).e = 0 → st.e = 0 ∧ (putsF free st l).out = st.out ++ l.flatten
 | [], st, h => ⟨h, by simp [putsF]⟩
 | a :: l, st, h => by
  rw [putsF_cons] at h ⊢
  obtain ⟨h1, h2⟩ := putsF_ok l h
  obtain ⟨h3, h4⟩ := putF_ok h1
  exact ⟨h3, by rw [h2, h4]; simp⟩
theorem failF_no (st : St) (e : Nat) (h : e ≠ 0) : ¬ (failF st e).e = 0 := failF_e st e h
def qB (s : ByteArray) : List UInt8 := (quoteB s).flatten
def encI (enc : J → List UInt8) : Nat → List J → List UInt8
 | _, [] => []
 | i, y :: l => (if i = 0 then [] else [44]) ++ (enc y ++ encI enc (i + 1) l)
def encM (enc : J → List UInt8) : Nat → List ByteArray → List J → List UInt8
 | i, nm :: ns, y :: ys => (if i = 0 then [] else [44]) ++ (qB nm ++ (58 :: (enc y ++ encM enc (i + 1) ns ys)))
 | _, _, _ => []
def encB (v : J) : List UInt8 := if v.f0 = 3 then v.f1.data.toList else if v.f0 = 4 then qB v.f1 else (wordB v.f0.toNat).data.toList
def encJ : Nat → J → List UInt8
 | 0, v => encB v
 | r + 1, v => if v.f0 = 5 then 91 :: (encI (encJ r) 0 v.f3 ++ [93]) else if v.f0 = 6 then 123 :: (encM (encJ r) 0 v.f2 v.f3 ++ [125]) else encB v
def OKJ : Nat → J → Prop
 | 0, v => nodeOK v.f0 v.f1 v.f2.length v.f3.length = true ∧ ¬ v.f0 = 5 ∧ ¬ v.f0 = 6
 | r + 1, v => nodeOK v.f0 v.f1 v.f2.length v.f3.length = true ∧ ((v.f0 = 5 ∨ v.f0 = 6) → ∀ y, y ∈ v.f3 → OKJ r y) ∧ (v.f0 = 6 → (∀ s, s ∈ v.f2 → validD s.data.toList = true) ∧ (v.f2.map (fun b => b.data.toList)).Nodup)
def Wok (one : J → St → St) (P : J → Prop) (enc : J → List UInt8) : Prop := ∀ y st, (one y st).e = 0 → st.e = 0 ∧ P y ∧ (one y st).out = st.out ++ enc y
theorem comma_ok {free : Bool} {i : Nat} {st : St} (h : (if i = 0 then st else putF free st [44]).e = 0) : st.e = 0 ∧ (if i = 0 then st else putF free st [44]).out = st.out ++ (if i = 0 then [] else [44]) := by
 split at h
 ·rename_i hi; rw [if_pos hi, if_pos hi]; exact ⟨h, by simp⟩
 ·rename_i hi; rw [if_neg hi, if_neg hi]; exact putF_ok h
theorem itemsW_ok {free : Bool} {one : J → St → St} {P : J → Prop} {enc : J → List UInt8} (ho : Wok one P enc) : ∀ (l : List J) (i : Nat) (st : St), (itemsW free one i l st).e = 0 → st.e = 0 ∧ (∀ y, y ∈ l → P y) ∧ (itemsW free one i l st).out = st.out ++ encI enc i l
 | [], i, st, h => ⟨h, (fun y hy => by cases hy), by simp [itemsW, encI]⟩
 | y :: l, i, st, h => by
  rw [itemsW] at h ⊢
  obtain ⟨h1, h2, h3⟩ := itemsW_ok ho l (i + 1) _ h
  obtain ⟨h4, h5, h6⟩ := ho _ _ h1
  obtain ⟨h7, h8⟩ := comma_ok h4
  refine ⟨h7, fun z hz => ?_, ?_⟩
  ·rcases List.mem_cons.1 hz with rfl | hz
   ·exact h5
   ·exact h2 z hz
  ·rw [h3, h6, h8, encI]; simp [List.append_assoc]
theorem membersW_ok {free : Bool} {one : J → St → St} {P : J → Prop} {enc : J → List UInt8} (ho : Wok one P enc) : ∀ (ns : List ByteArray) (ys : List J) (seen : List ByteArray) (i : Nat) (st : St), ns.length = ys.length → (membersW free one seen i ns ys st).e = 0 →
  st.e = 0 ∧ (∀ y, y ∈ ys → P y) ∧ (∀ s, s ∈ ns → validD s.data.toList = true) ∧ ((seen.map (fun b => b.data.toList)).Nodup → ((seen ++ ns).map (fun b => b.data.toList)).Nodup) ∧ (membersW free one seen i ns ys st).out = st.out ++ encM enc i ns ys
 | [], [], seen, i, st, hl, h => ⟨by simpa [membersW] using h, (fun y hy => by cases hy), (fun s hs => by cases hs), (fun hn => by simpa using hn), by simp [membersW, encM]⟩
 | [], _ :: _, seen, i, st, hl, h => by simp at hl
 | _ :: _, [], seen, i, st, hl, h => by simp at hl
 | nm :: ns, y :: ys, seen, i, st, hl, h => by
  rw [membersW] at h ⊢
  try simp only at h ⊢
  by_cases h1 : (if i = 0 then st else putF free st [44]).e ≠ 0
  ·rw [if_pos h1] at h; exact absurd h h1
  ·rw [if_neg h1] at h ⊢
   by_cases h2 : validD nm.data.toList = false
   ·rw [if_pos h2] at h; exact absurd h (failF_no _ _ (by decide))
   ·rw [if_neg h2] at h ⊢
    by_cases h3 : nm.data.toList ∈ seen.map (fun b => b.data.toList)
    ·rw [if_pos h3] at h; exact absurd h (failF_no _ _ (by decide))
    ·rw [if_neg h3] at h ⊢
     obtain ⟨g1, g2, g3, g4, g5⟩ := membersW_ok ho ns ys _ _ _ (by simpa using hl) h
     obtain ⟨g6, g7, g8⟩ := ho _ _ g1
     obtain ⟨g9, g10⟩ := putF_ok g6
     obtain ⟨g11, g12⟩ := putsF_ok _ g9
     obtain ⟨g13, g14⟩ := comma_ok g11
     refine ⟨g13, fun z hz => ?_, fun z hz => ?_, fun hn => ?_, ?_⟩
     ·rcases List.mem_cons.1 hz with rfl | hz
      ·exact g7
      ·exact g2 z hz
     ·rcases List.mem_cons.1 hz with rfl | hz
      ·simpa using h2
      ·exact g3 z hz
     ·have : ((seen ++ [nm]).map (fun b => b.data.toList)).Nodup := by
       rw [List.map_append, List.nodup_append]
       exact ⟨hn, by simp, fun a ha b hb => by simp at hb; rw [hb]; rintro rfl; exact h3 ha⟩
      have := g4 this
      simpa using this
     ·rw [g5, g8, g10, g12, g14, encM, qB]; simp [List.append_assoc]
theorem valW_ok (free : Bool) : ∀ (r : Nat), Wok (valW free false r) (OKJ r) (encJ r)
 | 0, v, st, h => by
  by_cases he : st.e ≠ 0
  ·rw [valW_bad _ _ _ _ _ he] at h; exact absurd h he
  ·have he' : st.e = 0 := by omega
   rw [valW, if_neg he] at h ⊢
   by_cases h56 : v.f0 = 5 ∨ v.f0 = 6
   ·rw [if_pos h56] at h; cases h
   ·rw [if_neg h56] at h ⊢
    by_cases hn : nodeOK v.f0 v.f1 v.f2.length v.f3.length = false
    ·rw [if_pos hn] at h; cases h
    ·rw [if_neg hn] at h ⊢
     refine ⟨he', ⟨by simpa using hn, fun hh => h56 (.inl hh), fun hh => h56 (.inr hh)⟩, ?_⟩
     rw [encJ, encB]
     by_cases h3 : v.f0 = 3
     ·rw [if_pos h3] at h ⊢; rw [if_pos h3]; exact (putF_ok h).2
     ·rw [if_neg h3] at h ⊢
      rw [if_neg h3]
      by_cases h4 : v.f0 = 4
      ·rw [if_pos h4] at h ⊢; rw [if_pos h4]; exact (putsF_ok _ h).2
      ·rw [if_neg h4] at h ⊢; rw [if_neg h4]; exact (putF_ok h).2
 | r + 1, v, st, h => by
  by_cases he : st.e ≠ 0
  ·rw [valW_bad _ _ _ _ _ he] at h; exact absurd h he
  ·have he' : st.e = 0 := by omega
   have IH := valW_ok free r
   rw [valW, if_neg he] at h ⊢
   by_cases hn : nodeOK v.f0 v.f1 v.f2.length v.f3.length = false
   ·rw [if_pos hn] at h; cases h
   ·rw [if_neg hn] at h ⊢
    have hn' : nodeOK v.f0 v.f1 v.f2.length v.f3.length = true := by simpa using hn
    rw [encJ]
    by_cases h5 : v.f0 = 5
    ·rw [if_pos h5] at h ⊢
     rw [if_pos h5]
     obtain ⟨g1, g2⟩ := putF_ok h
     obtain ⟨g3, g4, g5⟩ := itemsW_ok IH _ _ _ g1
     obtain ⟨g6, g7⟩ := putF_ok g3
     exact ⟨he', ⟨hn', fun _ => g4, fun hh => by rw [h5] at hh; cases hh⟩, by rw [g2, g5, g7]; simp⟩
    ·rw [if_neg h5] at h ⊢
     rw [if_neg h5]
     by_cases h6 : v.f0 = 6
     ·rw [if_pos h6] at h ⊢
      rw [if_pos h6]
      obtain ⟨g1, g2⟩ := putF_ok h
      have hl : v.f2.length = v.f3.length := by
       rw [h6] at hn'
       unfold nodeOK at hn'
       simp at hn'
       exact hn'.2
      obtain ⟨g3, g4, g4', g4'', g5⟩ := membersW_ok IH _ _ _ _ _ (by simpa [namesOf, itemsOf] using hl) g1
      obtain ⟨g6, g7⟩ := putF_ok g3
      exact ⟨he', ⟨hn', fun _ => g4, fun _ => ⟨g4', by simpa [namesOf] using g4'' (by simp)⟩⟩, by rw [g2, g5, g7]; simp [namesOf, itemsOf]⟩
     ·rw [if_neg h6] at h ⊢
      rw [if_neg h6]
      refine ⟨he', ⟨hn', fun hh => absurd hh (by rintro (hh | hh); exact h5 hh; exact h6 hh), fun hh => absurd hh h6⟩, ?_⟩
      rw [encB]
      by_cases h3 : v.f0 = 3
      ·rw [if_pos h3] at h ⊢; rw [if_pos h3]; exact (putF_ok h).2
      ·rw [if_neg h3] at h ⊢
       rw [if_neg h3]
       by_cases h4 : v.f0 = 4
       ·rw [if_pos h4] at h ⊢; rw [if_pos h4]; exact (putsF_ok _ h).2
       ·rw [if_neg h4] at h ⊢; rw [if_neg h4]; exact (putF_ok h).2
end Go.Proofs.YtaalajhmfdcalaaDoor.X
