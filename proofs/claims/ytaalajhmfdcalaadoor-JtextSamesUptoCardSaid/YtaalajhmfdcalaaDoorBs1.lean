/- The texts of this work, put together: K40, E0, E1, M9, N1, M3, M7, M8, N2, N3, K65, N61, K66, K67, N62, K68, K69, K90, K91, Qe, L0, L4, E2, MB, K46. -/
import Derived.Test.YtaalajhmfdcalaaDoorBs0
import Derived.Test.YtaalajhmfdcalaaDoorBp1
import Derived.Test.YtaalajhmfdcalaaDoorBp0
import Derived.Test.YtaalajhmfdcalaaDoorWb
import Derived.Test.YtaalajhmfdcalaaDoorWc
set_option linter.unusedVariables false
set_option linter.unusedSimpArgs false
namespace Go.Proofs.YtaalajhmfdcalaaDoor.X
open Go.RowKit Go.Lib Go.Proofs.YtaalajhmfdcalaaDoorW.PrintWords Go.Proofs.YtaalajhmfdcalaaDoorW.PrintLast Go.Proofs.YtaalajhmfdcalaaDoorW.PrintMore
theorem heap25 : Kd.Heap k25 := Kd.heap_fix (fun _ hd => Kd.heap_iso _ (Kd.heap_pair (Kd.heap_int _) (Kd.heap_pair Kd.heap_string (Kd.heap_pair (Kd.heap_slice 9 Kd.heap_string) (Kd.heap_slice 25 hd)))))
def printS (v : J) : St := valW false false 32 v ⟨[], 0⟩
def printB (v : J) : ByteArray := if (printS v).e = 0 then bs (printS v).out else ⟨#[]⟩
theorem wr_new (free : Bool) (W : World) : Wr W.heap.size free ⟨[], 0⟩ (.slice none 0 0) (W.alloc (.cells #[.slice none 0 0, .bool free, .int .i64 0] 60)) :=
 ⟨heap_alloc_new W _, Own.nil _ _ (by rw [World.size_alloc]; omega)⟩
theorem fit_new (n : Nat) : Fit false ⟨[], 0⟩ n := ⟨(fun h => by cases h), (fun _ => by decide)⟩
set_option maxRecDepth 1000000 in
set_option maxHeartbeats 4000000 in
theorem print_calls (f0 : Int) (f1 : ByteArray) (l2 : List ByteArray) (l3 : List J) (A2 A3 : Option Addr) (c2 c3 : Nat) (W : World) (hsm : SmJ 32 ⟨f0, f1, l2, l3⟩) (hC2 : Kd.string.C W A2 l2.length l2) (hc2 : l2.length ≤ c2) (hC3 : k25.C W A3 l3.length l3) (hc3 : l3.length ≤ c3) (hG : GLw W) (hT : Tabs W) :
  Calls Tryd.prog 17 #[jVal f0 f1 A2 A3 l2.length c2 l3.length c3] W fun x W' => x = .returned (.tuple #[.string (printB ⟨f0, f1, l2, l3⟩), .int .i64 (printS ⟨f0, f1, l2, l3⟩).e]) ∧ Below W.heap.size W W' := by
 have hvo := wvalue_ok false false (fun h => by cases h) 32 (Nat.le_refl _)
 rw [show (32 : Int) - ((32 : Nat) : Int) = 0 by decide] at hvo
 have hval := fun (b : Obj) => hvo (W.alloc b).heap.size ⟨[], 0⟩ (.slice none 0 0) ((W.alloc b).alloc (.cells #[.slice none 0 0, .bool false, .int .i64 0] 60)) ⟨f0, f1, l2, l3⟩ A2 A3 c2 c3 (wr_new false _) (fit_new _) hsm (fun h => by cases h)
  (Kd.F_alloc (Kd.F_alloc (Kd.F_mono (Kd.C_F Kd.heap_string hC2) (fun k hk => ⟨by rw [World.size_alloc]; omega, by simp [Value.ownBlock]⟩)) b) _) hc2
  (Kd.F_alloc (Kd.F_alloc (Kd.F_mono (Kd.C_F heap25 hC3) (fun k hk => ⟨by rw [World.size_alloc]; omega, by simp [Value.ownBlock]⟩)) b) _) hc3
  (fun W' hb => have hb' : Below W.heap.size W W' := (below_alloc (below_alloc (Below.refl _ _) b) _).trans (hb.mono (by rw [World.size_alloc]; omega)); ⟨hG.below hb', hT.bel hb'⟩)
 simp only [World.size_alloc] at hval
 have HV := Aside0.mk hval
 clear hvo hval hsm hC2 hC3 hG hT hc2 hc3
 have HS := Aside0.mk (show printS ⟨f0, f1, l2, l3⟩ = valW false false 32 ⟨f0, f1, l2, l3⟩ ⟨[], 0⟩ from rfl)
 have HPB := Aside0.mk (show printB ⟨f0, f1, l2, l3⟩ = if (printS ⟨f0, f1, l2, l3⟩).e = 0 then bs (printS ⟨f0, f1, l2, l3⟩).out else ⟨#[]⟩ from rfl)
 generalize printS ⟨f0, f1, l2, l3⟩ = ps at *
 generalize printB ⟨f0, f1, l2, l3⟩ = pb at *
 by_cases he : ps.e = 0
 ·have e0 : ((ps.e : Int) != 0) = false := by rw [he]; rfl
  have HP := Aside0.mk (show pb = bs ps.out by rw [HPB.out, if_pos he])
  have HE := Aside0.mk he
  clear he
  go_enter Tryd.func17, Tryd.ntmps17
  go_wp2_with (go_at_call 33; (with_reducible refine (HV.out _).mono ?_); rintro e w1 ⟨rfl, st1, sl1, hs, _, hw, ho⟩; have hs' := hs.eq; rw [← HS.out] at hs'; subst hs'; have c2' := (blk_cell hw.blk 2).trans rfl; have c0' := (blk_cell hw.blk 0).trans rfl; have hcv := own_string hw.own; have HB := Aside0.mk (show Below W.heap.size W w1 from (below_alloc (below_alloc (Below.refl _ _) _) _).trans (ho.low.mono (by omega))); clear hs hw ho; dsimp at c2' c0')
  go_ret2
  rw [HP.out, HE.out]
  exact ⟨rfl, by repeat (first | exact HB.out | apply below_drewN | apply below_drew1)⟩
 ·have e0 : ((ps.e : Int) != 0) = true := by
   have : ¬ (ps.e : Int) = 0 := by omega
   simp only [bne_iff_ne, ne_eq]
   exact this
  have HP := Aside0.mk (show pb = ⟨#[]⟩ by rw [HPB.out, if_neg he])
  clear he
  go_enter Tryd.func17, Tryd.ntmps17
  go_wp2_with (go_at_call 33; (with_reducible refine (HV.out _).mono ?_); rintro e w1 ⟨rfl, st1, sl1, hs, _, hw, ho⟩; have hs' := hs.eq; rw [← HS.out] at hs'; subst hs'; have c2' := (blk_cell hw.blk 2).trans rfl; have c0' := (blk_cell hw.blk 0).trans rfl; have hcv := own_string hw.own; have HB := Aside0.mk (show Below W.heap.size W w1 from (below_alloc (below_alloc (Below.refl _ _) _) _).trans (ho.low.mono (by omega))); clear hs hw ho; dsimp at c2' c0')
  go_region
  go_wp2
  go_ret2
  rw [HP.out]
  exact ⟨rfl, by repeat (first | exact HB.out | apply below_drewN | apply below_drew1)⟩
end Go.Proofs.YtaalajhmfdcalaaDoor.X
namespace Go.Proofs.YtaalajhmfdcalaaDoor.X
open Go.RowKit
structure GL (w : World) : Prop where
 words : GLw w
 tabs : Tabs w
theorem GL_below {w W : World} (h : GL w) (hb : Below w.heap.size w W) : GL W := ⟨h.words.below hb, h.tabs.bel hb⟩
end Go.Proofs.YtaalajhmfdcalaaDoor.X
namespace Go.Proofs.YtaalajhmfdcalaaDoor.X
open Go.RowKit Go.Lib Go.Proofs.YtaalajhmfdcalaaDoorW.PrintWords Go.Proofs.YtaalajhmfdcalaaDoorW.PrintLast Go.Proofs.YtaalajhmfdcalaaDoorW.PrintMore
def jtext_Parse.f (a0 : ByteArray) : Option (Int × ByteArray × List ByteArray × (List (S25)) × Int × Int) :=
 match parseJ a0.data.toList (a0.size + 1) with
 | none => none
 | some (.err e p) => some (0, ⟨#[]⟩, [], [], (e : Int), (p : Int))
 | some (.val j _) => some (j.f0, j.f1, j.f2, j.f3, 0, 0)
theorem jtext_Parse.calls (a0 : ByteArray) (r1 : Int) (r2 : ByteArray) (r3 : List ByteArray) (r4 : List (S25)) (r5 r6 : Int) (w : World) (hG : GL w) (h : jtext_Parse.f a0 = some (r1, r2, r3, r4, r5, r6)) :
  Calls Tryd.prog 11 #[.string a0] w fun e w' => ∃ v2_ v3_ : Value, e = .returned (.tuple #[.agg #[.int .i64 r1, .string r2, v2_, v3_], .int .i64 r5, .int .i64 r6]) ∧ Kd.R Kd.string 9 w' w.heap.size (fun _ => True) v2_ r3 ∧ Kd.R k25 25 w' w.heap.size (fun k_ => some k_ ≠ (v2_ : Value).ownBlock) v3_ r4 ∧ Below w.heap.size w w' := by
 unfold jtext_Parse.f at h
 cases ho : parseJ a0.data.toList (a0.size + 1) with
 | none => rw [ho] at h; cases h
 | some o =>
  rw [ho] at h
  refine (parse_calls a0 _ o w hG.tabs ho).mono ?_
  rintro e w' ⟨he, hb⟩
  cases o with
  | err e1 p =>
   simp only [Option.some.injEq, Prod.mk.injEq] at h
   obtain ⟨rfl, rfl, rfl, rfl, rfl, rfl⟩ := h
   obtain ⟨v2, v3, rfl, h2, h3⟩ := he
   exact ⟨v2, v3, rfl, h2, h3, hb⟩
  | val j q =>
   simp only [Option.some.injEq, Prod.mk.injEq] at h
   obtain ⟨rfl, rfl, rfl, rfl, rfl, rfl⟩ := h
   obtain ⟨v2, v3, rfl, h2, h3⟩ := he
   exact ⟨v2, v3, rfl, h2, h3, hb⟩
def smB : Nat → J → Bool
 | 0, v => decide (v.f1.size ≤ 288230376151711743)
 | r + 1, v => decide (v.f1.size ≤ 288230376151711743) && v.f2.all (fun s => decide (s.size ≤ 288230376151711743)) && v.f3.all (fun y => smB r y)
theorem smB_iff : ∀ (r : Nat) (v : J), smB r v = true ↔ SmJ r v
 | 0, v => by simp [smB, SmJ]
 | r + 1, v => by
  simp only [smB, SmJ, Bool.and_eq_true, decide_eq_true_eq, List.all_eq_true, and_assoc]
  refine and_congr Iff.rfl (and_congr Iff.rfl ⟨fun h y hy => (smB_iff r y).1 (h y hy), fun h y hy => (smB_iff r y).2 (h y hy)⟩)
def jtext_Print.f (a0_0 : Int) (a0_1 : ByteArray) (l0_2 : List ByteArray) (l0_3 : List (S25)) : Option (ByteArray × Int) :=
 if smB 32 ⟨a0_0, a0_1, l0_2, l0_3⟩ = true then some (printB ⟨a0_0, a0_1, l0_2, l0_3⟩, ((printS ⟨a0_0, a0_1, l0_2, l0_3⟩).e : Int)) else none
theorem jtext_Print.calls (a0_0 : Int) (a0_1 : ByteArray) (A0_2 : Option Addr) (c0_2 : Nat) (l0_2 : List ByteArray) (A0_3 : Option Addr) (c0_3 : Nat) (l0_3 : List (S25)) (r1 : ByteArray) (r2 : Int) (w : World) (hr0_2 : Kd.C Kd.string w A0_2 l0_2.length l0_2) (hc0_2 : l0_2.length ≤ c0_2) (hr0_3 : Kd.C k25 w A0_3 l0_3.length l0_3) (hc0_3 : l0_3.length ≤ c0_3) (hG : GL w) (h : jtext_Print.f a0_0 a0_1 l0_2 l0_3 = some (r1, r2)) :
  Calls Tryd.prog 17 #[.agg #[.int .i64 a0_0, .string a0_1, .slice A0_2 l0_2.length c0_2, .slice A0_3 l0_3.length c0_3]] w fun e w' => e = .returned (.tuple #[.string r1, .int .i64 r2]) ∧ Below w.heap.size w w' := by
 unfold jtext_Print.f at h
 split at h
 ·rename_i hs
  simp only [Option.some.injEq, Prod.mk.injEq] at h
  obtain ⟨rfl, rfl⟩ := h
  exact print_calls a0_0 a0_1 l0_2 l0_3 A0_2 A0_3 c0_2 c0_3 w ((smB_iff 32 _).1 hs) hr0_2 hc0_2 hr0_3 hc0_3 hG.words hG.tabs
 ·cases h
end Go.Proofs.YtaalajhmfdcalaaDoor.X
namespace Go.Proofs.YtaalajhmfdcalaaDoor.X
open Go.RowKit Go.Lib Go.Proofs.YtaalajhmfdcalaaDoorW.PrintWords
inductive Bd (B L : Nat) : J → Prop
 | mk (f0 : Int) (f1 : ByteArray) (f2 : List ByteArray) (f3 : List J) : f1.size ≤ B → (∀ s, s ∈ f2 → s.size ≤ B) → f2.length ≤ L → f3.length ≤ L → (∀ y, y ∈ f3 → Bd B L y) → Bd B L ⟨f0, f1, f2, f3⟩
theorem rd_nat (xs : List J) (i : Nat) (h : i < xs.length) : rd_T25 xs (i : Int) = xs[i] := by
 unfold rd_T25
 rw [show ((i : Int)).toNat = i from Int.toNat_natCast i, List.getD_eq_getElem?_getD, List.getElem?_eq_getElem h]
 rfl
theorem wrap_id (x : Int) (h0 : -9223372036854775808 ≤ x) (h1 : x ≤ 9223372036854775807) : wrap64 x = x := by unfold wrap64; omega
theorem ge_succ {K k : Nat} (h : K + 1 ≤ k) : ∃ k', k = k' + 1 ∧ K ≤ k' := ⟨k - 1, by omega, by omega⟩
theorem eta_J (y : J) : (⟨y.f0, y.f1, y.f2, y.f3⟩ : J) = y := by cases y; rfl
theorem smB_of {B L : Nat} (hB : B ≤ 288230376151711743) : ∀ (r : Nat) {v : J}, Bd B L v → smB r v = true
 | 0, v, h => by
  cases h with
  | mk f0 f1 f2 f3 h1 _ _ _ _ => unfold smB; exact decide_eq_true (by show f1.size ≤ _; omega)
 | r + 1, v, h => by
  cases h with
  | mk f0 f1 f2 f3 h1 h2 _ _ h3 =>
   unfold smB
   simp only [Bool.and_eq_true, decide_eq_true_eq, List.all_eq_true]
   exact ⟨⟨by omega, fun s hs => Nat.le_trans (h2 s hs) hB⟩, fun y hy => smB_of hB r (h3 y hy)⟩
end Go.Proofs.YtaalajhmfdcalaaDoor.X
namespace Go.Proofs.YtaalajhmfdcalaaDoor.X
open Go.RowKit Go.Lib Go.Proofs.YtaalajhmfdcalaaDoorW.PrintWords
def sJ : Nat → J → J
 | 0, v => v
 | r + 1, v =>
  if v.f0 = 5 then ⟨v.f0, v.f1, v.f2, v.f3.map (sJ r)⟩
  else if v.f0 = 6 ∧ v.f2.length = v.f3.length then ⟨v.f0, v.f1, namesOf true v.f2 v.f3, (itemsOf true v.f2 v.f3).map (sJ r)⟩
  else v
theorem itemsW_map {free : Bool} {one one' : J → St → St} {f : J → J} (h : ∀ y st, one y st = one' (f y) st) : ∀ (l : List J) (i : Nat) (st : St), itemsW free one i l st = itemsW free one' i (l.map f) st
 | [], _, _ => by simp [itemsW]
 | y :: l, i, st => by
  rw [List.map_cons, itemsW, itemsW, h]
  exact itemsW_map h l _ _
theorem membersW_map {free : Bool} {one one' : J → St → St} {f : J → J} (h : ∀ y st, one y st = one' (f y) st) : ∀ (ns : List ByteArray) (ys : List J) (seen : List ByteArray) (i : Nat) (st : St), membersW free one seen i ns ys st = membersW free one' seen i ns (ys.map f) st
 | [], ys, _, _, _ => by cases ys <;> simp [membersW]
 | _ :: _, [], _, _, _ => by simp [membersW]
 | nm :: ns, y :: ys, seen, i, st => by
  rw [List.map_cons, membersW, membersW, h, membersW_map h ns ys]
theorem names_len {ns : List ByteArray} {ys : List J} (h : ns.length = ys.length) : (namesOf true ns ys).length = ns.length := by
 have := (namesOf_perm h).length_eq
 exact this
theorem items_len {ns : List ByteArray} {ys : List J} (h : ns.length = ys.length) : (itemsOf true ns ys).length = ys.length := by
 rw [← namesOf_len true h, names_len h, h]
theorem sJ_5 {r : Nat} {v : J} (h5 : v.f0 = 5) : sJ (r + 1) v = ⟨v.f0, v.f1, v.f2, v.f3.map (sJ r)⟩ := by rw [sJ, if_pos h5]
theorem sJ_6 {r : Nat} {v : J} (h6 : v.f0 = 6) (hl : v.f2.length = v.f3.length) : sJ (r + 1) v = ⟨v.f0, v.f1, namesOf true v.f2 v.f3, (itemsOf true v.f2 v.f3).map (sJ r)⟩ := by
 rw [sJ, if_neg (by rw [h6]; decide), if_pos ⟨h6, hl⟩]
theorem sJ_x {r : Nat} {v : J} (h5 : ¬ v.f0 = 5) (h6 : ¬ (v.f0 = 6 ∧ v.f2.length = v.f3.length)) : sJ (r + 1) v = v := by rw [sJ, if_neg h5, if_neg h6]
theorem canon_sort (free : Bool) : ∀ (r : Nat) (v : J) (st : St), valW free true r v st = valW free false r (sJ r v) st
 | 0, v, st => by unfold valW; rfl
 | r + 1, v, st => by
  have IH := canon_sort free r
  by_cases h5 : v.f0 = 5
  ·rw [sJ_5 h5, valW, valW]
   simp only [if_pos h5, List.length_map]
   rw [itemsW_map IH]
  ·by_cases h6 : v.f0 = 6 ∧ v.f2.length = v.f3.length
   ·rw [sJ_6 h6.1 h6.2, valW, valW]
    simp only [List.length_map, names_len h6.2, items_len h6.2, if_neg h5, if_pos h6.1]
    rw [membersW_map IH]
    rfl
   ·rw [sJ_x h5 h6, valW, valW]
    by_cases h7 : v.f0 = 6
    ·have hn : nodeOK v.f0 v.f1 v.f2.length v.f3.length = false := by
      have hl : ¬ v.f2.length = v.f3.length := fun hl => h6 ⟨h7, hl⟩
      rw [h7]; unfold nodeOK; simp [hl]
     simp only [hn, if_true]
    ·simp only [if_neg h5, if_neg h7]
def Rm (free : Bool) (n : Nat) : Prop := free = false → n ≤ 16384
theorem Rm.le {free : Bool} {n m : Nat} (h : Rm free m) (hm : n ≤ m) : Rm free n := fun hf => Nat.le_trans hm (h hf)
theorem putF_yes {free : Bool} {st : St} {s : List UInt8} (he : st.e = 0) (h : Rm free (st.out.length + s.length)) : putF free st s = ⟨st.out ++ s, 0⟩ := by
 unfold putF
 rw [if_neg (by omega), if_neg (fun hh => by have := h hh.1; omega)]
theorem putsF_yes {free : Bool} : ∀ (l : List (List UInt8)) {st : St}, st.e = 0 → Rm free (st.out.length + l.flatten.length) → putsF free st l = ⟨st.out ++ l.flatten, 0⟩
 | [], st, he, _ => by cases st; simp only at he; subst he; simp [putsF]
 | a :: l, st, he, h => by
  rw [List.flatten_cons, List.length_append] at h
  rw [putsF_cons, putF_yes he (h.le (by omega)), putsF_yes l rfl (h.le (by show (st.out ++ a).length + _ ≤ _; rw [List.length_append]; omega)), List.flatten_cons]
  show (⟨st.out ++ a ++ l.flatten, 0⟩ : St) = _
  rw [List.append_assoc]
def Yes (free : Bool) (one : J → St → St) (P : J → Prop) (enc : J → List UInt8) : Prop := ∀ y st, P y → st.e = 0 → Rm free (st.out.length + (enc y).length) → one y st = ⟨st.out ++ enc y, 0⟩
theorem comma_yes {free : Bool} {i : Nat} {st : St} (he : st.e = 0) (h : Rm free (st.out.length + (if i = 0 then [] else [44] : List UInt8).length)) : (if i = 0 then st else putF free st [44]) = ⟨st.out ++ (if i = 0 then [] else [44]), 0⟩ := by
 by_cases hi : i = 0
 ·rw [if_pos hi, if_pos hi, List.append_nil]; cases st; simp only at he; subst he; rfl
 ·rw [if_neg hi, if_neg hi]; rw [if_neg hi] at h; exact putF_yes he h
theorem itemsW_yes {free : Bool} {one : J → St → St} {P : J → Prop} {enc : J → List UInt8} (ho : Yes free one P enc) : ∀ (l : List J) (i : Nat) (st : St), (∀ y, y ∈ l → P y) → st.e = 0 → Rm free (st.out.length + (encI enc i l).length) → itemsW free one i l st = ⟨st.out ++ encI enc i l, 0⟩
 | [], i, st, _, he, _ => by rw [itemsW, encI, List.append_nil]; cases st; simp only at he; subst he; rfl
 | y :: l, i, st, hp, he, h => by
  rw [encI, List.length_append, List.length_append] at h
  rw [itemsW, comma_yes he (h.le (by omega)), ho y _ (hp y (List.mem_cons_self ..)) rfl (h.le (by show (st.out ++ _).length + _ ≤ _; rw [List.length_append]; omega)), itemsW_yes ho l (i + 1) _ (fun z hz => hp z (List.mem_cons_of_mem _ hz)) rfl (h.le (by show (st.out ++ _ ++ _).length + _ ≤ _; rw [List.length_append, List.length_append]; omega)), encI]
  simp [List.append_assoc]
theorem membersW_yes {free : Bool} {one : J → St → St} {P : J → Prop} {enc : J → List UInt8} (ho : Yes free one P enc) : ∀ (ns : List ByteArray) (ys : List J) (seen : List ByteArray) (i : Nat) (st : St), ns.length = ys.length → (∀ y, y ∈ ys → P y) → (∀ s, s ∈ ns → validD s.data.toList = true) → ((seen ++ ns).map (fun b => b.data.toList)).Nodup → st.e = 0 → Rm free (st.out.length + (encM enc i ns ys).length) →
  membersW free one seen i ns ys st = ⟨st.out ++ encM enc i ns ys, 0⟩
 | [], [], seen, i, st, _, _, _, _, he, _ => by simp only [membersW, encM, List.append_nil]; cases st; simp only at he; subst he; rfl
 | [], _ :: _, _, _, _, hl, _, _, _, _, _ => by simp at hl
 | _ :: _, [], _, _, _, hl, _, _, _, _, _ => by simp at hl
 | nm :: ns, y :: ys, seen, i, st, hl, hp, hv, hn, he, h => by
  rw [encM] at h
  simp only [List.length_append, List.length_cons] at h
  have h1 := comma_yes (free := free) (i := i) he (h.le (by omega))
  have h3 : ¬ nm.data.toList ∈ seen.map (fun b => b.data.toList) := by
   rw [List.map_append, List.nodup_append] at hn
   intro hm
   exact hn.2.2 _ hm _ (by simp) rfl
  rw [membersW, h1, if_neg (by simp), if_neg (by rw [hv nm (List.mem_cons_self ..)]; simp), if_neg h3]
  have e2 : putsF free (⟨st.out ++ (if i = 0 then [] else [44]), 0⟩ : St) (quoteB nm) = ⟨st.out ++ (if i = 0 then [] else [44]) ++ qB nm, 0⟩ := putsF_yes _ rfl (h.le (by show (st.out ++ _).length + (qB nm).length ≤ _; rw [List.length_append]; omega))
  rw [e2, putF_yes (by rfl) (h.le (by simp only [List.length_append, List.length_cons, List.length_nil]; omega)), ho y _ (hp y (List.mem_cons_self ..)) rfl (h.le (by simp only [List.length_append, List.length_cons, List.length_nil]; omega)),
   membersW_yes ho ns ys (seen ++ [nm]) (i + 1) _ (by simpa using hl) (fun z hz => hp z (List.mem_cons_of_mem _ hz)) (fun z hz => hv z (List.mem_cons_of_mem _ hz)) (by simpa using hn) rfl (h.le (by simp only [List.length_append, List.length_cons, List.length_nil]; omega)), encM]
  simp [List.append_assoc]
theorem base_yes {free : Bool} {v : J} {st : St} (he : st.e = 0) (h : Rm free (st.out.length + (encB v).length)) : (if v.f0 = 3 then putF free st v.f1.data.toList else if v.f0 = 4 then putsF free st (quoteB v.f1) else putF free st (wordB v.f0.toNat).data.toList) = ⟨st.out ++ encB v, 0⟩ := by
 unfold encB at h ⊢
 by_cases h3 : v.f0 = 3
 ·simp only [if_pos h3] at h ⊢; exact putF_yes he h
 ·simp only [if_neg h3] at h ⊢
  by_cases h4 : v.f0 = 4
  ·simp only [if_pos h4] at h ⊢; exact putsF_yes _ he h
  ·simp only [if_neg h4] at h ⊢; exact putF_yes he h
theorem valW_yes (free : Bool) : ∀ (r : Nat), Yes free (valW free false r) (OKJ r) (encJ r)
 | 0, v, st, hok, he, h => by
  obtain ⟨hn, h5, h6⟩ := hok
  rw [encJ] at h ⊢
  rw [valW, if_neg (by omega), if_neg (by rintro (h | h); exact h5 h; exact h6 h), if_neg (by rw [hn]; simp)]
  exact base_yes he h
 | r + 1, v, st, hok, he, h => by
  obtain ⟨hn, hi, hm⟩ := hok
  have IH := valW_yes free r
  rw [encJ] at h ⊢
  rw [valW, if_neg (by omega), if_neg (by rw [hn]; simp)]
  by_cases h5 : v.f0 = 5
  ·simp only [if_pos h5] at h ⊢
   simp only [List.length_cons, List.length_append, List.length_nil] at h
   rw [putF_yes he (h.le (by simp only [List.length_cons, List.length_nil]; omega)), itemsW_yes IH _ _ _ (hi (.inl h5)) rfl (h.le (by simp only [List.length_append, List.length_cons, List.length_nil]; omega)), putF_yes rfl (h.le (by simp only [List.length_append, List.length_cons, List.length_nil]; omega))]
   simp
  ·by_cases h6 : v.f0 = 6
   ·have hl : v.f2.length = v.f3.length := by
     rw [h6] at hn; unfold nodeOK at hn; simp at hn; exact hn.2
    simp only [if_neg h5, if_pos h6] at h ⊢
    simp only [List.length_cons, List.length_append, List.length_nil] at h
    rw [putF_yes he (h.le (by simp only [List.length_cons, List.length_nil]; omega))]
    show putF free (membersW free (valW free false r) [] 0 v.f2 v.f3 _) _ = _
    rw [membersW_yes IH _ _ _ _ _ hl (hi (.inr h6)) (hm h6).1 (by simpa using (hm h6).2) rfl (h.le (by simp only [List.length_append, List.length_cons, List.length_nil]; omega)), putF_yes rfl (h.le (by simp only [List.length_append, List.length_cons, List.length_nil]; omega))]
    simp
   ·simp only [if_neg h5, if_neg h6] at h ⊢
    exact base_yes he h
end Go.Proofs.YtaalajhmfdcalaaDoor.X
namespace Go.Proofs.YtaalajhmfdcalaaDoor.X
open Go.RowKit Go.Lib Go.Proofs.YtaalajhmfdcalaaDoorW.PrintWords
theorem get_list (l : List UInt8) (i : Nat) : (ByteArray.mk l.toArray).get! i = (l[i]?).getD 0 := by
 show l.toArray[i]! = _
 by_cases h : i < l.length
 ·rw [List.getElem?_eq_getElem h]; simp [h]
 ·rw [List.getElem?_eq_none_iff.2 (by omega)]
  simp [h]
  rfl
section
variable {α : Type}
end
end Go.Proofs.YtaalajhmfdcalaaDoor.X
namespace Go.Proofs.YtaalajhmfdcalaaDoor.X
open Go.RowKit Go.Lib Go.Proofs.YtaalajhmfdcalaaDoorW.PrintWords
def Has (s : List UInt8) (p : Nat) (l : List UInt8) : Prop := ∃ post, s.drop p = l ++ post
theorem Has.at {s l : List UInt8} {p i : Nat} (h : Has s p l) (hi : i < l.length) : s[p + i]? = l[i]? := by
 obtain ⟨post, h⟩ := h
 rw [← List.getElem?_drop, h, List.getElem?_append_left hi]
theorem Has.left {s a b : List UInt8} {p : Nat} (h : Has s p (a ++ b)) : Has s p a := by
 obtain ⟨post, h⟩ := h
 exact ⟨b ++ post, by rw [h, List.append_assoc]⟩
theorem Has.right {s a b : List UInt8} {p : Nat} (h : Has s p (a ++ b)) : Has s (p + a.length) b := by
 obtain ⟨post, h⟩ := h
 exact ⟨post, by rw [← List.drop_drop, h, List.append_assoc, List.drop_left]⟩
theorem Has.cons {s l : List UInt8} {p : Nat} {c : UInt8} (h : Has s p (c :: l)) : s[p]? = some c ∧ Has s (p + 1) l :=
 ⟨by have := h.at (i := 0) (by simp); simpa using this, Has.right (a := [c]) h⟩
theorem Has.len {s l : List UInt8} {p : Nat} (h : Has s p l) (hl : 0 < l.length) : p + l.length ≤ s.length := by
 obtain ⟨post, h⟩ := h
 have := congrArg List.length h
 rw [List.length_drop, List.length_append] at this
 omega
def Stop (s : List UInt8) (q : Nat) : Prop := s[q]? = none ∨ ∃ z : UInt8, z ∈ ([0, 44, 93, 125] : List UInt8) ∧ s[q]? = some z
theorem Stop.of {s : List UInt8} {q : Nat} {z : UInt8} (h : s[q]? = some z) (hz : z ∈ ([0, 44, 93, 125] : List UInt8)) : Stop s q := .inr ⟨z, hz, h⟩
theorem Stop.blank {s : List UInt8} {q : Nat} (h : Stop s q) : blanksF s q = q := by
 refine blanks_stop s q fun c hc => ?_
 rcases h with h | ⟨z, hz, h⟩
 ·rw [h] at hc; cases hc
 ·rw [h] at hc
  injection hc with hc
  subst hc
  have key : ∀ z : UInt8, z ∈ ([0, 44, 93, 125] : List UInt8) → isBl z = false := by decide
  exact key z hz
theorem number_back {s l : List UInt8} {p : Nat} (h : Has s p l) (hs : Stop s (p + l.length)) (hl : litF l = (l.length, true)) : numberF s p = .val l (p + l.length) := by
 have ha : Ag l (s.drop p) l.length := ⟨Nat.le_refl _, fun i hi => by rw [List.getElem?_drop]; exact h.at hi, by
  rw [List.getElem?_drop]
  rcases hs with hs | hs
  ·exact .inl hs
  ·exact .inr (.inr hs)⟩
 unfold numberF
 rw [litF_ag hl ha, if_pos rfl]
 obtain ⟨post, h⟩ := h
 rw [h]
 simp
theorem word_back {s : List UInt8} : ∀ (w : List UInt8) (p : Nat), Has s p w → wordF s w p = .val () (p + w.length)
 | [], p, h => rfl
 | c :: w, p, h => by
  obtain ⟨h1, h2⟩ := h.cons
  rw [wordF_on _ _ _ _ h1, word_back w (p + 1) h2, List.length_cons]
  congr 1
  omega
theorem hexF_hexD (n : Nat) : hexF (hexD n) = some (n % 16) := by
 have h : ∀ m : Fin 16, hexF (([48, 49, 50, 51, 52, 53, 54, 55, 56, 57, 97, 98, 99, 100, 101, 102] : List UInt8).getD m.val 48) = some m.val := by decide
 exact h ⟨n % 16, Nat.mod_lt _ (by decide)⟩
theorem four_back {s : List UInt8} {p c : Nat} (hc : c ≤ 65535) (h : Has s p [hexD (c / 4096), hexD (c / 256), hexD (c / 16), hexD c]) : fourF s 4 0 p = .val c (p + 4) := by
 obtain ⟨h0, h⟩ := h.cons
 obtain ⟨h1, h⟩ := h.cons
 obtain ⟨h2, h⟩ := h.cons
 obtain ⟨h3, h⟩ := h.cons
 rw [fourF_on _ _ _ _ _ _ h0 (hexF_hexD _), fourF_on _ _ _ _ _ _ h1 (hexF_hexD _), fourF_on _ _ _ _ _ _ h2 (hexF_hexD _), fourF_on _ _ _ _ _ _ h3 (hexF_hexD _)]
 show Out.val _ _ = Out.val _ _
 congr 1
 omega
theorem esc_short {s : List UInt8} {p x : Nat} {c : UInt8} (h : Has s p [92, c]) (hx : escdF c = some x) : escF s p = .val x (p + 2) := by
 obtain ⟨_, h⟩ := h.cons
 obtain ⟨h1, _⟩ := h.cons
 unfold escF
 rw [h1]
 simp only [hx]
theorem esc_unit {s : List UInt8} {p c : Nat} (hc : c ≤ 65535) (hv : ¬ (55296 ≤ c ∧ c ≤ 57343)) (h : Has s p (unitB c)) : escF s p = .val c (p + 6) := by
 obtain ⟨_, h⟩ := Has.cons h
 obtain ⟨h1, h⟩ := h.cons
 unfold escF
 rw [h1]
 have e : escdF 117 = none := by decide
 simp only [e, if_true]
 rw [four_back hc h]
 simp only
 rw [if_neg (by omega), if_neg (by omega)]
theorem unitB_length (c : Nat) : (unitB c).length = 6 := rfl
set_option maxRecDepth 10000 in
theorem esc_pair {s : List UInt8} {p c : Nat} (h0 : 65536 ≤ c) (hc : c ≤ 1114111) (h : Has s p (unitB (55296 + (c - 65536) / 1024) ++ unitB (56320 + (c - 65536) % 1024))) : escF s p = .val c (p + 12) := by
 have ha := h.left
 have hb := h.right
 rw [unitB_length] at hb
 obtain ⟨_, ha⟩ := Has.cons ha
 obtain ⟨h1, ha⟩ := ha.cons
 obtain ⟨b0, hb⟩ := Has.cons hb
 obtain ⟨b1, hb⟩ := hb.cons
 unfold escF
 rw [h1]
 have e : escdF 117 = none := by decide
 simp only [e, if_true]
 rw [four_back (by omega) ha]
 simp only
 rw [if_neg (by omega), if_pos (by omega)]
 rw [show p + 1 + 1 + 4 = p + 6 by omega, mustF_on _ _ _ _ _ b0, mustF_on _ _ _ _ _ b1]
 simp only [mustF]
 rw [show p + 6 + 1 + 1 = p + 8 by omega] at hb ⊢
 rw [four_back (by omega) hb]
 simp only
 rw [if_neg (by omega)]
 have e1 : 65536 + (55296 + (c - 65536) / 1024 - 55296) * 1024 + (56320 + (c - 65536) % 1024 - 56320) = c := by omega
 rw [e1]
theorem encode_small {c : Nat} (h : c ≤ 127) : encodeRune (c : Int) = [UInt8.ofNat c] := by
 unfold encodeRune
 rw [encodeRuneZ_one (by omega) (by omega)]
 simp
theorem rune_back {s : List UInt8} {p c : Nat} (k : Nat) (out : List UInt8) (hc : c ≤ 1114111) (hv : ¬ (55296 ≤ c ∧ c ≤ 57343)) (h : Has s p (runeB c).flatten) : textF s (k + 1) out p = textF s k (out ++ encodeRune (c : Int)) (p + (runeB c).flatten.length) := by
 have short : ∀ x : UInt8, escdF x = some c → Has s p [92, x] → textF s (k + 1) out p = textF s k (out ++ encodeRune (c : Int)) (p + 2) := fun x hx hh => by
  rw [textF_esc _ _ _ _ _ hh.cons.1 rfl, esc_short hh hx]
 unfold runeB at h ⊢
 split at h
 ·rename_i h1
  simp only [List.flatten_cons, List.flatten_nil, List.append_nil] at h
  rw [if_pos h1]
  refine short _ ?_ h
  rcases h1 with rfl | rfl <;> decide
 ·rename_i h1
  rw [if_neg h1]
  split at h
  ·rename_i h2; rw [if_pos h2]; subst h2; exact short 98 (by decide) h
  ·rename_i h2; rw [if_neg h2]; split at h
   ·rename_i h3; rw [if_pos h3]; subst h3; exact short 116 (by decide) h
   ·rename_i h3; rw [if_neg h3]; split at h
    ·rename_i h4; rw [if_pos h4]; subst h4; exact short 110 (by decide) h
    ·rename_i h4; rw [if_neg h4]; split at h
     ·rename_i h5; rw [if_pos h5]; subst h5; exact short 102 (by decide) h
     ·rename_i h5; rw [if_neg h5]; split at h
      ·rename_i h6; rw [if_pos h6]; subst h6; exact short 114 (by decide) h
      ·rename_i h6; rw [if_neg h6]; split at h
       ·rename_i h7
        rw [if_pos h7]
        have hh := (Has.cons h).1
        have e : (UInt8.ofNat c).toNat = c := by simp; omega
        rw [textF_ascii _ _ _ _ _ hh (fun hq => h1 (.inl (by rw [← e, hq]; rfl))) (by omega) (fun hq => h1 (.inr (by rw [← e, hq]; rfl))) (by omega), encode_small (by omega)]
        rfl
       ·rename_i h7; rw [if_neg h7]; split at h
        ·rename_i h8
         rw [if_pos h8]
         simp only [List.flatten_cons, List.flatten_nil, List.append_nil] at h ⊢
         rw [textF_esc _ _ _ _ _ (Has.cons h.left).1 rfl, esc_pair (by omega) hc h]
         rfl
        ·rename_i h8
         rw [if_neg h8]
         simp only [List.flatten_cons, List.flatten_nil, List.append_nil] at h ⊢
         rw [textF_esc _ _ _ _ _ (Has.cons h).1 rfl, esc_unit (by omega) hv h]
         rfl
def qL : Nat → List UInt8 → List UInt8
 | 0, _ => []
 | n + 1, l => if l = [] then [] else (runeB (decodeL l).1).flatten ++ qL n (l.drop (decodeL l).2)
theorem decode_drop (s : ByteArray) (pos : Nat) (h : pos < s.size) : Utf8.decode s pos = decodeL (s.data.toList.drop pos) := by
 unfold decodeL
 have e : ∀ i, (ByteArray.mk (s.data.toList.drop pos).toArray).get! i = s.get! (pos + i) := fun i => by
  rw [get_list, List.getElem?_drop]
  exact (get_list s.data.toList (pos + i)).symm
 have es : (ByteArray.mk (s.data.toList.drop pos).toArray).size - 0 = s.size - pos := by
  show (s.data.toList.drop pos).toArray.size - 0 = _
  rw [List.size_toArray, List.length_drop, size_data]; rfl
 rw [decode_at s pos, decode_at ⟨(s.data.toList.drop pos).toArray⟩ 0, es, e 0, e (0 + 1), e (0 + 2), e (0 + 3)]
 simp
theorem quoteL_flat (s : ByteArray) : ∀ (k pos : Nat), (quoteL s k pos).flatten = qL k (s.data.toList.drop pos)
 | 0, pos => rfl
 | k + 1, pos => by
  by_cases h : pos < s.size
  ·rw [quoteL_on s k pos h, List.flatten_append, quoteL_flat s k, qL, if_neg (by intro hh; have := congrArg List.length hh; rw [List.length_drop, size_data] at this; simp at this; omega), ← decode_drop s pos h, List.drop_drop]
  ·rw [quoteL_end s (k + 1) pos h, qL, if_pos (by rw [List.drop_eq_nil_iff, size_data]; omega)]
   rfl
theorem decodeL_valid (l : List UInt8) : ¬ (55296 ≤ (decodeL l).1 ∧ (decodeL l).1 ≤ 57343) := by
 unfold decodeL
 rw [decode_at]
 generalize (ByteArray.mk l.toArray).get! 0 = b0
 unfold decodeN
 repeat' split
 all_goals (simp only; omega)
theorem text_back {s : List UInt8} : ∀ (n : Nat) (l out : List UInt8) (p : Nat), l.length ≤ n → validD l = true → Has s p (qL (n + 1) l ++ [34]) → textF s (n + 1) out p = some (.val (out ++ l) (p + (qL (n + 1) l).length + 1))
 | n, [], out, p, hn, hv, h => by
  have e : qL (n + 1) [] = [] := rfl
  rw [e] at h ⊢
  rw [textF_end _ _ _ _ _ (Has.cons h).1 rfl]
  simp
 | 0, c :: l, out, p, hn, hv, h => by simp at hn
 | n + 1, c :: l, out, p, hn, hv, h => by
  have hne : (c :: l) ≠ [] := by simp
  generalize hl : c :: l = m at *
  have e : qL (n + 1 + 1) m = (runeB (decodeL m).1).flatten ++ qL (n + 1) (m.drop (decodeL m).2) := by rw [qL, if_neg hne]
  rw [e, List.append_assoc] at h
  rw [validD_step m hne] at hv
  split at hv
  ·cases hv
  ·rename_i hd
   have hw := decodeL_width m
   rw [rune_back (n + 1) out (decodeL_rune m) (decodeL_valid m) h.left, encode_decode m hne hd, text_back n (m.drop (decodeL m).2) _ _ (by rw [List.length_drop]; omega) hv h.right]
   rw [e, List.length_append, List.append_assoc, List.take_append_drop]
   congr 2
   omega
theorem quote_eq (b : ByteArray) : qB b = 34 :: (qL (b.size + 1) b.data.toList ++ [34]) := by
 unfold qB quoteB
 simp only [List.flatten_cons, List.flatten_append, quoteL_flat, List.flatten_nil, List.drop_zero]
 rfl
theorem quoted_back {s : List UInt8} {b : ByteArray} {p k : Nat} (hv : validD b.data.toList = true) (h : Has s p (qB b)) (hk : s.length < k) : s[p]? = some 34 ∧ textF s k [] (p + 1) = some (.val b.data.toList (p + (qB b).length)) := by
 have hlen := h.len (by rw [quote_eq]; simp)
 rw [quote_eq] at h hlen ⊢
 obtain ⟨h1, h2⟩ := h.cons
 refine ⟨h1, ?_⟩
 have h3 := text_back b.size b.data.toList [] (p + 1) (by rw [size_data]; exact Nat.le_refl _) hv h2
 simp only [List.length_cons, List.length_append, List.length_nil] at hlen
 obtain ⟨o, ho⟩ := textF_total s k [] (p + 1) (by omega) (by omega)
 have h4 := textF_mono s (show b.size + 1 ≤ k + (b.size + 1) by omega) _ _ _ h3
 have h5 := textF_mono s (show k ≤ k + (b.size + 1) by omega) _ _ _ ho
 rw [ho, ← h5, h4]
 simp only [List.nil_append, List.length_cons, List.length_append, List.length_nil]
 congr 2
 omega
end Go.Proofs.YtaalajhmfdcalaaDoor.X
namespace Go.Proofs.YtaalajhmfdcalaaDoor.X
open Go.RowKit Go.Lib Go.Proofs.YtaalajhmfdcalaaDoorW.PrintWords
def Head (c : UInt8) : Prop := isBl c = false ∧ c ≠ 93 ∧ c ≠ 125
theorem bsJ_data (b : ByteArray) : bsJ b.data.toList = b := by
 apply ByteArray.ext
 simp [bsJ]
theorem litF_head {l : List UInt8} (h : (litF l).2 = true) : ∃ c t, l = c :: t ∧ (c = 45 ∨ isDg c = true) := by
 cases l with
 | nil => exact absurd h (by decide)
 | cons c t =>
  refine ⟨c, t, rfl, ?_⟩
  by_cases h1 : c = 45
  ·exact .inl h1
  ·refine .inr ?_
   cases hd : isDg c with
   | true => rfl
   | false =>
    exfalso
    unfold litF at h
    have e0 : ¬ (c :: t)[0]? = some 45 := fun hh => h1 (by simpa using hh)
    simp only [if_neg e0] at h
    by_cases h48 : (c :: t)[0]? = some 48
    ·have : c = 48 := by simpa using h48
     rw [this] at hd
     exact absurd hd (by decide)
    ·rw [if_neg h48] at h
     have : digsF ((c :: t).drop 0) = 0 := digs_stop _ 0 (fun d hh => by
      have : c = d := by simpa using hh
      rw [← this]; exact hd)
     rw [if_pos this] at h
     cases h
theorem dg_head {c : UInt8} (h : c = 45 ∨ isDg c = true) : Head c ∧ ¬ c = 110 ∧ ¬ c = 116 ∧ ¬ c = 102 := by
 have key : ∀ n : Fin 256, (UInt8.ofNat n.val = 45 ∨ isDg (UInt8.ofNat n.val) = true) → (isBl (UInt8.ofNat n.val) = false ∧ UInt8.ofNat n.val ≠ 93 ∧ UInt8.ofNat n.val ≠ 125) ∧ ¬ UInt8.ofNat n.val = 110 ∧ ¬ UInt8.ofNat n.val = 116 ∧ ¬ UInt8.ofNat n.val = 102 := by decide +kernel
 have e : UInt8.ofNat c.toNat = c := by simp
 have := key ⟨c.toNat, c.toNat_lt⟩
 simp only [e] at this
 exact this h
theorem node0_ {f1 : ByteArray} {n2 n3 : Nat} {f0 : Int} (h0 : f0 = 0 ∨ f0 = 1 ∨ f0 = 2) (h : nodeOK f0 f1 n2 n3 = true) : f1.size = 0 ∧ n2 = 0 ∧ n3 = 0 := by
 unfold nodeOK at h
 rw [if_pos h0] at h
 simpa using h
theorem node3_ {f1 : ByteArray} {n2 n3 : Nat} (h : nodeOK 3 f1 n2 n3 = true) : litF f1.data.toList = (f1.size, true) ∧ n2 = 0 ∧ n3 = 0 := by
 unfold nodeOK at h
 simp at h
 exact ⟨Prod.ext h.2.1 h.1, h.2.2.1, h.2.2.2⟩
theorem node4_ {f1 : ByteArray} {n2 n3 : Nat} (h : nodeOK 4 f1 n2 n3 = true) : validD f1.data.toList = true ∧ n2 = 0 ∧ n3 = 0 := by
 unfold nodeOK at h
 simp at h
 exact h
theorem node5_ {f1 : ByteArray} {n2 n3 : Nat} (h : nodeOK 5 f1 n2 n3 = true) : f1.size = 0 ∧ n2 = 0 := by
 unfold nodeOK at h
 rw [if_neg (by decide), if_neg (by decide), if_neg (by decide), if_pos rfl] at h
 exact of_decide_eq_true h
theorem node6_ {f1 : ByteArray} {n2 n3 : Nat} (h : nodeOK 6 f1 n2 n3 = true) : f1.size = 0 ∧ n2 = n3 := by
 unfold nodeOK at h
 rw [if_neg (by decide), if_neg (by decide), if_neg (by decide), if_neg (by decide), if_pos rfl] at h
 exact of_decide_eq_true h
theorem nodeOK_kinds {f0 : Int} {f1 : ByteArray} {n2 n3 : Nat} (h : nodeOK f0 f1 n2 n3 = true) (h5 : ¬ f0 = 5) (h6 : ¬ f0 = 6) : f0 = 0 ∨ f0 = 1 ∨ f0 = 2 ∨ f0 = 3 ∨ f0 = 4 := nodeOK_plain h h5 h6
theorem encB_head {v : J} (h : nodeOK v.f0 v.f1 v.f2.length v.f3.length = true) (h5 : ¬ v.f0 = 5) (h6 : ¬ v.f0 = 6) : ∃ c t, encB v = c :: t ∧ Head c := by
 unfold encB
 rcases nodeOK_kinds h h5 h6 with h0 | h0 | h0 | h0 | h0
 ·rw [h0]; exact ⟨110, _, rfl, by unfold Head; decide⟩
 ·rw [h0]; exact ⟨102, _, rfl, by unfold Head; decide⟩
 ·rw [h0]; exact ⟨116, _, rfl, by unfold Head; decide⟩
 ·rw [h0] at h ⊢
  obtain ⟨c, t, e, hc⟩ := litF_head (by rw [(node3_ h).1])
  rw [if_pos rfl]
  exact ⟨c, t, e, (dg_head hc).1⟩
 ·rw [h0, if_neg (by decide), if_pos rfl, quote_eq]
  exact ⟨34, _, rfl, by unfold Head; decide⟩
theorem encJ_head : ∀ (r : Nat) (v : J), OKJ r v → ∃ c t, encJ r v = c :: t ∧ Head c
 | 0, v, h => encB_head h.1 h.2.1 h.2.2
 | r + 1, v, h => by
  rw [encJ]
  by_cases h5 : v.f0 = 5
  ·rw [if_pos h5]; exact ⟨91, _, rfl, by unfold Head; decide⟩
  ·rw [if_neg h5]
   by_cases h6 : v.f0 = 6
   ·rw [if_pos h6]; exact ⟨123, _, rfl, by unfold Head; decide⟩
   ·rw [if_neg h6]; exact encB_head h.1 h5 h6
theorem blank_head {s l : List UInt8} {p : Nat} {c : UInt8} (h : Has s p (c :: l)) (hc : Head c) : blanksF s p = p :=
 blanks_stop s p fun d hd => by
  rw [h.cons.1] at hd
  injection hd with hd
  rw [← hd]; exact hc.1
theorem enc_blank {s l : List UInt8} {p r : Nat} {v : J} (hv : OKJ r v) (h : Has s p (encJ r v ++ l)) : blanksF s p = p := by
 obtain ⟨c, t, e, hc⟩ := encJ_head r v hv
 rw [e] at h
 exact blank_head h hc
theorem base_back {v : J} {s : List UInt8} {p k r : Nat} (hn : nodeOK v.f0 v.f1 v.f2.length v.f3.length = true) (h5 : ¬ v.f0 = 5) (h6 : ¬ v.f0 = 6) (h : Has s p (encB v)) (hs : Stop s (p + (encB v).length)) (hk : s.length < k) : valueF s k r p = some (.val v (p + (encB v).length)) := by
 obtain ⟨f0, f1, f2, f3⟩ := v
 simp only at hn h5 h6
 have nil : ∀ {α : Type} {l : List α}, l.length = 0 → l = [] := fun h => List.length_eq_zero_iff.1 h
 unfold encB at h hs ⊢
 simp only at h hs ⊢
 rcases nodeOK_kinds hn h5 h6 with h0 | h0 | h0 | h0 | h0
 ·obtain ⟨e1, e2, e3⟩ := node0_ (.inl h0) hn
  rw [str_empty f1 e1, nil e2, nil e3]
  subst h0
  have hh : Has s p [110, 117, 108, 108] := h
  unfold valueF
  rw [hh.cons.1]
  dsimp only
  rw [if_pos rfl, word_back _ p hh]
  rfl
 ·obtain ⟨e1, e2, e3⟩ := node0_ (.inr (.inl h0)) hn
  rw [str_empty f1 e1, nil e2, nil e3]
  subst h0
  have hh : Has s p [102, 97, 108, 115, 101] := h
  unfold valueF
  rw [hh.cons.1]
  dsimp only
  rw [if_neg (by decide), if_neg (by decide), if_pos rfl, word_back _ p hh]
  rfl
 ·obtain ⟨e1, e2, e3⟩ := node0_ (.inr (.inr h0)) hn
  rw [str_empty f1 e1, nil e2, nil e3]
  subst h0
  have hh : Has s p [116, 114, 117, 101] := h
  unfold valueF
  rw [hh.cons.1]
  dsimp only
  rw [if_neg (by decide), if_pos rfl, word_back _ p hh]
  rfl
 ·subst h0
  obtain ⟨e1, e2, e3⟩ := node3_ hn
  rw [nil e2, nil e3]
  rw [if_pos rfl] at h hs ⊢
  obtain ⟨c, t, e, hc⟩ := litF_head (by rw [e1])
  have hl : litF f1.data.toList = (f1.data.toList.length, true) := by rw [size_data]; exact e1
  have hb := number_back h hs hl
  have hc0 : s[p]? = some c := by rw [e] at h; exact h.cons.1
  obtain ⟨_, n1, n2, n3⟩ := dg_head hc
  unfold valueF
  rw [hc0]
  dsimp only
  rw [if_neg n1, if_neg n2, if_neg n3, if_pos hc, hb]
  simp only [Out.map, bsJ_data]
 ·subst h0
  obtain ⟨e1, e2, e3⟩ := node4_ hn
  rw [nil e2, nil e3]
  rw [if_neg (by decide), if_pos rfl] at h hs ⊢
  obtain ⟨q1, q2⟩ := quoted_back e1 h hk
  unfold valueF
  rw [q1]
  dsimp only
  rw [if_neg (by decide), if_neg (by decide), if_neg (by decide), if_neg (by decide), if_pos rfl, q2]
  simp only [Option.map_some, Out.map, bsJ_data]
theorem items_back {s : List UInt8} {k r : Nat} (IH : ∀ v, OKJ r v → ∀ p, Has s p (encJ r v) → Stop s (p + (encJ r v).length) → valueF s k r p = some (.val v (p + (encJ r v).length))) :
  ∀ (l : List J) (y : J) (a : List J) (q n i : Nat), (∀ z, z ∈ y :: l → OKJ r z) → Has s q (encJ r y ++ (encI (encJ r) (i + 1) l ++ [93])) → s.length < q + n → sevL (oneI (valueF s k r)) s 93 n a q = some (.val (a ++ y :: l) (q + (encJ r y ++ (encI (encJ r) (i + 1) l ++ [93])).length))
 | l, y, a, q, 0, i, hok, h, hn => by
  have := h.len (by simp only [List.length_append, List.length_cons]; omega)
  omega
 | [], y, a, q, n + 1, i, hok, h, hn => by
  have hr := h.right
  simp only [encI, List.nil_append] at hr
  have hc := hr.cons.1
  have hst := Stop.of hc (by decide)
  have hv := IH y (hok y (List.mem_cons_self ..)) q h.left hst
  unfold sevL oneI
  rw [hv]
  simp only [Option.map_some, Out.map]
  rw [hst.blank, hc]
  simp only [if_true, encI, List.nil_append, List.length_append, List.length_cons, List.length_nil]
  rfl
 | z :: l, y, a, q, n + 1, i, hok, h, hn => by
  have hr := h.right
  have e : encI (encJ r) (i + 1) (z :: l) ++ [93] = 44 :: (encJ r z ++ (encI (encJ r) (i + 1 + 1) l ++ [93])) := by simp [encI]
  rw [e] at hr
  obtain ⟨hc, hr⟩ := hr.cons
  have hst := Stop.of hc (by decide)
  have hv := IH y (hok y (List.mem_cons_self ..)) q h.left hst
  have hzok : OKJ r z := hok z (by simp)
  unfold sevL
  have h1 : oneI (valueF s k r) a q = some (.val (a ++ [y]) (q + (encJ r y).length)) := by unfold oneI; rw [hv]; rfl
  rw [h1]
  simp only
  rw [hst.blank, hc]
  dsimp only
  rw [if_neg (by decide), if_pos rfl, enc_blank hzok hr, items_back IH l z (a ++ [y]) _ n (i + 1) (fun w hw => hok w (List.mem_cons_of_mem _ hw)) hr (by omega)]
  rw [e]
  simp only [List.append_assoc, List.singleton_append, List.length_append, List.length_cons, List.length_nil]
  congr 2
  omega
theorem member_back {s : List UInt8} {k r : Nat} (hk : s.length < k) (IH : ∀ v, OKJ r v → ∀ p, Has s p (encJ r v) → Stop s (p + (encJ r v).length) → valueF s k r p = some (.val v (p + (encJ r v).length)))
  {nm : ByteArray} {y : J} {a : List ByteArray × List J} {q : Nat} {z : UInt8} {post : List UInt8} (hv : validD nm.data.toList = true) (hy : OKJ r y) (hn : ¬ nm.data.toList ∈ a.1.map (fun b => b.data.toList)) (hz : z ∈ ([0, 44, 93, 125] : List UInt8)) (h : Has s q (qB nm ++ (58 :: (encJ r y ++ (z :: post))))) :
  oneM (valueF s k r) s k a q = some (.val (a.1 ++ [nm], a.2 ++ [y]) (q + (qB nm).length + 1 + (encJ r y).length)) ∧ s[q + (qB nm).length + 1 + (encJ r y).length]? = some z := by
 have hq := h.left
 obtain ⟨q1, q2⟩ := quoted_back hv hq hk
 obtain ⟨hc, hr⟩ := h.right.cons
 have hc2 := hr.right.cons.1
 have hb : blanksF s (q + (qB nm).length) = q + (qB nm).length := blanks_stop _ _ fun d hd => by
  rw [hc] at hd; injection hd with hd; rw [← hd]; decide
 refine ⟨?_, hc2⟩
 unfold oneM
 rw [q1]
 dsimp only
 rw [if_pos rfl, q2]
 dsimp only
 rw [if_neg hn, hb, hc]
 dsimp only
 rw [if_pos rfl, enc_blank hy hr, IH y hy _ hr.left (Stop.of hc2 hz)]
 simp only [Option.map_some, Out.map, bsJ_data]
theorem members_back {s : List UInt8} {k r : Nat} (hk : s.length < k) (IH : ∀ v, OKJ r v → ∀ p, Has s p (encJ r v) → Stop s (p + (encJ r v).length) → valueF s k r p = some (.val v (p + (encJ r v).length))) :
  ∀ (ns : List ByteArray) (ys : List J) (nm : ByteArray) (y : J) (a : List ByteArray × List J) (q n i : Nat), ns.length = ys.length → (∀ z, z ∈ y :: ys → OKJ r z) → (∀ z, z ∈ nm :: ns → validD z.data.toList = true) → ((a.1 ++ nm :: ns).map (fun b => b.data.toList)).Nodup →
   Has s q (qB nm ++ (58 :: (encJ r y ++ (encM (encJ r) (i + 1) ns ys ++ [125])))) → s.length < q + n → sevL (oneM (valueF s k r) s k) s 125 n a q = some (.val (a.1 ++ nm :: ns, a.2 ++ y :: ys) (q + (qB nm ++ (58 :: (encJ r y ++ (encM (encJ r) (i + 1) ns ys ++ [125])))).length))
 | ns, ys, nm, y, a, q, 0, i, hl, hok, hva, hnd, h, hn => by
  have := h.len (by simp only [List.length_append, List.length_cons]; omega)
  omega
 | [], _ :: _, nm, y, a, q, n + 1, i, hl, hok, hva, hnd, h, hn => by simp at hl
 | _ :: _, [], nm, y, a, q, n + 1, i, hl, hok, hva, hnd, h, hn => by simp at hl
 | [], [], nm, y, a, q, n + 1, i, hl, hok, hva, hnd, h, hn => by
  have hnm : ¬ nm.data.toList ∈ a.1.map (fun b => b.data.toList) := by
   rw [List.map_append, List.nodup_append] at hnd
   exact fun hh => hnd.2.2 _ hh nm.data.toList (by simp) rfl
  have e : encM (encJ r) (i + 1) [] [] ++ [125] = [125] := rfl
  rw [e] at h
  obtain ⟨h1, h2⟩ := member_back hk IH (hva nm (List.mem_cons_self ..)) (hok y (List.mem_cons_self ..)) hnm (z := 125) (post := []) (by decide) h
  unfold sevL
  rw [h1]
  simp only
  rw [(Stop.of h2 (by decide)).blank, h2]
  simp only [if_true, e, List.length_append, List.length_cons, List.length_nil]
  congr 2
  omega
 | nm2 :: ns, y2 :: ys, nm, y, a, q, n + 1, i, hl, hok, hva, hnd, h, hn => by
  have hnm : ¬ nm.data.toList ∈ a.1.map (fun b => b.data.toList) := by
   rw [List.map_append, List.nodup_append] at hnd
   exact fun hh => hnd.2.2 _ hh nm.data.toList (by simp) rfl
  have e : encM (encJ r) (i + 1) (nm2 :: ns) (y2 :: ys) ++ [125] = 44 :: (qB nm2 ++ (58 :: (encJ r y2 ++ (encM (encJ r) (i + 1 + 1) ns ys ++ [125])))) := by simp [encM]
  rw [e] at h
  obtain ⟨h1, h2⟩ := member_back hk IH (hva nm (List.mem_cons_self ..)) (hok y (List.mem_cons_self ..)) hnm (z := 44) (by decide) h
  have hr := h.right.cons.2.right.cons.2
  have hb : blanksF s (q + (qB nm).length + 1 + (encJ r y).length + 1) = q + (qB nm).length + 1 + (encJ r y).length + 1 := by
   rw [quote_eq nm2] at hr
   exact blank_head hr (by unfold Head; decide)
  unfold sevL
  rw [h1]
  simp only
  rw [(Stop.of h2 (by decide)).blank, h2]
  dsimp only
  rw [if_neg (by decide), if_pos rfl, hb, members_back hk IH ns ys nm2 y2 (a.1 ++ [nm], a.2 ++ [y]) _ n (i + 1) (by simpa using hl) (fun w hw => hok w (List.mem_cons_of_mem _ hw)) (fun w hw => hva w (List.mem_cons_of_mem _ hw)) (by simpa using hnd) hr (by omega)]
  rw [e]
  simp only [List.append_assoc, List.singleton_append, List.length_append, List.length_cons, List.length_nil]
  congr 2
  omega
theorem value_back {s : List UInt8} {k : Nat} (hk : s.length < k) : ∀ (r : Nat) (v : J), OKJ r v → ∀ p, Has s p (encJ r v) → Stop s (p + (encJ r v).length) → valueF s k r p = some (.val v (p + (encJ r v).length))
 | 0, v, hok, p, h, hs => base_back hok.1 hok.2.1 hok.2.2 h hs hk
 | r + 1, v, hok, p, h, hs => by
  have IH := value_back hk r
  have nil : ∀ {α : Type} {l : List α}, l.length = 0 → l = [] := fun h => List.length_eq_zero_iff.1 h
  obtain ⟨hn, hitems, hnames⟩ := hok
  rw [encJ] at h hs ⊢
  by_cases h5 : v.f0 = 5
  ·rw [if_pos h5] at h hs ⊢
   have hit := hitems (.inl h5)
   clear hs
   obtain ⟨f0, f1, f2, f3⟩ := v
   simp only at hn h5 hit h ⊢
   subst h5
   obtain ⟨e1, e2⟩ := node5_ hn
   rw [str_empty f1 e1, nil e2]
   have hc := h.cons
   unfold valueF
   rw [hc.1]
   dsimp only
   rw [if_neg (by decide), if_neg (by decide), if_neg (by decide), if_neg (by decide), if_neg (by decide), if_pos (.inl rfl), if_pos rfl]
   have key : sevF (oneI (valueF s k r)) s 93 k [] p = some (.val f3 (p + (91 :: (encI (encJ r) 0 f3 ++ [93])).length)) := by
    unfold sevF
    cases f3 with
    | nil =>
     have h93 := hc.2.cons.1
     rw [(Stop.of h93 (by decide)).blank, h93]
     simp [encI]
    | cons y l =>
     have e : encI (encJ r) 0 (y :: l) ++ [93] = encJ r y ++ (encI (encJ r) (0 + 1) l ++ [93]) := by simp [encI]
     have h2 := hc.2
     rw [e] at h2 ⊢
     obtain ⟨c, t, ec, hh⟩ := encJ_head r y (hit y (List.mem_cons_self ..))
     have hcc : s[p + 1]? = some c := by rw [ec] at h2; exact h2.cons.1
     rw [enc_blank (hit y (List.mem_cons_self ..)) h2, hcc]
     simp only
     rw [if_neg hh.2.1, items_back IH l y [] (p + 1) k 0 hit h2 (by omega)]
     simp only [List.nil_append, List.length_cons]
     congr 2
     omega
   rw [key]
   rfl
  ·rw [if_neg h5] at h hs ⊢
   by_cases h6 : v.f0 = 6
   ·rw [if_pos h6] at h hs ⊢
    have hit := hitems (.inr h6)
    obtain ⟨hva, hnd⟩ := hnames h6
    clear hs
    obtain ⟨f0, f1, f2, f3⟩ := v
    simp only at hn h6 hit h hva hnd ⊢
    subst h6
    obtain ⟨e1, e2⟩ := node6_ hn
    rw [str_empty f1 e1]
    have hc := h.cons
    unfold valueF
    rw [hc.1]
    dsimp only
    rw [if_neg (by decide), if_neg (by decide), if_neg (by decide), if_neg (by decide), if_neg (by decide), if_pos (.inr rfl), if_neg (by decide)]
    have key : sevF (oneM (valueF s k r) s k) s 125 k ([], []) p = some (.val (f2, f3) (p + (123 :: (encM (encJ r) 0 f2 f3 ++ [125])).length)) := by
     unfold sevF
     cases f2 with
     | nil =>
      have e3 : f3 = [] := nil e2.symm
      subst e3
      have h125 := hc.2.cons.1
      rw [(Stop.of h125 (by decide)).blank, h125]
      simp [encM]
     | cons nm ns =>
      cases f3 with
      | nil => simp at e2
      | cons y ys =>
       have e : encM (encJ r) 0 (nm :: ns) (y :: ys) ++ [125] = qB nm ++ (58 :: (encJ r y ++ (encM (encJ r) (0 + 1) ns ys ++ [125]))) := by simp [encM]
       have h2 := hc.2
       rw [e] at h2 ⊢
       have h3 := h2
       rw [quote_eq nm] at h3
       rw [blank_head h3 (by unfold Head; decide), h3.cons.1]
       simp only
       rw [if_neg (by decide), members_back hk IH ns ys nm y ([], []) (p + 1) k 0 (by simpa using e2) hit hva (by simpa using hnd) h2 (by omega)]
       simp only [List.nil_append, List.length_cons]
       congr 2
       omega
    rw [key]
    rfl
   ·rw [if_neg h6] at h hs ⊢
    exact base_back hn h5 h6 h hs hk
end Go.Proofs.YtaalajhmfdcalaaDoor.X
namespace Go.Proofs.YtaalajhmfdcalaaDoor.X
open Go.RowKit Go.Lib Go.Proofs.YtaalajhmfdcalaaDoorW.PrintWords
theorem sum_perm {l l' : List Nat} (h : l.Perm l') : l.sum = l'.sum := by
 induction h with
 | nil => rfl
 | cons x _ ih => simp only [List.sum_cons, ih]
 | swap x y l => simp only [List.sum_cons]; omega
 | trans _ _ h1 h2 => exact h1.trans h2
def pm (f : J → J) (p : ByteArray × J) : ByteArray × J := (p.1, f p.2)
theorem insF_map (f : J → J) (x : ByteArray × J) : ∀ l, insF (pm f x) (l.map (pm f)) = (insF x l).map (pm f)
 | [] => rfl
 | y :: l => by
  rw [List.map_cons, insF, insF]
  have e : Op.bytesLess (pm f y).1.toList (pm f x).1.toList = Op.bytesLess y.1.toList x.1.toList := rfl
  rw [e]
  split
  ·rw [List.map_cons, insF_map f x l]
  ·rfl
theorem sortF_map' (f : J → J) : ∀ (l a : List (ByteArray × J)), (l.map (pm f)).foldl (fun a x => insF x a) (a.map (pm f)) = (l.foldl (fun a x => insF x a) a).map (pm f)
 | [], a => rfl
 | x :: l, a => by
  rw [List.map_cons, List.foldl_cons, List.foldl_cons, insF_map, sortF_map' f l]
theorem sortF_map (f : J → J) (l : List (ByteArray × J)) : sortF (l.map (pm f)) = (sortF l).map (pm f) := sortF_map' f l []
theorem sortF_of_perm {P Q : List (ByteArray × J)} (h : Q.Perm P) (hn : (P.map Prod.fst).Nodup) : sortF Q = sortF P :=
 strict_unique ltP ltP_asymm _ _ ((sortF_perm Q).trans (h.trans (sortF_perm P).symm)) (strict_of (sortF_sorted Q) ((((sortF_perm Q).trans h).map Prod.fst).nodup_iff.2 hn)) (strict_of (sortF_sorted P) (((sortF_perm P).map Prod.fst).nodup_iff.2 hn))
theorem map_pm_fst (f : J → J) (l : List (ByteArray × J)) : (l.map (pm f)).map Prod.fst = l.map Prod.fst := by rw [List.map_map]; rfl
theorem map_pm_snd (f : J → J) (l : List (ByteArray × J)) : (l.map (pm f)).map Prod.snd = (l.map Prod.snd).map f := by rw [List.map_map, List.map_map]; rfl
theorem nodup_names {ns : List ByteArray} (h : (ns.map (fun b => b.data.toList)).Nodup) : ns.Nodup := (List.pairwise_map.1 h).imp (fun hne he => hne (by rw [he]))
theorem zip_fst_nodup {ns : List ByteArray} {ys : List J} (hl : ns.length = ys.length) (h : (ns.map (fun b => b.data.toList)).Nodup) : ((ns.zip ys).map Prod.fst).Nodup := by
 rw [map_fst_zip hl]; exact nodup_names h
theorem nodeOK_6 {f1 : ByteArray} {n2 n3 m2 m3 : Nat} (h : nodeOK 6 f1 n2 n3 = true) (hm : m2 = m3) : nodeOK 6 f1 m2 m3 = true := by
 unfold nodeOK at h ⊢
 simp at h ⊢
 exact ⟨h.1, hm⟩
theorem items_perm {ns : List ByteArray} {ys : List J} (h : ns.length = ys.length) : (itemsOf true ns ys).Perm ys := by
 have := (sortF_perm (ns.zip ys)).map Prod.snd
 rw [map_snd_zip h] at this
 exact this
theorem OKJ_sJ : ∀ (r : Nat) (v : J), OKJ r v → OKJ r (sJ r v)
 | 0, v, h => h
 | r + 1, v, h => by
  have IH := OKJ_sJ r
  obtain ⟨hn, hi, hm⟩ := h
  by_cases h5 : v.f0 = 5
  ·rw [sJ_5 h5]
   refine ⟨?_, fun _ y hy => ?_, fun h6 => absurd (h5.symm.trans h6) (by decide)⟩
   ·show nodeOK v.f0 v.f1 v.f2.length (v.f3.map (sJ r)).length = true
    rw [List.length_map]; exact hn
   ·obtain ⟨x, hx, rfl⟩ := List.mem_map.1 hy
    exact IH x (hi (.inl h5) x hx)
  ·by_cases h6 : v.f0 = 6
   ·have hl : v.f2.length = v.f3.length := by rw [h6] at hn; exact (node6_ hn).2
    obtain ⟨g1, g2⟩ := hm h6
    rw [sJ_6 h6 hl]
    refine ⟨?_, fun _ y hy => ?_, fun _ => ⟨fun s hs => g1 s ((namesOf_perm hl).subset hs), ?_⟩⟩
    ·show nodeOK v.f0 v.f1 (namesOf true v.f2 v.f3).length ((itemsOf true v.f2 v.f3).map (sJ r)).length = true
     rw [h6] at hn ⊢
     exact nodeOK_6 hn (by rw [List.length_map, names_len hl, items_len hl, hl])
    ·obtain ⟨x, hx, rfl⟩ := List.mem_map.1 hy
     exact IH x (hi (.inr h6) x ((items_perm hl).subset hx))
    ·exact ((namesOf_perm hl).map _).nodup_iff.2 g2
   ·rw [sJ_x h5 (fun h => h6 h.1)]
    exact ⟨hn, hi, hm⟩
theorem encI_map (enc : J → List UInt8) (f : J → J) : ∀ (l : List J) (i : Nat), encI enc i (l.map f) = encI (fun y => enc (f y)) i l
 | [], _ => rfl
 | y :: l, i => by rw [List.map_cons, encI, encI, encI_map enc f l]
theorem encM_map (enc : J → List UInt8) (f : J → J) : ∀ (ns : List ByteArray) (ys : List J) (i : Nat), encM enc i ns (ys.map f) = encM (fun y => enc (f y)) i ns ys
 | [], ys, i => by cases ys <;> simp [encM]
 | _ :: _, [], i => by simp [encM]
 | nm :: ns, y :: ys, i => by rw [List.map_cons, encM, encM, encM_map enc f ns ys]
theorem encI_len {e1 e2 : J → List UInt8} (h : ∀ y, (e1 y).length = (e2 y).length) : ∀ (l : List J) (i : Nat), (encI e1 i l).length = (encI e2 i l).length
 | [], _ => rfl
 | y :: l, i => by rw [encI, encI]; simp only [List.length_append, h, encI_len h l]
theorem encM_len {e1 e2 : J → List UInt8} (h : ∀ y, (e1 y).length = (e2 y).length) : ∀ (ns : List ByteArray) (ys : List J) (i : Nat), (encM e1 i ns ys).length = (encM e2 i ns ys).length
 | [], ys, i => by cases ys <;> simp [encM]
 | _ :: _, [], i => by simp [encM]
 | nm :: ns, y :: ys, i => by rw [encM, encM]; simp only [List.length_append, List.length_cons, h, encM_len h ns ys]
def lenP (enc : J → List UInt8) (l : List (ByteArray × J)) : Nat := (l.map (fun p => (qB p.1).length + 2 + (enc p.2).length)).sum
theorem encM_lenP (enc : J → List UInt8) : ∀ (ns : List ByteArray) (ys : List J) (i : Nat), (encM enc i ns ys).length + (if i = 0 ∧ ns.zip ys ≠ [] then 1 else 0) = lenP enc (ns.zip ys)
 | [], ys, i => by cases ys <;> simp [encM, lenP]
 | _ :: _, [], i => by simp [encM, lenP]
 | nm :: ns, y :: ys, i => by
  have := encM_lenP enc ns ys (i + 1)
  rw [if_neg (by omega)] at this
  rw [encM, List.zip_cons_cons]
  unfold lenP at this ⊢
  rw [List.map_cons, List.sum_cons, ← this]
  by_cases hi : i = 0
  ·simp [hi]; omega
  ·simp [hi]; omega
theorem encM_perm (enc : J → List UInt8) {ns ns' : List ByteArray} {ys ys' : List J} (h : (ns'.zip ys').Perm (ns.zip ys)) : (encM enc 0 ns' ys').length = (encM enc 0 ns ys).length := by
 have h1 := encM_lenP enc ns ys 0
 have h2 := encM_lenP enc ns' ys' 0
 have h3 : lenP enc (ns'.zip ys') = lenP enc (ns.zip ys) := sum_perm (h.map _)
 have h4 : (ns'.zip ys' ≠ []) ↔ (ns.zip ys ≠ []) := by
  have := h.length_eq
  rw [← List.length_pos_iff, ← List.length_pos_iff, this]
 have h5 : (if (0 : Nat) = 0 ∧ ns'.zip ys' ≠ [] then 1 else 0 : Nat) = (if (0 : Nat) = 0 ∧ ns.zip ys ≠ [] then 1 else 0) := by simp only [h4]
 rw [h5] at h2
 omega
theorem zip_names {ns : List ByteArray} {ys : List J} : (namesOf true ns ys).zip (itemsOf true ns ys) = sortF (ns.zip ys) := by
 show ((sortF (ns.zip ys)).map Prod.fst).zip ((sortF (ns.zip ys)).map Prod.snd) = _
 rw [List.zip_map']
 simp
theorem encJ_sJ_len : ∀ (r : Nat) (v : J), (encJ r (sJ r v)).length = (encJ r v).length
 | 0, v => rfl
 | r + 1, v => by
  have IH := encJ_sJ_len r
  by_cases h5 : v.f0 = 5
  ·rw [sJ_5 h5, encJ, encJ]
   simp only [if_pos h5, List.length_cons, List.length_append]
   rw [encI_map, encI_len IH]
  ·by_cases h6 : v.f0 = 6 ∧ v.f2.length = v.f3.length
   ·rw [sJ_6 h6.1 h6.2, encJ, encJ]
    simp only [if_neg h5, if_pos h6.1, List.length_cons, List.length_append]
    rw [encM_map, encM_len IH, encM_perm]
    rw [zip_names]
    exact sortF_perm _
   ·rw [sJ_x h5 h6]
end Go.Proofs.YtaalajhmfdcalaaDoor.X
namespace Go.Proofs.YtaalajhmfdcalaaDoor.X
open Go.RowKit Go.Lib Go.Proofs.YtaalajhmfdcalaaDoorW.PrintWords
theorem dec_four (s : ByteArray) (pos : Nat) : (Utf8.decode s pos).2 ≤ 4 := by
 simp only [Utf8.decode]
 repeat' split
 all_goals simp_all
theorem runeB_pos (c : Nat) : 1 ≤ lensL (runeB c) := by
 unfold runeB
 repeat' split
 all_goals simp [lensL, unitB]
theorem quoteL_low (s : ByteArray) : ∀ (k pos : Nat), s.size - pos ≤ k → s.size - pos ≤ 4 * lensL (quoteL s k pos)
 | 0, pos, h => by omega
 | k + 1, pos, h => by
  by_cases hp : pos < s.size
  ·rw [quoteL_on s k pos hp]
   have h1 := runeB_pos (Utf8.decode s pos).1
   have h2 := (dec_small s pos).2
   have h3 := dec_four s pos
   have h4 := quoteL_low s k (pos + (Utf8.decode s pos).2) (by omega)
   have e : lensL (runeB (Utf8.decode s pos).1 ++ quoteL s k (pos + (Utf8.decode s pos).2)) = lensL (runeB (Utf8.decode s pos).1) + lensL (quoteL s k (pos + (Utf8.decode s pos).2)) := by simp [lensL]
   omega
  ·omega
theorem qB_size (s : ByteArray) : s.size ≤ 4 * (qB s).length := by
 have h := quoteL_low s (s.size + 1) 0 (by omega)
 have e : (qB s).length = 1 + (lensL (quoteL s (s.size + 1) 0) + 1) := by simp [qB, lensL, quoteB, List.length_flatten]; omega
 omega
theorem enc_pos {r : Nat} {v : J} (h : OKJ r v) : 1 ≤ (encJ r v).length := by
 obtain ⟨c, t, e, _⟩ := encJ_head r v h
 rw [e, List.length_cons]; omega
theorem nil_of {α : Type} {l : List α} (h : l.length = 0) : l = [] := List.length_eq_zero_iff.1 h
theorem leaf_wt {v : J} {r : Nat} (hn : nodeOK v.f0 v.f1 v.f2.length v.f3.length = true) (h5 : ¬ v.f0 = 5) (h6 : ¬ v.f0 = 6) : wtJ r v = 12 * v.f1.size + 16 ∧ v.f1.size ≤ 4 * (encB v).length ∧ v.f2 = [] ∧ v.f3 = [] := by
 have h3 : v.f2.length = 0 ∧ v.f3.length = 0 ∧ v.f1.size ≤ 4 * (encB v).length := by
  rcases nodeOK_kinds hn h5 h6 with h | h | h | h | h
  ·have := node0_ (.inl h) hn; exact ⟨this.2.1, this.2.2, by omega⟩
  ·have := node0_ (.inr (.inl h)) hn; exact ⟨this.2.1, this.2.2, by omega⟩
  ·have := node0_ (.inr (.inr h)) hn; exact ⟨this.2.1, this.2.2, by omega⟩
  ·rw [h] at hn
   have := node3_ hn
   refine ⟨this.2.1, this.2.2, ?_⟩
   unfold encB; rw [if_pos h, size_data]; omega
  ·rw [h] at hn
   have := node4_ hn
   refine ⟨this.2.1, this.2.2, ?_⟩
   unfold encB; rw [if_neg (by rw [h]; decide), if_pos h]; exact qB_size _
 have e2 := nil_of h3.1
 have e3 := nil_of h3.2.1
 refine ⟨?_, h3.2.2, e2, e3⟩
 cases r with
 | zero => rfl
 | succ r => unfold wtJ; rw [e2, e3]; simp
theorem encI_ge (enc : J → List UInt8) : ∀ (l : List J) (i : Nat), (l.map (fun y => (enc y).length)).sum ≤ (encI enc i l).length
 | [], _ => by simp
 | y :: l, i => by
  have := encI_ge enc l (i + 1)
  rw [encI]
  simp only [List.map_cons, List.sum_cons, List.length_append]
  omega
theorem sum_le_mul {α : Type} (f g : α → Nat) (c : Nat) : ∀ (l : List α), (∀ y, y ∈ l → f y ≤ c * g y) → (l.map f).sum ≤ c * (l.map g).sum
 | [], _ => by simp
 | y :: l, h => by
  have h1 := h y (List.mem_cons_self ..)
  have h2 := sum_le_mul f g c l (fun z hz => h z (List.mem_cons_of_mem _ hz))
  simp only [List.map_cons, List.sum_cons, Nat.mul_add]
  omega
theorem sum_two {α : Type} (f g : α → Nat) : ∀ (l : List α), (l.map (fun y => f y + g y)).sum = (l.map f).sum + (l.map g).sum
 | [] => by simp
 | y :: l => by simp only [List.map_cons, List.sum_cons, sum_two f g l]; omega
theorem wt_enc : ∀ (r : Nat) (v : J), OKJ r v → wtJ r v + 1 ≤ 65 * (encJ r v).length
 | 0, v, h => by
  obtain ⟨hn, h5, h6⟩ := h
  obtain ⟨w1, w2, _, _⟩ := leaf_wt (r := 0) hn h5 h6
  have := enc_pos (r := 0) ⟨hn, h5, h6⟩
  rw [w1]
  show _ ≤ 65 * (encB v).length
  change 1 ≤ (encB v).length at this
  omega
 | r + 1, v, h => by
  have IH := wt_enc r
  have hp := enc_pos h
  obtain ⟨hn, hi, hm⟩ := h
  by_cases h5 : v.f0 = 5
  ·rw [h5] at hn
   have n5 := node5_ hn
   have e2 := nil_of n5.2
   have s1 : (v.f3.map (fun y => wtJ r y + 1)).sum ≤ 65 * (v.f3.map (fun y => (encJ r y).length)).sum := sum_le_mul _ _ 65 _ (fun y hy => IH y (hi (.inl h5) y hy))
   have s2 := encI_ge (encJ r) v.f3 0
   rw [encJ, if_pos h5, List.length_cons, List.length_append, wtJ, e2, n5.1]
   simp only [List.map_nil, List.sum_nil, List.length_cons, List.length_nil]
   omega
  ·by_cases h6 : v.f0 = 6
   ·rw [h6] at hn
    have n6 := node6_ hn
    have hl : v.f2.length = v.f3.length := n6.2
    have s1 : (v.f2.map (fun s => 12 * s.size + 16)).sum = ((v.f2.zip v.f3).map (fun p => 12 * p.1.size + 16)).sum := by
     conv => lhs; rw [← map_fst_zip hl]
     rw [List.map_map]; rfl
    have s2 : (v.f3.map (fun y => wtJ r y + 1)).sum = ((v.f2.zip v.f3).map (fun p => wtJ r p.2 + 1)).sum := by
     conv => lhs; rw [← map_snd_zip hl]
     rw [List.map_map]; rfl
    have s3 : ((v.f2.zip v.f3).map (fun p => (12 * p.1.size + 16) + (wtJ r p.2 + 1))).sum ≤ 65 * lenP (encJ r) (v.f2.zip v.f3) := sum_le_mul _ _ 65 _ (fun p hp => by
     have h1 := IH p.2 (hi (.inr h6) p.2 (List.of_mem_zip hp).2)
     have h2 := qB_size p.1
     omega)
    rw [sum_two] at s3
    have s4 := encM_lenP (encJ r) v.f2 v.f3 0
    have s5 : (if (0 : Nat) = 0 ∧ v.f2.zip v.f3 ≠ [] then 1 else 0 : Nat) ≤ 1 := by split <;> omega
    rw [encJ, if_neg h5, if_pos h6, List.length_cons, List.length_append, wtJ, n6.1]
    simp only [List.length_cons, List.length_nil]
    omega
   ·obtain ⟨w1, w2, _, _⟩ := leaf_wt (r := r + 1) hn h5 h6
    rw [encJ, if_neg h5, if_neg h6] at hp ⊢
    rw [w1]
    omega
def Pr (l : List UInt8) : Prop := ∀ b, b ∈ l → 32 ≤ b.toNat ∧ b.toNat ≤ 126
theorem Pr.app {a b : List UInt8} (ha : Pr a) (hb : Pr b) : Pr (a ++ b) := fun x hx => (List.mem_append.1 hx).elim (ha x) (hb x)
theorem Pr.cons {c : UInt8} {b : List UInt8} (hc : 32 ≤ c.toNat ∧ c.toNat ≤ 126) (hb : Pr b) : Pr (c :: b) := fun x hx => (List.mem_cons.1 hx).elim (fun e => e ▸ hc) (hb x)
theorem Pr.nil : Pr [] := fun _ h => by cases h
def Nm (l : List UInt8) (i : Nat) : Prop := ∀ k, k < i → ∀ c : UInt8, l[k]? = some c → 32 ≤ c.toNat ∧ c.toNat ≤ 126
theorem Nm.more {l : List UInt8} {i j : Nat} (h : Nm l i) (hij : ∀ k, i ≤ k → k < j → ∀ c : UInt8, l[k]? = some c → 32 ≤ c.toNat ∧ c.toNat ≤ 126) : Nm l j := fun k hk c hc => by
 by_cases h1 : k < i
 ·exact h k h1 c hc
 ·exact hij k (by omega) hk c hc
theorem Nm.one {l : List UInt8} {i : Nat} {d : UInt8} (h : Nm l i) (hd : l[i]? = some d) (hp : 32 ≤ d.toNat ∧ d.toNat ≤ 126) : Nm l (i + 1) := h.more (fun k h1 h2 c hc => by
 obtain rfl : k = i := by omega
 rw [hd] at hc; injection hc with hc; exact hc ▸ hp)
end Go.Proofs.YtaalajhmfdcalaaDoor.X
namespace Go.Proofs.YtaalajhmfdcalaaDoor.X
open Go.RowKit Go.Lib Go.Proofs.YtaalajhmfdcalaaDoorW.PrintWords Go.Proofs.YtaalajhmfdcalaaDoorW.PrintLast Go.Proofs.YtaalajhmfdcalaaDoorW.PrintMore
def VEnd (r : Nat) (v : J) (W : World) (e : Ending) (W' : World) : Prop := ∃ b : Bool, e = .returned (.bool b) ∧ (b = true ↔ OKJ r v) ∧ Below W.heap.size W W'
def VOK (B L r : Nat) : Prop := ∀ (v : J) (A2 A3 : Option Addr) (c2 c3 : Nat) (W : World), Bd B L v → Kd.string.C W A2 v.f2.length v.f2 → k25.C W A3 v.f3.length v.f3 →
 Calls Tryd.prog 24 #[jVal v.f0 v.f1 A2 A3 v.f2.length c2 v.f3.length c3, .int .i64 (32 - (r : Int))] W (VEnd r v W)
def NmOK (ns : List ByteArray) (i : Nat) : Prop := (∀ s, s ∈ ns.take i → validD s.data.toList = true) ∧ ((ns.take i).map (fun b => b.data.toList)).Nodup
theorem fit_zero {r : Nat} {v : J} (hr : r ≤ 32) : fitZ (32 - (r : Int)) v.f0 v.f1 v.f2.length v.f3.length = 0 ↔ (nodeOK v.f0 v.f1 v.f2.length v.f3.length = true ∧ (r = 0 → ¬ v.f0 = 5 ∧ ¬ v.f0 = 6)) := by
 unfold fitZ
 by_cases h : ((v.f0 = 5 ∨ v.f0 = 6) ∧ 32 ≤ 32 - (r : Int)) ∨ 32 < 32 - (r : Int)
 ·rw [if_pos h]
  constructor
  ·intro h; cases h
  ·rintro ⟨_, h2⟩
   exfalso
   rcases h with ⟨h1, h3⟩ | h
   ·have := h2 (by omega); omega
   ·omega
 ·rw [if_neg h]
  by_cases hn : nodeOK v.f0 v.f1 v.f2.length v.f3.length = true
  ·rw [if_pos hn]
   refine ⟨fun _ => ⟨hn, fun h0 => ?_⟩, fun _ => rfl⟩
   constructor <;> intro hh <;> exact h (.inl ⟨by omega, by omega⟩)
  ·rw [if_neg hn]
   constructor
   ·intro h; cases h
   ·rintro ⟨h1, _⟩; exact absurd h1 hn
theorem not_OKJ {r : Nat} {v : J} (hr : r ≤ 32) (h : ¬ fitZ (32 - (r : Int)) v.f0 v.f1 v.f2.length v.f3.length = 0) : ¬ OKJ r v := fun hk => h ((fit_zero hr).2 (by
 cases r with
 | zero => exact ⟨hk.1, fun _ => hk.2⟩
 | succ r => exact ⟨hk.1, fun h => by cases h⟩))
theorem NmOK.zero (ns : List ByteArray) : NmOK ns 0 := by
 refine ⟨fun s hs => ?_, ?_⟩
 ·rw [List.take_zero] at hs; cases hs
 ·rw [List.take_zero]; exact List.nodup_nil
theorem NmOK.next {ns : List ByteArray} {i : Nat} (h : NmOK ns i) (hi : i < ns.length) (hv : validD (nmAt ns i).data.toList = true) (hd : ∀ m, m < i → ¬ (nmAt ns m).data.toList = (nmAt ns i).data.toList) : NmOK ns (i + 1) := by
 have e := take_nm ns i hi
 refine ⟨fun s hs => ?_, ?_⟩
 ·rw [e] at hs
  rcases List.mem_append.1 hs with hs | hs
  ·exact h.1 s hs
  ·rw [List.mem_singleton] at hs; rw [hs]; exact hv
 ·rw [e, List.map_append, List.nodup_append]
  refine ⟨h.2, by simp, fun a ha b hb => ?_⟩
  simp only [List.map_cons, List.map_nil, List.mem_singleton] at hb
  rw [hb]
  rintro rfl
  obtain ⟨s, hs, he⟩ := List.mem_map.1 ha
  obtain ⟨m, hm, rfl⟩ := List.getElem_of_mem hs
  rw [List.length_take] at hm
  refine hd m (by omega) ?_
  rw [nmAt_eq ns m (by omega)]
  rw [List.getElem_take] at he
  exact he
theorem NmOK.bad_valid {ns : List ByteArray} {i : Nat} (hi : i < ns.length) (hv : validD (nmAt ns i).data.toList = false) : ¬ NmOK ns ns.length := fun h => by
 have := h.1 (nmAt ns i) (by rw [List.take_of_length_le (Nat.le_refl _)]; exact mem_nm ns i hi)
 rw [hv] at this; cases this
theorem NmOK.bad_twice {ns : List ByteArray} {i m : Nat} (hi : i < ns.length) (hm : m < i) (he : (nmAt ns m).data.toList = (nmAt ns i).data.toList) : ¬ NmOK ns ns.length := fun h => by
 have h2 := h.2
 rw [List.take_of_length_le (Nat.le_refl _)] at h2
 have := (List.pairwise_iff_getElem.1 h2) m i (by rw [List.length_map]; omega) (by rw [List.length_map]; omega) hm
 rw [List.getElem_map, List.getElem_map] at this
 rw [nmAt_eq ns m (by omega), nmAt_eq ns i hi] at he
 exact this he
theorem OKJ_parts {r : Nat} {v : J} (h1 : nodeOK v.f0 v.f1 v.f2.length v.f3.length = true) (h2 : r = 0 → ¬ v.f0 = 5 ∧ ¬ v.f0 = 6) : OKJ r v ↔ NmOK v.f2 v.f2.length ∧ ∀ y, y ∈ v.f3 → ∃ r', r' + 1 = r ∧ OKJ r' y := by
 have hleaf : ¬ v.f0 = 5 → ¬ v.f0 = 6 → v.f2 = [] ∧ v.f3 = [] := fun h5 h6 => (leaf_wt (r := 0) h1 h5 h6).2.2
 have h50 : v.f0 = 5 → v.f2 = [] := fun h5 => by rw [h5] at h1; exact List.length_eq_zero_iff.1 (node5_ h1).2
 have hnil : NmOK [] 0 := NmOK.zero []
 cases r with
 | zero =>
  obtain ⟨h5, h6⟩ := h2 rfl
  obtain ⟨e2, e3⟩ := hleaf h5 h6
  rw [e2, e3]
  exact ⟨fun _ => ⟨hnil, fun y hy => by cases hy⟩, fun _ => ⟨h1, h5, h6⟩⟩
 | succ r =>
  constructor
  ·rintro ⟨_, hi, hm⟩
   refine ⟨?_, fun y hy => ⟨r, rfl, ?_⟩⟩
   ·by_cases h6 : v.f0 = 6
    ·obtain ⟨g1, g2⟩ := hm h6
     exact ⟨fun s hs => g1 s (List.mem_of_mem_take hs), by rw [List.take_of_length_le (Nat.le_refl _)]; exact g2⟩
    ·have e2 : v.f2 = [] := by
      by_cases h5 : v.f0 = 5
      ·exact h50 h5
      ·exact (hleaf h5 h6).1
     rw [e2]; exact hnil
   ·by_cases h56 : v.f0 = 5 ∨ v.f0 = 6
    ·exact hi h56 y hy
    ·rw [(hleaf (fun h => h56 (.inl h)) (fun h => h56 (.inr h))).2] at hy; cases hy
  ·rintro ⟨hn, hi⟩
   refine ⟨h1, fun _ y hy => ?_, fun _ => ⟨fun s hs => hn.1 s (by rw [List.take_of_length_le (Nat.le_refl _)]; exact hs), ?_⟩⟩
   ·obtain ⟨r', e, h⟩ := hi y hy
    obtain rfl : r' = r := by omega
    exact h
   ·have := hn.2
    rwa [List.take_of_length_le (Nat.le_refl _)] at this
set_option maxRecDepth 1000000 in
set_option maxHeartbeats 8000000 in
theorem valid_step (B L r : Nat) (hB : B ≤ 4611686018427387904) (hL : L ≤ 4611686018427387904) (hr : r ≤ 32) (IH : ∀ r', r' + 1 = r → VOK B L r') : VOK B L r := by
 intro v A2 A3 c2 c3 W hbd hC2 hC3
 have HF2 := Aside0.mk (Kd.C_F Kd.heap_string hC2)
 have HF3 := Aside0.mk (Kd.C_F heap25 hC3)
 have HIH := Aside0.mk IH
 have hb1 : v.f1.size ≤ 4611686018427387904 ∧ v.f2.length ≤ 4611686018427387904 ∧ v.f3.length ≤ 4611686018427387904 := by cases hbd with | mk f0 f1 f2 f3 h1 h2 h3 h4 h5 => exact ⟨Nat.le_trans h1 hB, Nat.le_trans h3 hL, Nat.le_trans h4 hL⟩
 have hbn : ∀ s, s ∈ v.f2 → s.size ≤ 4611686018427387904 := by cases hbd with | mk f0 f1 f2 f3 h1 h2 h3 h4 h5 => exact fun s hs => Nat.le_trans (h2 s hs) hB
 have hby : ∀ y, y ∈ v.f3 → Bd B L y := by cases hbd with | mk f0 f1 f2 f3 h1 h2 h3 h4 h5 => exact h5
 obtain ⟨hs1, hs2, hs3⟩ := hb1
 have HBN := Aside0.mk hbn
 have HBY := Aside0.mk hby
 clear hC2 hC3 IH hbn hby hbd
 by_cases hfit : fitZ (32 - (r : Int)) v.f0 v.f1 v.f2.length v.f3.length = 0
 case neg =>
  have f1 : (fitZ (32 - (r : Int)) v.f0 v.f1 v.f2.length v.f3.length != 0) = true := bne_iff_ne.mpr hfit
  have HNO := Aside0.mk (not_OKJ hr hfit)
  clear hfit
  go_enter Tryd.func24, Tryd.ntmps24
  go_wp2_with (go_at_call 37; (with_reducible refine (fit_calls v.f0 v.f1 A2 A3 v.f2.length c2 v.f3.length c3 (32 - (r : Int)) _ hs1).mono ?_); rintro e w1 ⟨rfl, hb⟩; have HB1 := Aside0.mk (show Below W.heap.size W w1 from (below_alloc (Below.refl _ _) _).trans (hb.mono (by rw [World.size_alloc]; omega))); clear hb)
  go_ret
  exact ⟨false, rfl, ⟨fun h => (by cases h), fun h => absurd h HNO.out⟩, by repeat (first | exact HB1.out | apply pw_below_drewN | apply below_drew1)⟩
 have f1 : (fitZ (32 - (r : Int)) v.f0 v.f1 v.f2.length v.f3.length != 0) = false := bne_eq_false_iff_eq.mpr hfit
 have HFZ := Aside0.mk ((fit_zero hr).1 hfit)
 clear hfit
 go_enter Tryd.func24, Tryd.ntmps24
 go_wp2_with (go_at_call 37; (with_reducible refine (fit_calls v.f0 v.f1 A2 A3 v.f2.length c2 v.f3.length c3 (32 - (r : Int)) _ hs1).mono ?_); rintro e w1 ⟨rfl, hb⟩; have HB1 := Aside0.mk (show Below W.heap.size W w1 from (below_alloc (Below.refl _ _) _).trans (hb.mono (by rw [World.size_alloc]; omega))); have HX1 := Aside0.mk (show w1.heap[W.heap.size]? = some (.cells #[.int .i64 v.f0, .string v.f1, .slice A2 v.f2.length c2, .slice A3 v.f3.length c3] 25 (0, 0)) from (hb.block _ (by rw [World.size_alloc]; omega)).trans (heap_alloc_new W _)); clear hb)
 have HPT := Aside0.mk (OKJ_parts HFZ.out.1 HFZ.out.2)
 go_loopg [5] (v.f2.length + 1) (fun g v5 wr => ∃ i : Nat, v5 = .int .i64 (i : Int) ∧ i ≤ v.f2.length ∧ v.f2.length + 1 ≤ i + g ∧ Aside0 (wr.heap[W.heap.size]? = some (.cells #[.int .i64 v.f0, .string v.f1, .slice A2 v.f2.length c2, .slice A3 v.f3.length c3] 25 (0, 0))) ∧ Aside0 (Below W.heap.size W wr) ∧ Aside0 (NmOK v.f2 i))
 case atStart => exact ⟨0, rfl, by omega, by omega, HX1, HB1, ⟨NmOK.zero _⟩⟩
 case round =>
  obtain ⟨i, rfl, hi, hg, HX, HB, HN⟩ := hrel
  clear HX1 HB1
  have z2 := (blk_cell HX.out 2).trans rfl
  by_cases hlt : i < v.f2.length
  ·cases gk with
   | zero => omega
   | succ g =>
    have p1 : (0 ≤ (i : Int)) = True := eq_true (by omega)
    have p2 : ((i : Int) < (v.f2.length : Int)) = True := eq_true (by omega)
    have hwn := wrap_next i v.f2.length hlt (by omega)
    have HWN := Aside0.mk hwn
    clear hwn
    obtain ⟨ad, e8, hnk⟩ := name_at HF2.out i hlt
    subst e8
    have ci := CellOf.at hnk HB.out
    have HNI := Aside0.mk hnk
    have hsi := HBN.out (nmAt v.f2 i) (mem_nm v.f2 i hlt)
    clear hnk
    by_cases hv : validD (nmAt v.f2 i).data.toList = true
    case neg =>
     have hv' : validD (nmAt v.f2 i).data.toList = false := Bool.eq_false_iff.2 hv
     have HNO := Aside0.mk (show ¬ OKJ r v from fun h => NmOK.bad_valid hlt hv' (HPT.out.1 h).1)
     clear hv
     go_wp2_with (go_at_call 38; (with_reducible refine (clean_calls (nmAt v.f2 i) _ hsi).mono ?_); rintro e w2 ⟨rfl, rfl⟩)
     go_ret
     exact ⟨false, rfl, ⟨fun h => (by cases h), fun h => absurd h HNO.out⟩, by repeat (first | exact HB.out | apply pw_below_drewN | apply below_drew1)⟩
    have HV := Aside0.mk hv
    go_wp2_with (go_at_call 38; (with_reducible refine (clean_calls (nmAt v.f2 i) _ hsi).mono ?_); rintro e w2 ⟨rfl, rfl⟩)
    go_loopg [6] (i + 1) (fun g6 v6 wr2 => ∃ m : Nat, v6 = .int .i64 (m : Int) ∧ m ≤ i ∧ i + 1 ≤ m + g6 ∧ Aside0 (wr2.heap[W.heap.size]? = some (.cells #[.int .i64 v.f0, .string v.f1, .slice (some ad) v.f2.length c2, .slice A3 v.f3.length c3] 25 (0, 0))) ∧ Aside0 (Below W.heap.size W wr2) ∧ Aside0 (∀ q, q < m → ¬ (nmAt v.f2 q).data.toList = (nmAt v.f2 i).data.toList))
    case atStart => exact ⟨0, rfl, by omega, by omega, HX, HB, ⟨fun q hq => by omega⟩⟩
    case round =>
     obtain ⟨m, rfl, hm, hg2, HX2, HB2, HD⟩ := hrel
     clear HX HB z2 ci
     by_cases hmi : m < i
     ·cases gk with
      | zero => omega
      | succ g2 =>
       have q1 : (0 ≤ (m : Int)) = True := eq_true (by omega)
       have q2 : ((m : Int) < (i : Int)) = True := eq_true (by omega)
       have q3 : ((m : Int) < (v.f2.length : Int)) = True := eq_true (by omega)
       have hwm := wrap_next m i hmi (by omega)
       have HWM := Aside0.mk hwm
       clear hwm
       obtain ⟨ad', e9, hnm⟩ := name_at HF2.out m (by omega)
       obtain rfl := Option.some.inj e9
       clear e9
       have z2 := (blk_cell HX2.out 2).trans rfl
       have cm := CellOf.at hnm HB2.out
       have ci := CellOf.at HNI.out HB2.out
       clear hnm
       by_cases he : (nmAt v.f2 m).data.toList = (nmAt v.f2 i).data.toList
       ·have h1 : ((nmAt v.f2 m).toList == (nmAt v.f2 i).toList) = true := by rw [toList_data, toList_data]; exact beq_iff_eq.mpr he
        have HNO := Aside0.mk (show ¬ OKJ r v from fun h => NmOK.bad_twice hlt hmi he (HPT.out.1 h).1)
        clear he
        go_wp2
        go_quiet (fail)
        go_wp2
        go_ret
        exact ⟨false, rfl, ⟨fun h => (by cases h), fun h => absurd h HNO.out⟩, by repeat (first | exact HB2.out | apply pw_below_drewN | apply below_drew1)⟩
       ·have h1 : ((nmAt v.f2 m).toList == (nmAt v.f2 i).toList) = false := by rw [toList_data, toList_data]; exact beq_eq_false_iff_ne.mpr he
        have HD2 := Aside0.mk (show ∀ q, q < m + 1 → ¬ (nmAt v.f2 q).data.toList = (nmAt v.f2 i).data.toList from fun q hq => by
         by_cases h : q < m
         ·exact HD.out q h
         ·obtain rfl : q = m := by omega
          exact he)
        clear he
        go_wp2
        go_quiet (fail)
        go_wp2
        go_roundg g2
        case measure => omega
        case rel => exact ⟨m + 1, (by first | exact congrArg (Value.int .i64) HWM.out | exact congrArg (Value.int .i64) (show (m : Int) + 1 = ((m + 1 : Nat) : Int) by omega)), by omega, by omega, ⟨by repeat (first | exact HX2.out | refine blk_drewN ?_ _ | refine blk_drew ?_)⟩, ⟨by repeat (first | exact HB2.out | apply pw_below_drewN | apply below_drew1)⟩, HD2⟩
     ·have q2 : ((m : Int) < (i : Int)) = False := eq_false (by omega)
      obtain rfl : m = i := by omega
      have HN2 := Aside0.mk (HN.out.next hlt HV.out HD.out)
      go_wp2
      go_roundg g
      case measure => omega
      case rel => exact ⟨m + 1, (by first | exact congrArg (Value.int .i64) HWN.out | exact congrArg (Value.int .i64) (show (m : Int) + 1 = ((m + 1 : Nat) : Int) by omega)), by omega, by omega, HX2, HB2, HN2⟩
  ·have p2 : ((i : Int) < (v.f2.length : Int)) = False := eq_false (by omega)
   obtain rfl : i = v.f2.length := by omega
   go_wp2
   go_loopg [7] (v.f3.length + 1) (fun g v7 wr => ∃ i : Nat, v7 = .int .i64 (i : Int) ∧ i ≤ v.f3.length ∧ v.f3.length + 1 ≤ i + g ∧ Aside0 (wr.heap[W.heap.size]? = some (.cells #[.int .i64 v.f0, .string v.f1, .slice A2 v.f2.length c2, .slice A3 v.f3.length c3] 25 (0, 0))) ∧ Aside0 (Below W.heap.size W wr) ∧ Aside0 (∀ y, y ∈ v.f3.take i → ∃ r', r' + 1 = r ∧ OKJ r' y))
   case atStart => exact ⟨0, rfl, by omega, by omega, HX, HB, ⟨fun y hy => by rw [List.take_zero] at hy; cases hy⟩⟩
   case round =>
    obtain ⟨i, rfl, hi3, hg3, HX3, HB3, HI3⟩ := hrel
    clear HX HB z2
    have z3 := (blk_cell HX3.out 3).trans rfl
    by_cases hlt3 : i < v.f3.length
    ·cases gk with
     | zero => omega
     | succ g =>
      obtain ⟨r', hr'⟩ : ∃ r', r' + 1 = r := by
       cases hr0 : r with
       | zero =>
        exfalso
        obtain ⟨h5, h6⟩ := HFZ.out.2 hr0
        have := (leaf_wt (r := 0) HFZ.out.1 h5 h6).2.2.2
        rw [this] at hlt3
        simp at hlt3
       | succ r' => exact ⟨r', rfl⟩
      have p1 : (0 ≤ (i : Int)) = True := eq_true (by omega)
      have p2' : ((i : Int) < (v.f3.length : Int)) = True := eq_true (by omega)
      have hwn := wrap_next i v.f3.length hlt3 (by omega)
      have HWN := Aside0.mk hwn
      have hdq : 32 - (r' : Int) = 32 - (r : Int) + 1 := by omega
      have hdw : wrap64 (32 - (r : Int) + 1) = 32 - (r : Int) + 1 := by unfold wrap64; omega
      have HR := Aside0.mk hr'
      clear hwn hr'
      obtain ⟨ad3, B2, k2, B3, k3, e9, q0, q1, q2, q3, m2, g2, m3, g3⟩ := F_elem HF3.out i hlt3
      subst e9
      have y0 := CellOf.at (show CellOf W _ _ from q0) HB3.out
      have y1 := CellOf.at (show CellOf W _ _ from q1) HB3.out
      have y2 := CellOf.at (show CellOf W _ _ from q2) HB3.out
      have y3 := CellOf.at (show CellOf W _ _ from q3) HB3.out
      have HG2 := Aside0.mk (Kd.F_now (Kd.F_old g2 HB3.out))
      have HG3 := Aside0.mk (Kd.F_now (Kd.F_old g3 HB3.out))
      have HY := Aside0.mk (HBY.out _ (rd_mem v.f3 i hlt3))
      have HT := Aside0.mk (show v.f3.take (i + 1) = v.f3.take i ++ [rd_T25 v.f3 (i : Int)] by rw [rd_nat v.f3 i hlt3, List.take_succ_eq_append_getElem hlt3])
      have HM := Aside0.mk (rd_mem v.f3 i hlt3)
      clear q0 q1 q2 q3 m2 g2 m3 g3
      generalize rd_T25 v.f3 (i : Int) = y at *
      have hcall := HIH.out r' HR.out y B2 B3 k2 k3 wr HY.out HG2.out HG3.out
      rw [hdq] at hcall
      have HCALL := Aside0.mk hcall
      clear hcall hdq
      go_wp2_with (go_at_call 24; (with_reducible refine HCALL.out.mono ?_); rintro e w2 ⟨b, rfl, hb, hbel⟩; have HBB := Aside0.mk hb; have HB4 := Aside0.mk (below_step HB3.out hbel); have HX4 := Aside0.mk ((hbel.block _ (lt_of_block HX3.out)).trans HX3.out); clear hb hbel)
      ·rename_i hb0
       have HNO := Aside0.mk (show ¬ OKJ r v from fun h => by
        obtain ⟨r2, e2, h2⟩ := (HPT.out.1 h).2 y HM.out
        obtain rfl : r2 = r' := by have := HR.out; omega
        rw [HBB.out.2 h2] at hb0
        cases hb0)
       go_ret
       exact ⟨false, rfl, ⟨fun h => (by cases h), fun h => absurd h HNO.out⟩, by repeat (first | exact HB4.out | apply pw_below_drewN | apply below_drew1)⟩
      ·rename_i hb0
       have hbt : b = true := by cases b; cases hb0; rfl
       have HI4 := Aside0.mk (show ∀ z, z ∈ v.f3.take (i + 1) → ∃ r', r' + 1 = r ∧ OKJ r' z from fun z hz => by
        rw [HT.out] at hz
        rcases List.mem_append.1 hz with hz | hz
        ·exact HI3.out z hz
        ·rw [List.mem_singleton] at hz
         rw [hz]
         exact ⟨r', HR.out, HBB.out.1 hbt⟩)
       go_roundg g
       case measure => omega
       case rel => exact ⟨i + 1, (by first | exact congrArg (Value.int .i64) HWN.out | exact congrArg (Value.int .i64) (show (i : Int) + 1 = ((i + 1 : Nat) : Int) by omega)), by omega, by omega, ⟨by repeat (first | exact HX4.out | refine blk_drewN ?_ _ | refine blk_drew ?_)⟩, ⟨by repeat (first | exact HB4.out | apply pw_below_drewN | apply below_drew1)⟩, HI4⟩
    ·have p2' : ((i : Int) < (v.f3.length : Int)) = False := eq_false (by omega)
     have HYES := Aside0.mk (show OKJ r v from HPT.out.2 ⟨HN.out, fun y hy => HI3.out y (by rw [List.take_of_length_le (by omega)]; exact hy)⟩)
     go_wp2
     go_ret
     exact ⟨true, rfl, ⟨fun _ => HYES.out, fun _ => rfl⟩, by repeat (first | exact HB3.out | apply pw_below_drewN | apply below_drew1)⟩
theorem valid_ok (B L : Nat) (hB : B ≤ 4611686018427387904) (hL : L ≤ 4611686018427387904) : ∀ r, r ≤ 32 → VOK B L r
 | 0, _ => valid_step B L 0 hB hL (by decide) (fun r' h => by omega)
 | r + 1, h => valid_step B L (r + 1) hB hL h (fun r' e => by have e2 : r' = r := (by omega); rw [e2]; exact valid_ok B L hB hL r (by omega))
end Go.Proofs.YtaalajhmfdcalaaDoor.X
namespace Go.Proofs.YtaalajhmfdcalaaDoor.X
open Go.RowKit Go.Lib Go.Proofs.YtaalajhmfdcalaaDoorW.PrintWords
theorem sJ_f0 (r : Nat) (v : J) : (sJ r v).f0 = v.f0 := by
 cases r with
 | zero => rfl
 | succ r =>
  by_cases h5 : v.f0 = 5
  ·rw [sJ_5 h5]
  ·by_cases h6 : v.f0 = 6 ∧ v.f2.length = v.f3.length
   ·rw [sJ_6 h6.1 h6.2]
   ·rw [sJ_x h5 h6]
theorem sJ_f1 (r : Nat) (v : J) : (sJ r v).f1 = v.f1 := by
 cases r with
 | zero => rfl
 | succ r =>
  by_cases h5 : v.f0 = 5
  ·rw [sJ_5 h5]
  ·by_cases h6 : v.f0 = 6 ∧ v.f2.length = v.f3.length
   ·rw [sJ_6 h6.1 h6.2]
   ·rw [sJ_x h5 h6]
theorem sJ_len (r : Nat) (v : J) : (sJ r v).f3.length = v.f3.length := by
 cases r with
 | zero => rfl
 | succ r =>
  by_cases h5 : v.f0 = 5
  ·rw [sJ_5 h5]; exact List.length_map _
  ·by_cases h6 : v.f0 = 6 ∧ v.f2.length = v.f3.length
   ·rw [sJ_6 h6.1 h6.2]
    show ((itemsOf true v.f2 v.f3).map (sJ r)).length = _
    rw [List.length_map, items_len h6.2]
   ·rw [sJ_x h5 h6]
def prs (r : Nat) (v : J) : List (ByteArray × J) := (v.f2.zip v.f3).map (pm (sJ r))
theorem prs_sort {r : Nat} {v : J} (h6 : v.f0 = 6) (hl : v.f2.length = v.f3.length) : sJ (r + 1) v = ⟨v.f0, v.f1, (sortF (prs r v)).map Prod.fst, (sortF (prs r v)).map Prod.snd⟩ := by
 rw [sJ_6 h6 hl, prs, sortF_map, map_pm_fst, map_pm_snd]
 rfl
theorem prs_nodup {r : Nat} {v : J} (hl : v.f2.length = v.f3.length) (hn : (v.f2.map (fun b => b.data.toList)).Nodup) : ((prs r v).map Prod.fst).Nodup := by
 unfold prs
 rw [map_pm_fst]
 exact zip_fst_nodup hl hn
theorem zip_ext {l l' : List (ByteArray × J)} (h1 : l.map Prod.fst = l'.map Prod.fst) (h2 : l.map Prod.snd = l'.map Prod.snd) : l = l' := by
 induction l generalizing l' with
 | nil => cases l' with
  | nil => rfl
  | cons x l' => simp at h1
 | cons x l ih =>
  cases l' with
  | nil => simp at h1
  | cons y l' =>
   simp only [List.map_cons, List.cons.injEq] at h1 h2
   rw [ih h1.2 h2.2, Prod.ext h1.1 h2.1]
theorem obj_eq {r : Nat} {a b : J} (ha : a.f0 = 6) (hb : b.f0 = 6) (hla : a.f2.length = a.f3.length) (hlb : b.f2.length = b.f3.length) (hna : (a.f2.map (fun b => b.data.toList)).Nodup) (hnb : (b.f2.map (fun b => b.data.toList)).Nodup) (ht : a.f1 = b.f1) :
  sJ (r + 1) a = sJ (r + 1) b ↔ (prs r a).Perm (prs r b) := by
 rw [prs_sort ha hla, prs_sort hb hlb]
 constructor
 ·intro h
  have e2 : (sortF (prs r a)).map Prod.fst = (sortF (prs r b)).map Prod.fst := congrArg (fun j : J => j.f2) h
  have e3 : (sortF (prs r a)).map Prod.snd = (sortF (prs r b)).map Prod.snd := congrArg (fun j : J => j.f3) h
  have e := zip_ext e2 e3
  exact (sortF_perm _).symm.trans (e ▸ sortF_perm _)
 ·intro h
  rw [sortF_of_perm h (prs_nodup hlb hnb), ha, hb, ht]
theorem perm_of_sub {α : Type} : ∀ (l l' : List α), l.Nodup → (∀ x, x ∈ l → x ∈ l') → l'.length ≤ l.length → l.Perm l'
 | [], l', _, _, hl => by
  have : l' = [] := List.length_eq_zero_iff.1 (by simpa using hl)
  rw [this]
 | x :: l, l', hn, hs, hl => by
  obtain ⟨s, t, rfl⟩ := List.append_of_mem (hs x (List.mem_cons_self ..))
  rw [List.nodup_cons] at hn
  have ih := perm_of_sub l (s ++ t) hn.2 (fun y hy => by
   have := hs y (List.mem_cons_of_mem _ hy)
   rcases List.mem_append.1 this with h | h
   ·exact List.mem_append_left _ h
   ·rcases List.mem_cons.1 h with rfl | h
    ·exact absurd hy hn.1
    ·exact List.mem_append_right _ h) (by simp at hl ⊢; omega)
  exact (ih.cons x).trans List.perm_middle.symm
end Go.Proofs.YtaalajhmfdcalaaDoor.X
namespace Go.Proofs.YtaalajhmfdcalaaDoor.X
open Go.RowKit Go.Lib Go.Proofs.YtaalajhmfdcalaaDoorW.PrintWords Go.Proofs.YtaalajhmfdcalaaDoorW.PrintLast Go.Proofs.YtaalajhmfdcalaaDoorW.PrintMore
def SGood (B L r : Nat) (v : J) : Prop := OKJ r v ∧ Bd B L v
def SEnd (P : Prop) (W : World) (e : Ending) (W' : World) : Prop := ∃ t : Bool, e = .returned (.bool t) ∧ (t = true ↔ P) ∧ Below W.heap.size W W'
def SOKr (B L r : Nat) : Prop := ∀ (a b : J) (A2 A3 B2 B3 : Option Addr) (c2 c3 e2 e3 : Nat) (W : World), SGood B L r a → SGood B L r b → Kd.string.C W A2 a.f2.length a.f2 → k25.C W A3 a.f3.length a.f3 → Kd.string.C W B2 b.f2.length b.f2 → k25.C W B3 b.f3.length b.f3 →
 Calls Tryd.prog 36 #[jVal a.f0 a.f1 A2 A3 a.f2.length c2 a.f3.length c3, jVal b.f0 b.f1 B2 B3 b.f2.length e2 b.f3.length e3] W (SEnd (sJ r a = sJ r b) W)
theorem says_boxes (W : World) (o1 o2 : Obj) : Below W.heap.size W ((W.alloc o1).alloc o2) ∧ ((W.alloc o1).alloc o2).heap[W.heap.size]? = some o1 ∧ ((W.alloc o1).alloc o2).heap[W.heap.size + 1]? = some o2 := by
 have e1 : (W.alloc o1).heap.size = W.heap.size + 1 := by simp
 have h2 := heap_alloc_new (W.alloc o1) o2
 rw [e1] at h2
 exact ⟨below_alloc (below_alloc (Below.refl _ _) _) _, Below.alloc_at (heap_alloc_new W o1), h2⟩
set_option maxRecDepth 1000000 in
set_option maxHeartbeats 8000000 in
theorem says_other (B L r : Nat) (hL : L ≤ 4611686018427387904) (f0 : Int) (f1 : ByteArray) (n2 m2 : Nat) (ys zs : List J) (A2 A3 B2 B3 : Option Addr) (c2 c3 e2 e3 : Nat) (W : World) (hl : ys.length = zs.length) (h6 : ¬ f0 = 6) (hsa : ys.length ≤ L)
  (hoa : ∀ r', r' + 1 = r → ∀ y, y ∈ ys → SGood B L r' y) (hob : ∀ r', r' + 1 = r → ∀ y, y ∈ zs → SGood B L r' y) (hr : 0 < ys.length → ∃ r', r' + 1 = r) (IH : ∀ r', r' + 1 = r → SOKr B L r') (hC3 : k25.C W A3 ys.length ys) (hD3 : k25.C W B3 zs.length zs) :
  Calls Tryd.prog 36 #[jVal f0 f1 A2 A3 n2 c2 ys.length c3, jVal f0 f1 B2 B3 m2 e2 zs.length e3] W (SEnd (∀ i : Nat, i < ys.length → ∃ r', r' + 1 = r ∧ sJ r' (rd_T25 ys i) = sJ r' (rd_T25 zs i)) W) := by
 obtain ⟨F0, F1, F2⟩ := says_boxes W (.cells #[.int .i64 f0, .string f1, .slice A2 n2 c2, .slice A3 ys.length c3] 25) (.cells #[.int .i64 f0, .string f1, .slice B2 m2 e2, .slice B3 zs.length e3] 25)
 have HFA := Aside0.mk (Kd.C_F heap25 hC3)
 have HFB := Aside0.mk (Kd.C_F heap25 hD3)
 have HOA := Aside0.mk hoa
 have HOB := Aside0.mk hob
 have HIH := Aside0.mk IH
 have HRR := Aside0.mk hr
 have HLL := Aside0.mk hl
 have HS0 := Aside0.mk F0
 have HS1 := Aside0.mk F1
 have HS2 := Aside0.mk F2
 have k3 : ((ys.length : Int) != (zs.length : Int)) = false := bne_eq_false_iff_eq.mpr (by rw [hl])
 have k4 : (ys.length != zs.length) = false := bne_eq_false_iff_eq.mpr hl
 have k6 : (f0 == 6) = false := beq_eq_false_iff_ne.mpr h6
 clear hC3 hD3 hoa hob IH hr hl F0 F1 F2 h6
 go_enter Tryd.func36, Tryd.ntmps36
 go_wp2
 go_loopg [5] (ys.length + 1) (fun g v5 wr => ∃ i : Nat, v5 = .int .i64 (i : Int) ∧ i ≤ ys.length ∧ ys.length + 1 ≤ i + g ∧ Aside0 (wr.heap[W.heap.size]? = some (.cells #[.int .i64 f0, .string f1, .slice A2 n2 c2, .slice A3 ys.length c3] 25 (0, 0))) ∧ Aside0 (wr.heap[W.heap.size + 1]? = some (.cells #[.int .i64 f0, .string f1, .slice B2 m2 e2, .slice B3 zs.length e3] 25 (0, 0))) ∧ Aside0 (Below W.heap.size W wr) ∧ Aside0 (∀ q : Nat, q < i → ∃ r', r' + 1 = r ∧ sJ r' (rd_T25 ys q) = sJ r' (rd_T25 zs q)))
 case atStart => exact ⟨0, rfl, by omega, by omega, HS1, HS2, HS0, ⟨fun q hq => by omega⟩⟩
 case round =>
  obtain ⟨i, rfl, hi, hg, HXA, HXB, HB, HQ⟩ := hrel
  clear HS0 HS1 HS2
  have x0 := (blk_cell HXA.out 0).trans rfl
  have x3 := (blk_cell HXA.out 3).trans rfl
  by_cases hlt : i < ys.length
  ·cases gk with
   | zero => omega
   | succ g =>
    have hkb : i < zs.length := by have := HLL.out; omega
    obtain ⟨r', hr'⟩ := HRR.out (by omega)
    have HR := Aside0.mk hr'
    clear hr'
    have p1 : (0 ≤ (i : Int)) = True := eq_true (by omega)
    have p2' : ((i : Int) < (ys.length : Int)) = True := eq_true (by omega)
    have p3 : ((i : Int) < (zs.length : Int)) = True := eq_true (by omega)
    have hwn := wrap_next i ys.length hlt (by omega)
    have HWN := Aside0.mk hwn
    clear hwn
    obtain ⟨ada, P2, p2, P3, p3, e9, u0, u1, u2, u3, _, ga2, _, ga3⟩ := F_elem HFA.out i hlt
    subst e9
    obtain ⟨adb, Q2, q2, Q3, q3, e9, v0, v1, v2, v3, _, gb2, _, gb3⟩ := F_elem HFB.out i hkb
    subst e9
    have HA0 := Aside0.mk (show CellOf W _ _ from u0)
    have HA1 := Aside0.mk (show CellOf W _ _ from u1)
    have HA2 := Aside0.mk (show CellOf W _ _ from u2)
    have HA3 := Aside0.mk (show CellOf W _ _ from u3)
    have HC0 := Aside0.mk (show CellOf W _ _ from v0)
    have HC1 := Aside0.mk (show CellOf W _ _ from v1)
    have HC2 := Aside0.mk (show CellOf W _ _ from v2)
    have HC3 := Aside0.mk (show CellOf W _ _ from v3)
    have HGA2 := Aside0.mk ga2
    have HGA3 := Aside0.mk ga3
    have HGB2 := Aside0.mk gb2
    have HGB3 := Aside0.mk gb3
    have HYA := Aside0.mk (HOA.out r' HR.out _ (rd_mem ys i hlt))
    have HYB := Aside0.mk (HOB.out r' HR.out _ (rd_mem zs i hkb))
    clear u0 u1 u2 u3 v0 v1 v2 v3 ga2 ga3 gb2 gb3
    go_wp2
    refine start_ (n := 12) (S := fun w' => w'.cell? ⟨W.heap.size, 3, none⟩ = some (.slice (some ada) ys.length c3) ∧ w'.cell? ⟨W.heap.size + 1, 3, none⟩ = some (.slice (some adb) zs.length e3) ∧ w'.cell? (ada.add (i * 4)) = some (.int .i64 (rd_T25 ys i).f0) ∧ w'.cell? ⟨(ada.add (i * 4)).block, (ada.add (i * 4)).off + 1, none⟩ = some (.string (rd_T25 ys i).f1) ∧ w'.cell? ⟨(ada.add (i * 4)).block, (ada.add (i * 4)).off + 2, none⟩ = some (.slice P2 (rd_T25 ys i).f2.length p2) ∧ w'.cell? ⟨(ada.add (i * 4)).block, (ada.add (i * 4)).off + 3, none⟩ = some (.slice P3 (rd_T25 ys i).f3.length p3) ∧ w'.cell? (adb.add (i * 4)) = some (.int .i64 (rd_T25 zs i).f0) ∧ w'.cell? ⟨(adb.add (i * 4)).block, (adb.add (i * 4)).off + 1, none⟩ = some (.string (rd_T25 zs i).f1) ∧ w'.cell? ⟨(adb.add (i * 4)).block, (adb.add (i * 4)).off + 2, none⟩ = some (.slice Q2 (rd_T25 zs i).f2.length q2) ∧ w'.cell? ⟨(adb.add (i * 4)).block, (adb.add (i * 4)).off + 3, none⟩ = some (.slice Q3 (rd_T25 zs i).f3.length q3)) (ds := []) #[false, false, false, false, false, false, false, false, false, false, false, false] (by kernel_rfl) rfl rfl ⟨(blk_cell HXA.out 3).trans rfl, (blk_cell HXB.out 3).trans rfl, HA0.out.at (pw_below_drewN HB.out 1), HA1.out.at (pw_below_drewN HB.out 1), HA2.out.at (pw_below_drewN HB.out 1), HA3.out.at (pw_below_drewN HB.out 1), HC0.out.at (pw_below_drewN HB.out 1), HC1.out.at (pw_below_drewN HB.out 1), HC2.out.at (pw_below_drewN HB.out 1), HC3.out.at (pw_below_drewN HB.out 1)⟩ (fun hHeld => ?_)
    have HB2 := Aside0.mk (show Below W.heap.size W wr.drew from pw_below_drewN HB.out 1)
    have HXA2 := Aside0.mk (show wr.drew.heap[W.heap.size]? = some _ from HXA.out)
    have HXB2 := Aside0.mk (show wr.drew.heap[W.heap.size + 1]? = some _ from HXB.out)
    generalize wr.drew = w8 at HB2 HXA2 HXB2 hHeld ⊢
    refine pure_ (i := 0) (N := some 64) (v := ?_) (a' := ?_) #[true, false, false, false, false, false, false, false, false, false, false, false] rfl rfl (by kernel_rfl) (fun _ _ _ h => h) (Or.inl ⟨by rfl, ?_⟩) ?_ ?_
    rotate_left
    ·intro w'
     go_simp
     with_reducible rfl
    rotate_left
    ·simp only [Act.put, List.setIfInBounds_toArray, List.set_cons_zero, List.set_cons_succ, i64_w, i32_w]
     rfl
    refine pure_ (i := 2) (N := some 66) (v := ?_) (a' := ?_) #[true, false, true, false, false, false, false, false, false, false, false, false] rfl rfl (by kernel_rfl) (fun _ _ _ h => h) (Or.inl ⟨by rfl, ?_⟩) ?_ ?_
    rotate_left
    ·intro w'
     go_simp
     with_reducible rfl
    rotate_left
    ·simp only [Act.put, List.setIfInBounds_toArray, List.set_cons_zero, List.set_cons_succ, i64_w, i32_w]
     rfl
    refine pure_ (i := 5) (N := some 69) (v := ?_) (a' := ?_) #[true, false, true, false, false, true, false, false, false, false, false, false] rfl rfl (by kernel_rfl) (fun _ _ _ h => h) (Or.inl ⟨by rfl, ?_⟩) ?_ ?_
    rotate_left
    ·intro w'
     go_simp
     with_reducible rfl
    rotate_left
    ·simp only [Act.put, List.setIfInBounds_toArray, List.set_cons_zero, List.set_cons_succ, i64_w, i32_w]
     rfl
    refine pure_ (i := 7) (N := some 71) (v := ?_) (a' := ?_) #[true, false, true, false, false, true, false, true, false, false, false, false] rfl rfl (by kernel_rfl) (fun _ _ _ h => h) (Or.inl ⟨by rfl, ?_⟩) ?_ ?_
    rotate_left
    ·intro w'
     go_simp
     with_reducible rfl
    rotate_left
    ·simp only [Act.put, List.setIfInBounds_toArray, List.set_cons_zero, List.set_cons_succ, i64_w, i32_w]
     rfl
    refine take_ (i := 1) (N := some 65) (v := ?_) (a' := ?_) #[true, true, true, false, false, true, false, true, false, false, false, false] rfl rfl (by kernel_rfl) (fun _ _ _ h => h) (Or.inl ⟨by rfl, ?_⟩) hHeld ?_ ?_
    rotate_left
    ·rintro w' ⟨s0, s1, s2, s3, s4, s5, s6, s7, s8, s9⟩
     go_simp
     with_reducible rfl
    rotate_left
    ·simp only [Act.put, List.setIfInBounds_toArray, List.set_cons_zero, List.set_cons_succ, i64_w, i32_w]
     rfl
    refine take_ (i := 6) (N := some 70) (v := ?_) (a' := ?_) #[true, true, true, false, false, true, true, true, false, false, false, false] rfl rfl (by kernel_rfl) (fun _ _ _ h => h) (Or.inl ⟨by rfl, ?_⟩) hHeld ?_ ?_
    rotate_left
    ·rintro w' ⟨s0, s1, s2, s3, s4, s5, s6, s7, s8, s9⟩
     go_simp
     with_reducible rfl
    rotate_left
    ·simp only [Act.put, List.setIfInBounds_toArray, List.set_cons_zero, List.set_cons_succ, i64_w, i32_w]
     rfl
    refine pure_ (i := 3) (N := some 67) (v := ?_) (a' := ?_) #[true, true, true, true, false, true, true, true, false, false, false, false] rfl rfl (by kernel_rfl) (fun _ _ _ h => h) (Or.inl ⟨by rfl, ?_⟩) ?_ ?_
    rotate_left
    ·intro w'
     go_simp
     with_reducible rfl
    rotate_left
    ·simp only [Act.put, List.setIfInBounds_toArray, List.set_cons_zero, List.set_cons_succ, i64_w, i32_w]
     rfl
    refine pure_ (i := 8) (N := some 72) (v := ?_) (a' := ?_) #[true, true, true, true, false, true, true, true, true, false, false, false] rfl rfl (by kernel_rfl) (fun _ _ _ h => h) (Or.inl ⟨by rfl, ?_⟩) ?_ ?_
    rotate_left
    ·intro w'
     go_simp
     with_reducible rfl
    rotate_left
    ·simp only [Act.put, List.setIfInBounds_toArray, List.set_cons_zero, List.set_cons_succ, i64_w, i32_w]
     rfl
    refine take_ (i := 4) (N := some 68) (v := ?_) (a' := ?_) #[true, true, true, true, true, true, true, true, true, false, false, false] rfl rfl (by kernel_rfl) (fun _ _ _ h => h) (Or.inl ⟨by rfl, ?_⟩) hHeld ?_ ?_
    rotate_left
    ·rintro w' ⟨s0, s1, s2, s3, s4, s5, s6, s7, s8, s9⟩
     go_simp
     with_reducible rfl
    rotate_left
    ·simp only [Act.put, List.setIfInBounds_toArray, List.set_cons_zero, List.set_cons_succ, i64_w, i32_w]
     rfl
    refine take_ (i := 9) (N := some 73) (v := ?_) (a' := ?_) #[true, true, true, true, true, true, true, true, true, true, false, false] rfl rfl (by kernel_rfl) (fun _ _ _ h => h) (Or.inl ⟨by rfl, ?_⟩) hHeld ?_ ?_
    rotate_left
    ·rintro w' ⟨s0, s1, s2, s3, s4, s5, s6, s7, s8, s9⟩
     go_simp
     with_reducible rfl
    rotate_left
    ·simp only [Act.put, List.setIfInBounds_toArray, List.set_cons_zero, List.set_cons_succ, i64_w, i32_w]
     rfl
    refine one_ (i := 10) (N := some 74) #[true, true, true, true, true, true, true, true, true, true, true, false] rfl rfl (by kernel_rfl) (by decide) (fun K hK => ?_)
    refine goes_ Tryd.func36 (by kernel_rfl) rfl #[jVal (rd_T25 ys i).f0 (rd_T25 ys i).f1 P2 P3 (rd_T25 ys i).f2.length p2 (rd_T25 ys i).f3.length p3, jVal (rd_T25 zs i).f0 (rd_T25 zs i).f1 Q2 Q3 (rd_T25 zs i).f2.length q2 (rd_T25 zs i).f3.length q3] (by rfl) rfl rfl (by (try simp only [List.map_toArray, List.map_cons, List.map_nil]); first | done | rfl) ?_
    refine (HIH.out r' HR.out (rd_T25 ys i) (rd_T25 zs i) P2 P3 Q2 Q3 p2 p3 q2 q3 w8 HYA.out HYB.out (Kd.F_now (Kd.F_old HGA2.out HB2.out)) (Kd.F_now (Kd.F_old HGA3.out HB2.out)) (Kd.F_now (Kd.F_old HGB2.out HB2.out)) (Kd.F_now (Kd.F_old HGB3.out HB2.out))).mono ?_
    rintro e w9 ⟨t, rfl, ht, hb⟩
    refine ⟨_, rfl, ?_⟩
    have HTT := Aside0.mk ht
    have HB9 := Aside0.mk (below_step HB2.out hb)
    have HXA9 := Aside0.mk ((hb.block _ (lt_of_block HXA2.out)).trans HXA2.out)
    have HXB9 := Aside0.mk ((hb.block _ (lt_of_block HXB2.out)).trans HXB2.out)
    clear ht hb
    refine hK.out _ _ ⟨(blk_cell HXA9.out 3).trans rfl, (blk_cell HXB9.out 3).trans rfl, HA0.out.at HB9.out, HA1.out.at HB9.out, HA2.out.at HB9.out, HA3.out.at HB9.out, HC0.out.at HB9.out, HC1.out.at HB9.out, HC2.out.at HB9.out, HC3.out.at HB9.out⟩ (fun hHeld => ?_)
    clear hK K
    refine norm_ (a' := ?_) ?_ ?_
    rotate_left
    ·show Act.put _ (some 74) _ = _
     simp only [Act.put, List.setIfInBounds_toArray, List.set_cons_zero, List.set_cons_succ, i64_w, i32_w]
     rfl
    refine pure_ (i := 11) (N := some 75) (v := ?_) (a' := ?_) #[true, true, true, true, true, true, true, true, true, true, true, true] rfl rfl (by kernel_rfl) (fun _ _ _ h => h) (Or.inl ⟨by rfl, ?_⟩) ?_ ?_
    rotate_left
    ·intro w'
     go_simp
     with_reducible rfl
    rotate_left
    ·simp only [Act.put, List.setIfInBounds_toArray, List.set_cons_zero, List.set_cons_succ, i64_w, i32_w]
     rfl
    refine done_ (by kernel_rfl) ?_
    try go_wp2
    ·rename_i hb0
     have htf : t = false := by cases t; rfl; cases hb0
     have HNO := Aside0.mk (show ¬ (∀ i : Nat, i < ys.length → ∃ r', r' + 1 = r ∧ sJ r' (rd_T25 ys i) = sJ r' (rd_T25 zs i)) from fun h => by
      obtain ⟨r2, e2', h2⟩ := h i hlt
      obtain rfl : r2 = r' := by have := HR.out; omega
      have := HTT.out.2 h2
      rw [htf] at this
      cases this)
     go_ret
     exact ⟨false, rfl, ⟨fun h => (by cases h), fun h => absurd h HNO.out⟩, by repeat (first | exact HB9.out | apply pw_below_drewN | apply below_drew1)⟩
    ·rename_i hb0
     have htt : t = true := by cases t; cases hb0; rfl
     have HQ2 := Aside0.mk (show ∀ q : Nat, q < i + 1 → ∃ r', r' + 1 = r ∧ sJ r' (rd_T25 ys q) = sJ r' (rd_T25 zs q) from fun q hq => by
      by_cases h : q < i
      ·exact HQ.out q h
      ·obtain rfl : q = i := by omega
       exact ⟨r', HR.out, HTT.out.1 htt⟩)
     go_roundg g
     case measure => omega
     case rel => exact ⟨i + 1, (by first | exact congrArg (Value.int .i64) HWN.out | exact congrArg (Value.int .i64) (show (i : Int) + 1 = ((i + 1 : Nat) : Int) by omega)), by omega, by omega, ⟨by repeat (first | exact HXA9.out | refine blk_drewN ?_ _ | refine blk_drew ?_)⟩, ⟨by repeat (first | exact HXB9.out | refine blk_drewN ?_ _ | refine blk_drew ?_)⟩, ⟨by repeat (first | exact HB9.out | apply pw_below_drewN | apply below_drew1)⟩, HQ2⟩
  ·have p2' : ((i : Int) < (ys.length : Int)) = False := eq_false (by omega)
   go_wp2
   go_ret
   exact ⟨true, rfl, ⟨fun _ q hq => HQ.out q (by omega), fun _ => rfl⟩, by repeat (first | exact HB.out | apply pw_below_drewN | apply below_drew1)⟩
end Go.Proofs.YtaalajhmfdcalaaDoor.X
namespace Go.Proofs.YtaalajhmfdcalaaDoor.X
open Go.RowKit Go.Lib Go.Proofs.YtaalajhmfdcalaaDoorW.PrintWords Go.Proofs.YtaalajhmfdcalaaDoorW.PrintLast Go.Proofs.YtaalajhmfdcalaaDoorW.PrintMore
theorem name_one {ms : List ByteArray} (hn : (ms.map (fun b => b.data.toList)).Nodup) {i j : Nat} (hi : i < ms.length) (hj : j < ms.length) (h : (nmAt ms i).data.toList = (nmAt ms j).data.toList) : i = j := by
 rw [nmAt_eq ms i hi, nmAt_eq ms j hj] at h
 have hp := List.pairwise_iff_getElem.1 hn
 rcases Nat.lt_trichotomy i j with hl | hl | hl
 ·have := hp i j (by rw [List.length_map]; exact hi) (by rw [List.length_map]; exact hj) hl
  rw [List.getElem_map, List.getElem_map] at this
  exact absurd h this
 ·exact hl
 ·have := hp j i (by rw [List.length_map]; exact hj) (by rw [List.length_map]; exact hi) hl
  rw [List.getElem_map, List.getElem_map] at this
  exact absurd h.symm this
set_option maxRecDepth 1000000 in
set_option maxHeartbeats 8000000 in
theorem says_obj (B L r : Nat) (hL : L ≤ 4611686018427387904) (f1 : ByteArray) (ns ms : List ByteArray) (ys zs : List J) (A2 A3 B2 B3 : Option Addr) (c2 c3 e2 e3 : Nat) (W : World) (hl : ys.length = zs.length) (hny : ns.length = ys.length) (hmz : ms.length = zs.length) (hmn : (ms.map (fun b => b.data.toList)).Nodup) (hsa : ys.length ≤ L)
  (hoa : ∀ r', r' + 1 = r → ∀ y, y ∈ ys → SGood B L r' y) (hob : ∀ r', r' + 1 = r → ∀ y, y ∈ zs → SGood B L r' y) (hr : 0 < ys.length → ∃ r', r' + 1 = r) (IH : ∀ r', r' + 1 = r → SOKr B L r') (hC2 : Kd.string.C W A2 ns.length ns) (hC3 : k25.C W A3 ys.length ys) (hD2 : Kd.string.C W B2 ms.length ms) (hD3 : k25.C W B3 zs.length zs) :
  Calls Tryd.prog 36 #[jVal 6 f1 A2 A3 ns.length c2 ys.length c3, jVal 6 f1 B2 B3 ms.length e2 zs.length e3] W (SEnd (∀ i : Nat, i < ys.length → ∃ r', r' + 1 = r ∧ ∃ k, k < zs.length ∧ (nmAt ms k).data.toList = (nmAt ns i).data.toList ∧ sJ r' (rd_T25 ys i) = sJ r' (rd_T25 zs k)) W) := by
 obtain ⟨F0, F1, F2⟩ := says_boxes W (.cells #[.int .i64 6, .string f1, .slice A2 ns.length c2, .slice A3 ys.length c3] 25) (.cells #[.int .i64 6, .string f1, .slice B2 ms.length e2, .slice B3 zs.length e3] 25)
 have HNA := Aside0.mk (Kd.C_F Kd.heap_string hC2)
 have HNB := Aside0.mk (Kd.C_F Kd.heap_string hD2)
 have HFA := Aside0.mk (Kd.C_F heap25 hC3)
 have HFB := Aside0.mk (Kd.C_F heap25 hD3)
 have HOA := Aside0.mk hoa
 have HOB := Aside0.mk hob
 have HIH := Aside0.mk IH
 have HRR := Aside0.mk hr
 have HLL := Aside0.mk hl
 have HNY := Aside0.mk hny
 have HMZ := Aside0.mk hmz
 have HMN := Aside0.mk hmn
 have HS0 := Aside0.mk F0
 have HS1 := Aside0.mk F1
 have HS2 := Aside0.mk F2
 have k3 : ((ys.length : Int) != (zs.length : Int)) = false := bne_eq_false_iff_eq.mpr (by rw [hl])
 have k4 : (ys.length != zs.length) = false := bne_eq_false_iff_eq.mpr hl
 clear hC2 hC3 hD2 hD3 hoa hob IH hr hl hny hmz hmn F0 F1 F2
 go_enter Tryd.func36, Tryd.ntmps36
 go_wp2
 go_loopg [5] (ys.length + 1) (fun g v5 wr => ∃ i : Nat, v5 = .int .i64 (i : Int) ∧ i ≤ ys.length ∧ ys.length + 1 ≤ i + g ∧ Aside0 (wr.heap[W.heap.size]? = some (.cells #[.int .i64 6, .string f1, .slice A2 ns.length c2, .slice A3 ys.length c3] 25 (0, 0))) ∧ Aside0 (wr.heap[W.heap.size + 1]? = some (.cells #[.int .i64 6, .string f1, .slice B2 ms.length e2, .slice B3 zs.length e3] 25 (0, 0))) ∧ Aside0 (Below W.heap.size W wr) ∧ Aside0 (∀ q : Nat, q < i → ∃ r', r' + 1 = r ∧ ∃ k, k < zs.length ∧ (nmAt ms k).data.toList = (nmAt ns q).data.toList ∧ sJ r' (rd_T25 ys q) = sJ r' (rd_T25 zs k)))
 case atStart => exact ⟨0, rfl, by omega, by omega, HS1, HS2, HS0, ⟨fun q hq => by omega⟩⟩
 case round =>
  obtain ⟨i, rfl, hi, hg, HXA0, HXB0, HB0, HQ⟩ := hrel
  clear HS0 HS1 HS2
  have x0 := (blk_cell HXA0.out 0).trans rfl
  have x3 := (blk_cell HXA0.out 3).trans rfl
  by_cases hlt : i < ys.length
  ·cases gk with
   | zero => omega
   | succ g =>
    obtain ⟨r', hr'⟩ := HRR.out (by omega)
    have HR := Aside0.mk hr'
    clear hr'
    have p1 : (0 ≤ (i : Int)) = True := eq_true (by omega)
    have p2' : ((i : Int) < (ys.length : Int)) = True := eq_true (by omega)
    have p4 : ((i : Int) < (ns.length : Int)) = True := eq_true (by have := HNY.out; omega)
    have hwn := wrap_next i ys.length hlt (by omega)
    have HWN := Aside0.mk hwn
    clear hwn
    obtain ⟨na, ea, hna⟩ := name_at HNA.out i (by have := HNY.out; omega)
    subst ea
    have HNI := Aside0.mk hna
    clear hna
    go_wp2
    go_loopg [6] (ms.length + 1) (fun g6 v6 wr => ∃ m : Nat, v6 = .int .i64 (m : Int) ∧ m ≤ ms.length ∧ ms.length + 1 ≤ m + g6 ∧ Aside0 (wr.heap[W.heap.size]? = some (.cells #[.int .i64 6, .string f1, .slice (some na) ns.length c2, .slice A3 ys.length c3] 25 (0, 0))) ∧ Aside0 (wr.heap[W.heap.size + 1]? = some (.cells #[.int .i64 6, .string f1, .slice B2 ms.length e2, .slice B3 zs.length e3] 25 (0, 0))) ∧ Aside0 (Below W.heap.size W wr) ∧ Aside0 (∀ q, q < m → ¬ (nmAt ms q).data.toList = (nmAt ns i).data.toList))
    case atStart => exact ⟨0, rfl, by omega, by omega, HXA0, HXB0, HB0, ⟨fun q hq => by omega⟩⟩
    case round =>
     obtain ⟨m, rfl, hm, hgm, HXA, HXB, HB, HD⟩ := hrel
     clear HXA0 HXB0 HB0 x0 x3
     have y2 := (blk_cell HXB.out 2).trans rfl
     have x2 := (blk_cell HXA.out 2).trans rfl
     have x3 := (blk_cell HXA.out 3).trans rfl
     by_cases hmi : m < ms.length
     ·have q1 : (0 ≤ (m : Int)) = True := eq_true (by omega)
      have q2 : ((m : Int) < (ms.length : Int)) = True := eq_true (by omega)
      have q3 : decide ((m : Int) < (ms.length : Int)) = true := decide_eq_true (by omega)
      obtain ⟨nb, eb, hnb⟩ := name_at HNB.out m hmi
      subst eb
      have cb := CellOf.at hnb HB.out
      have ca := CellOf.at HNI.out HB.out
      have HNB2 := Aside0.mk hnb
      clear hnb
      by_cases he : (nmAt ms m).data.toList = (nmAt ns i).data.toList
      case neg =>
       cases gk with
       | zero => omega
       | succ g2 =>
        have h1 : ((nmAt ms m).toList == (nmAt ns i).toList) = false := by rw [toList_data, toList_data]; exact beq_eq_false_iff_ne.mpr he
        have h2 : ((nmAt ms m).toList != (nmAt ns i).toList) = true := by rw [bne, h1]; rfl
        have hwm := wrap_next m ms.length hmi (by have := HMZ.out; have := HLL.out; omega)
        have HWM := Aside0.mk hwm
        have HD2 := Aside0.mk (show ∀ q, q < m + 1 → ¬ (nmAt ms q).data.toList = (nmAt ns i).data.toList from fun q hq => by
         by_cases h : q < m
         ·exact HD.out q h
         ·obtain rfl : q = m := by omega
          exact he)
        clear he hwm
        go_wp2
        go_quiet (fail)
        go_wp2
        go_roundg g2
        case measure => omega
        case rel => exact ⟨m + 1, (by first | exact congrArg (Value.int .i64) HWM.out | exact congrArg (Value.int .i64) (show (m : Int) + 1 = ((m + 1 : Nat) : Int) by omega)), by omega, by omega, ⟨by repeat (first | exact HXA.out | refine blk_drewN ?_ _ | refine blk_drew ?_)⟩, ⟨by repeat (first | exact HXB.out | refine blk_drewN ?_ _ | refine blk_drew ?_)⟩, ⟨by repeat (first | exact HB.out | apply pw_below_drewN | apply below_drew1)⟩, HD2⟩
      have h1 : ((nmAt ms m).toList == (nmAt ns i).toList) = true := by rw [toList_data, toList_data]; exact beq_iff_eq.mpr he
      have h2 : ((nmAt ms m).toList != (nmAt ns i).toList) = false := by rw [bne, h1]; rfl
      have HE := Aside0.mk he
      have q4 : ((m : Int) == (ms.length : Int)) = false := beq_eq_false_iff_ne.mpr (by omega)
      have q5 : (m == ms.length) = false := beq_eq_false_iff_ne.mpr (by omega)
      have hkb : m < zs.length := Nat.lt_of_lt_of_eq hmi HMZ.out
      have p3 : ((m : Int) < (zs.length : Int)) = True := eq_true (Int.ofNat_lt.2 hkb)
      clear he
      obtain ⟨ada, P2, p2, P3, p3, e9, u0, u1, u2, u3, _, ga2, _, ga3⟩ := F_elem HFA.out i hlt
      subst e9
      obtain ⟨adb, Q2, q2, Q3, q3, e9, v0, v1, v2, v3, _, gb2, _, gb3⟩ := F_elem HFB.out m hkb
      subst e9
      have HA0 := Aside0.mk (show CellOf W _ _ from u0)
      have HA1 := Aside0.mk (show CellOf W _ _ from u1)
      have HA2 := Aside0.mk (show CellOf W _ _ from u2)
      have HA3 := Aside0.mk (show CellOf W _ _ from u3)
      have HC0 := Aside0.mk (show CellOf W _ _ from v0)
      have HC1 := Aside0.mk (show CellOf W _ _ from v1)
      have HC2 := Aside0.mk (show CellOf W _ _ from v2)
      have HC3 := Aside0.mk (show CellOf W _ _ from v3)
      have HGA2 := Aside0.mk ga2
      have HGA3 := Aside0.mk ga3
      have HGB2 := Aside0.mk gb2
      have HGB3 := Aside0.mk gb3
      have HYA := Aside0.mk (HOA.out r' HR.out _ (rd_mem ys i hlt))
      have HYB := Aside0.mk (HOB.out r' HR.out _ (rd_mem zs m hkb))
      clear u0 u1 u2 u3 v0 v1 v2 v3 ga2 ga3 gb2 gb3
      go_wp2
      go_quiet (fail)
      go_wp2
      have HBd := Aside0.mk (show Below W.heap.size W (wr.drewN nq) from pw_below_drewN HB.out nq)
      have HXAd := Aside0.mk (show (wr.drewN nq).heap[W.heap.size]? = some _ from HXA.out)
      have HXBd := Aside0.mk (show (wr.drewN nq).heap[W.heap.size + 1]? = some _ from HXB.out)
      clear x2 x3 y2 ca cb HXA HXB HB
      generalize wr.drewN nq = wc at HBd HXAd HXBd ⊢
      have HB := HBd
      have HXA := HXAd
      have HXB := HXBd
      clear HBd HXAd HXBd
      refine start_ (n := 12) (S := fun w' => w'.cell? ⟨W.heap.size, 3, none⟩ = some (.slice (some ada) ys.length c3) ∧ w'.cell? ⟨W.heap.size + 1, 3, none⟩ = some (.slice (some adb) zs.length e3) ∧ w'.cell? (ada.add (i * 4)) = some (.int .i64 (rd_T25 ys i).f0) ∧ w'.cell? ⟨(ada.add (i * 4)).block, (ada.add (i * 4)).off + 1, none⟩ = some (.string (rd_T25 ys i).f1) ∧ w'.cell? ⟨(ada.add (i * 4)).block, (ada.add (i * 4)).off + 2, none⟩ = some (.slice P2 (rd_T25 ys i).f2.length p2) ∧ w'.cell? ⟨(ada.add (i * 4)).block, (ada.add (i * 4)).off + 3, none⟩ = some (.slice P3 (rd_T25 ys i).f3.length p3) ∧ w'.cell? (adb.add (m * 4)) = some (.int .i64 (rd_T25 zs m).f0) ∧ w'.cell? ⟨(adb.add (m * 4)).block, (adb.add (m * 4)).off + 1, none⟩ = some (.string (rd_T25 zs m).f1) ∧ w'.cell? ⟨(adb.add (m * 4)).block, (adb.add (m * 4)).off + 2, none⟩ = some (.slice Q2 (rd_T25 zs m).f2.length q2) ∧ w'.cell? ⟨(adb.add (m * 4)).block, (adb.add (m * 4)).off + 3, none⟩ = some (.slice Q3 (rd_T25 zs m).f3.length q3)) (ds := []) #[false, false, false, false, false, false, false, false, false, false, false, false] (by kernel_rfl) rfl rfl ⟨(blk_cell HXA.out 3).trans rfl, (blk_cell HXB.out 3).trans rfl, HA0.out.at (pw_below_drewN HB.out 1), HA1.out.at (pw_below_drewN HB.out 1), HA2.out.at (pw_below_drewN HB.out 1), HA3.out.at (pw_below_drewN HB.out 1), HC0.out.at (pw_below_drewN HB.out 1), HC1.out.at (pw_below_drewN HB.out 1), HC2.out.at (pw_below_drewN HB.out 1), HC3.out.at (pw_below_drewN HB.out 1)⟩ (fun hHeld => ?_)
      have HB2 := Aside0.mk (show Below W.heap.size W wc.drew from pw_below_drewN HB.out 1)
      have HXA2 := Aside0.mk (show wc.drew.heap[W.heap.size]? = some _ from HXA.out)
      have HXB2 := Aside0.mk (show wc.drew.heap[W.heap.size + 1]? = some _ from HXB.out)
      generalize wc.drew = w8 at HB2 HXA2 HXB2 hHeld ⊢
      refine pure_ (i := 0) (N := some 64) (v := ?_) (a' := ?_) #[true, false, false, false, false, false, false, false, false, false, false, false] rfl rfl (by kernel_rfl) (fun _ _ _ h => h) (Or.inl ⟨by rfl, ?_⟩) ?_ ?_
      rotate_left
      ·intro w'
       go_simp
       with_reducible rfl
      rotate_left
      ·simp only [Act.put, List.setIfInBounds_toArray, List.set_cons_zero, List.set_cons_succ, i64_w, i32_w]
       rfl
      refine pure_ (i := 2) (N := some 66) (v := ?_) (a' := ?_) #[true, false, true, false, false, false, false, false, false, false, false, false] rfl rfl (by kernel_rfl) (fun _ _ _ h => h) (Or.inl ⟨by rfl, ?_⟩) ?_ ?_
      rotate_left
      ·intro w'
       go_simp
       with_reducible rfl
      rotate_left
      ·simp only [Act.put, List.setIfInBounds_toArray, List.set_cons_zero, List.set_cons_succ, i64_w, i32_w]
       rfl
      refine pure_ (i := 5) (N := some 69) (v := ?_) (a' := ?_) #[true, false, true, false, false, true, false, false, false, false, false, false] rfl rfl (by kernel_rfl) (fun _ _ _ h => h) (Or.inl ⟨by rfl, ?_⟩) ?_ ?_
      rotate_left
      ·intro w'
       go_simp
       with_reducible rfl
      rotate_left
      ·simp only [Act.put, List.setIfInBounds_toArray, List.set_cons_zero, List.set_cons_succ, i64_w, i32_w]
       rfl
      refine pure_ (i := 7) (N := some 71) (v := ?_) (a' := ?_) #[true, false, true, false, false, true, false, true, false, false, false, false] rfl rfl (by kernel_rfl) (fun _ _ _ h => h) (Or.inl ⟨by rfl, ?_⟩) ?_ ?_
      rotate_left
      ·intro w'
       go_simp
       with_reducible rfl
      rotate_left
      ·simp only [Act.put, List.setIfInBounds_toArray, List.set_cons_zero, List.set_cons_succ, i64_w, i32_w]
       rfl
      refine take_ (i := 1) (N := some 65) (v := ?_) (a' := ?_) #[true, true, true, false, false, true, false, true, false, false, false, false] rfl rfl (by kernel_rfl) (fun _ _ _ h => h) (Or.inl ⟨by rfl, ?_⟩) hHeld ?_ ?_
      rotate_left
      ·rintro w' ⟨s0, s1, s2, s3, s4, s5, s6, s7, s8, s9⟩
       go_simp
       with_reducible rfl
      rotate_left
      ·simp only [Act.put, List.setIfInBounds_toArray, List.set_cons_zero, List.set_cons_succ, i64_w, i32_w]
       rfl
      refine take_ (i := 6) (N := some 70) (v := ?_) (a' := ?_) #[true, true, true, false, false, true, true, true, false, false, false, false] rfl rfl (by kernel_rfl) (fun _ _ _ h => h) (Or.inl ⟨by rfl, ?_⟩) hHeld ?_ ?_
      rotate_left
      ·rintro w' ⟨s0, s1, s2, s3, s4, s5, s6, s7, s8, s9⟩
       go_simp
       with_reducible rfl
      rotate_left
      ·simp only [Act.put, List.setIfInBounds_toArray, List.set_cons_zero, List.set_cons_succ, i64_w, i32_w]
       rfl
      refine pure_ (i := 3) (N := some 67) (v := ?_) (a' := ?_) #[true, true, true, true, false, true, true, true, false, false, false, false] rfl rfl (by kernel_rfl) (fun _ _ _ h => h) (Or.inl ⟨by rfl, ?_⟩) ?_ ?_
      rotate_left
      ·intro w'
       go_simp
       with_reducible rfl
      rotate_left
      ·simp only [Act.put, List.setIfInBounds_toArray, List.set_cons_zero, List.set_cons_succ, i64_w, i32_w]
       rfl
      refine pure_ (i := 8) (N := some 72) (v := ?_) (a' := ?_) #[true, true, true, true, false, true, true, true, true, false, false, false] rfl rfl (by kernel_rfl) (fun _ _ _ h => h) (Or.inl ⟨by rfl, ?_⟩) ?_ ?_
      rotate_left
      ·intro w'
       go_simp
       with_reducible rfl
      rotate_left
      ·simp only [Act.put, List.setIfInBounds_toArray, List.set_cons_zero, List.set_cons_succ, i64_w, i32_w]
       rfl
      refine take_ (i := 4) (N := some 68) (v := ?_) (a' := ?_) #[true, true, true, true, true, true, true, true, true, false, false, false] rfl rfl (by kernel_rfl) (fun _ _ _ h => h) (Or.inl ⟨by rfl, ?_⟩) hHeld ?_ ?_
      rotate_left
      ·rintro w' ⟨s0, s1, s2, s3, s4, s5, s6, s7, s8, s9⟩
       go_simp
       with_reducible rfl
      rotate_left
      ·simp only [Act.put, List.setIfInBounds_toArray, List.set_cons_zero, List.set_cons_succ, i64_w, i32_w]
       rfl
      refine take_ (i := 9) (N := some 73) (v := ?_) (a' := ?_) #[true, true, true, true, true, true, true, true, true, true, false, false] rfl rfl (by kernel_rfl) (fun _ _ _ h => h) (Or.inl ⟨by rfl, ?_⟩) hHeld ?_ ?_
      rotate_left
      ·rintro w' ⟨s0, s1, s2, s3, s4, s5, s6, s7, s8, s9⟩
       go_simp
       with_reducible rfl
      rotate_left
      ·simp only [Act.put, List.setIfInBounds_toArray, List.set_cons_zero, List.set_cons_succ, i64_w, i32_w]
       rfl
      refine one_ (i := 10) (N := some 74) #[true, true, true, true, true, true, true, true, true, true, true, false] rfl rfl (by kernel_rfl) (by decide) (fun K hK => ?_)
      refine goes_ Tryd.func36 (by kernel_rfl) rfl #[jVal (rd_T25 ys i).f0 (rd_T25 ys i).f1 P2 P3 (rd_T25 ys i).f2.length p2 (rd_T25 ys i).f3.length p3, jVal (rd_T25 zs m).f0 (rd_T25 zs m).f1 Q2 Q3 (rd_T25 zs m).f2.length q2 (rd_T25 zs m).f3.length q3] (by rfl) rfl rfl (by (try simp only [List.map_toArray, List.map_cons, List.map_nil]); first | done | rfl) ?_
      refine (HIH.out r' HR.out (rd_T25 ys i) (rd_T25 zs m) P2 P3 Q2 Q3 p2 p3 q2 q3 w8 HYA.out HYB.out (Kd.F_now (Kd.F_old HGA2.out HB2.out)) (Kd.F_now (Kd.F_old HGA3.out HB2.out)) (Kd.F_now (Kd.F_old HGB2.out HB2.out)) (Kd.F_now (Kd.F_old HGB3.out HB2.out))).mono ?_
      rintro e w9 ⟨t, rfl, ht, hb⟩
      refine ⟨_, rfl, ?_⟩
      have HTT := Aside0.mk ht
      have HB9 := Aside0.mk (below_step HB2.out hb)
      have HXA9 := Aside0.mk ((hb.block _ (lt_of_block HXA2.out)).trans HXA2.out)
      have HXB9 := Aside0.mk ((hb.block _ (lt_of_block HXB2.out)).trans HXB2.out)
      clear ht hb
      refine hK.out _ _ ⟨(blk_cell HXA9.out 3).trans rfl, (blk_cell HXB9.out 3).trans rfl, HA0.out.at HB9.out, HA1.out.at HB9.out, HA2.out.at HB9.out, HA3.out.at HB9.out, HC0.out.at HB9.out, HC1.out.at HB9.out, HC2.out.at HB9.out, HC3.out.at HB9.out⟩ (fun hHeld => ?_)
      clear hK K
      refine norm_ (a' := ?_) ?_ ?_
      rotate_left
      ·show Act.put _ (some 74) _ = _
       simp only [Act.put, List.setIfInBounds_toArray, List.set_cons_zero, List.set_cons_succ, i64_w, i32_w]
       rfl
      refine pure_ (i := 11) (N := some 75) (v := ?_) (a' := ?_) #[true, true, true, true, true, true, true, true, true, true, true, true] rfl rfl (by kernel_rfl) (fun _ _ _ h => h) (Or.inl ⟨by rfl, ?_⟩) ?_ ?_
      rotate_left
      ·intro w'
       go_simp
       with_reducible rfl
      rotate_left
      ·simp only [Act.put, List.setIfInBounds_toArray, List.set_cons_zero, List.set_cons_succ, i64_w, i32_w]
       rfl
      refine done_ (by kernel_rfl) ?_
      try go_wp2
      ·rename_i hb0
       have htf : t = false := by cases t; rfl; cases hb0
       have HNO := Aside0.mk (show ¬ ((∀ i : Nat, i < ys.length → ∃ r', r' + 1 = r ∧ ∃ k, k < zs.length ∧ (nmAt ms k).data.toList = (nmAt ns i).data.toList ∧ sJ r' (rd_T25 ys i) = sJ r' (rd_T25 zs k))) from fun h => by
        obtain ⟨r2, e2', k, hk, hn, hs⟩ := h i hlt
        obtain rfl : r2 = r' := by have := HR.out; omega
        obtain rfl : k = m := name_one HMN.out (by have := HMZ.out; omega) hmi (hn.trans HE.out.symm)
        have := HTT.out.2 hs
        rw [htf] at this
        cases this)
       go_ret
       exact ⟨false, rfl, ⟨fun h => (by cases h), fun h => absurd h HNO.out⟩, by repeat (first | exact HB9.out | apply pw_below_drewN | apply below_drew1)⟩
      ·rename_i hb0
       have htt : t = true := by cases t; cases hb0; rfl
       have HQ2 := Aside0.mk (show (∀ q : Nat, q < i + 1 → ∃ r', r' + 1 = r ∧ ∃ k, k < zs.length ∧ (nmAt ms k).data.toList = (nmAt ns q).data.toList ∧ sJ r' (rd_T25 ys q) = sJ r' (rd_T25 zs k)) from fun q hq => by
        by_cases h : q < i
        ·exact HQ.out q h
        ·obtain rfl : q = i := by omega
         exact ⟨r', HR.out, m, hkb, HE.out, HTT.out.1 htt⟩)
       go_roundg g
       case measure => omega
       case rel => exact ⟨i + 1, (by first | exact congrArg (Value.int .i64) HWN.out | exact congrArg (Value.int .i64) (show (i : Int) + 1 = ((i + 1 : Nat) : Int) by omega)), by omega, by omega, ⟨by repeat (first | exact HXA9.out | refine blk_drewN ?_ _ | refine blk_drew ?_)⟩, ⟨by repeat (first | exact HXB9.out | refine blk_drewN ?_ _ | refine blk_drew ?_)⟩, ⟨by repeat (first | exact HB9.out | apply pw_below_drewN | apply below_drew1)⟩, HQ2⟩
     ·have q1 : (0 ≤ (m : Int)) = True := eq_true (by omega)
      have q2 : ((m : Int) < (ms.length : Int)) = False := eq_false (by omega)
      have q3 : decide ((m : Int) < (ms.length : Int)) = false := decide_eq_false (by omega)
      have q4 : ((m : Int) == (ms.length : Int)) = true := beq_iff_eq.mpr (by omega)
      have HNO := Aside0.mk (show ¬ ((∀ i : Nat, i < ys.length → ∃ r', r' + 1 = r ∧ ∃ k, k < zs.length ∧ (nmAt ms k).data.toList = (nmAt ns i).data.toList ∧ sJ r' (rd_T25 ys i) = sJ r' (rd_T25 zs k))) from fun h => by
        obtain ⟨r2, e2', k, hk, hn, h2⟩ := h i hlt
        exact HD.out k (by have := HMZ.out; omega) hn)
      go_wp2
      go_quiet (fail)
      go_wp2
      go_ret
      exact ⟨false, rfl, ⟨fun h => (by cases h), fun h => absurd h HNO.out⟩, by repeat (first | exact HB.out | apply pw_below_drewN | apply below_drew1)⟩
  ·have p2' : ((i : Int) < (ys.length : Int)) = False := eq_false (by omega)
   go_wp2
   go_ret
   exact ⟨true, rfl, ⟨fun _ q hq => HQ.out q (by omega), fun _ => rfl⟩, by repeat (first | exact HB0.out | apply pw_below_drewN | apply below_drew1)⟩
end Go.Proofs.YtaalajhmfdcalaaDoor.X
namespace Go.Proofs.YtaalajhmfdcalaaDoor.X
open Go.RowKit Go.Lib Go.Proofs.YtaalajhmfdcalaaDoorW.PrintWords
theorem nodeOK_x {f0 : Int} {f1 : ByteArray} {n2 n3 : Nat} (h : nodeOK f0 f1 n2 n3 = true) (h5 : ¬ f0 = 5) (h6 : ¬ f0 = 6) : n2 = 0 ∧ n3 = 0 := by
 unfold nodeOK at h
 rw [if_neg h5, if_neg h6] at h
 split at h
 ·exact (of_decide_eq_true h).2
 ·split at h
  ·exact (of_decide_eq_true h).2.2
  ·split at h
   ·exact (of_decide_eq_true h).2
   ·cases h
theorem nodeQ_5 {f0 : Int} {f1 : ByteArray} {n2 n3 : Nat} (h : nodeOK f0 f1 n2 n3 = true) (h5 : f0 = 5) : n2 = 0 := by
 subst h5
 exact (of_decide_eq_true (show decide (f1.size = 0 ∧ n2 = 0) = true from h)).2
theorem nodeQ_6 {f0 : Int} {f1 : ByteArray} {n2 n3 : Nat} (h : nodeOK f0 f1 n2 n3 = true) (h6 : f0 = 6) : n2 = n3 := by
 subst h6
 exact (of_decide_eq_true (show decide (f1.size = 0 ∧ n2 = n3) = true from h)).2
theorem OKJ.node : ∀ {r : Nat} {v : J}, OKJ r v → nodeOK v.f0 v.f1 v.f2.length v.f3.length = true
 | 0, _, h => h.1
 | _ + 1, _, h => h.1
theorem OKJ.not0 {v : J} (h : OKJ 0 v) : ¬ v.f0 = 5 ∧ ¬ v.f0 = 6 := h.2
theorem map_rd {f g : J → J} {ys zs : List J} (hl : ys.length = zs.length) : ys.map f = zs.map g ↔ ∀ i : Nat, i < ys.length → f (rd_T25 ys i) = g (rd_T25 zs i) := by
 constructor
 ·intro h i hi
  have := congrArg (fun l : List J => l[i]?) h
  simp only [List.getElem?_map, List.getElem?_eq_getElem hi, List.getElem?_eq_getElem (hl ▸ hi), Option.map_some, Option.some.injEq] at this
  rw [rd_nat ys i hi, rd_nat zs i (hl ▸ hi)]
  exact this
 ·intro h
  refine List.ext_getElem (by simpa using hl) (fun i h1 h2 => ?_)
  rw [List.length_map] at h1 h2
  have := h i h1
  rw [rd_nat ys i h1, rd_nat zs i h2] at this
  rw [List.getElem_map, List.getElem_map]
  exact this
theorem says_x {r : Nat} {a b : J} (ha : OKJ r a) (hb : OKJ r b) (h0 : a.f0 = b.f0) (h1 : a.f1 = b.f1) (hl : a.f3.length = b.f3.length) (h6 : ¬ a.f0 = 6) : sJ r a = sJ r b ↔ ∀ i : Nat, i < a.f3.length → ∃ r', r' + 1 = r ∧ sJ r' (rd_T25 a.f3 i) = sJ r' (rd_T25 b.f3 i) := by
 by_cases h5 : a.f0 = 5
 ·cases r with
  | zero => exact absurd h5 ha.not0.1
  | succ r =>
   have e2 : a.f2 = b.f2 := by
    rw [List.length_eq_zero_iff.1 (nodeQ_5 ha.node h5), List.length_eq_zero_iff.1 (nodeQ_5 hb.node (h0 ▸ h5))]
   rw [sJ_5 h5, sJ_5 (show b.f0 = 5 from h0 ▸ h5)]
   constructor
   ·intro h i hi
    exact ⟨r, rfl, (map_rd hl).1 (congrArg (fun j : J => j.f3) h) i hi⟩
   ·intro h
    have := (map_rd (f := sJ r) (g := sJ r) hl).2 (fun i hi => by
     obtain ⟨r', e, h'⟩ := h i hi
     obtain rfl : r' = r := by omega
     exact h')
    rw [h0, h1, e2, this]
 ·have na := nodeOK_x ha.node h5 h6
  have nb := nodeOK_x hb.node (h0 ▸ h5) (h0 ▸ h6)
  have e : a = b := by
   cases a; cases b
   simp only at h0 h1 na nb
   rw [h0, h1, List.length_eq_zero_iff.1 na.1, List.length_eq_zero_iff.1 na.2, List.length_eq_zero_iff.1 nb.1, List.length_eq_zero_iff.1 nb.2]
  constructor
  ·intro _ i hi
   omega
  ·intro _
   rw [e]
theorem mem_prs {r : Nat} {v : J} (hl : v.f2.length = v.f3.length) (x : ByteArray × J) : x ∈ prs r v ↔ ∃ k : Nat, k < v.f3.length ∧ x = (nmAt v.f2 k, sJ r (rd_T25 v.f3 k)) := by
 unfold prs
 rw [List.mem_map]
 constructor
 ·rintro ⟨y, hy, rfl⟩
  obtain ⟨k, hk, rfl⟩ := List.mem_iff_getElem.1 hy
  have hk2 : k < v.f3.length := by rw [List.length_zip] at hk; omega
  refine ⟨k, hk2, ?_⟩
  rw [nmAt_eq v.f2 k (hl ▸ hk2), rd_nat v.f3 k hk2, List.getElem_zip]
  rfl
 ·rintro ⟨k, hk, rfl⟩
  refine ⟨(v.f2[k]'(hl ▸ hk), v.f3[k]), ?_, ?_⟩
  ·exact List.mem_iff_getElem.2 ⟨k, by rw [List.length_zip]; omega, by rw [List.getElem_zip]⟩
  ·rw [nmAt_eq v.f2 k (hl ▸ hk), rd_nat v.f3 k hk]
   rfl
theorem bytes_ext {a b : ByteArray} (h : a.data.toList = b.data.toList) : a = b := by
 cases a; cases b
 exact congrArg ByteArray.mk (Array.toList_inj.1 h)
theorem says_6 {r : Nat} {a b : J} (ha : OKJ r a) (hb : OKJ r b) (h0 : a.f0 = 6) (h0b : b.f0 = 6) (h1 : a.f1 = b.f1) (hl : a.f3.length = b.f3.length) : sJ r a = sJ r b ↔ ∀ i : Nat, i < a.f3.length → ∃ r', r' + 1 = r ∧ ∃ k, k < b.f3.length ∧ (nmAt b.f2 k).data.toList = (nmAt a.f2 i).data.toList ∧ sJ r' (rd_T25 a.f3 i) = sJ r' (rd_T25 b.f3 k) := by
 cases r with
 | zero => exact absurd h0 ha.not0.2
 | succ r =>
  have la := nodeQ_6 ha.node h0
  have lb := nodeQ_6 hb.node h0b
  have na := (ha.2.2 h0).2
  have nb := (hb.2.2 h0b).2
  rw [obj_eq h0 h0b la lb na nb h1]
  constructor
  ·intro h i hi
   have := h.mem_iff.1 ((mem_prs la _).2 ⟨i, hi, rfl⟩)
   obtain ⟨k, hk, e⟩ := (mem_prs lb _).1 this
   rw [Prod.mk.injEq] at e
   exact ⟨r, rfl, k, hk, by rw [e.1], e.2⟩
  ·intro h
   refine perm_of_sub _ _ (List.Pairwise.of_map Prod.fst (fun _ _ h e => h (by rw [e])) (prs_nodup la na)) (fun x hx => ?_) ?_
   ·obtain ⟨i, hi, rfl⟩ := (mem_prs la _).1 hx
    obtain ⟨r', e, k, hk, hn, hs⟩ := h i hi
    obtain rfl : r' = r := by omega
    exact (mem_prs lb _).2 ⟨k, hk, by rw [bytes_ext hn, hs]⟩
   ·unfold prs
    rw [List.length_map, List.length_map, List.length_zip, List.length_zip]
    omega
end Go.Proofs.YtaalajhmfdcalaaDoor.X
namespace Go.Proofs.YtaalajhmfdcalaaDoor.X
open Go.RowKit Go.Lib Go.Proofs.YtaalajhmfdcalaaDoorW.PrintWords Go.Proofs.YtaalajhmfdcalaaDoorW.PrintLast Go.Proofs.YtaalajhmfdcalaaDoorW.PrintMore
theorem beq_bytes {a b : ByteArray} (h : ¬ a = b) : (a.toList == b.toList) = false := by
 rw [toList_data, toList_data]; exact beq_eq_false_iff_ne.mpr (fun e => h (bytes_ext e))
set_option maxRecDepth 1000000 in
set_option maxHeartbeats 8000000 in
theorem says_no0 (f0 g0 : Int) (f1 g1 : ByteArray) (n2 n3 m2 m3 : Nat) (A2 A3 B2 B3 : Option Addr) (c2 c3 e2 e3 : Nat) (W : World) (h : ¬ f0 = g0) :
  Calls Tryd.prog 36 #[jVal f0 f1 A2 A3 n2 c2 n3 c3, jVal g0 g1 B2 B3 m2 e2 m3 e3] W (fun e W' => e = .returned (.bool false) ∧ Below W.heap.size W W') := by
 have k1 : (f0 != g0) = true := bne_iff_ne.mpr h
 obtain ⟨F0, F1, F2⟩ := says_boxes W (.cells #[.int .i64 f0, .string f1, .slice A2 n2 c2, .slice A3 n3 c3] 25) (.cells #[.int .i64 g0, .string g1, .slice B2 m2 e2, .slice B3 m3 e3] 25)
 have HS0 := Aside0.mk F0
 clear F0 F1 F2 h
 go_enter Tryd.func36, Tryd.ntmps36
 go_wp2
 go_ret
 exact ⟨rfl, by repeat (first | exact HS0.out | apply pw_below_drewN | apply below_drew1)⟩
set_option maxRecDepth 1000000 in
set_option maxHeartbeats 8000000 in
theorem says_no1 (f0 : Int) (f1 g1 : ByteArray) (n2 n3 m2 m3 : Nat) (A2 A3 B2 B3 : Option Addr) (c2 c3 e2 e3 : Nat) (W : World) (h : ¬ f1 = g1) :
  Calls Tryd.prog 36 #[jVal f0 f1 A2 A3 n2 c2 n3 c3, jVal f0 g1 B2 B3 m2 e2 m3 e3] W (fun e W' => e = .returned (.bool false) ∧ Below W.heap.size W W') := by
 have k1 : (f1.toList == g1.toList) = false := beq_bytes h
 have k2 : (f1.toList != g1.toList) = true := by rw [bne, k1]; rfl
 obtain ⟨F0, F1, F2⟩ := says_boxes W (.cells #[.int .i64 f0, .string f1, .slice A2 n2 c2, .slice A3 n3 c3] 25) (.cells #[.int .i64 f0, .string g1, .slice B2 m2 e2, .slice B3 m3 e3] 25)
 have HS0 := Aside0.mk F0
 clear F0 F1 F2 h
 go_enter Tryd.func36, Tryd.ntmps36
 go_wp2
 go_ret
 exact ⟨rfl, by repeat (first | exact HS0.out | apply pw_below_drewN | apply below_drew1)⟩
set_option maxRecDepth 1000000 in
set_option maxHeartbeats 8000000 in
theorem says_no3 (f0 : Int) (f1 : ByteArray) (n2 n3 m2 m3 : Nat) (A2 A3 B2 B3 : Option Addr) (c2 c3 e2 e3 : Nat) (W : World) (h : ¬ n3 = m3) :
  Calls Tryd.prog 36 #[jVal f0 f1 A2 A3 n2 c2 n3 c3, jVal f0 f1 B2 B3 m2 e2 m3 e3] W (fun e W' => e = .returned (.bool false) ∧ Below W.heap.size W W') := by
 have k3 : ((n3 : Int) != (m3 : Int)) = true := bne_iff_ne.mpr (fun e => h (Int.ofNat.inj e))
 have k4 : (n3 != m3) = true := bne_iff_ne.mpr h
 obtain ⟨F0, F1, F2⟩ := says_boxes W (.cells #[.int .i64 f0, .string f1, .slice A2 n2 c2, .slice A3 n3 c3] 25) (.cells #[.int .i64 f0, .string f1, .slice B2 m2 e2, .slice B3 m3 e3] 25)
 have HS0 := Aside0.mk F0
 clear F0 F1 F2 h
 go_enter Tryd.func36, Tryd.ntmps36
 go_wp2
 go_ret
 exact ⟨rfl, by repeat (first | exact HS0.out | apply pw_below_drewN | apply below_drew1)⟩
theorem send_no {P : Prop} {W : World} {f : Nat} {args : Array Value} (h : ¬ P) (hc : Calls Tryd.prog f args W (fun e W' => e = .returned (.bool false) ∧ Below W.heap.size W W')) : Calls Tryd.prog f args W (SEnd P W) := by
 refine hc.mono ?_
 rintro e W' ⟨he, hb⟩
 exact ⟨false, he, ⟨fun h2 => (by cases h2), fun h2 => absurd h2 h⟩, hb⟩
theorem send_iff {P Q : Prop} {W : World} {f : Nat} {args : Array Value} (h : Q ↔ P) (hc : Calls Tryd.prog f args W (SEnd P W)) : Calls Tryd.prog f args W (SEnd Q W) := by
 refine hc.mono ?_
 rintro e W' ⟨t, he, ht, hb⟩
 exact ⟨t, he, ht.trans h.symm, hb⟩
theorem Bd_len {B L : Nat} : ∀ {v : J}, Bd B L v → v.f3.length ≤ L
 | _, .mk _ _ _ _ _ _ _ h _ => h
theorem Bd_son {B L : Nat} : ∀ {v : J}, Bd B L v → ∀ y, y ∈ v.f3 → Bd B L y
 | _, .mk _ _ _ _ _ _ _ _ h => h
theorem says_step (B L r : Nat) (hL : L ≤ 4611686018427387904) (IH : ∀ r', r' + 1 = r → SOKr B L r') : SOKr B L r := by
 intro a b A2 A3 B2 B3 c2 c3 e2 e3 W ha hb hA2 hA3 hB2 hB3
 by_cases h0 : a.f0 = b.f0
 case neg => exact send_no (fun h => h0 (by have := congrArg (fun j : J => j.f0) h; simp only [sJ_f0] at this; exact this)) (says_no0 _ _ _ _ _ _ _ _ _ _ _ _ _ _ _ _ W h0)
 by_cases h1 : a.f1 = b.f1
 case neg =>
  rw [h0]
  exact send_no (fun h => h1 (by have := congrArg (fun j : J => j.f1) h; simp only [sJ_f1] at this; exact this)) (says_no1 _ _ _ _ _ _ _ _ _ _ _ _ _ _ _ W h1)
 by_cases hl : a.f3.length = b.f3.length
 case neg =>
  rw [h0, h1]
  exact send_no (fun h => hl (by have := congrArg (fun j : J => j.f3.length) h; simp only [sJ_len] at this; exact this)) (says_no3 _ _ _ _ _ _ _ _ _ _ _ _ _ _ W hl)
 have hsa : a.f3.length ≤ L := Bd_len ha.2
 have hk5 : 0 < a.f3.length → a.f0 = 5 ∨ a.f0 = 6 := fun hp => by
  by_cases h5 : a.f0 = 5
  ·exact Or.inl h5
  ·by_cases h6 : a.f0 = 6
   ·exact Or.inr h6
   ·have := nodeOK_x ha.1.node h5 h6; omega
 have hr : 0 < a.f3.length → ∃ r', r' + 1 = r := fun hp => by
  cases r with
  | zero => rcases hk5 hp with h | h; exact absurd h ha.1.not0.1; exact absurd h ha.1.not0.2
  | succ r => exact ⟨r, rfl⟩
 have sons : ∀ {v : J}, SGood B L r v → (0 < v.f3.length → v.f0 = 5 ∨ v.f0 = 6) → ∀ r', r' + 1 = r → ∀ y, y ∈ v.f3 → SGood B L r' y := fun {v} hv hk r' e y hy => by
  subst e
  exact ⟨hv.1.2.1 (hk (List.length_pos_of_mem hy)) y hy, Bd_son hv.2 y hy⟩
 have hkb : 0 < b.f3.length → b.f0 = 5 ∨ b.f0 = 6 := fun hp => by rw [← h0]; exact hk5 (by omega)
 by_cases h6 : a.f0 = 6
 ·have la := nodeQ_6 ha.1.node h6
  have h6b : b.f0 = 6 := h0 ▸ h6
  have lb := nodeQ_6 hb.1.node h6b
  refine send_iff (says_6 ha.1 hb.1 h6 h6b h1 hl) ?_
  rw [h6, h6b, h1]
  refine says_obj B L r hL b.f1 a.f2 b.f2 a.f3 b.f3 A2 A3 B2 B3 c2 c3 e2 e3 W hl la lb ?_ hsa (sons ha hk5) (sons hb hkb) hr IH hA2 hA3 hB2 hB3
  cases r with
  | zero => exact absurd h6 ha.1.not0.2
  | succ r => exact (hb.1.2.2 h6b).2
 ·refine send_iff (says_x ha.1 hb.1 h0 h1 hl h6) ?_
  have h6b : ¬ b.f0 = 6 := h0 ▸ h6
  rw [h0, h1]
  exact says_other B L r hL b.f0 b.f1 a.f2.length b.f2.length a.f3 b.f3 A2 A3 B2 B3 c2 c3 e2 e3 W hl h6b hsa (sons ha hk5) (sons hb hkb) hr IH hA3 hB3
theorem says_ok (B L : Nat) (hL : L ≤ 4611686018427387904) : ∀ r, SOKr B L r
 | 0 => says_step B L 0 hL (fun r' h => by omega)
 | r + 1 => says_step B L (r + 1) hL (fun r' e => by have e2 : r' = r := (by omega); rw [e2]; exact says_ok B L hL r)
end Go.Proofs.YtaalajhmfdcalaaDoor.X
namespace Go.Proofs.YtaalajhmfdcalaaDoor.X
open Go.RowKit Go.Lib Go.Proofs.YtaalajhmfdcalaaDoorW.PrintWords Go.Proofs.YtaalajhmfdcalaaDoorW.PrintLast Go.Proofs.YtaalajhmfdcalaaDoorW.PrintMore
def saysP (a b : J) : Prop := OKJ 32 a ∧ OKJ 32 b ∧ sJ 32 a = sJ 32 b
set_option maxRecDepth 1000000 in
set_option maxHeartbeats 8000000 in
theorem rsame_ok (B L : Nat) (hB : B ≤ 4611686018427387904) (hL : L ≤ 4611686018427387904) (a b : J) (A2 A3 B2 B3 : Option Addr) (c2 c3 e2 e3 : Nat) (W : World) (ha : Bd B L a) (hb : Bd B L b) (hA2 : Kd.string.C W A2 a.f2.length a.f2) (hA3 : k25.C W A3 a.f3.length a.f3) (hB2 : Kd.string.C W B2 b.f2.length b.f2) (hB3 : k25.C W B3 b.f3.length b.f3) :
  Calls Tryd.prog 23 #[jVal a.f0 a.f1 A2 A3 a.f2.length c2 a.f3.length c3, jVal b.f0 b.f1 B2 B3 b.f2.length e2 b.f3.length e3] W (SEnd (saysP a b) W) := by
 have HVA := Aside0.mk (show ∀ w, Below W.heap.size W w → Calls Tryd.prog 24 #[jVal a.f0 a.f1 A2 A3 a.f2.length c2 a.f3.length c3, .int .i64 0] w (VEnd 32 a w) from fun w h => valid_ok B L hB hL 32 (by omega) a A2 A3 c2 c3 w ha (Kd.F_now (Kd.F_old (Kd.C_F Kd.heap_string hA2) h)) (Kd.F_now (Kd.F_old (Kd.C_F heap25 hA3) h)))
 have HVB := Aside0.mk (show ∀ w, Below W.heap.size W w → Calls Tryd.prog 24 #[jVal b.f0 b.f1 B2 B3 b.f2.length e2 b.f3.length e3, .int .i64 0] w (VEnd 32 b w) from fun w h => valid_ok B L hB hL 32 (by omega) b B2 B3 e2 e3 w hb (Kd.F_now (Kd.F_old (Kd.C_F Kd.heap_string hB2) h)) (Kd.F_now (Kd.F_old (Kd.C_F heap25 hB3) h)))
 have HSS := Aside0.mk (show ∀ w, Below W.heap.size W w → OKJ 32 a → OKJ 32 b → Calls Tryd.prog 36 #[jVal a.f0 a.f1 A2 A3 a.f2.length c2 a.f3.length c3, jVal b.f0 b.f1 B2 B3 b.f2.length e2 b.f3.length e3] w (SEnd (sJ 32 a = sJ 32 b) w) from fun w h h1 h2 => says_ok B L hL 32 a b A2 A3 B2 B3 c2 c3 e2 e3 w ⟨h1, ha⟩ ⟨h2, hb⟩ (Kd.F_now (Kd.F_old (Kd.C_F Kd.heap_string hA2) h)) (Kd.F_now (Kd.F_old (Kd.C_F heap25 hA3) h)) (Kd.F_now (Kd.F_old (Kd.C_F Kd.heap_string hB2) h)) (Kd.F_now (Kd.F_old (Kd.C_F heap25 hB3) h)))
 obtain ⟨F0, F1, F2⟩ := says_boxes W (.cells #[.int .i64 a.f0, .string a.f1, .slice A2 a.f2.length c2, .slice A3 a.f3.length c3] 25) (.cells #[.int .i64 b.f0, .string b.f1, .slice B2 b.f2.length e2, .slice B3 b.f3.length e3] 25)
 have HS0 := Aside0.mk F0
 have HS1 := Aside0.mk F1
 have HS2 := Aside0.mk F2
 clear hA2 hA3 hB2 hB3 ha hb F0 F1 F2
 go_enter Tryd.func23, Tryd.ntmps23
 go_wp2_with (first
  | (go_at_call 24; (with_reducible refine (HVA.out _ HS0.out).mono ?_); rintro e w1 ⟨t1, rfl, ht1, hb1⟩; have HT1 := Aside0.mk ht1; have HB1 := Aside0.mk (below_step HS0.out hb1); have HX1 := Aside0.mk ((hb1.block _ (lt_of_block HS1.out)).trans HS1.out); have HY1 := Aside0.mk ((hb1.block _ (lt_of_block HS2.out)).trans HS2.out); clear ht1 hb1; have x10 := (blk_cell HX1.out 0).trans rfl; have x11 := (blk_cell HX1.out 1).trans rfl; have x12 := (blk_cell HX1.out 2).trans rfl; have x13 := (blk_cell HX1.out 3).trans rfl; have y10 := (blk_cell HY1.out 0).trans rfl; have y11 := (blk_cell HY1.out 1).trans rfl; have y12 := (blk_cell HY1.out 2).trans rfl; have y13 := (blk_cell HY1.out 3).trans rfl)
  | (go_at_call 24; (with_reducible refine (HVB.out _ HB1.out).mono ?_); rintro e w2 ⟨t2, rfl, ht2, hb2⟩; have HT2 := Aside0.mk ht2; have HB2 := Aside0.mk (below_step HB1.out hb2); have HX2 := Aside0.mk ((hb2.block _ (lt_of_block HX1.out)).trans HX1.out); have HY2 := Aside0.mk ((hb2.block _ (lt_of_block HY1.out)).trans HY1.out); clear ht2 hb2; have x20 := (blk_cell HX2.out 0).trans rfl; have x21 := (blk_cell HX2.out 1).trans rfl; have x22 := (blk_cell HX2.out 2).trans rfl; have x23 := (blk_cell HX2.out 3).trans rfl; have y20 := (blk_cell HY2.out 0).trans rfl; have y21 := (blk_cell HY2.out 1).trans rfl; have y22 := (blk_cell HY2.out 2).trans rfl; have y23 := (blk_cell HY2.out 3).trans rfl)
  | (go_at_call 36; (with_reducible refine (HSS.out _ HB2.out (HT1.out.1 (by assumption)) (HT2.out.1 (by assumption))).mono ?_); rintro e w3 ⟨t3, rfl, ht3, hb3⟩; have HT3 := Aside0.mk ht3; have HB3 := Aside0.mk (below_step HB2.out hb3); have HX3 := Aside0.mk ((hb3.block _ (lt_of_block HX2.out)).trans HX2.out); have HY3 := Aside0.mk ((hb3.block _ (lt_of_block HY2.out)).trans HY2.out); clear ht3 hb3))
 ·go_ret
  exact ⟨t3, rfl, ⟨fun h => ⟨HT1.out.1 (by assumption), HT2.out.1 (by assumption), HT3.out.1 h⟩, fun h => HT3.out.2 h.2.2⟩, by repeat (first | exact HB3.out | apply pw_below_drewN | apply below_drew1)⟩
 ·rename_i hn
  go_ret
  exact ⟨false, rfl, ⟨fun h => (by cases h), fun h => absurd (HT2.out.2 h.2.1) hn⟩, by repeat (first | exact HB2.out | apply pw_below_drewN | apply below_drew1)⟩
 ·rename_i hn
  go_ret
  exact ⟨false, rfl, ⟨fun h => (by cases h), fun h => absurd (HT1.out.2 h.1) hn⟩, by repeat (first | exact HB1.out | apply pw_below_drewN | apply below_drew1)⟩
end Go.Proofs.YtaalajhmfdcalaaDoor.X
namespace Go.Proofs.YtaalajhmfdcalaaDoor.X
open Go.RowKit Go.Lib Go.Proofs.YtaalajhmfdcalaaDoorW.PrintWords Go.Proofs.YtaalajhmfdcalaaDoorW.PrintLast Go.Proofs.YtaalajhmfdcalaaDoorW.PrintMore
abbrev Z25 : Obj := .cells #[.int .i64 0, .string (⟨#[]⟩ : ByteArray), .slice none 0 0, .slice none 0 0] 25 (0, 0)
abbrev BxJ (v : J) (A2 A3 : Option Addr) (c2 c3 : Nat) : Obj := .cells #[.int .i64 v.f0, .string v.f1, .slice A2 v.f2.length c2, .slice A3 v.f3.length c3] 25 (0, 0)
abbrev setN4 (w : World) (g : Nat) (c0 c1 c2 c3 : Value) : World := (((w.setCell ⟨g, 0, none⟩ c0).setCell ⟨g, 1, none⟩ c1).setCell ⟨g, 2, none⟩ c2).setCell ⟨g, 3, none⟩ c3
def Fr (W : World) (o5 o6 : Option Nat) (k : Nat) : Prop := W.heap.size + 1 < k ∧ (∀ g, o5 = some g → k ≠ g) ∧ (∀ g, o6 = some g → k ≠ g)
def Got3 (W : World) (o5 o6 : Option Nat) (p : Option (Value × Value)) (v : J) (w : World) : Prop := ∀ x y, p = some (x, y) → Kd.string.R 9 w W.heap.size (Fr W o5 o6) x v.f2 ∧ k25.R 25 w W.heap.size (Fr W o5 o6) y v.f3
structure R3 (W : World) (oa ob : Obj) (a b : J) (o5 o6 : Option Nat) (c d : Option (Value × Value)) (w : World) : Prop where
 ha : w.heap[W.heap.size]? = some oa
 hb : w.heap[W.heap.size + 1]? = some ob
 bel : Below W.heap.size W w
 n5 : ∀ g, o5 = some g → w.heap[g]? = some Z25 ∧ W.heap.size + 1 < g
 n6 : ∀ g, o6 = some g → w.heap[g]? = some Z25 ∧ W.heap.size + 1 < g
 n56 : ∀ g g', o5 = some g → o6 = some g' → g ≠ g'
 hc : Got3 W o5 o6 c a w
 hd : Got3 W o5 o6 d b w
section
variable {W w w' : World} {oa ob : Obj} {a b v : J} {o5 o6 : Option Nat} {c d p : Option (Value × Value)}
theorem Got3.below (h : Got3 W o5 o6 p v w) (hb : Below w.heap.size w w') : Got3 W o5 o6 p v w' := fun x y e => ⟨Kd.R_below (h x y e).1 hb, Kd.R_below (h x y e).2 hb⟩
theorem Got3.nil : Got3 W o5 o6 none v w := fun _ _ e => by cases e
theorem R3.below (h : R3 W oa ob a b o5 o6 c d w) (k : Below w.heap.size w w') : R3 W oa ob a b o5 o6 c d w' :=
 ⟨blk_below h.ha k, blk_below h.hb k, below_step h.bel k, fun g e => ⟨blk_below (h.n5 g e).1 k, (h.n5 g e).2⟩, fun g e => ⟨blk_below (h.n6 g e).1 k, (h.n6 g e).2⟩, h.n56, h.hc.below k, h.hd.below k⟩
theorem R3.got (h : R3 W oa ob a b o5 o6 c d w) {u x : Value} (h2 : Kd.string.R 9 w' w.heap.size (fun _ => True) u v.f2) (h3 : k25.R 25 w' w.heap.size (fun k => some k ≠ u.ownBlock) x v.f3) : Got3 W o5 o6 (some (u, x)) v w' := by
 intro u' x' e
 injection e with e
 injection e with e1 e2
 subst e1 e2
 have l2 := lt_of_block h.hb
 have key : ∀ k, w.heap.size ≤ k → Fr W o5 o6 k := fun k hk => ⟨by omega, fun g e => by have := lt_of_block (h.n5 g e).1; omega, fun g e => by have := lt_of_block (h.n6 g e).1; omega⟩
 exact ⟨Kd.R_mono (Kd.R_lower (Kd.R_bound h2) h.bel.size) (fun k hk => key k hk.2.1), Kd.R_mono (Kd.R_lower (Kd.R_bound h3) h.bel.size) (fun k hk => key k hk.2.1)⟩
theorem R3.call1 (h : R3 W oa ob a b o5 o6 none d w) {u x : Value} (h2 : Kd.string.R 9 w' w.heap.size (fun _ => True) u a.f2) (h3 : k25.R 25 w' w.heap.size (fun k => some k ≠ u.ownBlock) x a.f3) (k : Below w.heap.size w w') : R3 W oa ob a b o5 o6 (some (u, x)) d w' :=
 have g := h.below k
 ⟨g.ha, g.hb, g.bel, g.n5, g.n6, g.n56, h.got h2 h3, g.hd⟩
theorem R3.call2 (h : R3 W oa ob a b o5 o6 c none w) {u x : Value} (h2 : Kd.string.R 9 w' w.heap.size (fun _ => True) u b.f2) (h3 : k25.R 25 w' w.heap.size (fun k => some k ≠ u.ownBlock) x b.f3) (k : Below w.heap.size w w') : R3 W oa ob a b o5 o6 c (some (u, x)) w' :=
 have g := h.below k
 ⟨g.ha, g.hb, g.bel, g.n5, g.n6, g.n56, g.hc, h.got h2 h3⟩
theorem Got3.new5 (h : Got3 W none o6 p v w) (k : Below w.heap.size w w') : Got3 W (some w.heap.size) o6 p v w' := fun x y e => by
 have key : ∀ {q : Nat}, Fr W none o6 q ∧ q < w.heap.size → Fr W (some w.heap.size) o6 q := fun hq => ⟨hq.1.1, fun g e => by injection e with e; omega, hq.1.2.2⟩
 exact ⟨Kd.R_below (Kd.R_mono (Kd.R_bound (h x y e).1) (fun q hq => key ⟨hq.1, hq.2.2.1⟩)) k, Kd.R_below (Kd.R_mono (Kd.R_bound (h x y e).2) (fun q hq => key ⟨hq.1, hq.2.2.1⟩)) k⟩
theorem Got3.new6 (h : Got3 W o5 none p v w) (k : Below w.heap.size w w') : Got3 W o5 (some w.heap.size) p v w' := fun x y e => by
 have key : ∀ {q : Nat}, Fr W o5 none q ∧ q < w.heap.size → Fr W o5 (some w.heap.size) q := fun hq => ⟨hq.1.1, hq.1.2.1, fun g e => by injection e with e; omega⟩
 exact ⟨Kd.R_below (Kd.R_mono (Kd.R_bound (h x y e).1) (fun q hq => key ⟨hq.1, hq.2.2.1⟩)) k, Kd.R_below (Kd.R_mono (Kd.R_bound (h x y e).2) (fun q hq => key ⟨hq.1, hq.2.2.1⟩)) k⟩
theorem R3.new5 (h : R3 W oa ob a b none o6 c d w) {g : Nat} (hg : g = w.heap.size) (hx : w'.heap[g]? = some Z25) (k : Below w.heap.size w w') : R3 W oa ob a b (some g) o6 c d w' := by
 subst hg
 have q := h.below k
 have l2 := lt_of_block h.hb
 exact ⟨q.ha, q.hb, q.bel, fun g e => by injection e with e; subst e; exact ⟨hx, l2⟩, q.n6, fun g g' e e' => by injection e with e; have := lt_of_block (h.n6 g' e').1; omega, h.hc.new5 k, h.hd.new5 k⟩
theorem R3.new6 (h : R3 W oa ob a b o5 none c d w) {g : Nat} (hg : g = w.heap.size) (hx : w'.heap[g]? = some Z25) (k : Below w.heap.size w w') : R3 W oa ob a b o5 (some g) c d w' := by
 subst hg
 have q := h.below k
 have l2 := lt_of_block h.hb
 exact ⟨q.ha, q.hb, q.bel, q.n5, fun g e => by injection e with e; subst e; exact ⟨hx, l2⟩, fun g g' e e' => by injection e' with e'; have := lt_of_block (h.n5 g e).1; omega, h.hc.new6 k, h.hd.new6 k⟩
end
structure R4 (W : World) (oa ob : Obj) (a b : J) (g5 g6 : Nat) (C2 C3 D2 D3 : Option Addr) (c2 c3 d2 d3 : Nat) (w : World) : Prop where
 ha : w.heap[W.heap.size]? = some oa
 hb : w.heap[W.heap.size + 1]? = some ob
 hc : w.heap[g5]? = some (.cells #[.int .i64 a.f0, .string a.f1, .slice C2 a.f2.length c2, .slice C3 a.f3.length c3] 25 (0, 0))
 hd : w.heap[g6]? = some (.cells #[.int .i64 b.f0, .string b.f1, .slice D2 b.f2.length d2, .slice D3 b.f3.length d3] 25 (0, 0))
 bel : Below W.heap.size W w
 r2 : Kd.string.R 9 w W.heap.size (fun _ => True) (.slice C2 a.f2.length c2) a.f2
 r3 : k25.R 25 w W.heap.size (fun _ => True) (.slice C3 a.f3.length c3) a.f3
 q2 : Kd.string.R 9 w W.heap.size (fun _ => True) (.slice D2 b.f2.length d2) b.f2
 q3 : k25.R 25 w W.heap.size (fun _ => True) (.slice D3 b.f3.length d3) b.f3
section
variable {W w w' : World} {oa ob : Obj} {a b : J} {g5 g6 : Nat} {C2 C3 D2 D3 : Option Addr} {c2 c3 d2 d3 : Nat}
theorem R4.below (h : R4 W oa ob a b g5 g6 C2 C3 D2 D3 c2 c3 d2 d3 w) (k : Below w.heap.size w w') : R4 W oa ob a b g5 g6 C2 C3 D2 D3 c2 c3 d2 d3 w' :=
 ⟨blk_below h.ha k, blk_below h.hb k, blk_below h.hc k, blk_below h.hd k, below_step h.bel k, Kd.R_below h.r2 k, Kd.R_below h.r3 k, Kd.R_below h.q2 k, Kd.R_below h.q3 k⟩
theorem far4 {g k : Nat} {o : Obj} (h : w.heap[k]? = some o) (hne : k ≠ g) (x0 x1 x2 x3 : Value) : (setN4 w g x0 x1 x2 x3).heap[k]? = some o := by
 unfold setN4
 rw [Below.heap_setCell _ _ _ _ hne, Below.heap_setCell _ _ _ _ hne, Below.heap_setCell _ _ _ _ hne, Below.heap_setCell _ _ _ _ hne]
 exact h
theorem R_far4 {α : Type} {d : Kd α} {e base g : Nat} {ok : Nat → Prop} {v : Value} {xs : List α} (h : d.R e w base ok v xs) (hok : ∀ k, ok k → k ≠ g) (x0 x1 x2 x3 : Value) : d.R e (setN4 w g x0 x1 x2 x3) base ok v xs :=
 Kd.R_far (Kd.R_far (Kd.R_far (Kd.R_far h hok _) hok _) hok _) hok _
theorem R3.fin (h : R3 W oa ob a b (some g5) (some g6) (some (.slice C2 a.f2.length c2, .slice C3 a.f3.length c3)) (some (.slice D2 b.f2.length d2, .slice D3 b.f3.length d3)) w) :
  R4 W oa ob a b g5 g6 C2 C3 D2 D3 c2 c3 d2 d3 (setN4 (setN4 w g5 (.int .i64 a.f0) (.string a.f1) (.slice C2 a.f2.length c2) (.slice C3 a.f3.length c3)) g6 (.int .i64 b.f0) (.string b.f1) (.slice D2 b.f2.length d2) (.slice D3 b.f3.length d3)) := by
 obtain ⟨x5, l5⟩ := h.n5 g5 rfl
 obtain ⟨x6, l6⟩ := h.n6 g6 rfl
 have hne := h.n56 g5 g6 rfl rfl
 obtain ⟨h2, h3⟩ := h.hc _ _ rfl
 obtain ⟨k2, k3⟩ := h.hd _ _ rfl
 have f5 : ∀ k, Fr W (some g5) (some g6) k → k ≠ g5 := fun k hk => hk.2.1 g5 rfl
 have f6 : ∀ k, Fr W (some g5) (some g6) k → k ≠ g6 := fun k hk => hk.2.2 g6 rfl
 refine ⟨far4 (far4 h.ha (by omega) _ _ _ _) (by omega) _ _ _ _, far4 (far4 h.hb (by omega) _ _ _ _) (by omega) _ _ _ _, far4 (blk4 x5 _ _ _ _) hne _ _ _ _, blk4 (far4 x6 (Ne.symm hne) _ _ _ _) _ _ _ _, ?_, ?_, ?_, ?_, ?_⟩
 ·exact below_set (below_set (below_set (below_set (below_set (below_set (below_set (below_set h.bel (by omega)) (by omega)) (by omega)) (by omega)) (by omega)) (by omega)) (by omega)) (by omega)
 ·exact Kd.R_mono (R_far4 (R_far4 h2 f5 _ _ _ _) f6 _ _ _ _) (fun _ _ => trivial)
 ·exact Kd.R_mono (R_far4 (R_far4 h3 f5 _ _ _ _) f6 _ _ _ _) (fun _ _ => trivial)
 ·exact Kd.R_mono (R_far4 (R_far4 k2 f5 _ _ _ _) f6 _ _ _ _) (fun _ _ => trivial)
 ·exact Kd.R_mono (R_far4 (R_far4 k3 f5 _ _ _ _) f6 _ _ _ _) (fun _ _ => trivial)
end
end Go.Proofs.YtaalajhmfdcalaaDoor.X
namespace Go.Proofs.YtaalajhmfdcalaaDoor.X
open Go.RowKit Go.Lib Go.Proofs.YtaalajhmfdcalaaDoorW.PrintWords Go.Proofs.YtaalajhmfdcalaaDoorW.PrintLast Go.Proofs.YtaalajhmfdcalaaDoorW.PrintMore
abbrev LgC (W : World) (v : Value) (t : Bool) : Prop := ∀ w, Below W.heap.size W w → Calls Tryd.prog 16 #[v] w fun e w' => e = .returned (.bool t) ∧ Below w.heap.size w w'
abbrev TwC (W : World) (v : Value) (j : J) : Prop := ∀ w, Below W.heap.size W w → Calls Tryd.prog 18 #[v] w fun e w' => ∃ u x : Value, e = .returned (.agg #[.int .i64 j.f0, .string j.f1, u, x]) ∧ Kd.string.R 9 w' w.heap.size (fun _ => True) u j.f2 ∧ k25.R 25 w' w.heap.size (fun k => some k ≠ u.ownBlock) x j.f3 ∧ Below w.heap.size w w'
abbrev SmC (W : World) (x y : J) (t : Bool) : Prop := ∀ (X2 X3 Y2 Y3 : Option Addr) (k2 k3 l2 l3 : Nat) (w : World), Below W.heap.size W w → Kd.C Kd.string w X2 x.f2.length x.f2 → x.f2.length ≤ k2 → Kd.C k25 w X3 x.f3.length x.f3 → x.f3.length ≤ k3 → Kd.C Kd.string w Y2 y.f2.length y.f2 → y.f2.length ≤ l2 → Kd.C k25 w Y3 y.f3.length y.f3 → y.f3.length ≤ l3 →
 Calls Tryd.prog 22 #[jVal x.f0 x.f1 X2 X3 x.f2.length k2 x.f3.length k3, jVal y.f0 y.f1 Y2 Y3 y.f2.length l2 y.f3.length l3] w fun e w' => e = .returned (.bool t) ∧ Below w.heap.size w w'
abbrev EqC (W : World) (v : Value) (x : J) : Prop := ∀ (X2 X3 : Option Addr) (k2 k3 : Nat) (w : World), Below W.heap.size W w → Kd.C Kd.string w X2 x.f2.length x.f2 → Kd.C k25 w X3 x.f3.length x.f3 →
 Calls Tryd.prog 15 #[jVal x.f0 x.f1 X2 X3 x.f2.length k2 x.f3.length k3, v] w fun e w' => e = .returned (.bool true) ∧ Below w.heap.size w w'
abbrev BoC (W : World) (f : FuncId) (args : Array Value) (t : Bool) : Prop := ∀ w, Below W.heap.size W w → Calls Tryd.prog f args w fun e w' => e = .returned (.bool t) ∧ Below w.heap.size w w'
set_option maxRecDepth 1000000 in
set_option maxHeartbeats 16000000 in
theorem sames_small (a b : J) (A2 A3 B2 B3 : Option Addr) (c2 c3 d2 d3 : Nat) (W : World) (hla : LgC W (jVal a.f0 a.f1 A2 A3 a.f2.length c2 a.f3.length c3) false) (hlb : LgC W (jVal b.f0 b.f1 B2 B3 b.f2.length d2 b.f3.length d3) false) (hta : TwC W (jVal a.f0 a.f1 A2 A3 a.f2.length c2 a.f3.length c3) a) (htb : TwC W (jVal b.f0 b.f1 B2 B3 b.f2.length d2 b.f3.length d3) b) (s v : Bool) (hsm : SmC W a b s) (hsd : SmC W b a s) (hss : SmC W a a v) (hrs : BoC W 23 #[jVal a.f0 a.f1 A2 A3 a.f2.length c2 a.f3.length c3, jVal b.f0 b.f1 B2 B3 b.f2.length d2 b.f3.length d3] s) (hrv : BoC W 24 #[jVal a.f0 a.f1 A2 A3 a.f2.length c2 a.f3.length c3, .int .i64 0] v) (hlv : BoC W 13 #[] true) (hea : EqC W (jVal a.f0 a.f1 A2 A3 a.f2.length c2 a.f3.length c3) a) (heb : EqC W (jVal b.f0 b.f1 B2 B3 b.f2.length d2 b.f3.length d3) b) :
  Calls Tryd.prog 7 #[jVal a.f0 a.f1 A2 A3 a.f2.length c2 a.f3.length c3, jVal b.f0 b.f1 B2 B3 b.f2.length d2 b.f3.length d3] W fun e w' => e = .returned (.bool true) ∧ Below W.heap.size W w' := by
 obtain ⟨F0, F1, F2⟩ := says_boxes W (.cells #[.int .i64 a.f0, .string a.f1, .slice A2 a.f2.length c2, .slice A3 a.f3.length c3] 25) (.cells #[.int .i64 b.f0, .string b.f1, .slice B2 b.f2.length d2, .slice B3 b.f3.length d3] 25)
 have HS := Aside0.mk (show R3 W (BxJ a A2 A3 c2 c3) (BxJ b B2 B3 d2 d3) a b none none none none _ from ⟨F1, F2, F0, fun _ e => (by cases e), fun _ e => (by cases e), fun _ _ e => (by cases e), Got3.nil, Got3.nil⟩)
 have HLA := Aside0.mk hla
 have HLB := Aside0.mk hlb
 have HTA := Aside0.mk hta
 have HTB := Aside0.mk htb
 have HSM := Aside0.mk hsm
 have HSD := Aside0.mk hsd
 have HSS := Aside0.mk hss
 have HRS := Aside0.mk hrs
 have HRV := Aside0.mk hrv
 have HLV := Aside0.mk hlv
 have HEA := Aside0.mk hea
 have HEB := Aside0.mk heb
 clear hla hlb hta htb hsm hsd hss hrs hrv hlv hea heb F0 F1 F2
 go_enter Tryd.func7, Tryd.ntmps7
 go_upto_region 3 with (first | (go_at_call 16; (with_reducible refine (HLA.out _ HS.out.bel).mono ?_); rintro e w1 ⟨rfl, hb⟩; have HS1 := Aside0.mk (HS.out.below hb); clear hb; have q0 := (blk_cell HS1.out.hb 0).trans rfl; have q1 := (blk_cell HS1.out.hb 1).trans rfl; have q2 := (blk_cell HS1.out.hb 2).trans rfl; have q3 := (blk_cell HS1.out.hb 3).trans rfl) | (go_at_call 16; (with_reducible refine (HLB.out _ HS1.out.bel).mono ?_); rintro e w2 ⟨rfl, hb⟩; have HS2 := Aside0.mk (HS1.out.below hb); clear hb q0 q1 q2 q3))
 have HF0 := Aside0.mk (HS2.out.below (show Below w2.heap.size w2 w2.drew from pw_below_drewN (Below.refl _ _) 1))
 refine start_ (n := 8) (S := fun w' => w'.heap[W.heap.size]? = some (BxJ a A2 A3 c2 c3) ∧ w'.heap[W.heap.size + 1]? = some (BxJ b B2 B3 d2 d3)) (ds := []) #[false, false, false, false, false, false, false, false] (by kernel_rfl) rfl rfl ⟨HF0.out.ha, HF0.out.hb⟩ (fun hHeld => ?_)
 refine take_ (i := 0) (N := some 13) (v := ?_) (a' := ?_) #[true, false, false, false, false, false, false, false] rfl rfl (by kernel_rfl) (fun _ _ _ h => h) (Or.inl ⟨by rfl, ?_⟩) hHeld ?_ ?_
 rotate_left
 ·rintro w' ⟨s0, s1⟩
  have q0 := (blk_cell s0 0).trans rfl
  have q1 := (blk_cell s0 1).trans rfl
  have q2 := (blk_cell s0 2).trans rfl
  have q3 := (blk_cell s0 3).trans rfl
  clear s0 s1
  go_simp
  with_reducible rfl
 rotate_left
 ·simp only [Act.put, List.setIfInBounds_toArray, List.set_cons_zero, List.set_cons_succ, i64_w, i32_w]
  rfl
 refine take_ (i := 2) (N := some 15) (v := ?_) (a' := ?_) #[true, false, true, false, false, false, false, false] rfl rfl (by kernel_rfl) (fun _ _ _ h => h) (Or.inl ⟨by rfl, ?_⟩) hHeld ?_ ?_
 rotate_left
 ·rintro w' ⟨s0, s1⟩
  have q0 := (blk_cell s1 0).trans rfl
  have q1 := (blk_cell s1 1).trans rfl
  have q2 := (blk_cell s1 2).trans rfl
  have q3 := (blk_cell s1 3).trans rfl
  clear s0 s1
  go_simp
  with_reducible rfl
 rotate_left
 ·simp only [Act.put, List.setIfInBounds_toArray, List.set_cons_zero, List.set_cons_succ, i64_w, i32_w]
  rfl
 refine join_ (σ := Value × Value × Value × Value × Nat × Nat) 2 #[true, true, true, true, true, true, false, false] (fun s_ => [(14, .agg #[.int .i64 a.f0, .string a.f1, s_.1, s_.2.1]), (16, .agg #[.int .i64 b.f0, .string b.f1, s_.2.2.1, s_.2.2.2.1]), (5, .pointer (some ⟨s_.2.2.2.2.1, 0, none⟩)), (6, .pointer (some ⟨s_.2.2.2.2.2, 0, none⟩))]) (fun s_ w' => R3 W (BxJ a A2 A3 c2 c3) (BxJ b B2 B3 d2 d3) a b (some s_.2.2.2.2.1) (some s_.2.2.2.2.2) (some (s_.1, s_.2.1)) (some (s_.2.2.1, s_.2.2.2.1)) w') ?_ ?_
 rotate_left
 intro hJ1345
 refine join_ (σ := Value × Value × Value × Value × Nat) 3 #[true, true, true, true, true, false, false, false] (fun s_ => [(14, .agg #[.int .i64 a.f0, .string a.f1, s_.1, s_.2.1]), (16, .agg #[.int .i64 b.f0, .string b.f1, s_.2.2.1, s_.2.2.2.1]), (5, .pointer (some ⟨s_.2.2.2.2, 0, none⟩))]) (fun s_ w' => R3 W (BxJ a A2 A3 c2 c3) (BxJ b B2 B3 d2 d3) a b (some s_.2.2.2.2) none (some (s_.1, s_.2.1)) (some (s_.2.2.1, s_.2.2.2.1)) w') ?_ ?_
 rotate_left
 intro hJ134
 refine join_ (σ := Value × Value × Value × Value × Nat) 3 #[true, true, true, true, false, true, false, false] (fun s_ => [(14, .agg #[.int .i64 a.f0, .string a.f1, s_.1, s_.2.1]), (16, .agg #[.int .i64 b.f0, .string b.f1, s_.2.2.1, s_.2.2.2.1]), (6, .pointer (some ⟨s_.2.2.2.2, 0, none⟩))]) (fun s_ w' => R3 W (BxJ a A2 A3 c2 c3) (BxJ b B2 B3 d2 d3) a b none (some s_.2.2.2.2) (some (s_.1, s_.2.1)) (some (s_.2.2.1, s_.2.2.2.1)) w') ?_ ?_
 rotate_left
 intro hJ135
 refine join_ (σ := Value × Value × Nat × Nat) 3 #[true, true, true, false, true, true, false, false] (fun s_ => [(14, .agg #[.int .i64 a.f0, .string a.f1, s_.1, s_.2.1]), (5, .pointer (some ⟨s_.2.2.1, 0, none⟩)), (6, .pointer (some ⟨s_.2.2.2, 0, none⟩))]) (fun s_ w' => R3 W (BxJ a A2 A3 c2 c3) (BxJ b B2 B3 d2 d3) a b (some s_.2.2.1) (some s_.2.2.2) (some (s_.1, s_.2.1)) none w') ?_ ?_
 rotate_left
 intro hJ145
 refine join_ (σ := Value × Value × Value × Value) 4 #[true, true, true, true, false, false, false, false] (fun s_ => [(14, .agg #[.int .i64 a.f0, .string a.f1, s_.1, s_.2.1]), (16, .agg #[.int .i64 b.f0, .string b.f1, s_.2.2.1, s_.2.2.2])]) (fun s_ w' => R3 W (BxJ a A2 A3 c2 c3) (BxJ b B2 B3 d2 d3) a b none none (some (s_.1, s_.2.1)) (some (s_.2.2.1, s_.2.2.2)) w') ?_ ?_
 rotate_left
 intro hJ13
 refine join_ (σ := Value × Value × Nat) 4 #[true, true, true, false, true, false, false, false] (fun s_ => [(14, .agg #[.int .i64 a.f0, .string a.f1, s_.1, s_.2.1]), (5, .pointer (some ⟨s_.2.2, 0, none⟩))]) (fun s_ w' => R3 W (BxJ a A2 A3 c2 c3) (BxJ b B2 B3 d2 d3) a b (some s_.2.2) none (some (s_.1, s_.2.1)) none w') ?_ ?_
 rotate_left
 intro hJ14
 refine join_ (σ := Value × Value × Nat) 4 #[true, true, true, false, false, true, false, false] (fun s_ => [(14, .agg #[.int .i64 a.f0, .string a.f1, s_.1, s_.2.1]), (6, .pointer (some ⟨s_.2.2, 0, none⟩))]) (fun s_ w' => R3 W (BxJ a A2 A3 c2 c3) (BxJ b B2 B3 d2 d3) a b none (some s_.2.2) (some (s_.1, s_.2.1)) none w') ?_ ?_
 rotate_left
 intro hJ15
 refine join_ (σ := Nat × Nat) 4 #[true, false, true, false, true, true, false, false] (fun s_ => [(5, .pointer (some ⟨s_.1, 0, none⟩)), (6, .pointer (some ⟨s_.2, 0, none⟩))]) (fun s_ w' => R3 W (BxJ a A2 A3 c2 c3) (BxJ b B2 B3 d2 d3) a b (some s_.1) (some s_.2) none none w') ?_ ?_
 rotate_left
 intro hJ45
 refine join_ (σ := Value × Value) 5 #[true, true, true, false, false, false, false, false] (fun s_ => [(14, .agg #[.int .i64 a.f0, .string a.f1, s_.1, s_.2])]) (fun s_ w' => R3 W (BxJ a A2 A3 c2 c3) (BxJ b B2 B3 d2 d3) a b none none (some (s_.1, s_.2)) none w') ?_ ?_
 rotate_left
 intro hJ1
 refine join_ (σ := Nat) 5 #[true, false, true, false, true, false, false, false] (fun s_ => [(5, .pointer (some ⟨s_, 0, none⟩))]) (fun s_ w' => R3 W (BxJ a A2 A3 c2 c3) (BxJ b B2 B3 d2 d3) a b (some s_) none none none w') ?_ ?_
 rotate_left
 intro hJ4
 refine join_ (σ := Nat) 5 #[true, false, true, false, false, true, false, false] (fun s_ => [(6, .pointer (some ⟨s_, 0, none⟩))]) (fun s_ w' => R3 W (BxJ a A2 A3 c2 c3) (BxJ b B2 B3 d2 d3) a b none (some s_) none none w') ?_ ?_
 rotate_left
 intro hJ5
 have HF := HF0
 refine three_ (i := 1) (j := 4) (k := 5) (Ni := some 14) (Nj := some 5) (Nk := some 6) #[true, true, true, false, false, false, false, false] #[true, false, true, false, true, false, false, false] #[true, false, true, false, false, true, false, false] rfl rfl rfl rfl rfl rfl (by kernel_rfl) (by decide) (by decide) (by decide) (fun K hK => ?_) (fun K hK => ?_) (fun K hK => ?_)
 ·refine goes_ Tryd.func18 (by kernel_rfl) rfl #[jVal a.f0 a.f1 A2 A3 a.f2.length c2 a.f3.length c3] (by rfl) rfl rfl (by (try simp only [List.map_toArray, List.map_cons, List.map_nil]); first | done | rfl) ?_
  refine (HTA.out _ HF.out.bel).mono ?_
  rintro e w4 ⟨u1, x1, rfl, h2, h3, hb⟩
  refine ⟨_, rfl, ?_⟩
  have HG := Aside0.mk (HF.out.call1 h2 h3 hb)
  clear h2 h3 hb
  refine hK.out _ _ ⟨HG.out.ha, HG.out.hb⟩ (fun hHeld => ?_)
  clear hK K
  refine norm_ (a' := ?_) ?_ ?_
  rotate_left
  ·show Act.put _ (some 14) _ = _
   simp only [Act.put, List.setIfInBounds_toArray, List.set_cons_zero, List.set_cons_succ, i64_w, i32_w]
   rfl
  exact norm_ (by first | (simp only [putAll, Act.put, List.setIfInBounds_toArray, List.set_cons_zero, List.set_cons_succ]; done) | (simp only [putAll, Act.put, List.setIfInBounds_toArray, List.set_cons_zero, List.set_cons_succ]; rfl)) (hJ1 (u1, x1) _ HG.out)
 ·refine box_step ?hg (N := 5) ?hd (cs := #[.int .i64 0, .string (⟨#[]⟩ : ByteArray), .slice none 0 0, .slice none 0 0]) (t := 25) ?hr ?_; (case hd => rfl); (case hg => rfl); (case hr => first | (go_simp; done) | (go_simp; rfl))
  intro g5 hg w4 hbox hb
  have HG := Aside0.mk (HF.out.new5 hg hbox hb)
  clear hg hbox hb
  refine hK.out _ _ ⟨HG.out.ha, HG.out.hb⟩ (fun hHeld => ?_)
  clear hK K
  refine norm_ (a' := ?_) ?_ ?_
  rotate_left
  ·show Act.put _ (some 5) _ = _
   simp only [Act.put, List.setIfInBounds_toArray, List.set_cons_zero, List.set_cons_succ, i64_w, i32_w]
   rfl
  exact norm_ (by first | (simp only [putAll, Act.put, List.setIfInBounds_toArray, List.set_cons_zero, List.set_cons_succ]; done) | (simp only [putAll, Act.put, List.setIfInBounds_toArray, List.set_cons_zero, List.set_cons_succ]; rfl)) (hJ4 (g5) _ HG.out)
 ·refine box_step ?hg (N := 6) ?hd (cs := #[.int .i64 0, .string (⟨#[]⟩ : ByteArray), .slice none 0 0, .slice none 0 0]) (t := 25) ?hr ?_; (case hd => rfl); (case hg => rfl); (case hr => first | (go_simp; done) | (go_simp; rfl))
  intro g6 hg w4 hbox hb
  have HG := Aside0.mk (HF.out.new6 hg hbox hb)
  clear hg hbox hb
  refine hK.out _ _ ⟨HG.out.ha, HG.out.hb⟩ (fun hHeld => ?_)
  clear hK K
  refine norm_ (a' := ?_) ?_ ?_
  rotate_left
  ·show Act.put _ (some 6) _ = _
   simp only [Act.put, List.setIfInBounds_toArray, List.set_cons_zero, List.set_cons_succ, i64_w, i32_w]
   rfl
  exact norm_ (by first | (simp only [putAll, Act.put, List.setIfInBounds_toArray, List.set_cons_zero, List.set_cons_succ]; done) | (simp only [putAll, Act.put, List.setIfInBounds_toArray, List.set_cons_zero, List.set_cons_succ]; rfl)) (hJ5 (g6) _ HG.out)
 rintro ⟨u1, x1, u2, x2, g5, g6⟩ w3 hF
 have HF := Aside0.mk (show R3 W (BxJ a A2 A3 c2 c3) (BxJ b B2 B3 d2 d3) a b (some g5) (some g6) (some (u1, x1)) (some (u2, x2)) w3 from hF)
 clear hF
 obtain ⟨C2, e2, e9⟩ := Kd.R_slice (HF.out.hc _ _ rfl).1
 subst e9
 obtain ⟨C3, e3, e9⟩ := Kd.R_slice (HF.out.hc _ _ rfl).2
 subst e9
 obtain ⟨D2, k2, e9⟩ := Kd.R_slice (HF.out.hd _ _ rfl).1
 subst e9
 obtain ⟨D3, k3, e9⟩ := Kd.R_slice (HF.out.hd _ _ rfl).2
 subst e9
 have hHeld := (⟨HF.out.ha, HF.out.hb⟩ : _ ∧ _)
 refine norm_ (a' := ?_) ?_ ?_
 rotate_left
 ·simp only [putAll, Act.put, List.setIfInBounds_toArray, List.set_cons_zero, List.set_cons_succ]
  rfl
 have HFIN := Aside0.mk (show R4 W (BxJ a A2 A3 c2 c3) (BxJ b B2 B3 d2 d3) a b g5 g6 C2 C3 D2 D3 e2 e3 k2 k3 ((((((((w3.setCell ⟨g5, 0, none⟩ (Value.int .i64 a.f0)).setCell ⟨g5, 1, none⟩ (.string a.f1)).setCell ⟨g5, 2, none⟩ (.slice C2 a.f2.length e2)).setCell ⟨g5, 3, none⟩ (.slice C3 a.f3.length e3)).setCell ⟨g6, 0, none⟩ (Value.int .i64 b.f0)).setCell ⟨g6, 1, none⟩ (.string b.f1)).setCell ⟨g6, 2, none⟩ (.slice D2 b.f2.length k2)).setCell ⟨g6, 3, none⟩ (.slice D3 b.f3.length k3)) from HF.out.fin)
 have H5 := Aside0.mk (HF.out.n5 g5 rfl).1
 have H6 := Aside0.mk (show ((((w3.setCell ⟨g5, 0, none⟩ (Value.int .i64 a.f0)).setCell ⟨g5, 1, none⟩ (.string a.f1)).setCell ⟨g5, 2, none⟩ (.slice C2 a.f2.length e2)).setCell ⟨g5, 3, none⟩ (.slice C3 a.f3.length e3)).heap[g6]? = some Z25 from far4 (HF.out.n6 g6 rfl).1 (Ne.symm (HF.out.n56 g5 g6 rfl rfl)) _ _ _ _)
 have HA7 := Aside0.mk (show ((((w3.setCell ⟨g5, 0, none⟩ (Value.int .i64 a.f0)).setCell ⟨g5, 1, none⟩ (.string a.f1)).setCell ⟨g5, 2, none⟩ (.slice C2 a.f2.length e2)).setCell ⟨g5, 3, none⟩ (.slice C3 a.f3.length e3)).heap[W.heap.size]? = some (BxJ a A2 A3 c2 c3) from far4 HF.out.ha (by have := (HF.out.n5 g5 rfl).2; omega) _ _ _ _)
 have HB7 := Aside0.mk (show ((((w3.setCell ⟨g5, 0, none⟩ (Value.int .i64 a.f0)).setCell ⟨g5, 1, none⟩ (.string a.f1)).setCell ⟨g5, 2, none⟩ (.slice C2 a.f2.length e2)).setCell ⟨g5, 3, none⟩ (.slice C3 a.f3.length e3)).heap[W.heap.size + 1]? = some (BxJ b B2 B3 d2 d3) from far4 HF.out.hb (by have := (HF.out.n5 g5 rfl).2; omega) _ _ _ _)
 refine one_ (i := 6) (N := none) #[true, true, true, true, true, true, true, false] rfl rfl (by kernel_rfl) (by decide) (fun K hK => ?_)
 have hs0 : w3.cell? ⟨g5, 0, none⟩ = some (Value.int .i64 0) := (blk_cell H5.out 0).trans rfl
 have hf0 := blk_frozen H5.out 0
 have hs1 : w3.cell? ⟨g5, 1, none⟩ = some (.string (⟨#[]⟩ : ByteArray)) := (blk_cell H5.out 1).trans rfl
 have hf1 := blk_frozen H5.out 1
 have hs2 : w3.cell? ⟨g5, 2, none⟩ = some (.slice none 0 0) := (blk_cell H5.out 2).trans rfl
 have hf2 := blk_frozen H5.out 2
 have hs3 : w3.cell? ⟨g5, 3, none⟩ = some (.slice none 0 0) := (blk_cell H5.out 3).trans rfl
 have hf3 := blk_frozen H5.out 3
 refine skip_ (w1 := ?_) (by rfl) rfl ?_ ?_
 rotate_left
 ·go_simp
  rfl
 refine hK.out _ _ ⟨HA7.out, HB7.out⟩ (fun hHeld => ?_)
 clear hK K
 clear hs0 hf0 hs1 hf1 hs2 hf2 hs3 hf3 HF
 have HA8 := Aside0.mk (show ((((((((w3.setCell ⟨g5, 0, none⟩ (Value.int .i64 a.f0)).setCell ⟨g5, 1, none⟩ (.string a.f1)).setCell ⟨g5, 2, none⟩ (.slice C2 a.f2.length e2)).setCell ⟨g5, 3, none⟩ (.slice C3 a.f3.length e3)).setCell ⟨g6, 0, none⟩ (Value.int .i64 b.f0)).setCell ⟨g6, 1, none⟩ (.string b.f1)).setCell ⟨g6, 2, none⟩ (.slice D2 b.f2.length k2)).setCell ⟨g6, 3, none⟩ (.slice D3 b.f3.length k3)).heap[W.heap.size]? = some (BxJ a A2 A3 c2 c3) from HFIN.out.ha)
 have HB8 := Aside0.mk (show ((((((((w3.setCell ⟨g5, 0, none⟩ (Value.int .i64 a.f0)).setCell ⟨g5, 1, none⟩ (.string a.f1)).setCell ⟨g5, 2, none⟩ (.slice C2 a.f2.length e2)).setCell ⟨g5, 3, none⟩ (.slice C3 a.f3.length e3)).setCell ⟨g6, 0, none⟩ (Value.int .i64 b.f0)).setCell ⟨g6, 1, none⟩ (.string b.f1)).setCell ⟨g6, 2, none⟩ (.slice D2 b.f2.length k2)).setCell ⟨g6, 3, none⟩ (.slice D3 b.f3.length k3)).heap[W.heap.size + 1]? = some (BxJ b B2 B3 d2 d3) from HFIN.out.hb)
 generalize ((((w3.setCell ⟨g5, 0, none⟩ (Value.int .i64 a.f0)).setCell ⟨g5, 1, none⟩ (.string a.f1)).setCell ⟨g5, 2, none⟩ (.slice C2 a.f2.length e2)).setCell ⟨g5, 3, none⟩ (.slice C3 a.f3.length e3)) = w7 at HFIN H6 HA7 HB7 HA8 HB8 hHeld ⊢
 refine one_ (i := 7) (N := none) #[true, true, true, true, true, true, true, true] rfl rfl (by kernel_rfl) (by decide) (fun K hK => ?_)
 have hs0 : w7.cell? ⟨g6, 0, none⟩ = some (Value.int .i64 0) := (blk_cell H6.out 0).trans rfl
 have hf0 := blk_frozen H6.out 0
 have hs1 : w7.cell? ⟨g6, 1, none⟩ = some (.string (⟨#[]⟩ : ByteArray)) := (blk_cell H6.out 1).trans rfl
 have hf1 := blk_frozen H6.out 1
 have hs2 : w7.cell? ⟨g6, 2, none⟩ = some (.slice none 0 0) := (blk_cell H6.out 2).trans rfl
 have hf2 := blk_frozen H6.out 2
 have hs3 : w7.cell? ⟨g6, 3, none⟩ = some (.slice none 0 0) := (blk_cell H6.out 3).trans rfl
 have hf3 := blk_frozen H6.out 3
 refine skip_ (w1 := ?_) (by rfl) rfl ?_ ?_
 rotate_left
 ·go_simp
  rfl
 refine hK.out _ _ ⟨HA8.out, HB8.out⟩ (fun hHeld => ?_)
 clear hK K
 clear hs0 hf0 hs1 hf1 hs2 hf2 hs3 hf3 HA7 HB7 HA8 HB8 H5 H6 hHeld
 refine done_ (by kernel_rfl) ?_
 generalize ((((w7.setCell ⟨g6, 0, none⟩ (Value.int .i64 b.f0)).setCell ⟨g6, 1, none⟩ (.string b.f1)).setCell ⟨g6, 2, none⟩ (.slice D2 b.f2.length k2)).setCell ⟨g6, 3, none⟩ (.slice D3 b.f3.length k3)) = w8 at HFIN ⊢
 rotate_left
 rintro ⟨u1, x1, u2, x2, g5⟩ w3 hF
 have HF := Aside0.mk (show R3 W (BxJ a A2 A3 c2 c3) (BxJ b B2 B3 d2 d3) a b (some g5) none (some (u1, x1)) (some (u2, x2)) w3 from hF)
 clear hF
 have hHeld := (⟨HF.out.ha, HF.out.hb⟩ : _ ∧ _)
 refine norm_ (a' := ?_) ?_ ?_
 rotate_left
 ·simp only [putAll, Act.put, List.setIfInBounds_toArray, List.set_cons_zero, List.set_cons_succ]
  rfl
 refine one_ (i := 5) (N := some 6) #[true, true, true, true, true, true, false, false] rfl rfl (by kernel_rfl) (by decide) (fun K hK => ?_)
 refine box_step ?hg (N := 6) ?hd (cs := #[.int .i64 0, .string (⟨#[]⟩ : ByteArray), .slice none 0 0, .slice none 0 0]) (t := 25) ?hr ?_; (case hd => rfl); (case hg => rfl); (case hr => first | (go_simp; done) | (go_simp; rfl))
 intro g6 hg w4 hbox hb
 have HG := Aside0.mk (HF.out.new6 hg hbox hb)
 clear hg hbox hb
 refine hK.out _ _ ⟨HG.out.ha, HG.out.hb⟩ (fun hHeld => ?_)
 clear hK K
 refine norm_ (a' := ?_) ?_ ?_
 rotate_left
 ·show Act.put _ (some 6) _ = _
  simp only [Act.put, List.setIfInBounds_toArray, List.set_cons_zero, List.set_cons_succ, i64_w, i32_w]
  rfl
 exact norm_ (by first | (simp only [putAll, Act.put, List.setIfInBounds_toArray, List.set_cons_zero, List.set_cons_succ]; done) | (simp only [putAll, Act.put, List.setIfInBounds_toArray, List.set_cons_zero, List.set_cons_succ]; rfl)) (hJ1345 (u1, x1, u2, x2, g5, g6) _ HG.out)
 rintro ⟨u1, x1, u2, x2, g6⟩ w3 hF
 have HF := Aside0.mk (show R3 W (BxJ a A2 A3 c2 c3) (BxJ b B2 B3 d2 d3) a b none (some g6) (some (u1, x1)) (some (u2, x2)) w3 from hF)
 clear hF
 have hHeld := (⟨HF.out.ha, HF.out.hb⟩ : _ ∧ _)
 refine norm_ (a' := ?_) ?_ ?_
 rotate_left
 ·simp only [putAll, Act.put, List.setIfInBounds_toArray, List.set_cons_zero, List.set_cons_succ]
  rfl
 refine one_ (i := 4) (N := some 5) #[true, true, true, true, true, true, false, false] rfl rfl (by kernel_rfl) (by decide) (fun K hK => ?_)
 refine box_step ?hg (N := 5) ?hd (cs := #[.int .i64 0, .string (⟨#[]⟩ : ByteArray), .slice none 0 0, .slice none 0 0]) (t := 25) ?hr ?_; (case hd => rfl); (case hg => rfl); (case hr => first | (go_simp; done) | (go_simp; rfl))
 intro g5 hg w4 hbox hb
 have HG := Aside0.mk (HF.out.new5 hg hbox hb)
 clear hg hbox hb
 refine hK.out _ _ ⟨HG.out.ha, HG.out.hb⟩ (fun hHeld => ?_)
 clear hK K
 refine norm_ (a' := ?_) ?_ ?_
 rotate_left
 ·show Act.put _ (some 5) _ = _
  simp only [Act.put, List.setIfInBounds_toArray, List.set_cons_zero, List.set_cons_succ, i64_w, i32_w]
  rfl
 exact norm_ (by first | (simp only [putAll, Act.put, List.setIfInBounds_toArray, List.set_cons_zero, List.set_cons_succ]; done) | (simp only [putAll, Act.put, List.setIfInBounds_toArray, List.set_cons_zero, List.set_cons_succ]; rfl)) (hJ1345 (u1, x1, u2, x2, g5, g6) _ HG.out)
 rintro ⟨u1, x1, g5, g6⟩ w3 hF
 have HF := Aside0.mk (show R3 W (BxJ a A2 A3 c2 c3) (BxJ b B2 B3 d2 d3) a b (some g5) (some g6) (some (u1, x1)) none w3 from hF)
 clear hF
 have hHeld := (⟨HF.out.ha, HF.out.hb⟩ : _ ∧ _)
 refine norm_ (a' := ?_) ?_ ?_
 rotate_left
 ·simp only [putAll, Act.put, List.setIfInBounds_toArray, List.set_cons_zero, List.set_cons_succ]
  rfl
 refine one_ (i := 3) (N := some 16) #[true, true, true, true, true, true, false, false] rfl rfl (by kernel_rfl) (by decide) (fun K hK => ?_)
 refine goes_ Tryd.func18 (by kernel_rfl) rfl #[jVal b.f0 b.f1 B2 B3 b.f2.length d2 b.f3.length d3] (by rfl) rfl rfl (by (try simp only [List.map_toArray, List.map_cons, List.map_nil]); first | done | rfl) ?_
 refine (HTB.out _ HF.out.bel).mono ?_
 rintro e w4 ⟨u2, x2, rfl, h2, h3, hb⟩
 refine ⟨_, rfl, ?_⟩
 have HG := Aside0.mk (HF.out.call2 h2 h3 hb)
 clear h2 h3 hb
 refine hK.out _ _ ⟨HG.out.ha, HG.out.hb⟩ (fun hHeld => ?_)
 clear hK K
 refine norm_ (a' := ?_) ?_ ?_
 rotate_left
 ·show Act.put _ (some 16) _ = _
  simp only [Act.put, List.setIfInBounds_toArray, List.set_cons_zero, List.set_cons_succ, i64_w, i32_w]
  rfl
 exact norm_ (by first | (simp only [putAll, Act.put, List.setIfInBounds_toArray, List.set_cons_zero, List.set_cons_succ]; done) | (simp only [putAll, Act.put, List.setIfInBounds_toArray, List.set_cons_zero, List.set_cons_succ]; rfl)) (hJ1345 (u1, x1, u2, x2, g5, g6) _ HG.out)
 rintro ⟨u1, x1, u2, x2⟩ w3 hF
 have HF := Aside0.mk (show R3 W (BxJ a A2 A3 c2 c3) (BxJ b B2 B3 d2 d3) a b none none (some (u1, x1)) (some (u2, x2)) w3 from hF)
 clear hF
 have hHeld := (⟨HF.out.ha, HF.out.hb⟩ : _ ∧ _)
 refine norm_ (a' := ?_) ?_ ?_
 rotate_left
 ·simp only [putAll, Act.put, List.setIfInBounds_toArray, List.set_cons_zero, List.set_cons_succ]
  rfl
 refine two_ (i := 4) (j := 5) (Ni := some 5) (Nj := some 6) #[true, true, true, true, true, false, false, false] #[true, true, true, true, false, true, false, false] rfl rfl rfl rfl (by kernel_rfl) (by decide) (by decide) (fun K hK => ?_) (fun K hK => ?_)
 ·refine box_step ?hg (N := 5) ?hd (cs := #[.int .i64 0, .string (⟨#[]⟩ : ByteArray), .slice none 0 0, .slice none 0 0]) (t := 25) ?hr ?_; (case hd => rfl); (case hg => rfl); (case hr => first | (go_simp; done) | (go_simp; rfl))
  intro g5 hg w4 hbox hb
  have HG := Aside0.mk (HF.out.new5 hg hbox hb)
  clear hg hbox hb
  refine hK.out _ _ ⟨HG.out.ha, HG.out.hb⟩ (fun hHeld => ?_)
  clear hK K
  refine norm_ (a' := ?_) ?_ ?_
  rotate_left
  ·show Act.put _ (some 5) _ = _
   simp only [Act.put, List.setIfInBounds_toArray, List.set_cons_zero, List.set_cons_succ, i64_w, i32_w]
   rfl
  exact norm_ (by first | (simp only [putAll, Act.put, List.setIfInBounds_toArray, List.set_cons_zero, List.set_cons_succ]; done) | (simp only [putAll, Act.put, List.setIfInBounds_toArray, List.set_cons_zero, List.set_cons_succ]; rfl)) (hJ134 (u1, x1, u2, x2, g5) _ HG.out)
 ·refine box_step ?hg (N := 6) ?hd (cs := #[.int .i64 0, .string (⟨#[]⟩ : ByteArray), .slice none 0 0, .slice none 0 0]) (t := 25) ?hr ?_; (case hd => rfl); (case hg => rfl); (case hr => first | (go_simp; done) | (go_simp; rfl))
  intro g6 hg w4 hbox hb
  have HG := Aside0.mk (HF.out.new6 hg hbox hb)
  clear hg hbox hb
  refine hK.out _ _ ⟨HG.out.ha, HG.out.hb⟩ (fun hHeld => ?_)
  clear hK K
  refine norm_ (a' := ?_) ?_ ?_
  rotate_left
  ·show Act.put _ (some 6) _ = _
   simp only [Act.put, List.setIfInBounds_toArray, List.set_cons_zero, List.set_cons_succ, i64_w, i32_w]
   rfl
  exact norm_ (by first | (simp only [putAll, Act.put, List.setIfInBounds_toArray, List.set_cons_zero, List.set_cons_succ]; done) | (simp only [putAll, Act.put, List.setIfInBounds_toArray, List.set_cons_zero, List.set_cons_succ]; rfl)) (hJ135 (u1, x1, u2, x2, g6) _ HG.out)
 rintro ⟨u1, x1, g5⟩ w3 hF
 have HF := Aside0.mk (show R3 W (BxJ a A2 A3 c2 c3) (BxJ b B2 B3 d2 d3) a b (some g5) none (some (u1, x1)) none w3 from hF)
 clear hF
 have hHeld := (⟨HF.out.ha, HF.out.hb⟩ : _ ∧ _)
 refine norm_ (a' := ?_) ?_ ?_
 rotate_left
 ·simp only [putAll, Act.put, List.setIfInBounds_toArray, List.set_cons_zero, List.set_cons_succ]
  rfl
 refine two_ (i := 3) (j := 5) (Ni := some 16) (Nj := some 6) #[true, true, true, true, true, false, false, false] #[true, true, true, false, true, true, false, false] rfl rfl rfl rfl (by kernel_rfl) (by decide) (by decide) (fun K hK => ?_) (fun K hK => ?_)
 ·refine goes_ Tryd.func18 (by kernel_rfl) rfl #[jVal b.f0 b.f1 B2 B3 b.f2.length d2 b.f3.length d3] (by rfl) rfl rfl (by (try simp only [List.map_toArray, List.map_cons, List.map_nil]); first | done | rfl) ?_
  refine (HTB.out _ HF.out.bel).mono ?_
  rintro e w4 ⟨u2, x2, rfl, h2, h3, hb⟩
  refine ⟨_, rfl, ?_⟩
  have HG := Aside0.mk (HF.out.call2 h2 h3 hb)
  clear h2 h3 hb
  refine hK.out _ _ ⟨HG.out.ha, HG.out.hb⟩ (fun hHeld => ?_)
  clear hK K
  refine norm_ (a' := ?_) ?_ ?_
  rotate_left
  ·show Act.put _ (some 16) _ = _
   simp only [Act.put, List.setIfInBounds_toArray, List.set_cons_zero, List.set_cons_succ, i64_w, i32_w]
   rfl
  exact norm_ (by first | (simp only [putAll, Act.put, List.setIfInBounds_toArray, List.set_cons_zero, List.set_cons_succ]; done) | (simp only [putAll, Act.put, List.setIfInBounds_toArray, List.set_cons_zero, List.set_cons_succ]; rfl)) (hJ134 (u1, x1, u2, x2, g5) _ HG.out)
 ·refine box_step ?hg (N := 6) ?hd (cs := #[.int .i64 0, .string (⟨#[]⟩ : ByteArray), .slice none 0 0, .slice none 0 0]) (t := 25) ?hr ?_; (case hd => rfl); (case hg => rfl); (case hr => first | (go_simp; done) | (go_simp; rfl))
  intro g6 hg w4 hbox hb
  have HG := Aside0.mk (HF.out.new6 hg hbox hb)
  clear hg hbox hb
  refine hK.out _ _ ⟨HG.out.ha, HG.out.hb⟩ (fun hHeld => ?_)
  clear hK K
  refine norm_ (a' := ?_) ?_ ?_
  rotate_left
  ·show Act.put _ (some 6) _ = _
   simp only [Act.put, List.setIfInBounds_toArray, List.set_cons_zero, List.set_cons_succ, i64_w, i32_w]
   rfl
  exact norm_ (by first | (simp only [putAll, Act.put, List.setIfInBounds_toArray, List.set_cons_zero, List.set_cons_succ]; done) | (simp only [putAll, Act.put, List.setIfInBounds_toArray, List.set_cons_zero, List.set_cons_succ]; rfl)) (hJ145 (u1, x1, g5, g6) _ HG.out)
 rintro ⟨u1, x1, g6⟩ w3 hF
 have HF := Aside0.mk (show R3 W (BxJ a A2 A3 c2 c3) (BxJ b B2 B3 d2 d3) a b none (some g6) (some (u1, x1)) none w3 from hF)
 clear hF
 have hHeld := (⟨HF.out.ha, HF.out.hb⟩ : _ ∧ _)
 refine norm_ (a' := ?_) ?_ ?_
 rotate_left
 ·simp only [putAll, Act.put, List.setIfInBounds_toArray, List.set_cons_zero, List.set_cons_succ]
  rfl
 refine two_ (i := 3) (j := 4) (Ni := some 16) (Nj := some 5) #[true, true, true, true, false, true, false, false] #[true, true, true, false, true, true, false, false] rfl rfl rfl rfl (by kernel_rfl) (by decide) (by decide) (fun K hK => ?_) (fun K hK => ?_)
 ·refine goes_ Tryd.func18 (by kernel_rfl) rfl #[jVal b.f0 b.f1 B2 B3 b.f2.length d2 b.f3.length d3] (by rfl) rfl rfl (by (try simp only [List.map_toArray, List.map_cons, List.map_nil]); first | done | rfl) ?_
  refine (HTB.out _ HF.out.bel).mono ?_
  rintro e w4 ⟨u2, x2, rfl, h2, h3, hb⟩
  refine ⟨_, rfl, ?_⟩
  have HG := Aside0.mk (HF.out.call2 h2 h3 hb)
  clear h2 h3 hb
  refine hK.out _ _ ⟨HG.out.ha, HG.out.hb⟩ (fun hHeld => ?_)
  clear hK K
  refine norm_ (a' := ?_) ?_ ?_
  rotate_left
  ·show Act.put _ (some 16) _ = _
   simp only [Act.put, List.setIfInBounds_toArray, List.set_cons_zero, List.set_cons_succ, i64_w, i32_w]
   rfl
  exact norm_ (by first | (simp only [putAll, Act.put, List.setIfInBounds_toArray, List.set_cons_zero, List.set_cons_succ]; done) | (simp only [putAll, Act.put, List.setIfInBounds_toArray, List.set_cons_zero, List.set_cons_succ]; rfl)) (hJ135 (u1, x1, u2, x2, g6) _ HG.out)
 ·refine box_step ?hg (N := 5) ?hd (cs := #[.int .i64 0, .string (⟨#[]⟩ : ByteArray), .slice none 0 0, .slice none 0 0]) (t := 25) ?hr ?_; (case hd => rfl); (case hg => rfl); (case hr => first | (go_simp; done) | (go_simp; rfl))
  intro g5 hg w4 hbox hb
  have HG := Aside0.mk (HF.out.new5 hg hbox hb)
  clear hg hbox hb
  refine hK.out _ _ ⟨HG.out.ha, HG.out.hb⟩ (fun hHeld => ?_)
  clear hK K
  refine norm_ (a' := ?_) ?_ ?_
  rotate_left
  ·show Act.put _ (some 5) _ = _
   simp only [Act.put, List.setIfInBounds_toArray, List.set_cons_zero, List.set_cons_succ, i64_w, i32_w]
   rfl
  exact norm_ (by first | (simp only [putAll, Act.put, List.setIfInBounds_toArray, List.set_cons_zero, List.set_cons_succ]; done) | (simp only [putAll, Act.put, List.setIfInBounds_toArray, List.set_cons_zero, List.set_cons_succ]; rfl)) (hJ145 (u1, x1, g5, g6) _ HG.out)
 rintro ⟨g5, g6⟩ w3 hF
 have HF := Aside0.mk (show R3 W (BxJ a A2 A3 c2 c3) (BxJ b B2 B3 d2 d3) a b (some g5) (some g6) none none w3 from hF)
 clear hF
 have hHeld := (⟨HF.out.ha, HF.out.hb⟩ : _ ∧ _)
 refine norm_ (a' := ?_) ?_ ?_
 rotate_left
 ·simp only [putAll, Act.put, List.setIfInBounds_toArray, List.set_cons_zero, List.set_cons_succ]
  rfl
 refine one_ (i := 1) (N := some 14) #[true, true, true, false, true, true, false, false] rfl rfl (by kernel_rfl) (by decide) (fun K hK => ?_)
 refine goes_ Tryd.func18 (by kernel_rfl) rfl #[jVal a.f0 a.f1 A2 A3 a.f2.length c2 a.f3.length c3] (by rfl) rfl rfl (by (try simp only [List.map_toArray, List.map_cons, List.map_nil]); first | done | rfl) ?_
 refine (HTA.out _ HF.out.bel).mono ?_
 rintro e w4 ⟨u1, x1, rfl, h2, h3, hb⟩
 refine ⟨_, rfl, ?_⟩
 have HG := Aside0.mk (HF.out.call1 h2 h3 hb)
 clear h2 h3 hb
 refine hK.out _ _ ⟨HG.out.ha, HG.out.hb⟩ (fun hHeld => ?_)
 clear hK K
 refine norm_ (a' := ?_) ?_ ?_
 rotate_left
 ·show Act.put _ (some 14) _ = _
  simp only [Act.put, List.setIfInBounds_toArray, List.set_cons_zero, List.set_cons_succ, i64_w, i32_w]
  rfl
 exact norm_ (by first | (simp only [putAll, Act.put, List.setIfInBounds_toArray, List.set_cons_zero, List.set_cons_succ]; done) | (simp only [putAll, Act.put, List.setIfInBounds_toArray, List.set_cons_zero, List.set_cons_succ]; rfl)) (hJ145 (u1, x1, g5, g6) _ HG.out)
 rintro ⟨u1, x1⟩ w3 hF
 have HF := Aside0.mk (show R3 W (BxJ a A2 A3 c2 c3) (BxJ b B2 B3 d2 d3) a b none none (some (u1, x1)) none w3 from hF)
 clear hF
 have hHeld := (⟨HF.out.ha, HF.out.hb⟩ : _ ∧ _)
 refine norm_ (a' := ?_) ?_ ?_
 rotate_left
 ·simp only [putAll, Act.put, List.setIfInBounds_toArray, List.set_cons_zero, List.set_cons_succ]
  rfl
 refine three_ (i := 3) (j := 4) (k := 5) (Ni := some 16) (Nj := some 5) (Nk := some 6) #[true, true, true, true, false, false, false, false] #[true, true, true, false, true, false, false, false] #[true, true, true, false, false, true, false, false] rfl rfl rfl rfl rfl rfl (by kernel_rfl) (by decide) (by decide) (by decide) (fun K hK => ?_) (fun K hK => ?_) (fun K hK => ?_)
 ·refine goes_ Tryd.func18 (by kernel_rfl) rfl #[jVal b.f0 b.f1 B2 B3 b.f2.length d2 b.f3.length d3] (by rfl) rfl rfl (by (try simp only [List.map_toArray, List.map_cons, List.map_nil]); first | done | rfl) ?_
  refine (HTB.out _ HF.out.bel).mono ?_
  rintro e w4 ⟨u2, x2, rfl, h2, h3, hb⟩
  refine ⟨_, rfl, ?_⟩
  have HG := Aside0.mk (HF.out.call2 h2 h3 hb)
  clear h2 h3 hb
  refine hK.out _ _ ⟨HG.out.ha, HG.out.hb⟩ (fun hHeld => ?_)
  clear hK K
  refine norm_ (a' := ?_) ?_ ?_
  rotate_left
  ·show Act.put _ (some 16) _ = _
   simp only [Act.put, List.setIfInBounds_toArray, List.set_cons_zero, List.set_cons_succ, i64_w, i32_w]
   rfl
  exact norm_ (by first | (simp only [putAll, Act.put, List.setIfInBounds_toArray, List.set_cons_zero, List.set_cons_succ]; done) | (simp only [putAll, Act.put, List.setIfInBounds_toArray, List.set_cons_zero, List.set_cons_succ]; rfl)) (hJ13 (u1, x1, u2, x2) _ HG.out)
 ·refine box_step ?hg (N := 5) ?hd (cs := #[.int .i64 0, .string (⟨#[]⟩ : ByteArray), .slice none 0 0, .slice none 0 0]) (t := 25) ?hr ?_; (case hd => rfl); (case hg => rfl); (case hr => first | (go_simp; done) | (go_simp; rfl))
  intro g5 hg w4 hbox hb
  have HG := Aside0.mk (HF.out.new5 hg hbox hb)
  clear hg hbox hb
  refine hK.out _ _ ⟨HG.out.ha, HG.out.hb⟩ (fun hHeld => ?_)
  clear hK K
  refine norm_ (a' := ?_) ?_ ?_
  rotate_left
  ·show Act.put _ (some 5) _ = _
   simp only [Act.put, List.setIfInBounds_toArray, List.set_cons_zero, List.set_cons_succ, i64_w, i32_w]
   rfl
  exact norm_ (by first | (simp only [putAll, Act.put, List.setIfInBounds_toArray, List.set_cons_zero, List.set_cons_succ]; done) | (simp only [putAll, Act.put, List.setIfInBounds_toArray, List.set_cons_zero, List.set_cons_succ]; rfl)) (hJ14 (u1, x1, g5) _ HG.out)
 ·refine box_step ?hg (N := 6) ?hd (cs := #[.int .i64 0, .string (⟨#[]⟩ : ByteArray), .slice none 0 0, .slice none 0 0]) (t := 25) ?hr ?_; (case hd => rfl); (case hg => rfl); (case hr => first | (go_simp; done) | (go_simp; rfl))
  intro g6 hg w4 hbox hb
  have HG := Aside0.mk (HF.out.new6 hg hbox hb)
  clear hg hbox hb
  refine hK.out _ _ ⟨HG.out.ha, HG.out.hb⟩ (fun hHeld => ?_)
  clear hK K
  refine norm_ (a' := ?_) ?_ ?_
  rotate_left
  ·show Act.put _ (some 6) _ = _
   simp only [Act.put, List.setIfInBounds_toArray, List.set_cons_zero, List.set_cons_succ, i64_w, i32_w]
   rfl
  exact norm_ (by first | (simp only [putAll, Act.put, List.setIfInBounds_toArray, List.set_cons_zero, List.set_cons_succ]; done) | (simp only [putAll, Act.put, List.setIfInBounds_toArray, List.set_cons_zero, List.set_cons_succ]; rfl)) (hJ15 (u1, x1, g6) _ HG.out)
 intro g5 w3 hF
 have HF := Aside0.mk (show R3 W (BxJ a A2 A3 c2 c3) (BxJ b B2 B3 d2 d3) a b (some g5) none none none w3 from hF)
 clear hF
 have hHeld := (⟨HF.out.ha, HF.out.hb⟩ : _ ∧ _)
 refine norm_ (a' := ?_) ?_ ?_
 rotate_left
 ·simp only [putAll, Act.put, List.setIfInBounds_toArray, List.set_cons_zero, List.set_cons_succ]
  rfl
 refine two_ (i := 1) (j := 5) (Ni := some 14) (Nj := some 6) #[true, true, true, false, true, false, false, false] #[true, false, true, false, true, true, false, false] rfl rfl rfl rfl (by kernel_rfl) (by decide) (by decide) (fun K hK => ?_) (fun K hK => ?_)
 ·refine goes_ Tryd.func18 (by kernel_rfl) rfl #[jVal a.f0 a.f1 A2 A3 a.f2.length c2 a.f3.length c3] (by rfl) rfl rfl (by (try simp only [List.map_toArray, List.map_cons, List.map_nil]); first | done | rfl) ?_
  refine (HTA.out _ HF.out.bel).mono ?_
  rintro e w4 ⟨u1, x1, rfl, h2, h3, hb⟩
  refine ⟨_, rfl, ?_⟩
  have HG := Aside0.mk (HF.out.call1 h2 h3 hb)
  clear h2 h3 hb
  refine hK.out _ _ ⟨HG.out.ha, HG.out.hb⟩ (fun hHeld => ?_)
  clear hK K
  refine norm_ (a' := ?_) ?_ ?_
  rotate_left
  ·show Act.put _ (some 14) _ = _
   simp only [Act.put, List.setIfInBounds_toArray, List.set_cons_zero, List.set_cons_succ, i64_w, i32_w]
   rfl
  exact norm_ (by first | (simp only [putAll, Act.put, List.setIfInBounds_toArray, List.set_cons_zero, List.set_cons_succ]; done) | (simp only [putAll, Act.put, List.setIfInBounds_toArray, List.set_cons_zero, List.set_cons_succ]; rfl)) (hJ14 (u1, x1, g5) _ HG.out)
 ·refine box_step ?hg (N := 6) ?hd (cs := #[.int .i64 0, .string (⟨#[]⟩ : ByteArray), .slice none 0 0, .slice none 0 0]) (t := 25) ?hr ?_; (case hd => rfl); (case hg => rfl); (case hr => first | (go_simp; done) | (go_simp; rfl))
  intro g6 hg w4 hbox hb
  have HG := Aside0.mk (HF.out.new6 hg hbox hb)
  clear hg hbox hb
  refine hK.out _ _ ⟨HG.out.ha, HG.out.hb⟩ (fun hHeld => ?_)
  clear hK K
  refine norm_ (a' := ?_) ?_ ?_
  rotate_left
  ·show Act.put _ (some 6) _ = _
   simp only [Act.put, List.setIfInBounds_toArray, List.set_cons_zero, List.set_cons_succ, i64_w, i32_w]
   rfl
  exact norm_ (by first | (simp only [putAll, Act.put, List.setIfInBounds_toArray, List.set_cons_zero, List.set_cons_succ]; done) | (simp only [putAll, Act.put, List.setIfInBounds_toArray, List.set_cons_zero, List.set_cons_succ]; rfl)) (hJ45 (g5, g6) _ HG.out)
 intro g6 w3 hF
 have HF := Aside0.mk (show R3 W (BxJ a A2 A3 c2 c3) (BxJ b B2 B3 d2 d3) a b none (some g6) none none w3 from hF)
 clear hF
 have hHeld := (⟨HF.out.ha, HF.out.hb⟩ : _ ∧ _)
 refine norm_ (a' := ?_) ?_ ?_
 rotate_left
 ·simp only [putAll, Act.put, List.setIfInBounds_toArray, List.set_cons_zero, List.set_cons_succ]
  rfl
 refine two_ (i := 1) (j := 4) (Ni := some 14) (Nj := some 5) #[true, true, true, false, false, true, false, false] #[true, false, true, false, true, true, false, false] rfl rfl rfl rfl (by kernel_rfl) (by decide) (by decide) (fun K hK => ?_) (fun K hK => ?_)
 ·refine goes_ Tryd.func18 (by kernel_rfl) rfl #[jVal a.f0 a.f1 A2 A3 a.f2.length c2 a.f3.length c3] (by rfl) rfl rfl (by (try simp only [List.map_toArray, List.map_cons, List.map_nil]); first | done | rfl) ?_
  refine (HTA.out _ HF.out.bel).mono ?_
  rintro e w4 ⟨u1, x1, rfl, h2, h3, hb⟩
  refine ⟨_, rfl, ?_⟩
  have HG := Aside0.mk (HF.out.call1 h2 h3 hb)
  clear h2 h3 hb
  refine hK.out _ _ ⟨HG.out.ha, HG.out.hb⟩ (fun hHeld => ?_)
  clear hK K
  refine norm_ (a' := ?_) ?_ ?_
  rotate_left
  ·show Act.put _ (some 14) _ = _
   simp only [Act.put, List.setIfInBounds_toArray, List.set_cons_zero, List.set_cons_succ, i64_w, i32_w]
   rfl
  exact norm_ (by first | (simp only [putAll, Act.put, List.setIfInBounds_toArray, List.set_cons_zero, List.set_cons_succ]; done) | (simp only [putAll, Act.put, List.setIfInBounds_toArray, List.set_cons_zero, List.set_cons_succ]; rfl)) (hJ15 (u1, x1, g6) _ HG.out)
 ·refine box_step ?hg (N := 5) ?hd (cs := #[.int .i64 0, .string (⟨#[]⟩ : ByteArray), .slice none 0 0, .slice none 0 0]) (t := 25) ?hr ?_; (case hd => rfl); (case hg => rfl); (case hr => first | (go_simp; done) | (go_simp; rfl))
  intro g5 hg w4 hbox hb
  have HG := Aside0.mk (HF.out.new5 hg hbox hb)
  clear hg hbox hb
  refine hK.out _ _ ⟨HG.out.ha, HG.out.hb⟩ (fun hHeld => ?_)
  clear hK K
  refine norm_ (a' := ?_) ?_ ?_
  rotate_left
  ·show Act.put _ (some 5) _ = _
   simp only [Act.put, List.setIfInBounds_toArray, List.set_cons_zero, List.set_cons_succ, i64_w, i32_w]
   rfl
  exact norm_ (by first | (simp only [putAll, Act.put, List.setIfInBounds_toArray, List.set_cons_zero, List.set_cons_succ]; done) | (simp only [putAll, Act.put, List.setIfInBounds_toArray, List.set_cons_zero, List.set_cons_succ]; rfl)) (hJ45 (g5, g6) _ HG.out)
 have HP := Aside0.mk (HFIN.out.below (show Below w8.heap.size w8 w8.drew from pw_below_drewN (Below.refl _ _) 1))
 clear HFIN
 go_upto_region 4 with (fail)
 refine start_ (n := 25) (S := fun w' => w'.heap[W.heap.size]? = some (BxJ a A2 A3 c2 c3) ∧ w'.heap[W.heap.size + 1]? = some (BxJ b B2 B3 d2 d3) ∧ w'.heap[g5]? = some (BxJ a C2 C3 e2 e3) ∧ w'.heap[g6]? = some (BxJ b D2 D3 k2 k3)) (ds := []) #[false, false, false, false, false, false, false, false, false, false, false, false, false, false, false, false, false, false, false, false, false, false, false, false, false] (by kernel_rfl) rfl rfl ⟨HP.out.ha, HP.out.hb, HP.out.hc, HP.out.hd⟩ (fun hHeld => ?_)
 generalize w8.drew = w9 at HP hHeld ⊢
 refine take_ (i := 0) (N := some 17) (v := ?_) (a' := ?_) #[true, false, false, false, false, false, false, false, false, false, false, false, false, false, false, false, false, false, false, false, false, false, false, false, false] rfl rfl (by kernel_rfl) (fun _ _ _ h => h) (Or.inl ⟨by rfl, ?_⟩) hHeld ?_ ?_
 rotate_left
 ·rintro w' ⟨s0, s1, s2, s3⟩
  have q0 := (blk_cell s2 0).trans rfl
  have q1 := (blk_cell s2 1).trans rfl
  have q2 := (blk_cell s2 2).trans rfl
  have q3 := (blk_cell s2 3).trans rfl
  clear s0 s1 s2 s3
  go_simp
  with_reducible rfl
 rotate_left
 ·simp only [Act.put, List.setIfInBounds_toArray, List.set_cons_zero, List.set_cons_succ, i64_w, i32_w]
  rfl
 refine take_ (i := 1) (N := some 18) (v := ?_) (a' := ?_) #[true, true, false, false, false, false, false, false, false, false, false, false, false, false, false, false, false, false, false, false, false, false, false, false, false] rfl rfl (by kernel_rfl) (fun _ _ _ h => h) (Or.inl ⟨by rfl, ?_⟩) hHeld ?_ ?_
 rotate_left
 ·rintro w' ⟨s0, s1, s2, s3⟩
  have q0 := (blk_cell s3 0).trans rfl
  have q1 := (blk_cell s3 1).trans rfl
  have q2 := (blk_cell s3 2).trans rfl
  have q3 := (blk_cell s3 3).trans rfl
  clear s0 s1 s2 s3
  go_simp
  with_reducible rfl
 rotate_left
 ·simp only [Act.put, List.setIfInBounds_toArray, List.set_cons_zero, List.set_cons_succ, i64_w, i32_w]
  rfl
 refine take_ (i := 3) (N := some 20) (v := ?_) (a' := ?_) #[true, true, false, true, false, false, false, false, false, false, false, false, false, false, false, false, false, false, false, false, false, false, false, false, false] rfl rfl (by kernel_rfl) (fun _ _ _ h => h) (Or.inl ⟨by rfl, ?_⟩) hHeld ?_ ?_
 rotate_left
 ·rintro w' ⟨s0, s1, s2, s3⟩
  have q0 := (blk_cell s0 0).trans rfl
  have q1 := (blk_cell s0 1).trans rfl
  have q2 := (blk_cell s0 2).trans rfl
  have q3 := (blk_cell s0 3).trans rfl
  clear s0 s1 s2 s3
  go_simp
  with_reducible rfl
 rotate_left
 ·simp only [Act.put, List.setIfInBounds_toArray, List.set_cons_zero, List.set_cons_succ, i64_w, i32_w]
  rfl
 refine take_ (i := 4) (N := some 21) (v := ?_) (a' := ?_) #[true, true, false, true, true, false, false, false, false, false, false, false, false, false, false, false, false, false, false, false, false, false, false, false, false] rfl rfl (by kernel_rfl) (fun _ _ _ h => h) (Or.inl ⟨by rfl, ?_⟩) hHeld ?_ ?_
 rotate_left
 ·rintro w' ⟨s0, s1, s2, s3⟩
  have q0 := (blk_cell s1 0).trans rfl
  have q1 := (blk_cell s1 1).trans rfl
  have q2 := (blk_cell s1 2).trans rfl
  have q3 := (blk_cell s1 3).trans rfl
  clear s0 s1 s2 s3
  go_simp
  with_reducible rfl
 rotate_left
 ·simp only [Act.put, List.setIfInBounds_toArray, List.set_cons_zero, List.set_cons_succ, i64_w, i32_w]
  rfl
 refine one_ (i := 2) (N := some 19) #[true, true, true, true, true, false, false, false, false, false, false, false, false, false, false, false, false, false, false, false, false, false, false, false, false] rfl rfl (by kernel_rfl) (by decide) (fun K hK => ?_)
 refine goes_ Tryd.func22 (by kernel_rfl) rfl #[jVal a.f0 a.f1 C2 C3 a.f2.length e2 a.f3.length e3, jVal b.f0 b.f1 D2 D3 b.f2.length k2 b.f3.length k3] (by rfl) rfl rfl (by (try simp only [List.map_toArray, List.map_cons, List.map_nil]); first | done | rfl) ?_
 refine (HSM.out _ _ _ _ _ _ _ _ _ HP.out.bel (Kd.R_reads' HP.out.r2).2.2 (Kd.R_reads' HP.out.r2).2.1 (Kd.R_reads' HP.out.r3).2.2 (Kd.R_reads' HP.out.r3).2.1 (Kd.R_reads' HP.out.q2).2.2 (Kd.R_reads' HP.out.q2).2.1 (Kd.R_reads' HP.out.q3).2.2 (Kd.R_reads' HP.out.q3).2.1).mono ?_
 rintro e w4 ⟨rfl, hb⟩
 refine ⟨_, rfl, ?_⟩
 have HP2 := Aside0.mk (HP.out.below hb)
 clear hb HP hHeld
 have HP := HP2
 clear HP2
 refine hK.out _ _ ⟨HP.out.ha, HP.out.hb, HP.out.hc, HP.out.hd⟩ (fun hHeld => ?_)
 clear hK K
 refine norm_ (a' := ?_) ?_ ?_
 rotate_left
 ·show Act.put _ (some 19) _ = _
  simp only [Act.put, List.setIfInBounds_toArray, List.set_cons_zero, List.set_cons_succ, i64_w, i32_w]
  rfl
 refine one_ (i := 5) (N := some 22) #[true, true, true, true, true, true, false, false, false, false, false, false, false, false, false, false, false, false, false, false, false, false, false, false, false] rfl rfl (by kernel_rfl) (by decide) (fun K hK => ?_)
 refine goes_ Tryd.func23 (by kernel_rfl) rfl #[jVal a.f0 a.f1 A2 A3 a.f2.length c2 a.f3.length c3, jVal b.f0 b.f1 B2 B3 b.f2.length d2 b.f3.length d3] (by rfl) rfl rfl (by (try simp only [List.map_toArray, List.map_cons, List.map_nil]); first | done | rfl) ?_
 refine (HRS.out _ HP.out.bel).mono ?_
 rintro e w4 ⟨rfl, hb⟩
 refine ⟨_, rfl, ?_⟩
 have HP2 := Aside0.mk (HP.out.below hb)
 clear hb HP hHeld
 have HP := HP2
 clear HP2
 refine hK.out _ _ ⟨HP.out.ha, HP.out.hb, HP.out.hc, HP.out.hd⟩ (fun hHeld => ?_)
 clear hK K
 refine norm_ (a' := ?_) ?_ ?_
 rotate_left
 ·show Act.put _ (some 22) _ = _
  simp only [Act.put, List.setIfInBounds_toArray, List.set_cons_zero, List.set_cons_succ, i64_w, i32_w]
  rfl
 refine pure_ (i := 6) (N := some 23) (v := ?_) (a' := ?_) #[true, true, true, true, true, true, true, false, false, false, false, false, false, false, false, false, false, false, false, false, false, false, false, false, false] rfl rfl (by kernel_rfl) (fun _ _ _ h => h) (Or.inl ⟨by rfl, ?_⟩) ?_ ?_
 rotate_left
 ·intro w'
  go_simp
  with_reducible rfl
 rotate_left
 ·simp only [Act.put, List.setIfInBounds_toArray, List.set_cons_zero, List.set_cons_succ, i64_w, i32_w]
  rfl
 refine pure_ (i := 7) (N := some 24) (v := ?_) (a' := ?_) #[true, true, true, true, true, true, true, true, false, false, false, false, false, false, false, false, false, false, false, false, false, false, false, false, false] rfl rfl (by kernel_rfl) (fun _ _ _ h => h) (Or.inl ⟨by rfl, ?_⟩) ?_ ?_
 rotate_left
 ·intro w'
  go_simp
  with_reducible rfl
 rotate_left
 ·simp only [Act.put, List.setIfInBounds_toArray, List.set_cons_zero, List.set_cons_succ, i64_w, i32_w]
  rfl
 refine take_ (i := 8) (N := some 25) (v := ?_) (a' := ?_) #[true, true, true, true, true, true, true, true, true, false, false, false, false, false, false, false, false, false, false, false, false, false, false, false, false] rfl rfl (by kernel_rfl) (fun _ _ _ h => h) (Or.inl ⟨by rfl, ?_⟩) hHeld ?_ ?_
 rotate_left
 ·rintro w' ⟨s0, s1, s2, s3⟩
  have q0 := (blk_cell s3 0).trans rfl
  have q1 := (blk_cell s3 1).trans rfl
  have q2 := (blk_cell s3 2).trans rfl
  have q3 := (blk_cell s3 3).trans rfl
  clear s0 s1 s2 s3
  go_simp
  with_reducible rfl
 rotate_left
 ·simp only [Act.put, List.setIfInBounds_toArray, List.set_cons_zero, List.set_cons_succ, i64_w, i32_w]
  rfl
 refine take_ (i := 9) (N := some 26) (v := ?_) (a' := ?_) #[true, true, true, true, true, true, true, true, true, true, false, false, false, false, false, false, false, false, false, false, false, false, false, false, false] rfl rfl (by kernel_rfl) (fun _ _ _ h => h) (Or.inl ⟨by rfl, ?_⟩) hHeld ?_ ?_
 rotate_left
 ·rintro w' ⟨s0, s1, s2, s3⟩
  have q0 := (blk_cell s2 0).trans rfl
  have q1 := (blk_cell s2 1).trans rfl
  have q2 := (blk_cell s2 2).trans rfl
  have q3 := (blk_cell s2 3).trans rfl
  clear s0 s1 s2 s3
  go_simp
  with_reducible rfl
 rotate_left
 ·simp only [Act.put, List.setIfInBounds_toArray, List.set_cons_zero, List.set_cons_succ, i64_w, i32_w]
  rfl
 refine take_ (i := 11) (N := some 28) (v := ?_) (a' := ?_) #[true, true, true, true, true, true, true, true, true, true, false, true, false, false, false, false, false, false, false, false, false, false, false, false, false] rfl rfl (by kernel_rfl) (fun _ _ _ h => h) (Or.inl ⟨by rfl, ?_⟩) hHeld ?_ ?_
 rotate_left
 ·rintro w' ⟨s0, s1, s2, s3⟩
  have q0 := (blk_cell s0 0).trans rfl
  have q1 := (blk_cell s0 1).trans rfl
  have q2 := (blk_cell s0 2).trans rfl
  have q3 := (blk_cell s0 3).trans rfl
  clear s0 s1 s2 s3
  go_simp
  with_reducible rfl
 rotate_left
 ·simp only [Act.put, List.setIfInBounds_toArray, List.set_cons_zero, List.set_cons_succ, i64_w, i32_w]
  rfl
 refine take_ (i := 12) (N := some 29) (v := ?_) (a' := ?_) #[true, true, true, true, true, true, true, true, true, true, false, true, true, false, false, false, false, false, false, false, false, false, false, false, false] rfl rfl (by kernel_rfl) (fun _ _ _ h => h) (Or.inl ⟨by rfl, ?_⟩) hHeld ?_ ?_
 rotate_left
 ·rintro w' ⟨s0, s1, s2, s3⟩
  have q0 := (blk_cell s1 0).trans rfl
  have q1 := (blk_cell s1 1).trans rfl
  have q2 := (blk_cell s1 2).trans rfl
  have q3 := (blk_cell s1 3).trans rfl
  clear s0 s1 s2 s3
  go_simp
  with_reducible rfl
 rotate_left
 ·simp only [Act.put, List.setIfInBounds_toArray, List.set_cons_zero, List.set_cons_succ, i64_w, i32_w]
  rfl
 refine one_ (i := 10) (N := some 27) #[true, true, true, true, true, true, true, true, true, true, true, true, true, false, false, false, false, false, false, false, false, false, false, false, false] rfl rfl (by kernel_rfl) (by decide) (fun K hK => ?_)
 refine goes_ Tryd.func22 (by kernel_rfl) rfl #[jVal b.f0 b.f1 D2 D3 b.f2.length k2 b.f3.length k3, jVal a.f0 a.f1 C2 C3 a.f2.length e2 a.f3.length e3] (by rfl) rfl rfl (by (try simp only [List.map_toArray, List.map_cons, List.map_nil]); first | done | rfl) ?_
 refine (HSD.out _ _ _ _ _ _ _ _ _ HP.out.bel (Kd.R_reads' HP.out.q2).2.2 (Kd.R_reads' HP.out.q2).2.1 (Kd.R_reads' HP.out.q3).2.2 (Kd.R_reads' HP.out.q3).2.1 (Kd.R_reads' HP.out.r2).2.2 (Kd.R_reads' HP.out.r2).2.1 (Kd.R_reads' HP.out.r3).2.2 (Kd.R_reads' HP.out.r3).2.1).mono ?_
 rintro e w4 ⟨rfl, hb⟩
 refine ⟨_, rfl, ?_⟩
 have HP2 := Aside0.mk (HP.out.below hb)
 clear hb HP hHeld
 have HP := HP2
 clear HP2
 refine hK.out _ _ ⟨HP.out.ha, HP.out.hb, HP.out.hc, HP.out.hd⟩ (fun hHeld => ?_)
 clear hK K
 refine norm_ (a' := ?_) ?_ ?_
 rotate_left
 ·show Act.put _ (some 27) _ = _
  simp only [Act.put, List.setIfInBounds_toArray, List.set_cons_zero, List.set_cons_succ, i64_w, i32_w]
  rfl
 refine one_ (i := 13) (N := some 30) #[true, true, true, true, true, true, true, true, true, true, true, true, true, true, false, false, false, false, false, false, false, false, false, false, false] rfl rfl (by kernel_rfl) (by decide) (fun K hK => ?_)
 refine goes_ Tryd.func23 (by kernel_rfl) rfl #[jVal a.f0 a.f1 A2 A3 a.f2.length c2 a.f3.length c3, jVal b.f0 b.f1 B2 B3 b.f2.length d2 b.f3.length d3] (by rfl) rfl rfl (by (try simp only [List.map_toArray, List.map_cons, List.map_nil]); first | done | rfl) ?_
 refine (HRS.out _ HP.out.bel).mono ?_
 rintro e w4 ⟨rfl, hb⟩
 refine ⟨_, rfl, ?_⟩
 have HP2 := Aside0.mk (HP.out.below hb)
 clear hb HP hHeld
 have HP := HP2
 clear HP2
 refine hK.out _ _ ⟨HP.out.ha, HP.out.hb, HP.out.hc, HP.out.hd⟩ (fun hHeld => ?_)
 clear hK K
 refine norm_ (a' := ?_) ?_ ?_
 rotate_left
 ·show Act.put _ (some 30) _ = _
  simp only [Act.put, List.setIfInBounds_toArray, List.set_cons_zero, List.set_cons_succ, i64_w, i32_w]
  rfl
 refine pure_ (i := 14) (N := some 31) (v := ?_) (a' := ?_) #[true, true, true, true, true, true, true, true, true, true, true, true, true, true, true, false, false, false, false, false, false, false, false, false, false] rfl rfl (by kernel_rfl) (fun _ _ _ h => h) (Or.inl ⟨by rfl, ?_⟩) ?_ ?_
 rotate_left
 ·intro w'
  go_simp
  with_reducible rfl
 rotate_left
 ·simp only [Act.put, List.setIfInBounds_toArray, List.set_cons_zero, List.set_cons_succ, i64_w, i32_w]
  rfl
 refine pure_ (i := 15) (N := some 32) (v := ?_) (a' := ?_) #[true, true, true, true, true, true, true, true, true, true, true, true, true, true, true, true, false, false, false, false, false, false, false, false, false] rfl rfl (by kernel_rfl) (fun _ _ _ h => h) (Or.inl ⟨by rfl, ?_⟩) ?_ ?_
 rotate_left
 ·intro w'
  go_simp
  with_reducible rfl
 rotate_left
 ·simp only [Act.put, List.setIfInBounds_toArray, List.set_cons_zero, List.set_cons_succ, i64_w, i32_w]
  rfl
 refine pure_ (i := 16) (N := some 33) (v := ?_) (a' := ?_) #[true, true, true, true, true, true, true, true, true, true, true, true, true, true, true, true, true, false, false, false, false, false, false, false, false] rfl rfl (by kernel_rfl) (fun _ _ _ h => h) (Or.inl ⟨by rfl, ?_⟩) ?_ ?_
 rotate_left
 ·intro w'
  go_simp
  with_reducible rfl
 rotate_left
 ·simp only [Act.put, List.setIfInBounds_toArray, List.set_cons_zero, List.set_cons_succ, i64_w, i32_w]
  rfl
 refine take_ (i := 17) (N := some 34) (v := ?_) (a' := ?_) #[true, true, true, true, true, true, true, true, true, true, true, true, true, true, true, true, true, true, false, false, false, false, false, false, false] rfl rfl (by kernel_rfl) (fun _ _ _ h => h) (Or.inl ⟨by rfl, ?_⟩) hHeld ?_ ?_
 rotate_left
 ·rintro w' ⟨s0, s1, s2, s3⟩
  have q0 := (blk_cell s2 0).trans rfl
  have q1 := (blk_cell s2 1).trans rfl
  have q2 := (blk_cell s2 2).trans rfl
  have q3 := (blk_cell s2 3).trans rfl
  clear s0 s1 s2 s3
  go_simp
  with_reducible rfl
 rotate_left
 ·simp only [Act.put, List.setIfInBounds_toArray, List.set_cons_zero, List.set_cons_succ, i64_w, i32_w]
  rfl
 refine take_ (i := 18) (N := some 35) (v := ?_) (a' := ?_) #[true, true, true, true, true, true, true, true, true, true, true, true, true, true, true, true, true, true, true, false, false, false, false, false, false] rfl rfl (by kernel_rfl) (fun _ _ _ h => h) (Or.inl ⟨by rfl, ?_⟩) hHeld ?_ ?_
 rotate_left
 ·rintro w' ⟨s0, s1, s2, s3⟩
  have q0 := (blk_cell s0 0).trans rfl
  have q1 := (blk_cell s0 1).trans rfl
  have q2 := (blk_cell s0 2).trans rfl
  have q3 := (blk_cell s0 3).trans rfl
  clear s0 s1 s2 s3
  go_simp
  with_reducible rfl
 rotate_left
 ·simp only [Act.put, List.setIfInBounds_toArray, List.set_cons_zero, List.set_cons_succ, i64_w, i32_w]
  rfl
 refine take_ (i := 21) (N := some 38) (v := ?_) (a' := ?_) #[true, true, true, true, true, true, true, true, true, true, true, true, true, true, true, true, true, true, true, false, false, true, false, false, false] rfl rfl (by kernel_rfl) (fun _ _ _ h => h) (Or.inl ⟨by rfl, ?_⟩) hHeld ?_ ?_
 rotate_left
 ·rintro w' ⟨s0, s1, s2, s3⟩
  have q0 := (blk_cell s0 0).trans rfl
  have q1 := (blk_cell s0 1).trans rfl
  have q2 := (blk_cell s0 2).trans rfl
  have q3 := (blk_cell s0 3).trans rfl
  clear s0 s1 s2 s3
  go_simp
  with_reducible rfl
 rotate_left
 ·simp only [Act.put, List.setIfInBounds_toArray, List.set_cons_zero, List.set_cons_succ, i64_w, i32_w]
  rfl
 refine one_ (i := 19) (N := some 36) #[true, true, true, true, true, true, true, true, true, true, true, true, true, true, true, true, true, true, true, true, false, true, false, false, false] rfl rfl (by kernel_rfl) (by decide) (fun K hK => ?_)
 refine goes_ Tryd.func18 (by kernel_rfl) rfl #[jVal a.f0 a.f1 A2 A3 a.f2.length c2 a.f3.length c3] (by rfl) rfl rfl (by (try simp only [List.map_toArray, List.map_cons, List.map_nil]); first | done | rfl) ?_
 refine (HTA.out _ HP.out.bel).mono ?_
 rintro e w4 ⟨u1, x1, rfl, h2, h3, hb⟩
 obtain ⟨U2, m2, e9⟩ := Kd.R_slice h2
 subst e9
 obtain ⟨U3, m3, e9⟩ := Kd.R_slice h3
 subst e9
 refine ⟨_, rfl, ?_⟩
 have HU2 := Aside0.mk h2
 have HU3 := Aside0.mk h3
 clear h2 h3
 have HP2 := Aside0.mk (HP.out.below hb)
 clear hb HP hHeld
 have HP := HP2
 clear HP2
 refine hK.out _ _ ⟨HP.out.ha, HP.out.hb, HP.out.hc, HP.out.hd⟩ (fun hHeld => ?_)
 clear hK K
 refine norm_ (a' := ?_) ?_ ?_
 rotate_left
 ·show Act.put _ (some 36) _ = _
  simp only [Act.put, List.setIfInBounds_toArray, List.set_cons_zero, List.set_cons_succ, i64_w, i32_w]
  rfl
 refine one_ (i := 20) (N := some 37) #[true, true, true, true, true, true, true, true, true, true, true, true, true, true, true, true, true, true, true, true, true, true, false, false, false] rfl rfl (by kernel_rfl) (by decide) (fun K hK => ?_)
 refine goes_ Tryd.func22 (by kernel_rfl) rfl #[jVal a.f0 a.f1 C2 C3 a.f2.length e2 a.f3.length e3, jVal a.f0 a.f1 U2 U3 a.f2.length m2 a.f3.length m3] (by rfl) rfl rfl (by (try simp only [List.map_toArray, List.map_cons, List.map_nil]); first | done | rfl) ?_
 refine (HSS.out _ _ _ _ _ _ _ _ _ HP.out.bel (Kd.R_reads' HP.out.r2).2.2 (Kd.R_reads' HP.out.r2).2.1 (Kd.R_reads' HP.out.r3).2.2 (Kd.R_reads' HP.out.r3).2.1 (Kd.R_reads' HU2.out).2.2 (Kd.R_reads' HU2.out).2.1 (Kd.R_reads' HU3.out).2.2 (Kd.R_reads' HU3.out).2.1).mono ?_
 rintro e w4 ⟨rfl, hb⟩
 refine ⟨_, rfl, ?_⟩
 have HP2 := Aside0.mk (HP.out.below hb)
 clear hb HP hHeld
 have HP := HP2
 clear HP2
 refine hK.out _ _ ⟨HP.out.ha, HP.out.hb, HP.out.hc, HP.out.hd⟩ (fun hHeld => ?_)
 clear hK K
 refine norm_ (a' := ?_) ?_ ?_
 rotate_left
 ·show Act.put _ (some 37) _ = _
  simp only [Act.put, List.setIfInBounds_toArray, List.set_cons_zero, List.set_cons_succ, i64_w, i32_w]
  rfl
 refine one_ (i := 22) (N := some 39) #[true, true, true, true, true, true, true, true, true, true, true, true, true, true, true, true, true, true, true, true, true, true, true, false, false] rfl rfl (by kernel_rfl) (by decide) (fun K hK => ?_)
 refine goes_ Tryd.func24 (by kernel_rfl) rfl #[jVal a.f0 a.f1 A2 A3 a.f2.length c2 a.f3.length c3, .int .i64 0] (by rfl) rfl rfl (by (try simp only [List.map_toArray, List.map_cons, List.map_nil]); first | done | rfl) ?_
 refine (HRV.out _ HP.out.bel).mono ?_
 rintro e w4 ⟨rfl, hb⟩
 refine ⟨_, rfl, ?_⟩
 have HP2 := Aside0.mk (HP.out.below hb)
 clear hb HP hHeld
 have HP := HP2
 clear HP2
 refine hK.out _ _ ⟨HP.out.ha, HP.out.hb, HP.out.hc, HP.out.hd⟩ (fun hHeld => ?_)
 clear hK K
 refine norm_ (a' := ?_) ?_ ?_
 rotate_left
 ·show Act.put _ (some 39) _ = _
  simp only [Act.put, List.setIfInBounds_toArray, List.set_cons_zero, List.set_cons_succ, i64_w, i32_w]
  rfl
 refine pure_ (i := 23) (N := some 40) (v := ?_) (a' := ?_) #[true, true, true, true, true, true, true, true, true, true, true, true, true, true, true, true, true, true, true, true, true, true, true, true, false] rfl rfl (by kernel_rfl) (fun _ _ _ h => h) (Or.inl ⟨by rfl, ?_⟩) ?_ ?_
 rotate_left
 ·intro w'
  go_simp
  with_reducible rfl
 rotate_left
 ·simp only [Act.put, List.setIfInBounds_toArray, List.set_cons_zero, List.set_cons_succ, i64_w, i32_w]
  rfl
 refine pure_ (i := 24) (N := some 41) (v := ?_) (a' := ?_) #[true, true, true, true, true, true, true, true, true, true, true, true, true, true, true, true, true, true, true, true, true, true, true, true, true] rfl rfl (by kernel_rfl) (fun _ _ _ h => h) (Or.inl ⟨by rfl, ?_⟩) ?_ ?_
 rotate_left
 ·intro w'
  go_simp
  with_reducible rfl
 rotate_left
 ·simp only [Act.put, List.setIfInBounds_toArray, List.set_cons_zero, List.set_cons_succ, i64_w, i32_w]
  rfl
 refine done_ (by kernel_rfl) ?_
 clear hHeld HU2 HU3
 go_wp2_with (first | (go_at_call 13; (with_reducible refine (HLV.out _ HP.out.bel).mono ?_); rintro e w5 ⟨rfl, hb⟩; have HQ := Aside0.mk (HP.out.below hb); clear hb; have q00 := (blk_cell HQ.out.hc 0).trans rfl; have q01 := (blk_cell HQ.out.hc 1).trans rfl; have q02 := (blk_cell HQ.out.hc 2).trans rfl; have q03 := (blk_cell HQ.out.hc 3).trans rfl; have q10 := (blk_cell HQ.out.ha 0).trans rfl; have q11 := (blk_cell HQ.out.ha 1).trans rfl; have q12 := (blk_cell HQ.out.ha 2).trans rfl; have q13 := (blk_cell HQ.out.ha 3).trans rfl) | (go_at_call 15; (with_reducible refine (HEA.out _ _ _ _ _ HQ.out.bel ?s1 ?s2).mono ?_); (case s1 => exact (Kd.R_reads' HQ.out.r2).2.2); (case s2 => exact (Kd.R_reads' HQ.out.r3).2.2); rintro e w6 ⟨rfl, hb⟩; have HX := Aside0.mk (HQ.out.below hb); clear hb; have p00 := (blk_cell HX.out.hd 0).trans rfl; have p01 := (blk_cell HX.out.hd 1).trans rfl; have p02 := (blk_cell HX.out.hd 2).trans rfl; have p03 := (blk_cell HX.out.hd 3).trans rfl; have p10 := (blk_cell HX.out.hb 0).trans rfl; have p11 := (blk_cell HX.out.hb 1).trans rfl; have p12 := (blk_cell HX.out.hb 2).trans rfl; have p13 := (blk_cell HX.out.hb 3).trans rfl) | (go_at_call 15; (with_reducible refine (HEB.out _ _ _ _ _ HX.out.bel ?s1 ?s2).mono ?_); (case s1 => exact (Kd.R_reads' HX.out.q2).2.2); (case s2 => exact (Kd.R_reads' HX.out.q3).2.2); rintro e w7 ⟨rfl, hb⟩; have HY := Aside0.mk (HX.out.below hb); clear hb))
 go_ret
 exact ⟨rfl, by repeat (first | exact HY.out.bel | apply pw_below_drewN | apply below_drew1)⟩
end Go.Proofs.YtaalajhmfdcalaaDoor.X
namespace Go.Proofs.YtaalajhmfdcalaaDoor.X
open Go.RowKit Go.Lib Go.Proofs.YtaalajhmfdcalaaDoorW.PrintWords Go.Proofs.YtaalajhmfdcalaaDoorW.PrintLast Go.Proofs.YtaalajhmfdcalaaDoorW.PrintMore
set_option maxRecDepth 1000000 in
set_option maxHeartbeats 8000000 in
theorem requal_no0 (f0 g0 : Int) (f1 g1 : ByteArray) (n2 n3 m2 m3 : Nat) (A2 A3 B2 B3 : Option Addr) (c2 c3 e2 e3 : Nat) (W : World) (h : ¬ f0 = g0) :
  Calls Tryd.prog 15 #[jVal f0 f1 A2 A3 n2 c2 n3 c3, jVal g0 g1 B2 B3 m2 e2 m3 e3] W (fun e W' => e = .returned (.bool false) ∧ Below W.heap.size W W') := by
 have k1 : (f0 != g0) = true := bne_iff_ne.mpr h
 obtain ⟨F0, F1, F2⟩ := says_boxes W (.cells #[.int .i64 f0, .string f1, .slice A2 n2 c2, .slice A3 n3 c3] 25) (.cells #[.int .i64 g0, .string g1, .slice B2 m2 e2, .slice B3 m3 e3] 25)
 have HS0 := Aside0.mk F0
 clear F0 F1 F2 h
 go_enter Tryd.func15, Tryd.ntmps15
 go_wp2
 go_ret
 exact ⟨rfl, by repeat (first | exact HS0.out | apply pw_below_drewN | apply below_drew1)⟩
set_option maxRecDepth 1000000 in
set_option maxHeartbeats 8000000 in
theorem requal_no1 (f0 : Int) (f1 g1 : ByteArray) (n2 n3 m2 m3 : Nat) (A2 A3 B2 B3 : Option Addr) (c2 c3 e2 e3 : Nat) (W : World) (h : ¬ f1 = g1) :
  Calls Tryd.prog 15 #[jVal f0 f1 A2 A3 n2 c2 n3 c3, jVal f0 g1 B2 B3 m2 e2 m3 e3] W (fun e W' => e = .returned (.bool false) ∧ Below W.heap.size W W') := by
 have k1 : (f1.toList == g1.toList) = false := beq_bytes h
 have k2 : (f1.toList != g1.toList) = true := by rw [bne, k1]; rfl
 obtain ⟨F0, F1, F2⟩ := says_boxes W (.cells #[.int .i64 f0, .string f1, .slice A2 n2 c2, .slice A3 n3 c3] 25) (.cells #[.int .i64 f0, .string g1, .slice B2 m2 e2, .slice B3 m3 e3] 25)
 have HS0 := Aside0.mk F0
 clear F0 F1 F2 h
 go_enter Tryd.func15, Tryd.ntmps15
 go_wp2
 go_ret
 exact ⟨rfl, by repeat (first | exact HS0.out | apply pw_below_drewN | apply below_drew1)⟩
set_option maxRecDepth 1000000 in
set_option maxHeartbeats 8000000 in
theorem requal_no2 (f0 : Int) (f1 : ByteArray) (n2 n3 m2 m3 : Nat) (A2 A3 B2 B3 : Option Addr) (c2 c3 e2 e3 : Nat) (W : World) (h : ¬ n2 = m2) :
  Calls Tryd.prog 15 #[jVal f0 f1 A2 A3 n2 c2 n3 c3, jVal f0 f1 B2 B3 m2 e2 m3 e3] W (fun e W' => e = .returned (.bool false) ∧ Below W.heap.size W W') := by
 have k3 : ((n2 : Int) != (m2 : Int)) = true := bne_iff_ne.mpr (fun e => h (Int.ofNat.inj e))
 have k4 : (n2 != m2) = true := bne_iff_ne.mpr h
 obtain ⟨F0, F1, F2⟩ := says_boxes W (.cells #[.int .i64 f0, .string f1, .slice A2 n2 c2, .slice A3 n3 c3] 25) (.cells #[.int .i64 f0, .string f1, .slice B2 m2 e2, .slice B3 m3 e3] 25)
 have HS0 := Aside0.mk F0
 clear F0 F1 F2 h
 go_enter Tryd.func15, Tryd.ntmps15
 go_wp2
 go_ret
 exact ⟨rfl, by repeat (first | exact HS0.out | apply pw_below_drewN | apply below_drew1)⟩
set_option maxRecDepth 1000000 in
set_option maxHeartbeats 8000000 in
theorem requal_no3 (f0 : Int) (f1 : ByteArray) (n2 n3 m2 m3 : Nat) (A2 A3 B2 B3 : Option Addr) (c2 c3 e2 e3 : Nat) (W : World) (h2 : n2 = m2) (h : ¬ n3 = m3) :
  Calls Tryd.prog 15 #[jVal f0 f1 A2 A3 n2 c2 n3 c3, jVal f0 f1 B2 B3 m2 e2 m3 e3] W (fun e W' => e = .returned (.bool false) ∧ Below W.heap.size W W') := by
 have k1 : ((n2 : Int) != (m2 : Int)) = false := bne_eq_false_iff_eq.mpr (by rw [h2])
 have k2 : (n2 != m2) = false := bne_eq_false_iff_eq.mpr h2
 have k3 : ((n3 : Int) != (m3 : Int)) = true := bne_iff_ne.mpr (fun e => h (Int.ofNat.inj e))
 have k4 : (n3 != m3) = true := bne_iff_ne.mpr h
 obtain ⟨F0, F1, F2⟩ := says_boxes W (.cells #[.int .i64 f0, .string f1, .slice A2 n2 c2, .slice A3 n3 c3] 25) (.cells #[.int .i64 f0, .string f1, .slice B2 m2 e2, .slice B3 m3 e3] 25)
 have HS0 := Aside0.mk F0
 clear F0 F1 F2 h h2
 go_enter Tryd.func15, Tryd.ntmps15
 go_wp2
 go_ret
 exact ⟨rfl, by repeat (first | exact HS0.out | apply pw_below_drewN | apply below_drew1)⟩
def EQC (a : J) : Prop := ∀ (b : J) (A2 A3 B2 B3 : Option Addr) (c2 c3 e2 e3 : Nat) (W : World), Kd.string.C W A2 a.f2.length a.f2 → k25.C W A3 a.f3.length a.f3 → Kd.string.C W B2 b.f2.length b.f2 → k25.C W B3 b.f3.length b.f3 →
 Calls Tryd.prog 15 #[jVal a.f0 a.f1 A2 A3 a.f2.length c2 a.f3.length c3, jVal b.f0 b.f1 B2 B3 b.f2.length e2 b.f3.length e3] W (SEnd (a = b) W)
theorem names_eq {ns ms : List ByteArray} (hl : ns.length = ms.length) (h : ∀ q : Nat, q < ns.length → (nmAt ms q).data.toList = (nmAt ns q).data.toList) : ns = ms := by
 refine List.ext_getElem hl (fun q h1 h2 => ?_)
 have := h q h1
 rw [nmAt_eq ms q h2, nmAt_eq ns q h1] at this
 exact (bytes_ext this).symm
theorem items_eq {ys zs : List J} (hl : ys.length = zs.length) (h : ∀ q : Nat, q < ys.length → rd_T25 ys q = rd_T25 zs q) : ys = zs := by
 refine List.ext_getElem hl (fun q h1 h2 => ?_)
 have := h q h1
 rwa [rd_nat ys q h1, rd_nat zs q h2] at this
set_option maxRecDepth 1000000 in
set_option maxHeartbeats 8000000 in
theorem requal_go (L : Nat) (hL : L ≤ 4611686018427387904) (f0 : Int) (f1 : ByteArray) (ns ms : List ByteArray) (ys zs : List J) (A2 A3 B2 B3 : Option Addr) (c2 c3 e2 e3 : Nat) (W : World) (hn : ns.length = ms.length) (hl : ys.length = zs.length) (hsn : ns.length ≤ L) (hsa : ys.length ≤ L)
  (IH : ∀ y, y ∈ ys → EQC y) (hC2 : Kd.string.C W A2 ns.length ns) (hC3 : k25.C W A3 ys.length ys) (hD2 : Kd.string.C W B2 ms.length ms) (hD3 : k25.C W B3 zs.length zs) :
  Calls Tryd.prog 15 #[jVal f0 f1 A2 A3 ns.length c2 ys.length c3, jVal f0 f1 B2 B3 ms.length e2 zs.length e3] W (SEnd (ns = ms ∧ ys = zs) W) := by
 obtain ⟨F0, F1, F2⟩ := says_boxes W (.cells #[.int .i64 f0, .string f1, .slice A2 ns.length c2, .slice A3 ys.length c3] 25) (.cells #[.int .i64 f0, .string f1, .slice B2 ms.length e2, .slice B3 zs.length e3] 25)
 have HNA := Aside0.mk (Kd.C_F Kd.heap_string hC2)
 have HNB := Aside0.mk (Kd.C_F Kd.heap_string hD2)
 have HFA := Aside0.mk (Kd.C_F heap25 hC3)
 have HFB := Aside0.mk (Kd.C_F heap25 hD3)
 have HIH := Aside0.mk (fun y hy => IH y hy)
 have HNN := Aside0.mk hn
 have HLL := Aside0.mk hl
 have HS0 := Aside0.mk F0
 have HS1 := Aside0.mk F1
 have HS2 := Aside0.mk F2
 have k1 : ((ns.length : Int) != (ms.length : Int)) = false := bne_eq_false_iff_eq.mpr (by rw [hn])
 have k2 : (ns.length != ms.length) = false := bne_eq_false_iff_eq.mpr hn
 have k3 : ((ys.length : Int) != (zs.length : Int)) = false := bne_eq_false_iff_eq.mpr (by rw [hl])
 have k4 : (ys.length != zs.length) = false := bne_eq_false_iff_eq.mpr hl
 clear hC2 hC3 hD2 hD3 IH hn hl F0 F1 F2
 go_enter Tryd.func15, Tryd.ntmps15
 go_wp2
 go_loopg [5] (ns.length + 1) (fun g v5 wr => ∃ i : Nat, v5 = .int .i64 (i : Int) ∧ i ≤ ns.length ∧ ns.length + 1 ≤ i + g ∧ Aside0 (wr.heap[W.heap.size]? = some (.cells #[.int .i64 f0, .string f1, .slice A2 ns.length c2, .slice A3 ys.length c3] 25 (0, 0))) ∧ Aside0 (wr.heap[W.heap.size + 1]? = some (.cells #[.int .i64 f0, .string f1, .slice B2 ms.length e2, .slice B3 zs.length e3] 25 (0, 0))) ∧ Aside0 (Below W.heap.size W wr) ∧ Aside0 (∀ q : Nat, q < i → (nmAt ms q).data.toList = (nmAt ns q).data.toList))
 case atStart => exact ⟨0, rfl, by omega, by omega, HS1, HS2, HS0, ⟨fun q hq => by omega⟩⟩
 case round =>
  obtain ⟨i, rfl, hi, hg, HXA, HXB, HB, HQ⟩ := hrel
  clear HS0 HS1 HS2
  have x2 := (blk_cell HXA.out 2).trans rfl
  have y2 := (blk_cell HXB.out 2).trans rfl
  by_cases hlt : i < ns.length
  ·cases gk with
   | zero => omega
   | succ g =>
    have p1 : (0 ≤ (i : Int)) = True := eq_true (by omega)
    have p2' : ((i : Int) < (ns.length : Int)) = True := eq_true (by omega)
    have p4 : ((i : Int) < (ms.length : Int)) = True := eq_true (by have := HNN.out; omega)
    have hwn := wrap_next i ns.length hlt (by omega)
    have HWN := Aside0.mk hwn
    clear hwn
    obtain ⟨na, ea, hna⟩ := name_at HNA.out i hlt
    subst ea
    obtain ⟨nb, eb, hnb⟩ := name_at HNB.out i (by have := HNN.out; omega)
    subst eb
    have ca := CellOf.at hna HB.out
    have cb := CellOf.at hnb HB.out
    clear hna hnb
    by_cases he : (nmAt ns i).data.toList = (nmAt ms i).data.toList
    case neg =>
     have h1 : ((nmAt ns i).toList == (nmAt ms i).toList) = false := by rw [toList_data, toList_data]; exact beq_eq_false_iff_ne.mpr he
     have h2 : ((nmAt ns i).toList != (nmAt ms i).toList) = true := by rw [bne, h1]; rfl
     have HNO := Aside0.mk (show ¬ (ns = ms ∧ ys = zs) from fun h => he (by rw [h.1]))
     clear he
     go_wp2
     go_quiet (fail)
     go_wp2
     go_ret
     exact ⟨false, rfl, ⟨fun h => (by cases h), fun h => absurd h HNO.out⟩, by repeat (first | exact HB.out | apply pw_below_drewN | apply below_drew1)⟩
    have h1 : ((nmAt ns i).toList == (nmAt ms i).toList) = true := by rw [toList_data, toList_data]; exact beq_iff_eq.mpr he
    have h2 : ((nmAt ns i).toList != (nmAt ms i).toList) = false := by rw [bne, h1]; rfl
    have HQ2 := Aside0.mk (show ∀ q : Nat, q < i + 1 → (nmAt ms q).data.toList = (nmAt ns q).data.toList from fun q hq => by
     by_cases h : q < i
     ·exact HQ.out q h
     ·obtain rfl : q = i := by omega
      exact he.symm)
    clear he
    go_wp2
    go_quiet (fail)
    go_wp2
    go_roundg g
    case measure => omega
    case rel => exact ⟨i + 1, (by first | exact congrArg (Value.int .i64) HWN.out | exact congrArg (Value.int .i64) (show (i : Int) + 1 = ((i + 1 : Nat) : Int) by omega)), by omega, by omega, ⟨by repeat (first | exact HXA.out | refine blk_drewN ?_ _ | refine blk_drew ?_)⟩, ⟨by repeat (first | exact HXB.out | refine blk_drewN ?_ _ | refine blk_drew ?_)⟩, ⟨by repeat (first | exact HB.out | apply pw_below_drewN | apply below_drew1)⟩, HQ2⟩
  have p2' : ((i : Int) < (ns.length : Int)) = False := eq_false (by omega)
  have HNE := Aside0.mk (show ns = ms from names_eq HNN.out (fun q hq => HQ.out q (by omega)))
  have HXA0 := HXA
  have HXB0 := HXB
  have HB0 := HB
  clear HQ HXA HXB HB y2
  go_wp2
  go_loopg [6] (ys.length + 1) (fun g v6 wr => ∃ i : Nat, v6 = .int .i64 (i : Int) ∧ i ≤ ys.length ∧ ys.length + 1 ≤ i + g ∧ Aside0 (wr.heap[W.heap.size]? = some (.cells #[.int .i64 f0, .string f1, .slice A2 ns.length c2, .slice A3 ys.length c3] 25 (0, 0))) ∧ Aside0 (wr.heap[W.heap.size + 1]? = some (.cells #[.int .i64 f0, .string f1, .slice B2 ms.length e2, .slice B3 zs.length e3] 25 (0, 0))) ∧ Aside0 (Below W.heap.size W wr) ∧ Aside0 (∀ q : Nat, q < i → rd_T25 ys q = rd_T25 zs q))
  case atStart => exact ⟨0, rfl, by omega, by omega, HXA0, HXB0, HB0, ⟨fun q hq => by omega⟩⟩
  case round =>
   clear hlt p2' hi hg x2 HXA0 HXB0 HB0
   rename_i i0 _ _ _ _ _
   obtain ⟨i, rfl, hi, hg, HXA, HXB, HB, HQ⟩ := hrel
   have x3 := (blk_cell HXA.out 3).trans rfl
   by_cases hlt : i < ys.length
   ·cases gk with
    | zero => omega
    | succ g =>
     have hkb : i < zs.length := by have := HLL.out; omega
     have HLT := Aside0.mk hlt
     have p1 : (0 ≤ (i : Int)) = True := eq_true (by omega)
     have p2' : ((i : Int) < (ys.length : Int)) = True := eq_true (by omega)
     have p3 : ((i : Int) < (zs.length : Int)) = True := eq_true (by omega)
     have hwn := wrap_next i ys.length hlt (by omega)
     have HWN := Aside0.mk hwn
     clear hwn
     obtain ⟨ada, P2, p2, P3, p3, e9, u0, u1, u2, u3, _, ga2, _, ga3⟩ := F_elem HFA.out i hlt
     subst e9
     obtain ⟨adb, Q2, q2, Q3, q3, e9, v0, v1, v2, v3, _, gb2, _, gb3⟩ := F_elem HFB.out i hkb
     subst e9
     have HA0 := Aside0.mk (show CellOf W _ _ from u0)
     have HA1 := Aside0.mk (show CellOf W _ _ from u1)
     have HA2 := Aside0.mk (show CellOf W _ _ from u2)
     have HA3 := Aside0.mk (show CellOf W _ _ from u3)
     have HC0 := Aside0.mk (show CellOf W _ _ from v0)
     have HC1 := Aside0.mk (show CellOf W _ _ from v1)
     have HC2 := Aside0.mk (show CellOf W _ _ from v2)
     have HC3 := Aside0.mk (show CellOf W _ _ from v3)
     have HGA2 := Aside0.mk ga2
     have HGA3 := Aside0.mk ga3
     have HGB2 := Aside0.mk gb2
     have HGB3 := Aside0.mk gb3
     clear u0 u1 u2 u3 v0 v1 v2 v3 ga2 ga3 gb2 gb3
     go_wp2
     refine start_ (n := 12) (S := fun w' => w'.cell? ⟨W.heap.size, 3, none⟩ = some (.slice (some ada) ys.length c3) ∧ w'.cell? ⟨W.heap.size + 1, 3, none⟩ = some (.slice (some adb) zs.length e3) ∧ w'.cell? (ada.add (i * 4)) = some (.int .i64 (rd_T25 ys i).f0) ∧ w'.cell? ⟨(ada.add (i * 4)).block, (ada.add (i * 4)).off + 1, none⟩ = some (.string (rd_T25 ys i).f1) ∧ w'.cell? ⟨(ada.add (i * 4)).block, (ada.add (i * 4)).off + 2, none⟩ = some (.slice P2 (rd_T25 ys i).f2.length p2) ∧ w'.cell? ⟨(ada.add (i * 4)).block, (ada.add (i * 4)).off + 3, none⟩ = some (.slice P3 (rd_T25 ys i).f3.length p3) ∧ w'.cell? (adb.add (i * 4)) = some (.int .i64 (rd_T25 zs i).f0) ∧ w'.cell? ⟨(adb.add (i * 4)).block, (adb.add (i * 4)).off + 1, none⟩ = some (.string (rd_T25 zs i).f1) ∧ w'.cell? ⟨(adb.add (i * 4)).block, (adb.add (i * 4)).off + 2, none⟩ = some (.slice Q2 (rd_T25 zs i).f2.length q2) ∧ w'.cell? ⟨(adb.add (i * 4)).block, (adb.add (i * 4)).off + 3, none⟩ = some (.slice Q3 (rd_T25 zs i).f3.length q3)) (ds := []) #[false, false, false, false, false, false, false, false, false, false, false, false] (by kernel_rfl) rfl rfl ⟨(blk_cell HXA.out 3).trans rfl, (blk_cell HXB.out 3).trans rfl, HA0.out.at (pw_below_drewN HB.out 1), HA1.out.at (pw_below_drewN HB.out 1), HA2.out.at (pw_below_drewN HB.out 1), HA3.out.at (pw_below_drewN HB.out 1), HC0.out.at (pw_below_drewN HB.out 1), HC1.out.at (pw_below_drewN HB.out 1), HC2.out.at (pw_below_drewN HB.out 1), HC3.out.at (pw_below_drewN HB.out 1)⟩ (fun hHeld => ?_)
     have HB2 := Aside0.mk (show Below W.heap.size W wr.drew from pw_below_drewN HB.out 1)
     have HXA2 := Aside0.mk (show wr.drew.heap[W.heap.size]? = some _ from HXA.out)
     have HXB2 := Aside0.mk (show wr.drew.heap[W.heap.size + 1]? = some _ from HXB.out)
     generalize wr.drew = w8 at HB2 HXA2 HXB2 hHeld ⊢
     refine pure_ (i := 0) (N := some 62) (v := ?_) (a' := ?_) #[true, false, false, false, false, false, false, false, false, false, false, false] rfl rfl (by kernel_rfl) (fun _ _ _ h => h) (Or.inl ⟨by rfl, ?_⟩) ?_ ?_
     rotate_left
     ·intro w'
      go_simp
      with_reducible rfl
     rotate_left
     ·simp only [Act.put, List.setIfInBounds_toArray, List.set_cons_zero, List.set_cons_succ, i64_w, i32_w]
      rfl
     refine pure_ (i := 2) (N := some 64) (v := ?_) (a' := ?_) #[true, false, true, false, false, false, false, false, false, false, false, false] rfl rfl (by kernel_rfl) (fun _ _ _ h => h) (Or.inl ⟨by rfl, ?_⟩) ?_ ?_
     rotate_left
     ·intro w'
      go_simp
      with_reducible rfl
     rotate_left
     ·simp only [Act.put, List.setIfInBounds_toArray, List.set_cons_zero, List.set_cons_succ, i64_w, i32_w]
      rfl
     refine pure_ (i := 5) (N := some 67) (v := ?_) (a' := ?_) #[true, false, true, false, false, true, false, false, false, false, false, false] rfl rfl (by kernel_rfl) (fun _ _ _ h => h) (Or.inl ⟨by rfl, ?_⟩) ?_ ?_
     rotate_left
     ·intro w'
      go_simp
      with_reducible rfl
     rotate_left
     ·simp only [Act.put, List.setIfInBounds_toArray, List.set_cons_zero, List.set_cons_succ, i64_w, i32_w]
      rfl
     refine pure_ (i := 7) (N := some 69) (v := ?_) (a' := ?_) #[true, false, true, false, false, true, false, true, false, false, false, false] rfl rfl (by kernel_rfl) (fun _ _ _ h => h) (Or.inl ⟨by rfl, ?_⟩) ?_ ?_
     rotate_left
     ·intro w'
      go_simp
      with_reducible rfl
     rotate_left
     ·simp only [Act.put, List.setIfInBounds_toArray, List.set_cons_zero, List.set_cons_succ, i64_w, i32_w]
      rfl
     refine take_ (i := 1) (N := some 63) (v := ?_) (a' := ?_) #[true, true, true, false, false, true, false, true, false, false, false, false] rfl rfl (by kernel_rfl) (fun _ _ _ h => h) (Or.inl ⟨by rfl, ?_⟩) hHeld ?_ ?_
     rotate_left
     ·rintro w' ⟨s0, s1, s2, s3, s4, s5, s6, s7, s8, s9⟩
      go_simp
      with_reducible rfl
     rotate_left
     ·simp only [Act.put, List.setIfInBounds_toArray, List.set_cons_zero, List.set_cons_succ, i64_w, i32_w]
      rfl
     refine take_ (i := 6) (N := some 68) (v := ?_) (a' := ?_) #[true, true, true, false, false, true, true, true, false, false, false, false] rfl rfl (by kernel_rfl) (fun _ _ _ h => h) (Or.inl ⟨by rfl, ?_⟩) hHeld ?_ ?_
     rotate_left
     ·rintro w' ⟨s0, s1, s2, s3, s4, s5, s6, s7, s8, s9⟩
      go_simp
      with_reducible rfl
     rotate_left
     ·simp only [Act.put, List.setIfInBounds_toArray, List.set_cons_zero, List.set_cons_succ, i64_w, i32_w]
      rfl
     refine pure_ (i := 3) (N := some 65) (v := ?_) (a' := ?_) #[true, true, true, true, false, true, true, true, false, false, false, false] rfl rfl (by kernel_rfl) (fun _ _ _ h => h) (Or.inl ⟨by rfl, ?_⟩) ?_ ?_
     rotate_left
     ·intro w'
      go_simp
      with_reducible rfl
     rotate_left
     ·simp only [Act.put, List.setIfInBounds_toArray, List.set_cons_zero, List.set_cons_succ, i64_w, i32_w]
      rfl
     refine pure_ (i := 8) (N := some 70) (v := ?_) (a' := ?_) #[true, true, true, true, false, true, true, true, true, false, false, false] rfl rfl (by kernel_rfl) (fun _ _ _ h => h) (Or.inl ⟨by rfl, ?_⟩) ?_ ?_
     rotate_left
     ·intro w'
      go_simp
      with_reducible rfl
     rotate_left
     ·simp only [Act.put, List.setIfInBounds_toArray, List.set_cons_zero, List.set_cons_succ, i64_w, i32_w]
      rfl
     refine take_ (i := 4) (N := some 66) (v := ?_) (a' := ?_) #[true, true, true, true, true, true, true, true, true, false, false, false] rfl rfl (by kernel_rfl) (fun _ _ _ h => h) (Or.inl ⟨by rfl, ?_⟩) hHeld ?_ ?_
     rotate_left
     ·rintro w' ⟨s0, s1, s2, s3, s4, s5, s6, s7, s8, s9⟩
      go_simp
      with_reducible rfl
     rotate_left
     ·simp only [Act.put, List.setIfInBounds_toArray, List.set_cons_zero, List.set_cons_succ, i64_w, i32_w]
      rfl
     refine take_ (i := 9) (N := some 71) (v := ?_) (a' := ?_) #[true, true, true, true, true, true, true, true, true, true, false, false] rfl rfl (by kernel_rfl) (fun _ _ _ h => h) (Or.inl ⟨by rfl, ?_⟩) hHeld ?_ ?_
     rotate_left
     ·rintro w' ⟨s0, s1, s2, s3, s4, s5, s6, s7, s8, s9⟩
      go_simp
      with_reducible rfl
     rotate_left
     ·simp only [Act.put, List.setIfInBounds_toArray, List.set_cons_zero, List.set_cons_succ, i64_w, i32_w]
      rfl
     refine one_ (i := 10) (N := some 72) #[true, true, true, true, true, true, true, true, true, true, true, false] rfl rfl (by kernel_rfl) (by decide) (fun K hK => ?_)
     refine goes_ Tryd.func15 (by kernel_rfl) rfl #[jVal (rd_T25 ys i).f0 (rd_T25 ys i).f1 P2 P3 (rd_T25 ys i).f2.length p2 (rd_T25 ys i).f3.length p3, jVal (rd_T25 zs i).f0 (rd_T25 zs i).f1 Q2 Q3 (rd_T25 zs i).f2.length q2 (rd_T25 zs i).f3.length q3] (by rfl) rfl rfl (by (try simp only [List.map_toArray, List.map_cons, List.map_nil]); first | done | rfl) ?_
     refine (HIH.out (rd_T25 ys i) (rd_mem ys i HLT.out) (rd_T25 zs i) P2 P3 Q2 Q3 p2 p3 q2 q3 w8 (Kd.F_now (Kd.F_old HGA2.out HB2.out)) (Kd.F_now (Kd.F_old HGA3.out HB2.out)) (Kd.F_now (Kd.F_old HGB2.out HB2.out)) (Kd.F_now (Kd.F_old HGB3.out HB2.out))).mono ?_
     rintro e w9 ⟨t, rfl, ht, hb⟩
     refine ⟨_, rfl, ?_⟩
     have HTT := Aside0.mk ht
     have HB9 := Aside0.mk (below_step HB2.out hb)
     have HXA9 := Aside0.mk ((hb.block _ (lt_of_block HXA2.out)).trans HXA2.out)
     have HXB9 := Aside0.mk ((hb.block _ (lt_of_block HXB2.out)).trans HXB2.out)
     clear ht hb
     refine hK.out _ _ ⟨(blk_cell HXA9.out 3).trans rfl, (blk_cell HXB9.out 3).trans rfl, HA0.out.at HB9.out, HA1.out.at HB9.out, HA2.out.at HB9.out, HA3.out.at HB9.out, HC0.out.at HB9.out, HC1.out.at HB9.out, HC2.out.at HB9.out, HC3.out.at HB9.out⟩ (fun hHeld => ?_)
     clear hK K
     refine norm_ (a' := ?_) ?_ ?_
     rotate_left
     ·show Act.put _ (some 72) _ = _
      simp only [Act.put, List.setIfInBounds_toArray, List.set_cons_zero, List.set_cons_succ, i64_w, i32_w]
      rfl
     refine pure_ (i := 11) (N := some 73) (v := ?_) (a' := ?_) #[true, true, true, true, true, true, true, true, true, true, true, true] rfl rfl (by kernel_rfl) (fun _ _ _ h => h) (Or.inl ⟨by rfl, ?_⟩) ?_ ?_
     rotate_left
     ·intro w'
      go_simp
      with_reducible rfl
     rotate_left
     ·simp only [Act.put, List.setIfInBounds_toArray, List.set_cons_zero, List.set_cons_succ, i64_w, i32_w]
      rfl
     refine done_ (by kernel_rfl) ?_
     try go_wp2
     ·rename_i hb0
      have htf : t = false := by cases t; rfl; cases hb0
      have HNO := Aside0.mk (show ¬ (ns = ms ∧ ys = zs) from fun h => by
       have := HTT.out.2 (by rw [h.2])
       rw [htf] at this
       cases this)
      go_ret
      exact ⟨false, rfl, ⟨fun h => (by cases h), fun h => absurd h HNO.out⟩, by repeat (first | exact HB9.out | apply pw_below_drewN | apply below_drew1)⟩
     ·rename_i hb0
      have htt : t = true := by cases t; cases hb0; rfl
      have HQ2 := Aside0.mk (show ∀ q : Nat, q < i + 1 → rd_T25 ys q = rd_T25 zs q from fun q hq => by
       by_cases h : q < i
       ·exact HQ.out q h
       ·obtain rfl : q = i := by omega
        exact HTT.out.1 htt)
      go_roundg g
      case measure => omega
      case rel => exact ⟨i + 1, (by first | exact congrArg (Value.int .i64) HWN.out | exact congrArg (Value.int .i64) (show (i : Int) + 1 = ((i + 1 : Nat) : Int) by omega)), by omega, by omega, ⟨by repeat (first | exact HXA9.out | refine blk_drewN ?_ _ | refine blk_drew ?_)⟩, ⟨by repeat (first | exact HXB9.out | refine blk_drewN ?_ _ | refine blk_drew ?_)⟩, ⟨by repeat (first | exact HB9.out | apply pw_below_drewN | apply below_drew1)⟩, HQ2⟩
   ·have p2' : ((i : Int) < (ys.length : Int)) = False := eq_false (by omega)
    go_wp2
    go_ret
    exact ⟨true, rfl, ⟨fun _ => ⟨HNE.out, items_eq HLL.out (fun q hq => HQ.out q (by omega))⟩, fun _ => rfl⟩, by repeat (first | exact HB.out | apply pw_below_drewN | apply below_drew1)⟩
theorem requal_ok (B L : Nat) (hL : L ≤ 4611686018427387904) {a : J} (ha : Bd B L a) : EQC a := by
 induction ha with
 | mk f0 f1 f2 f3 h1 h2 h3 h4 h5 ih =>
  intro b A2 A3 B2 B3 c2 c3 e2 e3 W hA2 hA3 hB2 hB3
  obtain ⟨g0, g1, g2, g3⟩ := b
  by_cases k0 : f0 = g0
  case neg => exact send_no (fun h => k0 (congrArg (fun j : J => j.f0) h)) (requal_no0 _ _ _ _ _ _ _ _ _ _ _ _ _ _ _ _ W k0)
  by_cases k1 : f1 = g1
  case neg =>
   subst k0
   exact send_no (fun h => k1 (congrArg (fun j : J => j.f1) h)) (requal_no1 _ _ _ _ _ _ _ _ _ _ _ _ _ _ _ W k1)
  subst k0 k1
  by_cases k2 : f2.length = g2.length
  case neg => exact send_no (fun h => k2 (congrArg (fun j : J => j.f2.length) h)) (requal_no2 _ _ _ _ _ _ _ _ _ _ _ _ _ _ W k2)
  by_cases k3 : f3.length = g3.length
  case neg => exact send_no (fun h => k3 (congrArg (fun j : J => j.f3.length) h)) (requal_no3 _ _ _ _ _ _ _ _ _ _ _ _ _ _ W k2 k3)
  refine send_iff ?_ (requal_go L hL f0 f1 f2 g2 f3 g3 A2 A3 B2 B3 c2 c3 e2 e3 W k2 k3 h3 h4 ih hA2 hA3 hB2 hB3)
  constructor
  ·intro h
   exact ⟨congrArg (fun j : J => j.f2) h, congrArg (fun j : J => j.f3) h⟩
  ·rintro ⟨rfl, rfl⟩
   rfl
end Go.Proofs.YtaalajhmfdcalaaDoor.X
namespace Go.Proofs.YtaalajhmfdcalaaDoor.X
open Go.RowKit Go.Proofs.YtaalajhmfdcalaaDoor.X Go.Proofs.YtaalajhmfdcalaaDoorW.PrintWords Go.Proofs.YtaalajhmfdcalaaDoorW.PrintLast Go.Proofs.YtaalajhmfdcalaaDoorW.PrintMore
attribute [local go_sem] max2_int min2_int max_two min_two max_three min_three max_four min_four   -- for this text's walks alone
set_option linter.unusedVariables false
set_option linter.unusedSimpArgs false
def wicketlaw04_num.f (a0 : Int) : Option (Int) := some a0
set_option maxHeartbeats 8000000 in
set_option maxRecDepth 100000 in
theorem wicketlaw04_num.calls (a0 : Int) (r : Int) (w : World) (h : wicketlaw04_num.f a0 = some r) :
  Calls Tryd.prog 14 #[.int .i64 a0] w fun e w' => e = .returned (.int .i64 r) ∧ Drawn0 w w' := by
 have H : (some a0) = some r := h
 clear h
 obtain rfl := Option.some.inj H
 go_enter Tryd.func14, Tryd.ntmps14
 go_wp2
 go_ret
 exact ⟨by first | rfl | (simp; done) | (simp [*]; done), by repeat (first | exact Drawn0.refl _ | apply Drawn0.step)⟩
def wicketlaw04_live.f  : Option (Bool) := (jtext_Parse.f (⟨#[32, 123, 34, 97, 34, 32, 58, 32, 91, 49, 44, 32, 116, 114, 117, 101, 44, 32, 34, 120, 34, 93, 125, 32]⟩ : ByteArray)).bind fun bt101 => ((jtext_Print.f bt101.1 bt101.2.1 bt101.2.2.1 bt101.2.2.2.1).bind fun bt112 => ((jtext_Parse.f (⟨#[91, 49, 44, 93]⟩ : ByteArray)).bind fun bt114 => ((wicketlaw04_num.f bt101.2.2.2.2.1).bind fun t125 => (if t125 = 0 then ((wicketlaw04_num.f bt112.2).bind fun t126 => (if t126 = 0 then (if bt112.1.toList = ([123, 34, 97, 34, 58, 91, 49, 44, 116, 114, 117, 101, 44, 34, 120, 34, 93, 125] : List UInt8) then ((wicketlaw04_num.f bt114.2.2.2.2.1).bind fun t127 => (if t127 = 40 then (some (bt114.2.2.2.2.2 == 3)) else none)) else none) else none)) else none))))
set_option maxHeartbeats 8000000 in
set_option maxRecDepth 100000 in
theorem wicketlaw04_live.calls  (r : Bool) (w : World) (hG : GL w) (h : wicketlaw04_live.f  = some r) :
  Calls Tryd.prog 13 #[] w fun e w' => e = .returned (.bool r) ∧ Below w.heap.size w w' := by
 have hu25 := Tryd.underlying25
 have HB := Aside0.mk (Below.refl w.heap.size w)
 have HG := Aside0.mk hG
 clear hG
 have H : ((jtext_Parse.f (⟨#[32, 123, 34, 97, 34, 32, 58, 32, 91, 49, 44, 32, 116, 114, 117, 101, 44, 32, 34, 120, 34, 93, 125, 32]⟩ : ByteArray)).bind fun bt101 => ((jtext_Print.f bt101.1 bt101.2.1 bt101.2.2.1 bt101.2.2.2.1).bind fun bt112 => ((jtext_Parse.f (⟨#[91, 49, 44, 93]⟩ : ByteArray)).bind fun bt114 => ((wicketlaw04_num.f bt101.2.2.2.2.1).bind fun t125 => (if t125 = 0 then ((wicketlaw04_num.f bt112.2).bind fun t126 => (if t126 = 0 then (if bt112.1.toList = ([123, 34, 97, 34, 58, 91, 49, 44, 116, 114, 117, 101, 44, 34, 120, 34, 93, 125] : List UInt8) then ((wicketlaw04_num.f bt114.2.2.2.2.1).bind fun t127 => (if t127 = 40 then (some (bt114.2.2.2.2.2 == 3)) else none)) else none) else none)) else none))))) = some r := h
 clear h
 replace H := Option.bind_eq_some_iff.mp H
 obtain ⟨⟨t101, t102, t103, t106, t109, t110⟩, A10, H⟩ := H
 replace H : ((jtext_Print.f t101 t102 t103 t106).bind fun bt112 => ((jtext_Parse.f (⟨#[91, 49, 44, 93]⟩ : ByteArray)).bind fun bt114 => ((wicketlaw04_num.f t109).bind fun t125 => (if t125 = 0 then ((wicketlaw04_num.f bt112.2).bind fun t126 => (if t126 = 0 then (if bt112.1.toList = ([123, 34, 97, 34, 58, 91, 49, 44, 116, 114, 117, 101, 44, 34, 120, 34, 93, 125] : List UInt8) then ((wicketlaw04_num.f bt114.2.2.2.2.1).bind fun t127 => (if t127 = 40 then (some (bt114.2.2.2.2.2 == 3)) else none)) else none) else none)) else none)))) = some r := H
 have A1 := Aside0.mk A10
 clear A10
 replace H := Option.bind_eq_some_iff.mp H
 obtain ⟨⟨t112, t113⟩, A20, H⟩ := H
 replace H : ((jtext_Parse.f (⟨#[91, 49, 44, 93]⟩ : ByteArray)).bind fun bt114 => ((wicketlaw04_num.f t109).bind fun t125 => (if t125 = 0 then ((wicketlaw04_num.f t113).bind fun t126 => (if t126 = 0 then (if t112.toList = ([123, 34, 97, 34, 58, 91, 49, 44, 116, 114, 117, 101, 44, 34, 120, 34, 93, 125] : List UInt8) then ((wicketlaw04_num.f bt114.2.2.2.2.1).bind fun t127 => (if t127 = 40 then (some (bt114.2.2.2.2.2 == 3)) else none)) else none) else none)) else none))) = some r := H
 have A2 := Aside0.mk A20
 clear A20
 replace H := Option.bind_eq_some_iff.mp H
 obtain ⟨⟨t114, t115, t116, t119, t122, t123⟩, A30, H⟩ := H
 replace H : ((wicketlaw04_num.f t109).bind fun t125 => (if t125 = 0 then ((wicketlaw04_num.f t113).bind fun t126 => (if t126 = 0 then (if t112.toList = ([123, 34, 97, 34, 58, 91, 49, 44, 116, 114, 117, 101, 44, 34, 120, 34, 93, 125] : List UInt8) then ((wicketlaw04_num.f t122).bind fun t127 => (if t127 = 40 then (some (t123 == 3)) else none)) else none) else none)) else none)) = some r := H
 have A3 := Aside0.mk A30
 clear A30
 replace H := Option.bind_eq_some_iff.mp H
 obtain ⟨t125, A40, H⟩ := H
 obtain rfl : t109 = t125 := Option.some.inj A40
 replace H : (if t109 = 0 then ((wicketlaw04_num.f t113).bind fun t126 => (if t126 = 0 then (if t112.toList = ([123, 34, 97, 34, 58, 91, 49, 44, 116, 114, 117, 101, 44, 34, 120, 34, 93, 125] : List UInt8) then ((wicketlaw04_num.f t122).bind fun t127 => (if t127 = 40 then (some (t123 == 3)) else none)) else none) else none)) else none) = some r := H
 have A4 := Aside0.mk A40
 clear A40
 by_cases c5 : t109 = 0
 ·rw [if_pos c5] at H
  have c5b0 : (t109 == 0) = true := beq_iff_eq.mpr c5
  have c5b1 : (t109 != 0) = false := bne_eq_false_iff_eq.mpr c5
  clear c5
  replace H := Option.bind_eq_some_iff.mp H
  obtain ⟨t126, A60, H⟩ := H
  obtain rfl : t113 = t126 := Option.some.inj A60
  replace H : (if t113 = 0 then (if t112.toList = ([123, 34, 97, 34, 58, 91, 49, 44, 116, 114, 117, 101, 44, 34, 120, 34, 93, 125] : List UInt8) then ((wicketlaw04_num.f t122).bind fun t127 => (if t127 = 40 then (some (t123 == 3)) else none)) else none) else none) = some r := H
  have A6 := Aside0.mk A60
  clear A60
  by_cases c7 : t113 = 0
  ·rw [if_pos c7] at H
   have c7b0 : (t113 == 0) = true := beq_iff_eq.mpr c7
   have c7b1 : (t113 != 0) = false := bne_eq_false_iff_eq.mpr c7
   clear c7
   by_cases c8 : t112.toList = ([123, 34, 97, 34, 58, 91, 49, 44, 116, 114, 117, 101, 44, 34, 120, 34, 93, 125] : List UInt8)
   ·rw [if_pos c8] at H
    have c8b0 : (t112.toList == ([123, 34, 97, 34, 58, 91, 49, 44, 116, 114, 117, 101, 44, 34, 120, 34, 93, 125] : List UInt8)) = true := beq_iff_eq.mpr c8
    have c8b1 : (t112.toList != ([123, 34, 97, 34, 58, 91, 49, 44, 116, 114, 117, 101, 44, 34, 120, 34, 93, 125] : List UInt8)) = false := bne_eq_false_iff_eq.mpr c8
    clear c8
    replace H := Option.bind_eq_some_iff.mp H
    obtain ⟨t127, A90, H⟩ := H
    obtain rfl : t122 = t127 := Option.some.inj A90
    replace H : (if t122 = 40 then (some (t123 == 3)) else none) = some r := H
    have A9 := Aside0.mk A90
    clear A90
    by_cases c10 : t122 = 40
    ·rw [if_pos c10] at H
     have c10b0 : (t122 == 40) = true := beq_iff_eq.mpr c10
     have c10b1 : (t122 != 40) = false := bne_eq_false_iff_eq.mpr c10
     clear c10
     obtain rfl := Option.some.inj H
     go_enter Tryd.func13, Tryd.ntmps13
     go_wp2_with (first | ((with_reducible refine gate_callee (f := 11) rfl ?_); refine goesL_ (some 10) rfl rfl Tryd.func11 (by kernel_rfl) rfl #[.string (⟨#[32, 123, 34, 97, 34, 32, 58, 32, 91, 49, 44, 32, 116, 114, 117, 101, 44, 32, 34, 120, 34, 93, 125, 32]⟩ : ByteArray)] rfl (by (try simp only [List.map_toArray, List.map_cons, List.map_nil]); first | done | rfl | (simp only [List.length_drop, List.length_take]; rfl)) ?_; (with_reducible refine (jtext_Parse.calls (⟨#[32, 123, 34, 97, 34, 32, 58, 32, 91, 49, 44, 32, 116, 114, 117, 101, 44, 32, 34, 120, 34, 93, 125, 32]⟩ : ByteArray) t101 t102 t103 t106 t109 t110 _ ?side1 A1.out).mono ?_); (case side1 => exact GL_below HG.out (by repeat (first | (with_reducible first | exact HB.out | apply below_alloc | apply pw_below_drewN | apply below_drew1) | exact HB.out))); rintro e w11 ⟨v104, v107, rfl, ho0, ho1, hb⟩; refine ⟨_, rfl, ?_⟩; have n0_ := Aside0.mk (Kd.R_lower ho0 (below_size (by repeat (first | (with_reducible first | exact HB.out | apply below_alloc | apply pw_below_drewN | apply below_drew1) | exact HB.out)))); have n1_ := Aside0.mk (Kd.R_lower ho1 (below_size (by repeat (first | (with_reducible first | exact HB.out | apply below_alloc | apply pw_below_drewN | apply below_drew1) | exact HB.out)))); have n2_ := Aside0.mk (below_step (by repeat (first | (with_reducible first | exact HB.out | apply below_alloc | apply pw_below_drewN | apply below_drew1) | exact HB.out)) hb); clear HB; have HO105 := n0_; have HO108 := n1_; have HB := n2_; clear n0_ n1_ n2_; (try clear hb); (try clear hb2); (try clear hk); (try clear hi); (try clear ho0); (try clear ho1)) | ((with_reducible refine gate_dst (N := 1) rfl ?_); refine box_event ?hg (N := 1) ?hd (cs := #[.int .i64 0, .string (⟨#[]⟩ : ByteArray), .slice none 0 0, .slice none 0 0]) (t := 25) ?hr ?_; (case hd => rfl); (case hg => rfl); (case hr => first | (go_simp; done) | (go_simp; rfl)); intro gb111 hg w12 hbox hb; have n0_ := Aside0.mk (Kd.R_below (by (with_reducible repeat (first | apply Kd.R_alloc | apply Kd.R_drewN | apply Kd.R_drew)); exact HO105.out) hb); have n1_ := Aside0.mk (Kd.R_below (Kd.R_elderB (by (with_reducible repeat (first | apply Kd.R_alloc | apply Kd.R_drewN | apply Kd.R_drew)); exact HO108.out) gb111 (Nat.le_of_eq hg.symm)) hb); have n2_ := Aside0.mk (below_step (by repeat (first | (with_reducible first | exact HB.out | apply below_alloc | apply pw_below_drewN | apply below_drew1) | exact HB.out)) hb); have n3_ := Aside0.mk (hbox); have n4_ := Aside0.mk ((by rw [hg]; exact (below_size (by repeat (first | (with_reducible first | exact HB.out | apply below_alloc | apply pw_below_drewN | apply below_drew1) | exact HB.out))) : w.heap.size ≤ gb111)); have n5_ := Aside0.mk ((by rw [hg]; exact (below_size (by repeat (first | (with_reducible first | exact HB.out | apply below_alloc | apply pw_below_drewN | apply below_drew1) | exact HB.out))) : w.heap.size ≤ gb111)); clear HO105; clear HO108; clear HB; have HO105 := n0_; have HO108 := n1_; have HB := n2_; have BK111 := n3_; have GW111 := n4_; have GE111 := n5_; clear n0_ n1_ n2_ n3_ n4_ n5_; clear hb hbox hg; have hcz13_0 : w12.cell? ⟨gb111, 0, none⟩ = some (.int .i64 0) := (blk_cell BK111.out 0).trans rfl; have hcz13_1 : w12.cell? ⟨gb111, 1, none⟩ = some (.string (⟨#[]⟩ : ByteArray)) := (blk_cell BK111.out 1).trans rfl; have hcz13_2 : w12.cell? ⟨gb111, 2, none⟩ = some (.slice none 0 0) := (blk_cell BK111.out 2).trans rfl; have hcz13_3 : w12.cell? ⟨gb111, 3, none⟩ = some (.slice none 0 0) := (blk_cell BK111.out 3).trans rfl; have hfz13_0 := blk_frozen BK111.out 0; have hfz13_1 := blk_frozen BK111.out 1; have hfz13_2 := blk_frozen BK111.out 2; have hfz13_3 := blk_frozen BK111.out 3; obtain ⟨Ao14, co14, eo14⟩ := Kd.R_slice HO105.out; subst eo14; obtain ⟨Ao15, co15, eo15⟩ := Kd.R_slice HO108.out; subst eo15) | ((with_reducible refine gate_callee (f := 17) rfl ?_); refine goesL_ (some 16) rfl rfl Tryd.func17 (by kernel_rfl) rfl #[.agg #[.int .i64 t101, .string t102, .slice Ao14 t103.length co14, .slice Ao15 t106.length co15]] rfl (by (try simp only [List.map_toArray, List.map_cons, List.map_nil]); first | done | rfl | (simp only [List.length_drop, List.length_take]; rfl)) ?_; (with_reducible refine (jtext_Print.calls t101 t102 _ _ t103 _ _ t106 t112 t113 _ ?side1 ?side2 ?side3 ?side4 ?side5 A2.out).mono ?_); (case side1 => refine (Kd.R_reads' (e := 9) (base := w.heap.size) (ok := fun k_ => True) (n := t103.length) (c := co14) ?_).2.2; exact (by (with_reducible repeat (first | apply Kd.R_alloc | apply Kd.R_drewN | apply Kd.R_drew)); exact (Kd.R_mono (Kd.R_far (p := ⟨gb111, 3, none⟩) (Kd.R_far (p := ⟨gb111, 2, none⟩) (Kd.R_far (p := ⟨gb111, 1, none⟩) (Kd.R_far (p := ⟨gb111, 0, none⟩) (Kd.R_types HO105.out BK111.out (by decide)) (fun _ hk => hk.2) (.int .i64 t101)) (fun _ hk => hk.2) (.string t102)) (fun _ hk => hk.2) (.slice Ao14 t103.length co14)) (fun _ hk => hk.2) (.slice Ao15 t106.length co15)) (fun _ h_ => h_.1)))); (case side2 => exact (Kd.R_reads' HO105.out).2.1); (case side3 => refine (Kd.R_reads' (e := 25) (base := w.heap.size) (ok := fun k_ => (some k_ ≠ (.slice Ao14 t103.length co14 : Value).ownBlock ∧ k_ ≠ gb111)) (n := t106.length) (c := co15) ?_).2.2; exact (by (with_reducible repeat (first | apply Kd.R_alloc | apply Kd.R_drewN | apply Kd.R_drew)); exact (Kd.R_mono (Kd.R_far (p := ⟨gb111, 3, none⟩) (Kd.R_far (p := ⟨gb111, 2, none⟩) (Kd.R_far (p := ⟨gb111, 1, none⟩) (Kd.R_far (p := ⟨gb111, 0, none⟩) (Kd.R_mono HO108.out (fun k_ hk => (⟨hk, hk.2⟩ : _ ∧ k_ ≠ gb111))) (fun _ hk => hk.2) (.int .i64 t101)) (fun _ hk => hk.2) (.string t102)) (fun _ hk => hk.2) (.slice Ao14 t103.length co14)) (fun _ hk => hk.2) (.slice Ao15 t106.length co15)) (fun _ h_ => h_.1)))); (case side4 => exact (Kd.R_reads' HO108.out).2.1); (case side5 => exact GL_below HG.out (by repeat (first | (with_reducible first | exact HB.out | apply below_alloc | apply pw_below_drewN | apply below_drew1 | refine below_set ?_ GE111.out) | exact HB.out))); rintro e w16 ⟨rfl, hb⟩; refine ⟨_, rfl, ?_⟩; have n0_ := Aside0.mk (Kd.R_below (by (with_reducible repeat (first | apply Kd.R_alloc | apply Kd.R_drewN | apply Kd.R_drew)); exact (Kd.R_mono (Kd.R_far (p := ⟨gb111, 3, none⟩) (Kd.R_far (p := ⟨gb111, 2, none⟩) (Kd.R_far (p := ⟨gb111, 1, none⟩) (Kd.R_far (p := ⟨gb111, 0, none⟩) (Kd.R_types HO105.out BK111.out (by decide)) (fun _ hk => hk.2) (.int .i64 t101)) (fun _ hk => hk.2) (.string t102)) (fun _ hk => hk.2) (.slice Ao14 t103.length co14)) (fun _ hk => hk.2) (.slice Ao15 t106.length co15)) (fun _ h_ => h_.1))) hb); have n1_ := Aside0.mk (Kd.R_below (by (with_reducible repeat (first | apply Kd.R_alloc | apply Kd.R_drewN | apply Kd.R_drew)); exact (Kd.R_mono (Kd.R_far (p := ⟨gb111, 3, none⟩) (Kd.R_far (p := ⟨gb111, 2, none⟩) (Kd.R_far (p := ⟨gb111, 1, none⟩) (Kd.R_far (p := ⟨gb111, 0, none⟩) (Kd.R_mono HO108.out (fun k_ hk => (⟨hk, hk.2⟩ : _ ∧ k_ ≠ gb111))) (fun _ hk => hk.2) (.int .i64 t101)) (fun _ hk => hk.2) (.string t102)) (fun _ hk => hk.2) (.slice Ao14 t103.length co14)) (fun _ hk => hk.2) (.slice Ao15 t106.length co15)) (fun _ h_ => h_.1))) hb); have n2_ := Aside0.mk (blk_below (g := gb111) (o := .cells #[.int .i64 t101, .string t102, .slice Ao14 t103.length co14, .slice Ao15 t106.length co15] 25 (0, 0)) (by (with_reducible repeat (first | refine blk_drewN ?_ _ | refine blk_drew ?_ | refine blk_alloc ?_ _)); refine blk_put (cs := #[.int .i64 t101, .string t102, .slice Ao14 t103.length co14, .slice none 0 0]) ?_ 3 _ rfl; (with_reducible repeat (first | refine blk_drewN ?_ _ | refine blk_drew ?_ | refine blk_alloc ?_ _)); refine blk_put (cs := #[.int .i64 t101, .string t102, .slice none 0 0, .slice none 0 0]) ?_ 2 _ rfl; (with_reducible repeat (first | refine blk_drewN ?_ _ | refine blk_drew ?_ | refine blk_alloc ?_ _)); refine blk_put (cs := #[.int .i64 t101, .string (⟨#[]⟩ : ByteArray), .slice none 0 0, .slice none 0 0]) ?_ 1 _ rfl; (with_reducible repeat (first | refine blk_drewN ?_ _ | refine blk_drew ?_ | refine blk_alloc ?_ _)); refine blk_put (cs := #[.int .i64 0, .string (⟨#[]⟩ : ByteArray), .slice none 0 0, .slice none 0 0]) ?_ 0 _ rfl; (with_reducible repeat (first | refine blk_drewN ?_ _ | refine blk_drew ?_ | refine blk_alloc ?_ _)); exact BK111.out) hb); have n3_ := Aside0.mk (below_step (by repeat (first | (with_reducible first | exact HB.out | apply below_alloc | apply pw_below_drewN | apply below_drew1 | refine below_set ?_ GE111.out) | exact HB.out)) hb); clear HO105; clear HO108; clear BK111; clear HB; have HO105 := n0_; have HO108 := n1_; have BK111 := n2_; have HB := n3_; clear n0_ n1_ n2_ n3_; (try clear hb); (try clear hb2); (try clear hk); (try clear hi)) | ((with_reducible refine gate_callee (f := 11) rfl ?_); refine goesL_ (some 20) rfl rfl Tryd.func11 (by kernel_rfl) rfl #[.string (⟨#[91, 49, 44, 93]⟩ : ByteArray)] rfl (by (try simp only [List.map_toArray, List.map_cons, List.map_nil]); first | done | rfl | (simp only [List.length_drop, List.length_take]; rfl)) ?_; (with_reducible refine (jtext_Parse.calls (⟨#[91, 49, 44, 93]⟩ : ByteArray) t114 t115 t116 t119 t122 t123 _ ?side1 A3.out).mono ?_); (case side1 => exact GL_below HG.out (by repeat (first | (with_reducible first | exact HB.out | apply below_alloc | apply pw_below_drewN | apply below_drew1 | refine below_set ?_ GE111.out) | exact HB.out))); rintro e w17 ⟨v117, v120, rfl, ho0, ho1, hb⟩; refine ⟨_, rfl, ?_⟩; have n0_ := Aside0.mk (Kd.R_elder' (by (with_reducible repeat (first | apply Kd.R_alloc | apply Kd.R_drewN | apply Kd.R_drew)); exact HO105.out) (Kd.R_base ho0) hb); have n1_ := Aside0.mk (Kd.R_mono (Kd.R_told (Kd.R_told (Kd.R_old (by (with_reducible repeat (first | apply Kd.R_alloc | apply Kd.R_drewN | apply Kd.R_drew)); exact HO108.out) hb) (Kd.R_base ho0)) (Kd.R_base ho1)) (fun _ h_ => h_.1)); have n2_ := Aside0.mk (Kd.R_lower (Kd.R_new' ho0 (Kd.R_lt (by (with_reducible repeat (first | apply Kd.R_alloc | apply Kd.R_drewN | apply Kd.R_drew)); exact HO105.out))) (below_size (by repeat (first | (with_reducible first | exact HB.out | apply below_alloc | apply pw_below_drewN | apply below_drew1 | refine below_set ?_ GE111.out) | exact HB.out)))); have n3_ := Aside0.mk (Kd.R_lower (Kd.R_newB (Kd.R_new' (Kd.R_new' ho1 (Kd.R_lt (by (with_reducible repeat (first | apply Kd.R_alloc | apply Kd.R_drewN | apply Kd.R_drew)); exact HO105.out))) (Kd.R_lt (by (with_reducible repeat (first | apply Kd.R_alloc | apply Kd.R_drewN | apply Kd.R_drew)); exact HO108.out))) (g := gb111) (o := .cells #[.int .i64 t101, .string t102, .slice Ao14 t103.length co14, .slice Ao15 t106.length co15] 25 (0, 0)) (by (with_reducible repeat (first | refine blk_drewN ?_ _ | refine blk_drew ?_ | refine blk_alloc ?_ _)); exact BK111.out)) (below_size (by repeat (first | (with_reducible first | exact HB.out | apply below_alloc | apply pw_below_drewN | apply below_drew1 | refine below_set ?_ GE111.out) | exact HB.out)))); have n4_ := Aside0.mk (blk_below (g := gb111) (o := .cells #[.int .i64 t101, .string t102, .slice Ao14 t103.length co14, .slice Ao15 t106.length co15] 25 (0, 0)) (by (with_reducible repeat (first | refine blk_drewN ?_ _ | refine blk_drew ?_ | refine blk_alloc ?_ _)); exact BK111.out) hb); have n5_ := Aside0.mk (below_step (by repeat (first | (with_reducible first | exact HB.out | apply below_alloc | apply pw_below_drewN | apply below_drew1 | refine below_set ?_ GE111.out) | exact HB.out)) hb); clear HO105; clear HO108; clear BK111; clear HB; have HO105 := n0_; have HO108 := n1_; have HO118 := n2_; have HO121 := n3_; have BK111 := n4_; have HB := n5_; clear n0_ n1_ n2_ n3_ n4_ n5_; (try clear hb); (try clear hb2); (try clear hk); (try clear hi); (try clear ho0); (try clear ho1)) | ((with_reducible refine gate_dst (N := 6) rfl ?_); refine box_event ?hg (N := 6) ?hd (cs := #[.int .i64 0, .string (⟨#[]⟩ : ByteArray), .slice none 0 0, .slice none 0 0]) (t := 25) ?hr ?_; (case hd => rfl); (case hg => rfl); (case hr => first | (go_simp; done) | (go_simp; rfl)); intro gb124 hg w18 hbox hb; have n0_ := Aside0.mk (Kd.R_below (by (with_reducible repeat (first | apply Kd.R_alloc | apply Kd.R_drewN | apply Kd.R_drew)); exact HO105.out) hb); have n1_ := Aside0.mk (Kd.R_below (Kd.R_elderB (by (with_reducible repeat (first | apply Kd.R_alloc | apply Kd.R_drewN | apply Kd.R_drew)); exact HO108.out) gb124 (Nat.le_of_eq hg.symm)) hb); have n2_ := Aside0.mk (Kd.R_below (by (with_reducible repeat (first | apply Kd.R_alloc | apply Kd.R_drewN | apply Kd.R_drew)); exact HO118.out) hb); have n3_ := Aside0.mk (Kd.R_below (Kd.R_elderB (by (with_reducible repeat (first | apply Kd.R_alloc | apply Kd.R_drewN | apply Kd.R_drew)); exact HO121.out) gb124 (Nat.le_of_eq hg.symm)) hb); have n4_ := Aside0.mk (blk_below (g := gb111) (o := .cells #[.int .i64 t101, .string t102, .slice Ao14 t103.length co14, .slice Ao15 t106.length co15] 25 (0, 0)) (by (with_reducible repeat (first | refine blk_drewN ?_ _ | refine blk_drew ?_ | refine blk_alloc ?_ _)); exact BK111.out) hb); have n5_ := Aside0.mk (below_step (by repeat (first | (with_reducible first | exact HB.out | apply below_alloc | apply pw_below_drewN | apply below_drew1 | refine below_set ?_ GE111.out) | exact HB.out)) hb); have n6_ := Aside0.mk (hbox); have n7_ := Aside0.mk ((by rw [hg]; exact (below_size (by repeat (first | (with_reducible first | exact HB.out | apply below_alloc | apply pw_below_drewN | apply below_drew1 | refine below_set ?_ GE111.out) | exact HB.out))) : w.heap.size ≤ gb124)); have n8_ := Aside0.mk ((by rw [hg]; exact (below_size (by repeat (first | (with_reducible first | exact HB.out | apply below_alloc | apply pw_below_drewN | apply below_drew1 | refine below_set ?_ GE111.out) | exact HB.out))) : w.heap.size ≤ gb124)); have n9_ := Aside0.mk ((by rw [hg]; exact Nat.ne_of_lt (blk_lt (g := gb111) (o := .cells #[.int .i64 t101, .string t102, .slice Ao14 t103.length co14, .slice Ao15 t106.length co15] 25 (0, 0)) (by (with_reducible repeat (first | refine blk_drewN ?_ _ | refine blk_drew ?_ | refine blk_alloc ?_ _)); exact BK111.out)) : gb111 ≠ gb124)); have n10_ := Aside0.mk ((by rw [hg]; exact Nat.ne_of_gt (blk_lt (g := gb111) (o := .cells #[.int .i64 t101, .string t102, .slice Ao14 t103.length co14, .slice Ao15 t106.length co15] 25 (0, 0)) (by (with_reducible repeat (first | refine blk_drewN ?_ _ | refine blk_drew ?_ | refine blk_alloc ?_ _)); exact BK111.out)) : gb124 ≠ gb111)); clear HO105; clear HO108; clear HO118; clear HO121; clear BK111; clear HB; have HO105 := n0_; have HO108 := n1_; have HO118 := n2_; have HO121 := n3_; have BK111 := n4_; have HB := n5_; have BK124 := n6_; have GW124 := n7_; have GE124 := n8_; have NB111_124 := n9_; have NB124_111 := n10_; clear n0_ n1_ n2_ n3_ n4_ n5_ n6_ n7_ n8_ n9_ n10_; clear hb hbox hg; have hnb19 := NB124_111.out; have hnc19 := NB111_124.out; have hcz20_0 : w18.cell? ⟨gb124, 0, none⟩ = some (.int .i64 0) := (blk_cell BK124.out 0).trans rfl; have hcz20_1 : w18.cell? ⟨gb124, 1, none⟩ = some (.string (⟨#[]⟩ : ByteArray)) := (blk_cell BK124.out 1).trans rfl; have hcz20_2 : w18.cell? ⟨gb124, 2, none⟩ = some (.slice none 0 0) := (blk_cell BK124.out 2).trans rfl; have hcz20_3 : w18.cell? ⟨gb124, 3, none⟩ = some (.slice none 0 0) := (blk_cell BK124.out 3).trans rfl; have hfz20_0 := blk_frozen BK124.out 0; have hfz20_1 := blk_frozen BK124.out 1; have hfz20_2 := blk_frozen BK124.out 2; have hfz20_3 := blk_frozen BK124.out 3; obtain ⟨Ao21, co21, eo21⟩ := Kd.R_slice HO118.out; subst eo21; obtain ⟨Ao22, co22, eo22⟩ := Kd.R_slice HO121.out; subst eo22) | ((with_reducible refine gate_callee (f := 14) rfl ?_); refine goesL_ (some 25) rfl rfl Tryd.func14 (by kernel_rfl) rfl #[.int .i64 t109] rfl (by (try simp only [List.map_toArray, List.map_cons, List.map_nil]); first | done | rfl | (simp only [List.length_drop, List.length_take]; rfl)) ?_; (with_reducible refine (wicketlaw04_num.calls t109 t109 _ A4.out).mono ?_); rintro e w' ⟨rfl, ⟨nd, rfl⟩⟩; refine ⟨_, rfl, ?_⟩) | (go_at_call 14; (with_reducible refine (wicketlaw04_num.calls t113 t113 _ A6.out).mono ?_); rintro e w' ⟨rfl, ⟨nd, rfl⟩⟩) | (go_at_call 14; (with_reducible refine (wicketlaw04_num.calls t122 t122 _ A9.out).mono ?_); rintro e w' ⟨rfl, ⟨nd, rfl⟩⟩))
     go_ret
     exact ⟨by first | rfl | (simp [errW_none, errW_some] <;> rfl) | (simp [*, errW_none, errW_some] <;> rfl), by repeat (first | (with_reducible first | exact HB.out | apply below_alloc | apply pw_below_drewN | apply below_drew1 | refine below_set ?_ GE111.out | refine below_set ?_ GE124.out) | exact HB.out)⟩
    ·rw [if_neg c10] at H
     have c10b0 : (t122 == 40) = false := beq_eq_false_iff_ne.mpr c10
     have c10b1 : (t122 != 40) = true := bne_iff_ne.mpr c10
     cases H
   ·rw [if_neg c8] at H
    have c8b0 : (t112.toList == ([123, 34, 97, 34, 58, 91, 49, 44, 116, 114, 117, 101, 44, 34, 120, 34, 93, 125] : List UInt8)) = false := beq_eq_false_iff_ne.mpr c8
    have c8b1 : (t112.toList != ([123, 34, 97, 34, 58, 91, 49, 44, 116, 114, 117, 101, 44, 34, 120, 34, 93, 125] : List UInt8)) = true := bne_iff_ne.mpr c8
    cases H
  ·rw [if_neg c7] at H
   have c7b0 : (t113 == 0) = false := beq_eq_false_iff_ne.mpr c7
   have c7b1 : (t113 != 0) = true := bne_iff_ne.mpr c7
   cases H
 ·rw [if_neg c5] at H
  have c5b0 : (t109 == 0) = false := beq_eq_false_iff_ne.mpr c5
  have c5b1 : (t109 != 0) = true := bne_iff_ne.mpr c5
  cases H
end Go.Proofs.YtaalajhmfdcalaaDoor.X
namespace Go.Proofs.YtaalajhmfdcalaaDoor.X
open Go.RowKit
theorem live_true : wicketlaw04_live.f = some true := by kernel_rfl
end Go.Proofs.YtaalajhmfdcalaaDoor.X


namespace Go.Proofs.YtaalajhmfdcalaaDoor.X
open Go.RowKit Go.Lib Go.Proofs.YtaalajhmfdcalaaDoorW.PrintWords Go.Proofs.YtaalajhmfdcalaaDoorW.PrintLast Go.Proofs.YtaalajhmfdcalaaDoorW.PrintMore
theorem Sm.ok {canon : Bool} {a b : St} (h : Sm canon a b) (hb : b.e = 0) : a = b := by
 rcases h with h | ⟨_, _, h⟩
 ·exact h
 ·exact absurd hb h
theorem Sm.e_iff {canon : Bool} {a b : St} (h : Sm canon a b) : a.e = 0 ↔ b.e = 0 := by
 rcases h with h | ⟨_, h1, h2⟩
 ·rw [h]
 ·exact ⟨fun h => absurd h h1, fun h => absurd h h2⟩
theorem wr_at {Wd : Nat} {free : Bool} {W : World} (h : W.heap[Wd]? = some (.cells #[.slice none 0 0, .bool free, .int .i64 0] 60 (0, 0))) : Wr Wd free ⟨[], 0⟩ (.slice none 0 0) W :=
 ⟨h, Own.nil _ _ (by have := lt_of_block h; omega)⟩
theorem writer_val {free canon : Bool} {v : J} {A2 A3 : Option Addr} {c2 c3 Wd : Nat} {W w : World} (hsm : SmJ 32 v) (hln : canon = true → LnJ 32 v) (hfit : Fit free ⟨[], 0⟩ (wtJ 32 v)) (hC2 : Kd.string.C W A2 v.f2.length v.f2) (hc2 : v.f2.length ≤ c2) (hC3 : k25.C W A3 v.f3.length v.f3) (hc3 : v.f3.length ≤ c3) (hG : GLw W) (hT : Tabs W)
  (hb : Below W.heap.size W w) (hWd : W.heap.size ≤ Wd) (hw : w.heap[Wd]? = some (.cells #[.slice none 0 0, .bool free, .int .i64 0] 60 (0, 0))) :
  Calls Tryd.prog 33 #[ptr Wd, jVal v.f0 v.f1 A2 A3 v.f2.length c2 v.f3.length c3, .int .i64 0, .bool canon] w (VEnds Wd free canon ⟨[], 0⟩ (.slice none 0 0) w (wtJ 32 v) (valW free canon 32 v ⟨[], 0⟩)) := by
 have hvo := wvalue_ok free canon (fun _ => sorted_calls) 32 (Nat.le_refl _)
 rw [show (32 : Int) - ((32 : Nat) : Int) = 0 by decide] at hvo
 exact hvo Wd ⟨[], 0⟩ (.slice none 0 0) w v A2 A3 c2 c3 (wr_at hw) hfit hsm hln
  (Kd.F_mono (Kd.F_below (Kd.C_F Kd.heap_string hC2) hb) (fun k hk => ⟨by omega, by simp [Value.ownBlock]⟩)) hc2
  (Kd.F_mono (Kd.F_below (Kd.C_F heap25 hC3) hb) (fun k hk => ⟨by omega, by simp [Value.ownBlock]⟩)) hc3
  (fun W' hb2 => have hb' : Below W.heap.size W W' := hb.trans (hb2.mono hWd); ⟨hG.below hb', hT.bel hb'⟩)
def canonS (v : J) : St := valW false true 32 v ⟨[], 0⟩
def canonB (v : J) : ByteArray := if (printS v).e = 0 then bs (canonS v).out else ⟨#[]⟩
end Go.Proofs.YtaalajhmfdcalaaDoor.X
