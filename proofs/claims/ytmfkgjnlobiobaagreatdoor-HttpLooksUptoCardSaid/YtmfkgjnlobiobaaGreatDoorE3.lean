/- 'rest(first, fields, body)' of package http: a message behind its first line. -/
import Derived.Test.YtmfkgjnlobiobaaGreatDoorE3a
import Derived.Test.YtmfkgjnlobiobaaGreatDoorY1
import Derived.Test.YtmfkgjnlobiobaaGreatDoorX0
import Derived.Lib.ItoaLen
namespace Go.Proofs.YtmfkgjnlobiobaaGreatDoor.X
open Go.RowKit Go.Shelf Go.Proofs.YtmfkgjnlobiobaaGreatDoorW.PrintWords
/-! ### plain functions -/
def nameB (l : List UInt8) : Bool := decide (1 ≤ l.length ∧ l.length ≤ 64) && l.all pName
def valB (l : List UInt8) : Bool := decide (l.length ≤ 4096) && (!Lib.hasPrefix l [32] && (!Lib.hasSuffix l [32] && l.all pVal))
def sCL : List UInt8 := [99, 111, 110, 116, 101, 110, 116, 45, 108, 101, 110, 103, 116, 104]
def sTE : List UInt8 := [116, 114, 97, 110, 115, 102, 101, 114, 45, 101, 110, 99, 111, 100, 105, 110, 103]
def lows (l : List UInt8) : List UInt8 := l.map low
def okF (n v : List UInt8) : Bool := nameB (lows n) && valB v && (!(lows n == sCL) && !(lows n == sTE))
def lineF (n v : List UInt8) : List UInt8 := lows n ++ [58] ++ (if v = [] then [] else 32 :: v) ++ [13, 10]
def clF (body : List UInt8) : List UInt8 := if body = [] then [] else sCL ++ [58, 32] ++ Lib.itoa body.length ++ [13, 10]
def headF (first : List UInt8) (l : List (List UInt8 × List UInt8)) (body : List UInt8) : List UInt8 := first ++ [13, 10] ++ l.flatMap (fun f => lineF f.1 f.2) ++ clF body ++ [13, 10]
def restF (first : List UInt8) (l : List (List UInt8 × List UInt8)) (body : List UInt8) : List UInt8 × Int :=
  if l.length > 64 then ([], 32)
  else if l.all (fun f => okF f.1 f.2) = false then ([], 153)
  else if (headF first l body).length + body.length > 32768 then ([], 1)
  else (headF first l body ++ body, 0)
/-! ### the two tests, as contracts -/
theorem isName_f (a : ByteArray) : Y.http_isName.f a = some (nameB a.data.toList) := by
  have hl : a.data.toList.length = a.size := by rw [Array.length_toList]; rfl
  unfold Y.http_isName.f nameB http_all_isName_1.f
  split
  · split
    · rw [if_pos (by omega)]
      simp only [Option.bind_some, Option.some.injEq]
      rw [decide_eq_true (by omega), Bool.true_and]
    · rw [decide_eq_false (by omega), Bool.false_and]
  · rw [decide_eq_false (by omega), Bool.false_and]
theorem isValue_f (a : ByteArray) : Y.http_isValue.f a = some (valB a.data.toList) := by
  have hl : a.data.toList.length = a.size := by rw [Array.length_toList]; rfl
  unfold Y.http_isValue.f valB http_all_isValue_1.f strings_HasPrefix.f strings_HasSuffix.f
  split
  · rw [decide_eq_false (by omega), Bool.false_and]
  · rw [decide_eq_true (by omega), Bool.true_and, if_pos (by omega), if_pos (by omega)]
    simp only [Option.bind_some]
    cases Lib.hasPrefix a.data.toList [32] <;> cases Lib.hasSuffix a.data.toList [32] <;> simp
theorem isName_calls (a : ByteArray) (w : World) : Calls Tryz.prog 65 #[.string a] w fun e w' => e = .returned (.bool (nameB a.data.toList)) ∧ Drawn0 w w' :=
  Y.http_isName.calls a _ w (isName_f a)
theorem isValue_calls (a : ByteArray) (w : World) : Calls Tryz.prog 66 #[.string a] w fun e w' => e = .returned (.bool (valB a.data.toList)) ∧ Drawn0 w w' :=
  Y.http_isValue.calls a _ w (isValue_f a)
/-! ### lengths -/
theorem okF_len {n v : List UInt8} (h : okF n v = true) : (lows n).length ≤ 64 ∧ v.length ≤ 4096 := by
  unfold okF nameB valB at h
  simp only [Bool.and_eq_true, decide_eq_true_eq] at h
  exact ⟨h.1.1.1.2, h.1.2.1⟩
theorem lineF_len {n v : List UInt8} (h : okF n v = true) : (lineF n v).length ≤ 4164 := by
  obtain ⟨h1, h2⟩ := okF_len h
  unfold lineF
  split <;> simp only [List.length_append, List.length_cons, List.length_nil] <;> omega
theorem lines_len : ∀ (l : List (List UInt8 × List UInt8)), l.all (fun f => okF f.1 f.2) = true → (l.flatMap (fun f => lineF f.1 f.2)).length ≤ l.length * 4164
  | [], _ => by simp
  | f :: r, h => by
    simp only [List.all_cons, Bool.and_eq_true] at h
    have := lineF_len h.1
    have := lines_len r h.2
    simp only [List.flatMap_cons, List.length_append, List.length_cons]
    omega
/-! ### the walk -/
def pairsL (l : List S80) : List (List UInt8 × List UInt8) := l.map fun f => (f.f0.data.toList, f.f1.data.toList)
def accF (first : List UInt8) (l : List (List UInt8 × List UInt8)) (k : Nat) : List UInt8 := first ++ [13, 10] ++ (l.take k).flatMap (fun f => lineF f.1 f.2)
structure RestW (w : World) (first : ByteArray) (l : List S80) (k : Nat) (wr : World) : Prop where
  bld : Bld w wr (accF first.data.toList (pairsL l) k)
  ok : ((pairsL l).take k).all (fun f => okF f.1 f.2) = true
theorem bs_size (l : List UInt8) : (bs l).size = l.length := by simp [bs, ByteArray.size]
theorem size_data (b : ByteArray) : b.data.toList.length = b.size := by rw [Array.length_toList]; rfl
theorem toList_data (b : ByteArray) : b.toList = b.data.toList := ByteArray.toList_eq b
theorem toList_bs (l : List UInt8) : (bs l).toList = l := by rw [toList_data]; rfl
theorem accF_len (first : ByteArray) (l : List (List UInt8 × List UInt8)) (k : Nat) (h : (l.take k).all (fun f => okF f.1 f.2) = true) (h1 : first.size ≤ 1000000) (hk : k ≤ 64) : (accF first.data.toList l k).length ≤ 2000000 := by
  have hl : first.data.toList.length = first.size := by rw [Array.length_toList]; rfl
  have h2 := lines_len _ h
  have h3 : (l.take k).length ≤ k := by rw [List.length_take]; omega
  unfold accF
  simp only [List.length_append, List.length_cons, List.length_nil]
  omega
theorem accF_succ (first : List UInt8) (l : List (List UInt8 × List UInt8)) (k : Nat) (h : k < l.length) : accF first l (k + 1) = accF first l k ++ lineF (l[k]).1 (l[k]).2 := by
  unfold accF
  rw [List.take_succ_eq_append_getElem h, List.flatMap_append]
  simp
theorem ok_succ (l : List (List UInt8 × List UInt8)) (k : Nat) (h : k < l.length) (h1 : (l.take k).all (fun f => okF f.1 f.2) = true) (h2 : okF (l[k]).1 (l[k]).2 = true) : (l.take (k + 1)).all (fun f => okF f.1 f.2) = true := by
  rw [List.take_succ_eq_append_getElem h, List.all_append, h1]
  simp [h2]
theorem restF_bad (first : List UInt8) (l : List (List UInt8 × List UInt8)) (body : List UInt8) (k : Nat) (h : k < l.length) (hn : ¬ l.length > 64) (h2 : okF (l[k]).1 (l[k]).2 = false) : restF first l body = ([], 153) := by
  unfold restF
  rw [if_neg hn, if_pos]
  rw [List.all_eq_false]
  exact ⟨l[k], List.getElem_mem h, by simp [h2]⟩
theorem pair_at (l : List S80) (k : Nat) (h : k < (pairsL l).length) (h' : k < l.length) : (pairsL l)[k] = ((l[k]).f0.data.toList, (l[k]).f1.data.toList) := by simp [pairsL]
theorem bld_drewN {w wr : World} {acc : List UInt8} (h : Bld w wr acc) (n : Nat) : Bld w (wr.drewN n) acc := h.keep (below_drewN (Below.refl _ _) n)
theorem heap_drewN (w : World) (n : Nat) : (w.drewN n).heap = w.heap := by
  induction n generalizing w with
  | zero => rfl
  | succ n ih => rw [← World.drew_drewN]; exact ih _
theorem rd_at (l : List S80) (k : Nat) (h : k < l.length) : rd_T80 l (k : Int) = l[k] := by
  simp [rd_T80, List.getD_eq_getElem?_getD, h]
set_option maxHeartbeats 2000000 in
set_option maxRecDepth 100000 in
theorem rest_calls (first : ByteArray) (A : Option Addr) (c : Nat) (l : List S80) (body : ByteArray) (w : World) (hr : Kd.C k80 w A l.length l) (_ : l.length ≤ c) (hG : GL w)
    (h1 : first.size ≤ 1000000) (h2 : ∀ f ∈ l, f.f0.size ≤ 140737488351232) (h3 : body.size ≤ 140737488351232) :
    Calls Tryz.prog 44 #[.string first, .slice A l.length c, .string body] w fun e w' => e = .returned (.tuple #[.string (bs (restF first.data.toList (pairsL l) body.data.toList).1), .int .i64 (restF first.data.toList (pairsL l) body.data.toList).2]) ∧ Below w.heap.size w w' := by
  have hpl : (pairsL l).length = l.length := by simp [pairsL]
  by_cases hn : l.length > 64
  · have hfin := Aside0.mk (show restF first.data.toList (pairsL l) body.data.toList = ([], 32) by unfold restF; rw [if_pos (by omega)])
    clear hr hpl
    go_enter Tryz.func44, Tryz.ntmps44
    go_wp2
    go_ret2
    exact ⟨by rw [hfin.out]; rfl, Below.refl _ _⟩
  · have HR := Aside0.mk hr
    have HP := Aside0.mk hpl
    have HG := Aside0.mk hG
    have H2 := Aside0.mk h2
    clear hr hpl hG h2
    have B0 := Aside0.mk (Bld.start w)
    have hcat : first.size + 2 ≤ 9223372036854775807 := by omega
    go_enter Tryz.func44, Tryz.ntmps44
    go_wp2_with (fail)
    refine (write_calls B0.out _ (by simp only [ByteArray.size_append]; show 0 + (first.size + 2) ≤ _; omega)).mono ?_
    rintro e w1 ⟨rfl, hb1, _⟩
    have B1 := Aside0.mk (show RestW w first l 0 w1 from ⟨by simpa [accF, ByteArray.data_append] using hb1, by simp⟩)
    clear hb1 B0 hcat
    go_wp2_with (fail)
    go_loopw [20] (fun v wr => ∃ k : Nat, k ≤ l.length ∧ v = .int .i64 k ∧ RestW w first l k wr) (fun v _ => l.length - (intOf v).toNat)
    case atStart => exact ⟨0, Nat.zero_le _, rfl, B1.out⟩
    case round =>
      obtain ⟨k, hk, rfl, hS⟩ := hrel
      have HS := Aside0.mk hS
      clear hS B1
      by_cases hlt : k < l.length
      · obtain ⟨ad, e, c0, c1⟩ := at_T80 (Kd.C_below HR.out HS.out.bld.below) (k : Int) (by omega) (by omega)
        cases e
        rw [Int.toNat_natCast, rd_at l k hlt] at c0 c1
        obtain ⟨f, hf⟩ : ∃ f, f = l[k] := ⟨_, rfl⟩
        rw [← hf] at c0 c1
        have HF := Aside0.mk hf
        have hfs : f.f0.size ≤ 140737488351232 := H2.out f (by rw [hf]; exact List.getElem_mem hlt)
        clear hf
        go_wp2_with (fail)
        refine (small_calls f.f0 hfs _).mono ?_
        rintro e w2 ⟨rfl, hb2⟩
        have B2 := Aside0.mk ((HS.out.bld.alloc (.cells #[.string f.f0, .string f.f1] 80)).keep hb2)
        have M2 := Aside0.mk ((hb2.block wr.heap.size (by simp)).trans (heap_alloc_new wr _))
        have L2 := Aside0.mk HS.out.bld.lt
        clear hb2
        obtain ⟨M, hM⟩ : ∃ M, M = wr.heap.size := ⟨_, rfl⟩
        rw [← hM] at M2 L2 ⊢
        clear hM c0 c1
        obtain ⟨nm, hnm⟩ : ∃ nm, nm = bs (f.f0.data.toList.map low) := ⟨_, rfl⟩
        rw [← hnm]
        have HN := Aside0.mk hnm
        clear hnm
        have HO := Aside0.mk (show okF f.f0.data.toList f.f1.data.toList = (nameB nm.data.toList && valB f.f1.data.toList && (!(nm.toList == [99, 111, 110, 116, 101, 110, 116, 45, 108, 101, 110, 103, 116, 104]) && !(nm.toList == [116, 114, 97, 110, 115, 102, 101, 114, 45, 101, 110, 99, 111, 100, 105, 110, 103]))) by rw [HN.out, toList_bs]; rfl)
        have BD : ∀ n, Below w.heap.size w (w2.drewN n) := fun n => below_drewN B2.out.below n
        have HE := Aside0.mk (show okF f.f0.data.toList f.f1.data.toList = false → restF first.data.toList (pairsL l) body.data.toList = ([], 153) from fun h => restF_bad _ _ _ k (by rw [HP.out]; exact hlt) (by rw [HP.out]; exact hn) (by rw [pair_at l k (by rw [HP.out]; exact hlt) hlt, ← HF.out]; exact h))
        have d0 := blk_cell M2.out 0
        have d1 := blk_cell M2.out 1
        dsimp at d0 d1
        cases hv1 : nameB nm.data.toList with
        | false =>
          have V1 := Aside0.mk hv1
          clear hv1
          go_wp2_with (go_at_call 65; (with_reducible refine (isName_calls nm _).mono ?_); rintro e w3 ⟨rfl, ⟨n3, rfl⟩⟩; rw [V1.out])
          go_ret2
          exact ⟨by rw [HE.out (by rw [HO.out, V1.out]; rfl)]; rfl, BD _⟩
        | true =>
          have V1 := Aside0.mk hv1
          clear hv1
          cases hv2 : valB f.f1.data.toList with
          | false =>
            have V2 := Aside0.mk hv2
            clear hv2
            go_wp2_with (first | (go_at_call 65; (with_reducible refine (isName_calls nm _).mono ?_); rintro e w3 ⟨rfl, ⟨n3, rfl⟩⟩; rw [V1.out]) | (go_at_call 66; (with_reducible refine (isValue_calls f.f1 _).mono ?_); rintro e w4 ⟨rfl, ⟨n4, rfl⟩⟩; rw [V2.out]))
            go_ret2
            exact ⟨by rw [HE.out (by rw [HO.out, V1.out, V2.out]; rfl)]; rfl, BD _⟩
          | true =>
            have V2 := Aside0.mk hv2
            clear hv2
            cases hv3 : (nm.toList == [99, 111, 110, 116, 101, 110, 116, 45, 108, 101, 110, 103, 116, 104]) with
            | true =>
              have V3 := Aside0.mk hv3
              go_wp2_with (first | (go_at_call 65; (with_reducible refine (isName_calls nm _).mono ?_); rintro e w3 ⟨rfl, ⟨n3, rfl⟩⟩; rw [V1.out]) | (go_at_call 66; (with_reducible refine (isValue_calls f.f1 _).mono ?_); rintro e w4 ⟨rfl, ⟨n4, rfl⟩⟩; rw [V2.out]))
              go_ret2
              exact ⟨by rw [HE.out (by rw [HO.out, V1.out, V2.out, V3.out]; rfl)]; rfl, BD _⟩
            | false =>
              have V3 := Aside0.mk hv3
              cases hv4 : (nm.toList == [116, 114, 97, 110, 115, 102, 101, 114, 45, 101, 110, 99, 111, 100, 105, 110, 103]) with
              | true =>
                have V4 := Aside0.mk hv4
                go_wp2_with (first | (go_at_call 65; (with_reducible refine (isName_calls nm _).mono ?_); rintro e w3 ⟨rfl, ⟨n3, rfl⟩⟩; rw [V1.out]) | (go_at_call 66; (with_reducible refine (isValue_calls f.f1 _).mono ?_); rintro e w4 ⟨rfl, ⟨n4, rfl⟩⟩; rw [V2.out]))
                go_ret2
                exact ⟨by rw [HE.out (by rw [HO.out, V1.out, V2.out, V3.out, V4.out]; rfl)]; rfl, BD _⟩
              | false =>
                have V4 := Aside0.mk hv4
                have K1 := Aside0.mk (show okF f.f0.data.toList f.f1.data.toList = true by rw [HO.out, V1.out, V2.out, V3.out, V4.out]; rfl)
                have hnl : nm.size ≤ 64 := by
                  have := (okF_len K1.out).1
                  rw [HN.out, bs_size]
                  exact this
                have hvl : f.f1.size ≤ 4096 := by
                  have := (okF_len K1.out).2
                  rw [size_data] at this
                  exact this
                have hal := accF_len first (pairsL l) k HS.out.ok h1 (by omega)
                go_wp2_with (first | (go_at_call 65; (with_reducible refine (isName_calls nm _).mono ?_); rintro e w3 ⟨rfl, ⟨n3, rfl⟩⟩; rw [V1.out]) | (go_at_call 66; (with_reducible refine (isValue_calls f.f1 _).mono ?_); rintro e w4 ⟨rfl, ⟨n4, rfl⟩⟩; rw [V2.out]))
                have B3 := Aside0.mk (bld_drewN B2.out (n3 + n4))
                have M3 := Aside0.mk (show (w2.drewN (n3 + n4)).heap[M]? = some (.cells #[.string f.f0, .string f.f1] 80 (0, 0)) from (by rw [heap_drewN]; exact M2.out))
                generalize w2.drewN (n3 + n4) = w3 at B3 M3 ⊢
                clear B2 M2 d0 d1 BD
                refine (write_calls B3.out _ (by simp only [ByteArray.size_append]; show _ + (nm.size + 1) ≤ _; omega)).mono ?_
                rintro e w4 ⟨rfl, hb4, ho4⟩
                have B4 := Aside0.mk hb4
                have M4 := Aside0.mk (others_blk (t := 80) ho4 M3.out (by have := L2.out; omega) (by decide))
                clear hb4 ho4 B3 M3
                have d0 := blk_cell M4.out 0
                have d1 := blk_cell M4.out 1
                dsimp at d0 d1
                have HK := Aside0.mk (show accF first.data.toList (pairsL l) (k + 1) = accF first.data.toList (pairsL l) k ++ lineF f.f0.data.toList f.f1.data.toList by
                  rw [accF_succ _ _ k (by rw [HP.out]; exact hlt), pair_at l k (by rw [HP.out]; exact hlt) hlt, ← HF.out])
                have HA := Aside0.mk (show ((pairsL l).take (k + 1)).all (fun f => okF f.1 f.2) = true from ok_succ _ k (by rw [HP.out]; exact hlt) HS.out.ok (by
                  rw [pair_at l k (by rw [HP.out]; exact hlt) hlt, ← HF.out]; exact K1.out))
                cases he : f.f1.toList.isEmpty with
                | true =>
                  have HE1 := Aside0.mk (show f.f1.data.toList = [] by rw [← toList_data]; exact List.isEmpty_iff.1 he)
                  go_wp2_with (fail)
                  refine (write_calls B4.out _ (by simp only [List.length_append, size_data, ByteArray.size_append]; show _ + (nm.size + 1) + 2 ≤ _; omega)).mono ?_
                  rintro e w5 ⟨rfl, hb5, _⟩
                  have B5 := Aside0.mk (show RestW w first l (k + 1) w5 from ⟨by rw [HK.out, lineF, if_pos HE1.out]; simpa [HN.out, lows, bs, ByteArray.data_append] using hb5, HA.out⟩)
                  clear hb5 B4 M4 d0 d1
                  go_wp2_with (fail)
                  go_roundw
                  case rel => exact ⟨k + 1, by omega, by go_num, B5.out⟩
                  case measure => simp [intOf]; omega
                | false =>
                  have HE1 := Aside0.mk (show ¬ f.f1.data.toList = [] by rw [← toList_data]; exact fun h => by simp [h] at he)
                  have hcat : 1 + f.f1.size ≤ 9223372036854775807 := by omega
                  go_wp2_with (fail)
                  refine (write_calls B4.out _ (by simp only [List.length_append, size_data, ByteArray.size_append]; show _ + (nm.size + 1) + (1 + f.f1.size) ≤ _; omega)).mono ?_
                  rintro e w5 ⟨rfl, hb5, _⟩
                  have B5 := Aside0.mk hb5
                  clear hb5 B4 M4 d0 d1
                  go_wp2_with (fail)
                  refine (write_calls B5.out _ (by simp only [List.length_append, size_data, ByteArray.size_append]; show _ + (nm.size + 1) + (1 + f.f1.size) + 2 ≤ _; omega)).mono ?_
                  rintro e w6 ⟨rfl, hb6, _⟩
                  have B6 := Aside0.mk (show RestW w first l (k + 1) w6 from ⟨by rw [HK.out, lineF, if_neg HE1.out]; simpa [HN.out, lows, bs, ByteArray.data_append] using hb6, HA.out⟩)
                  clear hb6 B5
                  go_wp2_with (fail)
                  go_roundw
                  case rel => exact ⟨k + 1, by omega, by go_num, B6.out⟩
                  case measure => simp [intOf]; omega
      · obtain rfl : k = l.length := by omega
        have hall : (pairsL l).all (fun f => okF f.1 f.2) = true := by
          have h := HS.out.ok
          rw [← HP.out, List.take_length] at h
          exact h
        have HQ := Aside0.mk (show restF first.data.toList (pairsL l) body.data.toList = if (headF first.data.toList (pairsL l) body.data.toList).length + body.data.toList.length > 32768 then ([], 1) else (headF first.data.toList (pairsL l) body.data.toList ++ body.data.toList, 0) by
          unfold restF
          rw [if_neg (by rw [HP.out]; exact hn), if_neg (by rw [hall]; decide)])
        have hacc : accF first.data.toList (pairsL l) l.length = first.data.toList ++ [13, 10] ++ (pairsL l).flatMap (fun f => lineF f.1 f.2) := by
          unfold accF
          rw [← HP.out, List.take_length]
        have hal := accF_len first (pairsL l) l.length HS.out.ok h1 (by omega)
        have HB := Aside0.mk HS.out.bld
        rw [hacc] at HB hal
        obtain ⟨acc, hac⟩ : ∃ acc, acc = first.data.toList ++ [13, 10] ++ (pairsL l).flatMap (fun f => lineF f.1 f.2) := ⟨_, rfl⟩
        rw [← hac] at HB hal
        have HH := Aside0.mk (show headF first.data.toList (pairsL l) body.data.toList = acc ++ clF body.data.toList ++ [13, 10] by unfold headF; rw [hac])
        have HGr := Aside0.mk (GL_below HG.out HB.out.below)
        clear HS hall hacc hac
        cases he : body.toList.isEmpty with
        | true =>
          have hb0 : body.data.toList = [] := by rw [← toList_data]; exact List.isEmpty_iff.1 he
          have HE1 := Aside0.mk (show clF body.data.toList = [] by unfold clF; rw [if_pos hb0])
          have HE2 := Aside0.mk hb0
          clear hb0
          go_wp2_with (fail)
          refine (write_calls HB.out _ (by show _ + 2 ≤ _; omega)).mono ?_
          rintro e w5 ⟨rfl, hb5, _⟩
          have B5 := Aside0.mk (show Bld w w5 (headF first.data.toList (pairsL l) body.data.toList) by rw [HH.out, HE1.out]; simpa using hb5)
          clear hb5
          have hcl : (clF body.data.toList).length ≤ 60 := by rw [HE1.out]; simp
          obtain ⟨H, hH⟩ : ∃ H, H = headF first.data.toList (pairsL l) body.data.toList := ⟨_, rfl⟩
          rw [← hH] at B5
          have HHH := Aside0.mk hH
          have hHl : H.length ≤ 2000100 := by
            rw [hH, HH.out]
            simp only [List.length_append, List.length_cons, List.length_nil]
            have := hcl
            omega
          clear hH hcl
          by_cases hbig : H.length + body.size > 32768
          · have HQ2 := Aside0.mk (show restF first.data.toList (pairsL l) body.data.toList = ([], 1) by rw [HQ.out, ← HHH.out, size_data, if_pos hbig])
            go_wp2_with (go_at_call 67; (with_reducible refine (len_calls B5.out).mono ?_); rintro e w6 ⟨rfl, rfl⟩)
            go_ret2
            exact ⟨by rw [HQ2.out]; rfl, B5.out.below⟩
          · have HQ2 := Aside0.mk (show restF first.data.toList (pairsL l) body.data.toList = (H ++ body.data.toList, 0) by rw [HQ.out, ← HHH.out, size_data, if_neg hbig])
            have hcat : (bs H).size + body.size ≤ 9223372036854775807 := by rw [bs_size]; omega
            go_wp2_with (first | (go_at_call 67; (with_reducible refine (len_calls B5.out).mono ?_); rintro e w6 ⟨rfl, rfl⟩) | (go_at_call 68; (with_reducible refine (string_calls B5.out).mono ?_); rintro e w6 ⟨rfl, hb6⟩; have HB6 := Aside0.mk hb6; clear hb6))
            go_ret2
            exact ⟨by rw [HQ2.out]; rfl, HB6.out⟩
        | false =>
          have hb0 : ¬ body.data.toList = [] := by rw [← toList_data]; exact fun h => by simp [h] at he
          have HE1 := Aside0.mk (show clF body.data.toList = sCL ++ [58, 32] ++ Lib.itoa body.size ++ [13, 10] by unfold clF; rw [if_neg hb0, size_data])
          have hil := Lib.itoa_length_le (body.size : Int) (by omega) (by omega)
          clear hb0
          obtain ⟨it, hit⟩ : ∃ it, it = Lib.itoa body.size := ⟨_, rfl⟩
          rw [← hit] at HE1 hil
          have HI := Aside0.mk (show strconv_Itoa.f (body.size : Int) = some (bs it) by unfold strconv_Itoa.f; rw [if_pos (by omega), hit])
          clear hit
          have hcat1 : 16 + (bs it).size ≤ 9223372036854775807 := by rw [bs_size]; omega
          have hcat2 : 16 + (bs it).size + 2 ≤ 9223372036854775807 := by rw [bs_size]; omega
          go_wp2_with (go_at_call 45; (with_reducible refine (strconv_Itoa.calls _ _ _ HGr.out HI.out).mono ?_); rintro e w5 ⟨rfl, hb5⟩; have B4 := Aside0.mk (HB.out.keep hb5); clear hb5)
          refine (write_calls B4.out _ (by simp only [ByteArray.size_append, bs_size]; show _ + (16 + it.length + 2) ≤ _; omega)).mono ?_
          rintro e w6 ⟨rfl, hb6, _⟩
          have B6 := Aside0.mk hb6
          clear hb6
          go_wp2_with (fail)
          refine (write_calls B6.out _ (by simp only [List.length_append, size_data, ByteArray.size_append, bs_size]; show _ + (16 + it.length + 2) + 2 ≤ _; omega)).mono ?_
          rintro e w5 ⟨rfl, hb5, _⟩
          have B5 := Aside0.mk (show Bld w w5 (headF first.data.toList (pairsL l) body.data.toList) by rw [HH.out, HE1.out]; simpa [sCL, bs, ByteArray.data_append] using hb5)
          clear hb5 B6 B4
          have hcl : (clF body.data.toList).length ≤ 60 := by rw [HE1.out]; simp only [sCL, List.length_append, List.length_cons, List.length_nil]; omega
          obtain ⟨H, hH⟩ : ∃ H, H = headF first.data.toList (pairsL l) body.data.toList := ⟨_, rfl⟩
          rw [← hH] at B5
          have HHH := Aside0.mk hH
          have hHl : H.length ≤ 2000100 := by
            rw [hH, HH.out]
            simp only [List.length_append, List.length_cons, List.length_nil]
            have := hcl
            omega
          clear hH hcl
          by_cases hbig : H.length + body.size > 32768
          · have HQ2 := Aside0.mk (show restF first.data.toList (pairsL l) body.data.toList = ([], 1) by rw [HQ.out, ← HHH.out, size_data, if_pos hbig])
            go_wp2_with (go_at_call 67; (with_reducible refine (len_calls B5.out).mono ?_); rintro e w6 ⟨rfl, rfl⟩)
            go_ret2
            exact ⟨by rw [HQ2.out]; rfl, B5.out.below⟩
          · have HQ2 := Aside0.mk (show restF first.data.toList (pairsL l) body.data.toList = (H ++ body.data.toList, 0) by rw [HQ.out, ← HHH.out, size_data, if_neg hbig])
            have hcat : (bs H).size + body.size ≤ 9223372036854775807 := by rw [bs_size]; omega
            go_wp2_with (first | (go_at_call 67; (with_reducible refine (len_calls B5.out).mono ?_); rintro e w6 ⟨rfl, rfl⟩) | (go_at_call 68; (with_reducible refine (string_calls B5.out).mono ?_); rintro e w6 ⟨rfl, hb6⟩; have HB6 := Aside0.mk hb6; clear hb6))
            go_ret2
            exact ⟨by rw [HQ2.out]; rfl, HB6.out⟩
def http_rest.f (a0 : ByteArray) (l1 : List S80) (a2 : ByteArray) : Option (ByteArray × Int) :=
  if a0.size ≤ 1000000 ∧ l1.all (fun f => decide (f.f0.size ≤ 140737488351232)) = true ∧ a2.size ≤ 140737488351232 then
    some (bs (restF a0.data.toList (pairsL l1) a2.data.toList).1, (restF a0.data.toList (pairsL l1) a2.data.toList).2) else none
theorem http_rest.calls (a0 : ByteArray) (A1 : Option Addr) (c1 : Nat) (l1 : List S80) (a2 : ByteArray) (r1 : ByteArray) (r2 : Int) (w : World) (hr1 : Kd.C k80 w A1 l1.length l1) (hc1 : l1.length ≤ c1) (hG : GL w) (h : http_rest.f a0 l1 a2 = some (r1, r2)) :
    Calls Tryz.prog 44 #[.string a0, .slice A1 l1.length c1, .string a2] w fun e w' => e = .returned (.tuple #[.string r1, .int .i64 r2]) ∧ Below w.heap.size w w' := by
  unfold http_rest.f at h
  split at h
  · rename_i hs
    simp only [Option.some.injEq, Prod.mk.injEq] at h
    obtain ⟨rfl, rfl⟩ := h
    exact rest_calls a0 A1 c1 l1 a2 w hr1 hc1 hG hs.1 (fun f hf => of_decide_eq_true (List.all_eq_true.1 hs.2.1 f hf)) hs.2.2
  · cases h
end Go.Proofs.YtmfkgjnlobiobaaGreatDoor.X
