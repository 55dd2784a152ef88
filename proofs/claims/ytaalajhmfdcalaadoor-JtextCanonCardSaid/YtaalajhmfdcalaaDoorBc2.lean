/- The texts of this work, put together: K38, K39, K40, M8, K17, K18, K19, K20, K21, K22, E0, E1, M9, L0, L4, E2, MB, K41, So. -/
import Derived.Test.YtaalajhmfdcalaaDoorBc1
import Derived.Recover
import Derived.Test.YtaalajhmfdcalaaDoorBc0
import Derived.Shelf.GgSortFunc.Whole
import Derived.Shelf.GgSortFunc.Tiny
import Derived.Test.YtaalajhmfdcalaaDoorProg
import Derived.Test.YtaalajhmfdcalaaDoorWb
set_option linter.unusedVariables false
set_option linter.unusedSimpArgs false
namespace Go.Proofs.YtaalajhmfdcalaaDoor.X
open Go.RowKit Go.Lib Go.Maps Go.Proofs.YtaalajhmfdcalaaDoorW.PrintWords Go.Proofs.YtaalajhmfdcalaaDoorW.PrintLast Go.Proofs.YtaalajhmfdcalaaDoorW.PrintMore
theorem Wr.keepT {Wd b t : Nat} {free : Bool} {st : St} {sl sl' : Value} {W W' : World} {c : Array Value} (hw : Wr Wd free st sl W) (ho : WrOn Wd sl sl' W W') (hk : W.heap[b]? = some (.cells c t (0, 0))) (h5 : t ≠ 5) (h60 : t ≠ 60) : W'.heap[b]? = some (.cells c t (0, 0)) := by
  refine (ho.kept b (lt_of_block hk) ?_ ?_).trans hk
  · rintro rfl; rw [hw.blk] at hk; injection hk with hk; injection hk with _ hk; exact h60 hk.symm
  · intro hh
    obtain ⟨cells, hc⟩ := own_typed hw.own.1 b hh.symm
    rw [hk] at hc; injection hc with hc; injection hc with _ hc; exact h5 hc
theorem Wr.keepM {Wd M : Nat} {free : Bool} {st : St} {sl sl' : Value} {W W' : World} {ns : List ByteArray} (hw : Wr Wd free st sl W) (ho : WrOn Wd sl sl' W W') (hs : Seen W M ns) : Seen W' M ns := by
  refine hs.move (ho.kept M hs.lt (fun hh => hs.ne hw.blk hh.symm) (fun hh => ?_))
  obtain ⟨cells, hc⟩ := own_typed hw.own.1 M hh.symm
  exact hs.ne hc rfl
theorem Wr.mapped {Wd M : Nat} {free : Bool} {st : St} {sl : Value} {W W' : World} {ns : List ByteArray} (hw : Wr Wd free st sl W) (hs : Seen W M ns) (hg : W.grownBy W' (some M)) : Wr Wd free st sl W' := by
  refine ⟨(hg.block Wd hw.lt (fun hh => by injection hh with hh; exact hs.ne hw.blk hh)).trans hw.blk, hw.own.heap hg.size fun g hg' => hg.block g (hw.own.lt g hg').2 (fun hh => ?_)⟩
  obtain ⟨cells, hc⟩ := own_typed hw.own.1 g hg'
  injection hh with hh
  exact hs.ne hc hh
theorem WrOn.mapped {Wd M : Nat} {sl sl' : Value} {W w w' : World} (ho : WrOn Wd sl sl' W w) (hM : W.heap.size ≤ M) (hWd : Wd ≤ W.heap.size) (hg : w.grownBy w' (some M)) : WrOn Wd sl sl' W w' := by
  have key : ∀ b, b < W.heap.size → w'.heap[b]? = w.heap[b]? := fun b hb => hg.block b (Nat.lt_of_lt_of_le hb ho.size) (fun hh => by injection hh with hh; omega)
  obtain ⟨a, b, c, d, e⟩ := ho.low
  exact ⟨⟨hg.os.trans a, hg.tape.trans b, hg.output.trans c, Nat.le_trans d hg.size, fun k hk => (key k (by omega)).trans (e k hk)⟩, fun b hb h1 h2 => (key b hb).trans (ho.kept b hb h1 h2), Nat.le_trans ho.size hg.size, ho.at_⟩
def wtN (l : List ByteArray) : Nat := (l.map (fun s => 12 * s.size + 16)).sum
theorem wtN_cons (s : ByteArray) (l : List ByteArray) : wtN (s :: l) = 12 * s.size + 16 + wtN l := by simp [wtN]
abbrev nmAt (xs : List ByteArray) (i : Nat) : ByteArray := rdOf ByteArray.empty xs (i : Int)
theorem nmAt_eq (xs : List ByteArray) (i : Nat) (hi : i < xs.length) : nmAt xs i = xs[i] := by
  show xs.getD ((i : Int)).toNat ByteArray.empty = _
  rw [show ((i : Int)).toNat = i from Int.toNat_natCast i, List.getD_eq_getElem?_getD, List.getElem?_eq_getElem hi]
  rfl
theorem drop_nm (xs : List ByteArray) (i : Nat) (hi : i < xs.length) : xs.drop i = nmAt xs i :: xs.drop (i + 1) := by
  rw [List.drop_eq_getElem_cons hi, nmAt_eq xs i hi]
theorem take_nm (xs : List ByteArray) (i : Nat) (hi : i < xs.length) : xs.take (i + 1) = xs.take i ++ [nmAt xs i] := by
  rw [nmAt_eq xs i hi, List.take_succ_eq_append_getElem hi]
theorem mem_nm (xs : List ByteArray) (i : Nat) (hi : i < xs.length) : nmAt xs i ∈ xs := by
  rw [nmAt_eq xs i hi]; exact List.getElem_mem hi
section
variable {free : Bool} {one : J → St → St} {seen ns : List ByteArray} {i : Nat} {nm : ByteArray} {y : J} {ys : List J} {st st5 : St}
theorem mW_A (h5 : (if i = 0 then st else putF free st [44]) = st5) (he : st5.e ≠ 0) : membersW free one seen i (nm :: ns) (y :: ys) st = st5 := by
  unfold membersW; simp only [h5, if_pos he]
theorem mW_B (h5 : (if i = 0 then st else putF free st [44]) = st5) (he : st5.e = 0) (hv : validD nm.data.toList = false) : membersW free one seen i (nm :: ns) (y :: ys) st = failF st5 47 := by
  unfold membersW; simp only [h5]; rw [if_neg (by simp [he]), if_pos hv]
theorem mW_C (h5 : (if i = 0 then st else putF free st [44]) = st5) (he : st5.e = 0) (hv : validD nm.data.toList = true) (hs : nm.data.toList ∈ seen.map (fun b => b.data.toList)) : membersW free one seen i (nm :: ns) (y :: ys) st = failF st5 45 := by
  unfold membersW; simp only [h5]; rw [if_neg (by simp [he]), if_neg (by simp [hv]), if_pos hs]
theorem mW_D (h5 : (if i = 0 then st else putF free st [44]) = st5) (he : st5.e = 0) (hv : validD nm.data.toList = true) (hs : ¬ nm.data.toList ∈ seen.map (fun b => b.data.toList)) : membersW free one seen i (nm :: ns) (y :: ys) st = membersW free one (seen ++ [nm]) (i + 1) ns ys (one y (putF free (putsF free st5 (quoteB nm)) [58])) := by
  rw [membersW]; simp only [h5]; rw [if_neg (by simp [he]), if_neg (by simp [hv]), if_neg hs]
end
/-- A writer at fault ends so. -/
theorem Sm.over {canon free : Bool} {a b m : St} (h : Sm canon m b) (hm : m = a) (he : a.e ≠ 0) : Sm canon a (putF free b [125]) := by
  have h1 := h.put free [125]
  rw [hm, putF_bad free a [125] he] at h1
  exact h1
theorem key_at (nm : ByteArray) (h : nm.size ≤ 288230376151711743) : keyOf Tryd.prog 9 (.string nm) = some (.string nm.data.toList) := Go.WideMaps.keyOf_string_mk Tryd.underlying9 (s := nm) (by unfold maxLen; omega)
set_option maxRecDepth 1000000 in
set_option maxHeartbeats 16000000 in
theorem members_calls (Wd : Nat) (free canon : Bool) (st : St) (sl : Value) (d : Int) (A2 A3 : Option Addr) (c2 c3 : Nat) (W : World) (wt : Nat) (ns : List ByteArray) (ys : List J) (hny : ns.length = ys.length) (r : Nat) (h : Wr Wd free st sl W) (hG : Gl Wd W) (hwt : wtN ns + wtI r ys + 2 ≤ wt) (hfit : Fit free st wt)
    (hsn : ∀ s, s ∈ ns → s.size ≤ 288230376151711743) (hsm : ∀ y, y ∈ ys → SmJ r y) (hln : canon = true → ∀ y, y ∈ ys → LnJ r y) (hF2 : Kd.F Kd.string W (okW Wd sl) A2 ns.length ns) (hc2 : ns.length ≤ c2) (hF3 : Kd.F k25 W (okW Wd sl) A3 ys.length ys) (hc3 : ys.length ≤ c3) (IH : WOK free canon r (wrap64 (d + 1))) :
    Calls Tryd.prog 55 #[ptr Wd, .agg #[.slice A2 ns.length c2, .slice A3 ys.length c3], .int .i64 d, .bool canon] W (VEnds Wd free canon st sl W wt (putF free (membersW free (valW free canon r) [] 0 ns ys (putF free st [123])) [125])) := by
  have H := Aside0.mk h
  have HL := Aside0.mk (Nat.le_of_lt h.lt)
  have HG := Aside0.mk hG
  have HF := Aside0.mk hfit
  have HSN := Aside0.mk hsn
  have HS := Aside0.mk hsm
  have HLN := Aside0.mk hln
  have HX2 := Aside0.mk hF2
  have HX := Aside0.mk hF3
  have hmax := Kd.F_max hF3
  unfold WOK at IH
  have HI := Aside0.mk IH
  have hmm := @run_makeMap Tryd.prog
  have HNY := Aside0.mk hny
  have hmax2 : ns.length ≤ 9223372036854775807 := by omega
  clear hny h hG hfit hsn hsm hln hF2 hF3 IH
  go_enter Tryd.func55, Tryd.ntmps55
  go_wp2_with (go_at_call 52; (with_reducible refine (put_calls Wd free st sl ⟨#[123]⟩ _ ?rm1 ?wr1).mono ?_); (case rm1 => exact HF.out.room (m := 1) (by omega) (by omega)); (case wr1 => exact H.out.below (by repeat (first | exact Below.refl _ _ | apply below_drewN | apply below_drew1 | apply below_alloc))); rintro e w1 ⟨rfl, sl1, hw, ho⟩; have HW1 := Aside0.mk hw; have HO1 := Aside0.mk ho; clear hw ho; have HE1 := Aside0.mk (show WrOn Wd sl sl1 W w1 from (WrOn.of_below HL.out (by repeat (first | exact Below.refl _ _ | apply below_drewN | apply below_drew1 | apply below_alloc))).trans HO1.out); have hbx := H.out.newblk (o := .cells #[.slice A2 ns.length c2, .slice A3 ys.length c3] 84 (0, 0)) (Nat.le_refl _) HO1.out (heap_alloc_new W _); have HMW := Aside0.mk (Nat.le_of_lt (lt_of_block hbx)); have BX2 := Aside0.mk (((below_alloc (Below.refl _ w1) (.map #[] 0)).block _ (lt_of_block hbx)).trans hbx); clear hbx; have x0 : (w1.alloc (.map #[] 0)).cell? ⟨W.heap.size, 0, none⟩ = some (.slice A2 ns.length c2) := (blk_cell BX2.out 0).trans rfl)
  go_loopg [17] (ns.length + 1) (fun g v17 wr => ∃ (i : Nat) (st2 : St) (sl2 : Value), v17 = .int .i64 (i : Int) ∧ i ≤ ns.length ∧ ns.length + 1 ≤ i + g ∧ Aside0 (Wr Wd free st2 sl2 wr) ∧ Aside0 (WrOn Wd sl sl2 W wr) ∧ Aside0 (wr.heap[W.heap.size]? = some (.cells #[.slice A2 ns.length c2, .slice A3 ys.length c3] 84 (0, 0))) ∧ Aside0 (Seen wr w1.heap.size (ns.take i)) ∧ Aside0 (∀ n, Fit free st (wt + n) → Fit free st2 (wtN (ns.drop i) + wtI r (ys.drop i) + 1 + n)) ∧ Aside0 (Sm canon (membersW free (valW free canon r) (ns.take i) i (ns.drop i) (ys.drop i) st2) (membersW free (valW free canon r) [] 0 ns ys (putF free st [123]))))
  case atStart => exact ⟨0, putF free st [123], sl1, rfl, by omega, by omega, ⟨HW1.out.below (by repeat (first | exact Below.refl _ _ | apply below_drewN | apply below_drew1 | apply below_alloc))⟩, ⟨HE1.out.trans (WrOn.of_below (Nat.le_of_lt HW1.out.lt) (by repeat (first | exact Below.refl _ _ | apply below_drewN | apply below_drew1 | apply below_alloc)))⟩, BX2, ⟨Seen.made w1⟩, ⟨fun n hn => hn.put [123] (by rw [List.drop_zero, List.drop_zero, List.length_singleton]; omega)⟩, ⟨Sm.refl _ _⟩⟩
  case round =>
    obtain ⟨i, st2, sl3, rfl, hi, hg, HW3, HO3, HB3, HSE3, HF3, HX3⟩ := hrel
    clear HW1 HO1 HE1 BX2 x0
    by_cases hlt : i < ns.length
    · cases gk with
      | zero => omega
      | succ g =>
        have hlt2 : i < ys.length := by have := HNY.out; omega
        obtain ⟨ad, e8, q0⟩ := Kd.at_string (Kd.F_now (F_on HX2.out HO3.out)) (i : Int) (by omega) (by omega)
        subst e8
        replace q0 : wr.cell? (ad.add i) = some (.string (nmAt ns i)) := q0
        obtain ⟨ae, B2, k2, B3, k3, e9, _⟩ := F_elem (F_on HX.out HO3.out) i hlt2
        subst e9
        have HE9 := Aside0.mk (fun (w : World) (sl' : Value) (ho : WrOn Wd sl sl' W w) => F_elem (F_on HX.out ho) i hlt2)
        have HDR := Aside0.mk (drop_rd ys i hlt2)
        have HDN := Aside0.mk (drop_nm ns i hlt)
        have HTK := Aside0.mk (take_nm ns i hlt)
        have HSY := Aside0.mk (HS.out (rd_T25 ys i) (rd_mem ys i hlt2))
        have HLY := Aside0.mk (fun hc => HLN.out hc (rd_T25 ys i) (rd_mem ys i hlt2))
        have HNM := Aside0.mk (HSN.out (nmAt ns i) (mem_nm ns i hlt))
        have HWN := Aside0.mk (wrap_next i ns.length hlt hmax2)
        have p1 : (0 ≤ (i : Int)) = True := eq_true (by omega)
        have p2 : ((i : Int) < (ns.length : Int)) = True := eq_true (by omega)
        have p3 : ((i : Int) < (ys.length : Int)) = True := eq_true (by omega)
        have HX5 := Aside0.mk (show Sm canon (membersW free (valW free canon r) (ns.take i) i (nmAt ns i :: ns.drop (i + 1)) (rd_T25 ys i :: ys.drop (i + 1)) st2) (membersW free (valW free canon r) [] 0 ns ys (putF free st [123])) from by have := HX3.out; rw [HDR.out, HDN.out] at this; exact this)
        have HF5 := Aside0.mk (show ∀ n, Fit free st (wt + n) → Fit free st2 (1 + (12 * (nmAt ns i).size + 3 + (wtJ r (rd_T25 ys i) + (wtN (ns.drop (i + 1)) + wtI r (ys.drop (i + 1)) + 1 + n)))) from fun n hn => (HF3.out n hn).less (by rw [HDR.out, HDN.out, wtN_cons, wtI_cons]; omega))
        have HWT := Aside0.mk (wtJ_text r (rd_T25 ys i))
        have HL3 := Aside0.mk (Nat.le_of_lt HW3.out.lt)
        have HMW' := HMW
        have cr2 : wr.cell? ⟨Wd, 2, none⟩ = some (.int .i64 st2.e) := (blk_cell HW3.out.blk 2).trans rfl
        clear HX3 HF3 HDR HDN
        generalize rd_T25 ys (i : Int) = y at *
        generalize nmAt ns i = nm at *
        have HKEY := Aside0.mk (key_at nm HNM.out)
        by_cases hi0 : i = 0
        · have c0 : decide ((0 : Int) < (i : Int)) = false := decide_eq_false (by omega)
          have c1' : ((0 : Int) < (i : Int)) = False := eq_false (by omega)
          have c2' : (0 < i) = False := eq_false (by omega)
          have c3' : decide (0 < i) = false := decide_eq_false (by omega)
          have H5 := Aside0.mk (show (if i = 0 then st2 else putF free st2 [44]) = st2 from if_pos hi0)
          have HF6 := Aside0.mk (show ∀ n, Fit free st (wt + n) → Fit free st2 (12 * nm.size + 3 + (wtJ r y + (wtN (ns.drop (i + 1)) + wtI r (ys.drop (i + 1)) + 1 + n))) from fun n hn => (HF5.out n hn).less (by omega))
          clear hi0 HF5
          by_cases he : st2.e = 0
          · cases hv : validD nm.data.toList with
            | false =>
              have e0 : ((st2.e : Int) != 0) = false := by rw [he]; rfl
              have HER := Aside0.mk he
              clear he
              have HN := Aside0.mk (show (47 : Int) = ((47 : Nat) : Int) from rfl)
              have HV := Aside0.mk hv
              clear hv
              have HW5 := HW3
              have HO35 := HO3
              have HB5 := HB3
              have HSE5 := HSE3
              have HG5 := Aside0.mk (HG.out.on HO35.out)
              go_wp2_with (first | (go_at_call 75; (with_reducible refine (valid_calls nm _ false HV.out (by have := HNM.out; omega) ?tb).mono ?_); (case tb => exact HG5.out.tabs); rintro e w6 ⟨rfl, hb⟩; have HW6 := Aside0.mk (HW5.out.below hb); have HO6 := Aside0.mk (HO35.out.trans (WrOn.of_below (Nat.le_of_lt HW5.out.lt) hb)); have HN6 := Aside0.mk (WrOn.of_below (sl := sl3) (Nat.le_of_lt HW5.out.lt) hb); have HB6 := Aside0.mk (HW5.out.keepT HN6.out HB5.out (by decide) (by decide)); have HSE6 := Aside0.mk (HW5.out.keepM HN6.out HSE5.out); clear hb) | (go_at_call 50; (with_reducible refine (wfail_calls Wd free st2 sl3 47 47 HN.out _ ?wrf).mono ?_); (case wrf => exact HW6.out); rintro e w9 ⟨rfl, hw, ho⟩; have HW9 := Aside0.mk hw; have HO9 := Aside0.mk ho; clear hw ho))
              (try simp only [Exit.inBlock, Exit.then])
              refine ⟨rfl, .tuple #[], results_none rfl _ _ _, ?_⟩
              exact VEnds.of (Below.refl _ _) HL.out (HO6.out.trans HO9.out) HW9.out (HX5.out.over (mW_B H5.out HER.out HV.out) (failF_e _ _ (by decide))) (fun n hn => ((HF6.out n hn).failF 47).less (by omega))
            | true =>
              by_cases hsn : nm.data.toList ∈ (ns.take i).map (fun b => b.data.toList)
              · have e0 : ((st2.e : Int) != 0) = false := by rw [he]; rfl
                have HER := Aside0.mk he
                clear he
                have HN := Aside0.mk (show (45 : Int) = ((45 : Nat) : Int) from rfl)
                have HV := Aside0.mk hv
                clear hv
                have HSN5 := Aside0.mk hsn
                clear hsn
                have HW5 := HW3
                have HO35 := HO3
                have HB5 := HB3
                have HSE5 := HSE3
                have HG5 := Aside0.mk (HG.out.on HO35.out)
                go_wp2_with (first | (go_at_call 75; (with_reducible refine (valid_calls nm _ true HV.out (by have := HNM.out; omega) ?tb).mono ?_); (case tb => exact HG5.out.tabs); rintro e w6 ⟨rfl, hb⟩; have HW6 := Aside0.mk (HW5.out.below hb); have HO6 := Aside0.mk (HO35.out.trans (WrOn.of_below (Nat.le_of_lt HW5.out.lt) hb)); have HN6 := Aside0.mk (WrOn.of_below (sl := sl3) (Nat.le_of_lt HW5.out.lt) hb); have HB6 := Aside0.mk (HW5.out.keepT HN6.out HB5.out (by decide) (by decide)); have HSE6 := Aside0.mk (HW5.out.keepM HN6.out HSE5.out); clear hb) | (at_lookup; obtain ⟨D, hD1, hD2, hD3⟩ := HSE6.out; refine wpList_lookup_own_int _ rfl _ _ 97 rfl 9 3 .i64 key9 Tryd.underlying97 Tryd.underlying3 (zero3 _) w1.heap.size (ns.take i).length D rfl hD2 (.string nm) (.string nm.data.toList) rfl HKEY.out ?_; intro cc hat hwc; rw [hD3 nm.data.toList, if_pos HSN5.out] at hat; injection hat with hat; injection hat with _ hat; subst hat; have HD1 := Aside0.mk hD1; have HD2 := Aside0.mk hD2; have HD3 := Aside0.mk hD3; clear hD1 hD2 hD3 hwc) | (go_at_call 50; (with_reducible refine (wfail_calls Wd free st2 sl3 45 45 HN.out _ ?wrf).mono ?_); (case wrf => exact HW6.out); rintro e w9 ⟨rfl, hw, ho⟩; have HW9 := Aside0.mk hw; have HO9 := Aside0.mk ho; clear hw ho))
                (try simp only [Exit.inBlock, Exit.then])
                refine ⟨rfl, .tuple #[], results_none rfl _ _ _, ?_⟩
                exact VEnds.of (Below.refl _ _) HL.out (HO6.out.trans HO9.out) HW9.out (HX5.out.over (mW_C H5.out HER.out HV.out HSN5.out) (failF_e _ _ (by decide))) (fun n hn => ((HF6.out n hn).failF 45).less (by omega))
              · have e0 : ((st2.e : Int) != 0) = false := by rw [he]; rfl
                have HER := Aside0.mk he
                clear he
                have HV := Aside0.mk hv
                have HSN5 := Aside0.mk hsn
                clear hv hsn
                have HF8 := Aside0.mk (show ∀ n, Fit free st (wt + n) → Fit free (putsF free st2 (quoteB nm)) (1 + (wtJ r y + (wtN (ns.drop (i + 1)) + wtI r (ys.drop (i + 1)) + 1 + n))) from fun n hn => (HF6.out n hn).quote nm (by omega))
                have HF9 := Aside0.mk (show ∀ n, Fit free st (wt + n) → Fit free (putF free (putsF free st2 (quoteB nm)) [58]) (wtJ r y + (wtN (ns.drop (i + 1)) + wtI r (ys.drop (i + 1)) + 1 + n)) from fun n hn => (HF8.out n hn).put [58] (by rw [List.length_singleton]; omega))
                have HX6 := Aside0.mk (show Sm canon (membersW free (valW free canon r) (ns.take (i + 1)) (i + 1) (ns.drop (i + 1)) (ys.drop (i + 1)) (valW free canon r y (putF free (putsF free st2 (quoteB nm)) [58]))) (membersW free (valW free canon r) [] 0 ns ys (putF free st [123])) from by have := HX5.out; rw [mW_D H5.out HER.out HV.out HSN5.out] at this; rw [HTK.out]; exact this)
                have HR8 := Aside0.mk ((HF6.out 0 HF.out).room (m := 12 * nm.size + 14) (by have := HWT.out; omega) (by have := HNM.out; omega))
                have HR9 := Aside0.mk ((HF8.out 0 HF.out).room (m := 1) (by omega) (by omega))
                have htl : (ns.take i).length ≤ 9223372036854775806 := by rw [List.length_take]; omega
                clear HX5
                have HW5 := HW3
                have HO35 := HO3
                have HB5 := HB3
                have HSE5 := HSE3
                have HG5 := Aside0.mk (HG.out.on HO35.out)
                go_wp2_with (first | (go_at_call 75; (with_reducible refine (valid_calls nm _ true HV.out (by have := HNM.out; omega) ?tb).mono ?_); (case tb => exact HG5.out.tabs); rintro e w6 ⟨rfl, hb⟩; have HW6 := Aside0.mk (HW5.out.below hb); have HO6 := Aside0.mk (HO35.out.trans (WrOn.of_below (Nat.le_of_lt HW5.out.lt) hb)); have HN6 := Aside0.mk (WrOn.of_below (sl := sl3) (Nat.le_of_lt HW5.out.lt) hb); have HB6 := Aside0.mk (HW5.out.keepT HN6.out HB5.out (by decide) (by decide)); have HSE6 := Aside0.mk (HW5.out.keepM HN6.out HSE5.out); clear hb) | (at_lookup; obtain ⟨D, hD1, hD2, hD3⟩ := HSE6.out; refine wpList_lookup_own_int _ rfl _ _ 97 rfl 9 3 .i64 key9 Tryd.underlying97 Tryd.underlying3 (zero3 _) w1.heap.size (ns.take i).length D rfl hD2 (.string nm) (.string nm.data.toList) rfl HKEY.out ?_; intro cc hat hwc; rw [hD3 nm.data.toList, if_neg HSN5.out] at hat; injection hat with hat; injection hat with _ hat; subst hat; have HD1 := Aside0.mk hD1; have HD2 := Aside0.mk hD2; have HD3 := Aside0.mk hD3; clear hD1 hD2 hD3 hwc) | (at_mapUpdate; refine wpList_mapUpdate_own _ rfl _ _ _ 97 rfl 9 3 key9 Tryd.underlying97 _ w1.heap.size (ns.take i).length _ rfl HD2.out (by unfold maxLen; omega) _ _ _ rfl rfl HKEY.out _ [] (plainElem_int Tryd.underlying3 (by decide)) ?_; intro w7 hown7 hg7; have HW7 := Aside0.mk (HW6.out.mapped HSE6.out hg7); have HO7 := Aside0.mk (HO6.out.mapped HMW.out HL.out hg7); have HB7 := Aside0.mk (blk_grownM HB6.out HSE6.out hg7); have HSE7 := Aside0.mk (show Seen w7 w1.heap.size (ns.take (i + 1)) from HTK.out ▸ seen_put (W := w6) nm HD1.out HD3.out hown7); clear hown7 hg7) | (go_at_call 53; (with_reducible refine (quote_calls Wd free st2 sl3 nm _ HNM.out ?rm8 ?wr8).mono ?_); (case rm8 => exact HR8.out); (case wr8 => exact HW7.out); rintro e w8 ⟨rfl, sl8, hw, ho⟩; have HW8 := Aside0.mk hw; have HO8 := Aside0.mk (HO7.out.trans ho); have HB8 := Aside0.mk (HW7.out.keepT ho HB7.out (by decide) (by decide)); have HSE8 := Aside0.mk (HW7.out.keepM ho HSE7.out); clear hw ho) | (go_at_call 52; (with_reducible refine (put_calls Wd free (putsF free st2 (quoteB nm)) sl8 ⟨#[58]⟩ _ ?rm9 ?wr9).mono ?_); (case rm9 => exact HR9.out); (case wr9 => exact HW8.out); rintro e w9 ⟨rfl, sl9, hw, ho⟩; have HW9 := Aside0.mk hw; have HO9 := Aside0.mk (HO8.out.trans ho); have HB9 := Aside0.mk (HW8.out.keepT ho HB8.out (by decide) (by decide)); have HSE9 := Aside0.mk (HW8.out.keepM ho HSE8.out); clear hw ho; have x9 : w9.cell? ⟨W.heap.size, 1, none⟩ = some (.slice (some ae) ys.length c3) := (blk_cell HB9.out 1).trans rfl; obtain ⟨ae', B2', k2', B3', k3', e9, z0, z1, z2, z3, m2, g2, m3, g3⟩ := HE9.out w9 sl9 HO9.out; injection e9 with e9; subst e9; have HM2 := Aside0.mk m2; have HM3 := Aside0.mk m3; have HG2 := Aside0.mk g2; have HG3 := Aside0.mk g3; clear m2 m3 g2 g3) | (go_at_call 33; (with_reducible refine (HI.out Wd (putF free (putsF free st2 (quoteB nm)) [58]) sl9 _ y B2' B3' k2' k3' ?w10 ?f10 HSY.out HLY.out ?s102 HM2.out ?s103 HM3.out ?g10).mono ?_); (case w10 => exact HW9.out); (case f10 => exact (HF9.out 0 HF.out).less (by omega)); (case s102 => exact HG2.out); (case s103 => exact HG3.out); (case g10 => exact HG.out.on HO9.out); rintro e w10 ⟨rfl, st10, sl10, hs, hf, hw, ho⟩; have HS10 := Aside0.mk hs; have HV10 := Aside0.mk hf; have HW10 := Aside0.mk hw; have HO10 := Aside0.mk (HO9.out.trans ho); have HB10 := Aside0.mk (HW9.out.keepT ho HB9.out (by decide) (by decide)); have HSE10 := Aside0.mk (HW9.out.keepM ho HSE9.out); clear hs hf hw ho))
                go_roundg g
                case measure => omega
                case rel => exact ⟨i + 1, st10, sl10, (by first | exact congrArg (Value.int .i64) HWN.out | exact congrArg (Value.int .i64) (show (i : Int) + 1 = ((i + 1 : Nat) : Int) by omega)), by omega, by omega, HW10, HO10, HB10, HSE10, ⟨fun n hn => HV10.out _ (HF9.out n hn)⟩, ⟨(HS10.out.members free _ _ _ _).trans HX6.out⟩⟩
          · have e0 : ((st2.e : Int) != 0) = true := by
              have : ¬ (st2.e : Int) = 0 := by omega
              simp only [bne_iff_ne, ne_eq]
              exact this
            have HER := Aside0.mk he
            clear he
            have HW5 := HW3
            have HO35 := HO3
            have HB5 := HB3
            have HSE5 := HSE3
            have HG5 := Aside0.mk (HG.out.on HO35.out)
            go_wp2
            (try simp only [Exit.inBlock, Exit.then])
            refine ⟨rfl, .tuple #[], results_none rfl _ _ _, ?_⟩
            exact VEnds.of (Below.refl _ _) HL.out HO35.out HW5.out (HX5.out.over (mW_A H5.out HER.out) HER.out) (fun n hn => (HF6.out n hn).less (by omega))
        · have c0 : decide ((0 : Int) < (i : Int)) = true := decide_eq_true (by omega)
          have H5 := Aside0.mk (show (if i = 0 then st2 else putF free st2 [44]) = putF free st2 [44] from if_neg hi0)
          have HF6 := Aside0.mk (show ∀ n, Fit free st (wt + n) → Fit free (putF free st2 [44]) (12 * nm.size + 3 + (wtJ r y + (wtN (ns.drop (i + 1)) + wtI r (ys.drop (i + 1)) + 1 + n))) from fun n hn => (HF5.out n hn).put [44] (by rw [List.length_singleton]; omega))
          have HR5 := Aside0.mk ((HF5.out 0 HF.out).room (m := 1) (by omega) (by omega))
          clear HF5
          by_cases he : (putF free st2 [44]).e = 0
          · cases hv : validD nm.data.toList with
            | false =>
              have e0 : (((putF free st2 [44]).e : Int) != 0) = false := by rw [he]; rfl
              have HER := Aside0.mk he
              clear he
              have HN := Aside0.mk (show (47 : Int) = ((47 : Nat) : Int) from rfl)
              have HV := Aside0.mk hv
              clear hv
              go_wp2_with (first | (go_at_call 52; (with_reducible refine (put_calls Wd free st2 sl3 ⟨#[44]⟩ _ ?rm5 ?wr5).mono ?_); (case rm5 => exact HR5.out); (case wr5 => exact HW3.out); rintro e w5 ⟨rfl, sl5, hw, ho⟩; have HW5 := Aside0.mk hw; have HO5 := Aside0.mk ho; clear hw ho; have HO35 := Aside0.mk (HO3.out.trans HO5.out); have HB5 := Aside0.mk (HW3.out.keepT HO5.out HB3.out (by decide) (by decide)); have HSE5 := Aside0.mk (HW3.out.keepM HO5.out HSE3.out); have HG5 := Aside0.mk (HG.out.on HO35.out); have x2 : w5.cell? ⟨Wd, 2, none⟩ = some (.int .i64 (putF free st2 [44]).e) := (blk_cell HW5.out.blk 2).trans rfl) | (go_at_call 75; (with_reducible refine (valid_calls nm _ false HV.out (by have := HNM.out; omega) ?tb).mono ?_); (case tb => exact HG5.out.tabs); rintro e w6 ⟨rfl, hb⟩; have HW6 := Aside0.mk (HW5.out.below hb); have HO6 := Aside0.mk (HO35.out.trans (WrOn.of_below (Nat.le_of_lt HW5.out.lt) hb)); have HN6 := Aside0.mk (WrOn.of_below (sl := sl5) (Nat.le_of_lt HW5.out.lt) hb); have HB6 := Aside0.mk (HW5.out.keepT HN6.out HB5.out (by decide) (by decide)); have HSE6 := Aside0.mk (HW5.out.keepM HN6.out HSE5.out); clear hb) | (go_at_call 50; (with_reducible refine (wfail_calls Wd free (putF free st2 [44]) sl5 47 47 HN.out _ ?wrf).mono ?_); (case wrf => exact HW6.out); rintro e w9 ⟨rfl, hw, ho⟩; have HW9 := Aside0.mk hw; have HO9 := Aside0.mk ho; clear hw ho))
              (try simp only [Exit.inBlock, Exit.then])
              refine ⟨rfl, .tuple #[], results_none rfl _ _ _, ?_⟩
              exact VEnds.of (Below.refl _ _) HL.out (HO6.out.trans HO9.out) HW9.out (HX5.out.over (mW_B H5.out HER.out HV.out) (failF_e _ _ (by decide))) (fun n hn => ((HF6.out n hn).failF 47).less (by omega))
            | true =>
              by_cases hsn : nm.data.toList ∈ (ns.take i).map (fun b => b.data.toList)
              · have e0 : (((putF free st2 [44]).e : Int) != 0) = false := by rw [he]; rfl
                have HER := Aside0.mk he
                clear he
                have HN := Aside0.mk (show (45 : Int) = ((45 : Nat) : Int) from rfl)
                have HV := Aside0.mk hv
                clear hv
                have HSN5 := Aside0.mk hsn
                clear hsn
                go_wp2_with (first | (go_at_call 52; (with_reducible refine (put_calls Wd free st2 sl3 ⟨#[44]⟩ _ ?rm5 ?wr5).mono ?_); (case rm5 => exact HR5.out); (case wr5 => exact HW3.out); rintro e w5 ⟨rfl, sl5, hw, ho⟩; have HW5 := Aside0.mk hw; have HO5 := Aside0.mk ho; clear hw ho; have HO35 := Aside0.mk (HO3.out.trans HO5.out); have HB5 := Aside0.mk (HW3.out.keepT HO5.out HB3.out (by decide) (by decide)); have HSE5 := Aside0.mk (HW3.out.keepM HO5.out HSE3.out); have HG5 := Aside0.mk (HG.out.on HO35.out); have x2 : w5.cell? ⟨Wd, 2, none⟩ = some (.int .i64 (putF free st2 [44]).e) := (blk_cell HW5.out.blk 2).trans rfl) | (go_at_call 75; (with_reducible refine (valid_calls nm _ true HV.out (by have := HNM.out; omega) ?tb).mono ?_); (case tb => exact HG5.out.tabs); rintro e w6 ⟨rfl, hb⟩; have HW6 := Aside0.mk (HW5.out.below hb); have HO6 := Aside0.mk (HO35.out.trans (WrOn.of_below (Nat.le_of_lt HW5.out.lt) hb)); have HN6 := Aside0.mk (WrOn.of_below (sl := sl5) (Nat.le_of_lt HW5.out.lt) hb); have HB6 := Aside0.mk (HW5.out.keepT HN6.out HB5.out (by decide) (by decide)); have HSE6 := Aside0.mk (HW5.out.keepM HN6.out HSE5.out); clear hb) | (at_lookup; obtain ⟨D, hD1, hD2, hD3⟩ := HSE6.out; refine wpList_lookup_own_int _ rfl _ _ 97 rfl 9 3 .i64 key9 Tryd.underlying97 Tryd.underlying3 (zero3 _) w1.heap.size (ns.take i).length D rfl hD2 (.string nm) (.string nm.data.toList) rfl HKEY.out ?_; intro cc hat hwc; rw [hD3 nm.data.toList, if_pos HSN5.out] at hat; injection hat with hat; injection hat with _ hat; subst hat; have HD1 := Aside0.mk hD1; have HD2 := Aside0.mk hD2; have HD3 := Aside0.mk hD3; clear hD1 hD2 hD3 hwc) | (go_at_call 50; (with_reducible refine (wfail_calls Wd free (putF free st2 [44]) sl5 45 45 HN.out _ ?wrf).mono ?_); (case wrf => exact HW6.out); rintro e w9 ⟨rfl, hw, ho⟩; have HW9 := Aside0.mk hw; have HO9 := Aside0.mk ho; clear hw ho))
                (try simp only [Exit.inBlock, Exit.then])
                refine ⟨rfl, .tuple #[], results_none rfl _ _ _, ?_⟩
                exact VEnds.of (Below.refl _ _) HL.out (HO6.out.trans HO9.out) HW9.out (HX5.out.over (mW_C H5.out HER.out HV.out HSN5.out) (failF_e _ _ (by decide))) (fun n hn => ((HF6.out n hn).failF 45).less (by omega))
              · have e0 : (((putF free st2 [44]).e : Int) != 0) = false := by rw [he]; rfl
                have HER := Aside0.mk he
                clear he
                have HV := Aside0.mk hv
                have HSN5 := Aside0.mk hsn
                clear hv hsn
                have HF8 := Aside0.mk (show ∀ n, Fit free st (wt + n) → Fit free (putsF free (putF free st2 [44]) (quoteB nm)) (1 + (wtJ r y + (wtN (ns.drop (i + 1)) + wtI r (ys.drop (i + 1)) + 1 + n))) from fun n hn => (HF6.out n hn).quote nm (by omega))
                have HF9 := Aside0.mk (show ∀ n, Fit free st (wt + n) → Fit free (putF free (putsF free (putF free st2 [44]) (quoteB nm)) [58]) (wtJ r y + (wtN (ns.drop (i + 1)) + wtI r (ys.drop (i + 1)) + 1 + n)) from fun n hn => (HF8.out n hn).put [58] (by rw [List.length_singleton]; omega))
                have HX6 := Aside0.mk (show Sm canon (membersW free (valW free canon r) (ns.take (i + 1)) (i + 1) (ns.drop (i + 1)) (ys.drop (i + 1)) (valW free canon r y (putF free (putsF free (putF free st2 [44]) (quoteB nm)) [58]))) (membersW free (valW free canon r) [] 0 ns ys (putF free st [123])) from by have := HX5.out; rw [mW_D H5.out HER.out HV.out HSN5.out] at this; rw [HTK.out]; exact this)
                have HR8 := Aside0.mk ((HF6.out 0 HF.out).room (m := 12 * nm.size + 14) (by have := HWT.out; omega) (by have := HNM.out; omega))
                have HR9 := Aside0.mk ((HF8.out 0 HF.out).room (m := 1) (by omega) (by omega))
                have htl : (ns.take i).length ≤ 9223372036854775806 := by rw [List.length_take]; omega
                clear HX5
                go_wp2_with (first | (go_at_call 52; (with_reducible refine (put_calls Wd free st2 sl3 ⟨#[44]⟩ _ ?rm5 ?wr5).mono ?_); (case rm5 => exact HR5.out); (case wr5 => exact HW3.out); rintro e w5 ⟨rfl, sl5, hw, ho⟩; have HW5 := Aside0.mk hw; have HO5 := Aside0.mk ho; clear hw ho; have HO35 := Aside0.mk (HO3.out.trans HO5.out); have HB5 := Aside0.mk (HW3.out.keepT HO5.out HB3.out (by decide) (by decide)); have HSE5 := Aside0.mk (HW3.out.keepM HO5.out HSE3.out); have HG5 := Aside0.mk (HG.out.on HO35.out); have x2 : w5.cell? ⟨Wd, 2, none⟩ = some (.int .i64 (putF free st2 [44]).e) := (blk_cell HW5.out.blk 2).trans rfl) | (go_at_call 75; (with_reducible refine (valid_calls nm _ true HV.out (by have := HNM.out; omega) ?tb).mono ?_); (case tb => exact HG5.out.tabs); rintro e w6 ⟨rfl, hb⟩; have HW6 := Aside0.mk (HW5.out.below hb); have HO6 := Aside0.mk (HO35.out.trans (WrOn.of_below (Nat.le_of_lt HW5.out.lt) hb)); have HN6 := Aside0.mk (WrOn.of_below (sl := sl5) (Nat.le_of_lt HW5.out.lt) hb); have HB6 := Aside0.mk (HW5.out.keepT HN6.out HB5.out (by decide) (by decide)); have HSE6 := Aside0.mk (HW5.out.keepM HN6.out HSE5.out); clear hb) | (at_lookup; obtain ⟨D, hD1, hD2, hD3⟩ := HSE6.out; refine wpList_lookup_own_int _ rfl _ _ 97 rfl 9 3 .i64 key9 Tryd.underlying97 Tryd.underlying3 (zero3 _) w1.heap.size (ns.take i).length D rfl hD2 (.string nm) (.string nm.data.toList) rfl HKEY.out ?_; intro cc hat hwc; rw [hD3 nm.data.toList, if_neg HSN5.out] at hat; injection hat with hat; injection hat with _ hat; subst hat; have HD1 := Aside0.mk hD1; have HD2 := Aside0.mk hD2; have HD3 := Aside0.mk hD3; clear hD1 hD2 hD3 hwc) | (at_mapUpdate; refine wpList_mapUpdate_own _ rfl _ _ _ 97 rfl 9 3 key9 Tryd.underlying97 _ w1.heap.size (ns.take i).length _ rfl HD2.out (by unfold maxLen; omega) _ _ _ rfl rfl HKEY.out _ [] (plainElem_int Tryd.underlying3 (by decide)) ?_; intro w7 hown7 hg7; have HW7 := Aside0.mk (HW6.out.mapped HSE6.out hg7); have HO7 := Aside0.mk (HO6.out.mapped HMW.out HL.out hg7); have HB7 := Aside0.mk (blk_grownM HB6.out HSE6.out hg7); have HSE7 := Aside0.mk (show Seen w7 w1.heap.size (ns.take (i + 1)) from HTK.out ▸ seen_put (W := w6) nm HD1.out HD3.out hown7); clear hown7 hg7) | (go_at_call 53; (with_reducible refine (quote_calls Wd free (putF free st2 [44]) sl5 nm _ HNM.out ?rm8 ?wr8).mono ?_); (case rm8 => exact HR8.out); (case wr8 => exact HW7.out); rintro e w8 ⟨rfl, sl8, hw, ho⟩; have HW8 := Aside0.mk hw; have HO8 := Aside0.mk (HO7.out.trans ho); have HB8 := Aside0.mk (HW7.out.keepT ho HB7.out (by decide) (by decide)); have HSE8 := Aside0.mk (HW7.out.keepM ho HSE7.out); clear hw ho) | (go_at_call 52; (with_reducible refine (put_calls Wd free (putsF free (putF free st2 [44]) (quoteB nm)) sl8 ⟨#[58]⟩ _ ?rm9 ?wr9).mono ?_); (case rm9 => exact HR9.out); (case wr9 => exact HW8.out); rintro e w9 ⟨rfl, sl9, hw, ho⟩; have HW9 := Aside0.mk hw; have HO9 := Aside0.mk (HO8.out.trans ho); have HB9 := Aside0.mk (HW8.out.keepT ho HB8.out (by decide) (by decide)); have HSE9 := Aside0.mk (HW8.out.keepM ho HSE8.out); clear hw ho; have x9 : w9.cell? ⟨W.heap.size, 1, none⟩ = some (.slice (some ae) ys.length c3) := (blk_cell HB9.out 1).trans rfl; obtain ⟨ae', B2', k2', B3', k3', e9, z0, z1, z2, z3, m2, g2, m3, g3⟩ := HE9.out w9 sl9 HO9.out; injection e9 with e9; subst e9; have HM2 := Aside0.mk m2; have HM3 := Aside0.mk m3; have HG2 := Aside0.mk g2; have HG3 := Aside0.mk g3; clear m2 m3 g2 g3) | (go_at_call 33; (with_reducible refine (HI.out Wd (putF free (putsF free (putF free st2 [44]) (quoteB nm)) [58]) sl9 _ y B2' B3' k2' k3' ?w10 ?f10 HSY.out HLY.out ?s102 HM2.out ?s103 HM3.out ?g10).mono ?_); (case w10 => exact HW9.out); (case f10 => exact (HF9.out 0 HF.out).less (by omega)); (case s102 => exact HG2.out); (case s103 => exact HG3.out); (case g10 => exact HG.out.on HO9.out); rintro e w10 ⟨rfl, st10, sl10, hs, hf, hw, ho⟩; have HS10 := Aside0.mk hs; have HV10 := Aside0.mk hf; have HW10 := Aside0.mk hw; have HO10 := Aside0.mk (HO9.out.trans ho); have HB10 := Aside0.mk (HW9.out.keepT ho HB9.out (by decide) (by decide)); have HSE10 := Aside0.mk (HW9.out.keepM ho HSE9.out); clear hs hf hw ho))
                go_roundg g
                case measure => omega
                case rel => exact ⟨i + 1, st10, sl10, (by first | exact congrArg (Value.int .i64) HWN.out | exact congrArg (Value.int .i64) (show (i : Int) + 1 = ((i + 1 : Nat) : Int) by omega)), by omega, by omega, HW10, HO10, HB10, HSE10, ⟨fun n hn => HV10.out _ (HF9.out n hn)⟩, ⟨(HS10.out.members free _ _ _ _).trans HX6.out⟩⟩
          · have e0 : (((putF free st2 [44]).e : Int) != 0) = true := by
              have : ¬ ((putF free st2 [44]).e : Int) = 0 := by omega
              simp only [bne_iff_ne, ne_eq]
              exact this
            have HER := Aside0.mk he
            clear he
            go_wp2_with (first | (go_at_call 52; (with_reducible refine (put_calls Wd free st2 sl3 ⟨#[44]⟩ _ ?rm5 ?wr5).mono ?_); (case rm5 => exact HR5.out); (case wr5 => exact HW3.out); rintro e w5 ⟨rfl, sl5, hw, ho⟩; have HW5 := Aside0.mk hw; have HO5 := Aside0.mk ho; clear hw ho; have HO35 := Aside0.mk (HO3.out.trans HO5.out); have HB5 := Aside0.mk (HW3.out.keepT HO5.out HB3.out (by decide) (by decide)); have HSE5 := Aside0.mk (HW3.out.keepM HO5.out HSE3.out); have HG5 := Aside0.mk (HG.out.on HO35.out); have x2 : w5.cell? ⟨Wd, 2, none⟩ = some (.int .i64 (putF free st2 [44]).e) := (blk_cell HW5.out.blk 2).trans rfl))
            (try simp only [Exit.inBlock, Exit.then])
            refine ⟨rfl, .tuple #[], results_none rfl _ _ _, ?_⟩
            exact VEnds.of (Below.refl _ _) HL.out HO35.out HW5.out (HX5.out.over (mW_A H5.out HER.out) HER.out) (fun n hn => (HF6.out n hn).less (by omega))
    · have p2 : ((i : Int) < (ns.length : Int)) = False := eq_false (by omega)
      have hie : ns.drop i = [] := List.drop_eq_nil_of_le (by omega)
      have hie2 : ys.drop i = [] := List.drop_eq_nil_of_le (by have := HNY.out; omega)
      have HX5 := Aside0.mk (show Sm canon st2 (membersW free (valW free canon r) [] 0 ns ys (putF free st [123])) from by have := HX3.out; rw [hie, hie2] at this; exact this)
      have HF5 := Aside0.mk (show ∀ n, Fit free st (wt + n) → Fit free st2 (1 + n) from fun n hn => (HF3.out n hn).less (by omega))
      clear hie hie2 HX3 HF3
      go_wp2_with (go_at_call 52; (with_reducible refine (put_calls Wd free st2 sl3 ⟨#[125]⟩ _ ?rm9 ?wr9).mono ?_); (case rm9 => exact (HF5.out 0 HF.out).room (m := 1) (by omega) (by omega)); (case wr9 => exact HW3.out); rintro e w9 ⟨rfl, sl9, hw, ho⟩; have HW9 := Aside0.mk hw; have HO9 := Aside0.mk ho; clear hw ho)
      (try simp only [Exit.inBlock, Exit.then])
      refine ⟨rfl, .tuple #[], results_none rfl _ _ _, ?_⟩
      exact VEnds.of (Below.refl _ _) HL.out (HO3.out.trans HO9.out) HW9.out (HX5.out.put free [125]) (fun n hn => (HF5.out n hn).put [125] (by rw [List.length_singleton]; omega))
end Go.Proofs.YtaalajhmfdcalaaDoor.X
namespace Go.Proofs.YtaalajhmfdcalaaDoor.X
open Go.RowKit Go.Lib Go.Proofs.YtaalajhmfdcalaaDoorW.PrintWords Go.Proofs.YtaalajhmfdcalaaDoorW.PrintLast Go.Proofs.YtaalajhmfdcalaaDoorW.PrintMore
/-- sorted: an object's members by name. -/
def SortedOK : Prop :=
  ∀ (W : World) (ok : Nat → Prop) (A2 A3 : Option Addr) (c2 c3 : Nat) (ns : List ByteArray) (ys : List J), ns.length = ys.length → ns.length ≤ 1000000 → Kd.F Kd.string W ok A2 ns.length ns → ns.length ≤ c2 → Kd.F k25 W ok A3 ys.length ys → ys.length ≤ c3 →
    Calls Tryd.prog 54 #[.agg #[.slice A2 ns.length c2, .slice A3 ys.length c3]] W fun x W' =>
      ∃ (B2 B3 : Option Addr) (k2 k3 : Nat) (ns' : List ByteArray) (ys' : List J), x = .returned (.agg #[.slice B2 ns'.length k2, .slice B3 ys'.length k3]) ∧ Below W.heap.size W W' ∧ ns'.length = ys'.length ∧ ns'.length ≤ k2 ∧ ys'.length ≤ k3 ∧ (ns'.zip ys').Perm (ns.zip ys) ∧
        (ns.Nodup → ns' = namesOf true ns ys ∧ ys' = itemsOf true ns ys) ∧ Kd.F Kd.string W' (fun k => ok k ∨ W.heap.size ≤ k) B2 ns'.length ns' ∧ Kd.F k25 W' (fun k => ok k ∨ W.heap.size ≤ k) B3 ys'.length ys'
theorem insF_perm (x : ByteArray × J) : ∀ l, (insF x l).Perm (x :: l)
  | [] => .refl _
  | y :: l => by
    unfold insF
    split
    · exact ((insF_perm x l).cons y).trans (.swap _ _ _)
    · exact .refl _
theorem sortF_perm' : ∀ (l a : List (ByteArray × J)), (l.foldl (fun a x => insF x a) a).Perm (a ++ l)
  | [], a => by simp
  | x :: l, a => by
    refine (sortF_perm' l (insF x a)).trans (((insF_perm x a).append_right l).trans ?_)
    simp only [List.cons_append]
    exact List.perm_middle.symm
theorem sortF_perm (l : List (ByteArray × J)) : (sortF l).Perm l := by
  have := sortF_perm' l []
  simpa [sortF] using this
theorem map_fst_zip {ns : List ByteArray} {ys : List J} (h : ns.length = ys.length) : (ns.zip ys).map Prod.fst = ns := List.map_fst_zip (by omega)
theorem map_snd_zip {ns : List ByteArray} {ys : List J} (h : ns.length = ys.length) : (ns.zip ys).map Prod.snd = ys := List.map_snd_zip (by omega)
theorem namesOf_len {ns : List ByteArray} {ys : List J} (c : Bool) (h : ns.length = ys.length) : (namesOf c ns ys).length = (itemsOf c ns ys).length := by
  cases c with
  | false => exact h
  | true => simp [namesOf, itemsOf]
theorem namesOf_perm {ns : List ByteArray} {ys : List J} (h : ns.length = ys.length) : (namesOf true ns ys).Perm ns := by
  have := (sortF_perm (ns.zip ys)).map Prod.fst
  rw [map_fst_zip h] at this
  exact this
/-- Members put in order in any way: the same, or both at fault. -/
theorem order_any (free : Bool) {one : J → St → St} (ho : Quits one) {ns ns' : List ByteArray} {ys ys' : List J} (a : St) (h : ns.length = ys.length) (h' : ns'.length = ys'.length) (hp : (ns'.zip ys').Perm (ns.zip ys)) (hn : ns.Nodup → ns' = namesOf true ns ys ∧ ys' = itemsOf true ns ys) :
    Sm true (putF free (membersW free one [] 0 ns' ys' a) [125]) (putF free (membersW free one [] 0 (namesOf true ns ys) (itemsOf true ns ys) a) [125]) := by
  by_cases hd : ns.Nodup
  · obtain ⟨h1, h2⟩ := hn hd
    rw [h1, h2]
    exact Sm.refl _ _
  · have p1 : ns'.Perm ns := by
      have := hp.map Prod.fst
      rw [map_fst_zip h, map_fst_zip h'] at this
      exact this
    have e1 := membersW_twice free ho ns' ys' [] 0 a h' List.nodup_nil (fun hh => hd (p1.nodup_iff.1 hh))
    have e2 := membersW_twice free ho (namesOf true ns ys) (itemsOf true ns ys) [] 0 a (namesOf_len true h) List.nodup_nil (fun hh => hd ((namesOf_perm h).nodup_iff.1 hh))
    rw [putF_bad _ _ _ e1, putF_bad _ _ _ e2]
    exact .inr ⟨rfl, e1, e2⟩
theorem VEnds.from {Wd : Nat} {free canon : Bool} {st tg tg' : St} {sl : Value} {W w0 w1 : World} {wt : Nat} {x : Ending} (h : VEnds Wd free canon st sl w0 wt tg' x w1) (hb : Below W.heap.size W w0) (hW : Wd ≤ W.heap.size) (hs : Sm canon tg' tg) : VEnds Wd free canon st sl W wt tg x w1 := by
  obtain ⟨rfl, st', sl', h1, h2, h3, h4⟩ := h
  exact VEnds.of hb hW h4 h3 (h1.trans hs) h2
set_option maxRecDepth 1000000 in
set_option maxHeartbeats 4000000 in
theorem value_obj (Wd : Nat) (free : Bool) (st : St) (sl : Value) (d : Int) (f1 : ByteArray) (A2 A3 : Option Addr) (n2 c2 n3 c3 : Nat) (W : World) (wt : Nat) (h : Wr Wd free st sl W) (l2 : List ByteArray) (l3 : List J) (hn2 : n2 = l2.length) (hn3 : n3 = l3.length) (hny : l2.length = l3.length) (r : Nat) (he : st.e = 0) (h1 : ¬ (32 : Int) < d) (h2 : ¬ (32 : Int) ≤ d) (hok : nodeOK 6 f1 n2 n3 = true) (hG : Gl Wd W) (hwt : wtN l2 + wtI r l3 + 2 ≤ wt) (hfit : Fit free st wt) (hsn : ∀ s, s ∈ l2 → s.size ≤ 288230376151711743) (hsm : ∀ y, y ∈ l3 → SmJ r y) (hln : false = true → l3.length ≤ 1000000 ∧ ∀ y, y ∈ l3 → LnJ r y) (hF2 : Kd.F Kd.string W (okW Wd sl) A2 n2 l2) (hc2 : n2 ≤ c2) (hF3 : Kd.F k25 W (okW Wd sl) A3 n3 l3) (hc3 : n3 ≤ c3) (IH : WOK free false r (wrap64 (d + 1))) :
    Calls Tryd.prog 33 #[ptr Wd, jVal 6 f1 A2 A3 n2 c2 n3 c3, .int .i64 d, .bool false] W (VEnds Wd free false st sl W wt (putF free (membersW free (valW free false r) [] 0 l2 l3 (putF free st [123])) [125])) := by
  have H := Aside0.mk h
  have HL := Aside0.mk (Nat.le_of_lt h.lt)
  have cw2 : ∀ o : Obj, (W.alloc o).cell? ⟨Wd, 2, none⟩ = some (.int .i64 st.e) := fun o => (World.cell?_of_block (Below.block (below_alloc (Below.refl _ _) o) _ h.lt)).trans ((blk_cell h.blk 2).trans rfl)
  clear h
  have e0 : ((st.e : Int) != 0) = false := by rw [he]; rfl
  subst hn2
  subst hn3
  have b1 : decide ((32 : Int) < d) = false := decide_eq_false h1
  have b2 : decide ((32 : Int) ≤ d) = false := decide_eq_false h2
  have HOK := Aside0.mk hok
  have HG := Aside0.mk hG
  have HF := Aside0.mk hfit
  have HSN := Aside0.mk hsn
  have HS := Aside0.mk hsm
  have HLN := Aside0.mk hln
  have HX2 := Aside0.mk hF2
  have HX := Aside0.mk hF3
  have HI := Aside0.mk IH
  have HNY := Aside0.mk hny
  clear he hok hG hfit hsn hsm hln hF2 hF3 IH hny
  have ta := is_84
  have tb := no_84_78
  have tc := no_84_80
  have td := no_84_82
  go_enter Tryd.func33, Tryd.ntmps33
  go_wp2_with (first | (go_at_call 51; (with_reducible refine (node_yes6 f1 A2 A3 l2.length c2 l3.length c3 _ HOK.out).mono ?_); rintro e w1 ⟨rfl, hb⟩; have HB1 := Aside0.mk (show Below W.heap.size W w1 from below_step (by repeat (first | exact Below.refl _ _ | apply below_drewN | apply below_drew1 | apply below_alloc)) hb); clear hb) | (go_at_call 55; (with_reducible refine (members_calls Wd free false st sl d A2 A3 c2 c3 _ wt l2 l3 HNY.out r ?wm ?gm hwt HF.out HSN.out HS.out (fun h => by cases h) ?f2 hc2 ?f3 hc3 HI.out).mono ?_); (case wm => exact H.out.below (by repeat (first | exact HB1.out | exact Below.refl _ _ | apply below_drewN | apply below_drew1 | apply below_alloc | refine below_set ?_ HB1.out.size))); (case gm => exact HG.out.below (by repeat (first | exact HB1.out | exact Below.refl _ _ | apply below_drewN | apply below_drew1 | apply below_alloc | refine below_set ?_ HB1.out.size)) HL.out); (case f2 => exact Kd.F_below HX2.out (by repeat (first | exact HB1.out | exact Below.refl _ _ | apply below_drewN | apply below_drew1 | apply below_alloc | refine below_set ?_ HB1.out.size))); (case f3 => exact Kd.F_below HX.out (by repeat (first | exact HB1.out | exact Below.refl _ _ | apply below_drewN | apply below_drew1 | apply below_alloc | refine below_set ?_ HB1.out.size))); intro e w9 hv; have HV := Aside0.mk hv; obtain ⟨rfl, _⟩ := hv))
  (try simp only [Exit.inBlock, Exit.then])
  refine ⟨rfl, .tuple #[], results_none rfl _ _ _, ?_⟩
  exact VEnds.from HV.out (by repeat (first | exact HB1.out | exact Below.refl _ _ | apply below_drewN | apply below_drew1 | apply below_alloc | refine below_set ?_ HB1.out.size)) HL.out (Sm.refl _ _)
theorem far_obj {α : Type} {dd : Kd α} {Wd n : Nat} {free : Bool} {st : St} {sl : Value} {W w1 w2 : World} {o : Obj} {A : Option Addr} {xs : List α} (h : Wr Wd free st sl W) (hs : W.heap.size ≤ w1.heap.size) (hf : Kd.F dd w2 (fun k => (okW Wd sl k ∧ k < w1.heap.size) ∨ (w1.alloc o).heap.size ≤ k) A n xs) (u v : Value) :
    Kd.F dd ((w2.setCell ⟨w1.heap.size, 0, none⟩ u).setCell ⟨w1.heap.size, 1, none⟩ v) (okW Wd sl) A n xs := by
  have hne : ∀ k, ((okW Wd sl k ∧ k < w1.heap.size) ∨ (w1.alloc o).heap.size ≤ k) → k ≠ w1.heap.size := by
    rintro k (⟨_, hk⟩ | hk)
    · omega
    · rw [World.size_alloc] at hk; omega
  refine Kd.F_mono (Kd.F_far (p := ⟨w1.heap.size, 1, none⟩) (Kd.F_far (p := ⟨w1.heap.size, 0, none⟩) hf hne _) hne _) ?_
  rintro k (⟨hk, _⟩ | hk)
  · exact hk
  · rw [World.size_alloc] at hk
    exact ⟨by have := h.lt; omega, fun hh => by have := (h.own.lt k hh.symm).2; omega⟩
theorem perm_names {P : ByteArray → Prop} {ns ns' : List ByteArray} {ys ys' : List J} (h : ∀ s, s ∈ ns → P s) (h1 : ns.length = ys.length) (h2 : ns'.length = ys'.length) (hp : (ns'.zip ys').Perm (ns.zip ys)) : ∀ s, s ∈ ns' → P s := by
  have := hp.map Prod.fst
  rw [map_fst_zip h1, map_fst_zip h2] at this
  exact fun s hs => h s (this.mem_iff.1 hs)
theorem perm_items {P : J → Prop} {ns ns' : List ByteArray} {ys ys' : List J} (h : ∀ y, y ∈ ys → P y) (h1 : ns.length = ys.length) (h2 : ns'.length = ys'.length) (hp : (ns'.zip ys').Perm (ns.zip ys)) : ∀ y, y ∈ ys' → P y := by
  have := hp.map Prod.snd
  rw [map_snd_zip h1, map_snd_zip h2] at this
  exact fun s hs => h s (this.mem_iff.1 hs)
theorem perm_sum {a b : List Nat} (h : a.Perm b) : a.sum = b.sum := by
  induction h with
  | nil => rfl
  | cons x _ ih => simp [ih]
  | swap x y l => simp only [List.sum_cons]; omega
  | trans _ _ h1 h2 => exact h1.trans h2
theorem perm_wt (r : Nat) {ns ns' : List ByteArray} {ys ys' : List J} (h1 : ns.length = ys.length) (h2 : ns'.length = ys'.length) (hp : (ns'.zip ys').Perm (ns.zip ys)) : wtN ns' + wtI r ys' + 2 = wtN ns + wtI r ys + 2 := by
  have a := hp.map Prod.fst
  have b := hp.map Prod.snd
  rw [map_fst_zip h1, map_fst_zip h2] at a
  rw [map_snd_zip h1, map_snd_zip h2] at b
  have c : wtN ns' = wtN ns := perm_sum (a.map _)
  have d : wtI r ys' = wtI r ys := perm_sum (b.map _)
  rw [c, d]
set_option maxRecDepth 1000000 in
set_option maxHeartbeats 4000000 in
theorem value_objC (Wd : Nat) (free : Bool) (st : St) (sl : Value) (d : Int) (f1 : ByteArray) (A2 A3 : Option Addr) (n2 c2 n3 c3 : Nat) (W : World) (wt : Nat) (h : Wr Wd free st sl W) (l2 : List ByteArray) (l3 : List J) (hn2 : n2 = l2.length) (hn3 : n3 = l3.length) (hny : l2.length = l3.length) (r : Nat) (he : st.e = 0) (h1 : ¬ (32 : Int) < d) (h2 : ¬ (32 : Int) ≤ d) (hok : nodeOK 6 f1 n2 n3 = true) (hG : Gl Wd W) (hwt : wtN l2 + wtI r l3 + 2 ≤ wt) (hfit : Fit free st wt) (hsn : ∀ s, s ∈ l2 → s.size ≤ 288230376151711743) (hsm : ∀ y, y ∈ l3 → SmJ r y) (hln : true = true → l3.length ≤ 1000000 ∧ ∀ y, y ∈ l3 → LnJ r y) (hF2 : Kd.F Kd.string W (okW Wd sl) A2 n2 l2) (hc2 : n2 ≤ c2) (hF3 : Kd.F k25 W (okW Wd sl) A3 n3 l3) (hc3 : n3 ≤ c3) (IH : WOK free true r (wrap64 (d + 1))) (hso : SortedOK) :
    Calls Tryd.prog 33 #[ptr Wd, jVal 6 f1 A2 A3 n2 c2 n3 c3, .int .i64 d, .bool true] W (VEnds Wd free true st sl W wt (putF free (membersW free (valW free true r) [] 0 (namesOf true l2 l3) (itemsOf true l2 l3) (putF free st [123])) [125])) := by
  have H := Aside0.mk h
  have HL := Aside0.mk (Nat.le_of_lt h.lt)
  have cw2 : ∀ o : Obj, (W.alloc o).cell? ⟨Wd, 2, none⟩ = some (.int .i64 st.e) := fun o => (World.cell?_of_block (Below.block (below_alloc (Below.refl _ _) o) _ h.lt)).trans ((blk_cell h.blk 2).trans rfl)
  clear h
  have e0 : ((st.e : Int) != 0) = false := by rw [he]; rfl
  subst hn2
  subst hn3
  have b1 : decide ((32 : Int) < d) = false := decide_eq_false h1
  have b2 : decide ((32 : Int) ≤ d) = false := decide_eq_false h2
  have HOK := Aside0.mk hok
  have HG := Aside0.mk hG
  have HF := Aside0.mk hfit
  have HSN := Aside0.mk hsn
  have HS := Aside0.mk hsm
  have HLN := Aside0.mk hln
  have HX2 := Aside0.mk hF2
  have HX := Aside0.mk hF3
  have HI := Aside0.mk IH
  have HNY := Aside0.mk hny
  clear he hok hG hfit hsn hsm hln hF2 hF3 IH hny
  have ta := is_84
  have tb := no_84_78
  have tc := no_84_80
  have td := no_84_82
  unfold SortedOK at hso
  have HSO := Aside0.mk hso
  clear hso
  go_enter Tryd.func33, Tryd.ntmps33
  go_wp2_with (first | (go_at_call 51; (with_reducible refine (node_yes6 f1 A2 A3 l2.length c2 l3.length c3 _ HOK.out).mono ?_); rintro e w1 ⟨rfl, hb⟩; have HB1 := Aside0.mk (show Below W.heap.size W w1 from below_step (by repeat (first | exact Below.refl _ _ | apply below_drewN | apply below_drew1 | apply below_alloc)) hb); clear hb) | (go_at_call 54; (with_reducible refine (HSO.out _ (fun k => okW Wd sl k ∧ k < w1.heap.size) A2 A3 c2 c3 l2 l3 HNY.out ?ln ?f2 hc2 ?f3 hc3).mono ?_); (case ln => rw [HNY.out]; exact (HLN.out (by first | rfl | trivial)).1); (case f2 => exact Kd.F_alloc (Kd.F_mono (Kd.F_bound (Kd.F_below HX2.out HB1.out)) (fun _ hk => hk)) _); (case f3 => exact Kd.F_alloc (Kd.F_mono (Kd.F_bound (Kd.F_below HX.out HB1.out)) (fun _ hk => hk)) _); rintro e w2 ⟨B2, B3, k2, k3, ns', ys', rfl, hb2, hl', hk2, hk3, hp, hnd, hf2, hf3⟩; have HB2 := Aside0.mk hb2; have HP := Aside0.mk hp; have HND := Aside0.mk hnd; have HF2 := Aside0.mk hf2; have HF3 := Aside0.mk hf3; have HL' := Aside0.mk hl'; have BK := Aside0.mk ((hb2.block w1.heap.size (by rw [World.size_alloc]; omega)).trans (heap_alloc_new w1 (.cells #[.slice A2 l2.length c2, .slice A3 l3.length c3] 84))); have y0 : w2.cell? ⟨w1.heap.size, 0, none⟩ = some (.slice A2 l2.length c2) := (blk_cell BK.out 0).trans rfl; have y1 : w2.cell? ⟨w1.heap.size, 1, none⟩ = some (.slice A3 l3.length c3) := (blk_cell BK.out 1).trans rfl; have z0 := blk_free BK.out 0; have z1 := blk_free BK.out 1; have HK2 := Aside0.mk hk2; have HK3 := Aside0.mk hk3; have HSN' := Aside0.mk (perm_names HSN.out HNY.out hl' hp); have HS' := Aside0.mk (perm_items HS.out HNY.out hl' hp); have HLN' := Aside0.mk (show true = true → ∀ y, y ∈ ys' → LnJ r y from fun _ => perm_items (HLN.out (by first | rfl | trivial)).2 HNY.out hl' hp); have HWN := Aside0.mk (perm_wt r HNY.out hl' hp); clear hk2 hk3 hb2 hp hnd hf2 hf3 hl') | (go_at_call 55; (with_reducible refine (members_calls Wd free true st sl d B2 B3 k2 k3 _ wt ns' ys' HL'.out r ?wm ?gm (by rw [HWN.out]; exact hwt) HF.out HSN'.out HS'.out (fun _ => HLN'.out (by first | rfl | trivial)) ?f2 HK2.out ?f3 HK3.out HI.out).mono ?_); (case wm => exact H.out.below (below_set (below_set (below_step (below_alloc HB1.out _) HB2.out) HB1.out.size) HB1.out.size)); (case gm => exact HG.out.below (below_set (below_set (below_step (below_alloc HB1.out _) HB2.out) HB1.out.size) HB1.out.size) HL.out); (case f2 => exact far_obj H.out HB1.out.size HF2.out _ _); (case f3 => exact far_obj H.out HB1.out.size HF3.out _ _); intro e w9 hv; have HV := Aside0.mk hv; obtain ⟨rfl, _⟩ := hv))
  (try simp only [Exit.inBlock, Exit.then])
  refine ⟨rfl, .tuple #[], results_none rfl _ _ _, ?_⟩
  exact VEnds.from HV.out (below_set (below_set (below_step (below_alloc HB1.out _) HB2.out) HB1.out.size) HB1.out.size) HL.out (order_any free (fun y st h => valW_bad free true r y st h) _ HNY.out HL'.out HP.out HND.out)
theorem nodeOK_plain {f0 : Int} {f1 : ByteArray} {n2 n3 : Nat} (h : nodeOK f0 f1 n2 n3 = true) (h5 : ¬ f0 = 5) (h6 : ¬ f0 = 6) : f0 = 0 ∨ f0 = 1 ∨ f0 = 2 ∨ f0 = 3 ∨ f0 = 4 := by
  by_cases h0 : f0 = 0
  · exact .inl h0
  by_cases h1 : f0 = 1
  · exact .inr (.inl h1)
  by_cases h2 : f0 = 2
  · exact .inr (.inr (.inl h2))
  by_cases h3 : f0 = 3
  · exact .inr (.inr (.inr (.inl h3)))
  by_cases h4 : f0 = 4
  · exact .inr (.inr (.inr (.inr h4)))
  exfalso
  unfold nodeOK at h
  simp [h0, h1, h2, h3, h4, h5, h6] at h
theorem valW_plain (free canon : Bool) (r : Nat) (v : J) (st : St) (he : st.e = 0) (h5 : ¬ v.f0 = 5) (h6 : ¬ v.f0 = 6) :
    valW free canon r v st = if nodeOK v.f0 v.f1 v.f2.length v.f3.length = false then ⟨st.out, 47⟩ else if v.f0 = 3 then putF free st v.f1.data.toList else if v.f0 = 4 then putsF free st (quoteB v.f1) else putF free st (wordB v.f0.toNat).data.toList := by
  cases r with
  | zero => rw [valW, if_neg (by simp [he]), if_neg (by simp [h5, h6])]
  | succ r => rw [valW, if_neg (by simp [he])]; split <;> first | rfl | rw [if_neg h5, if_neg h6]
theorem plain_ok (free canon : Bool) (r : Nat) (d : Int) (hd : ¬ (32 : Int) < d) (Wd : Nat) (st : St) (sl : Value) (W : World) (v : J) (A2 A3 : Option Addr) (c2 c3 : Nat) (h : Wr Wd free st sl W) (hfit : Fit free st (wtJ r v)) (hz : v.f1.size ≤ 288230376151711743) (hG : Gl Wd W) (he : st.e = 0) (h5 : ¬ v.f0 = 5) (h6 : ¬ v.f0 = 6) :
    Calls Tryd.prog 33 #[ptr Wd, jVal v.f0 v.f1 A2 A3 v.f2.length c2 v.f3.length c3, .int .i64 d, .bool canon] W (VEnds Wd free canon st sl W (wtJ r v) (valW free canon r v st)) := by
  rw [valW_plain free canon r v st he h5 h6]
  have hw := wtJ_text r v
  cases hok : nodeOK v.f0 v.f1 v.f2.length v.f3.length with
  | false => rw [if_pos rfl]; exact value_nodeX Wd free canon st sl d v.f0 v.f1 A2 A3 _ c2 _ c3 W _ h he hd h5 h6 (by omega) hok hG
  | true =>
    rw [if_neg (by decide)]
    rcases nodeOK_plain hok h5 h6 with h0 | h0 | h0 | h0 | h0
    · rw [h0] at hok ⊢
      exact value_word0 Wd free canon st sl d v.f1 A2 A3 _ c2 _ c3 W _ h he hd hok hG (hfit.room (m := (wordB 0).size) (by show 4 ≤ _; omega) (by decide)) (by show 4 ≤ _; omega)
    · rw [h0] at hok ⊢
      exact value_word1 Wd free canon st sl d v.f1 A2 A3 _ c2 _ c3 W _ h he hd hok hG (hfit.room (m := (wordB 1).size) (by show 5 ≤ _; omega) (by decide)) (by show 5 ≤ _; omega)
    · rw [h0] at hok ⊢
      exact value_word2 Wd free canon st sl d v.f1 A2 A3 _ c2 _ c3 W _ h he hd hok hG (hfit.room (m := (wordB 2).size) (by show 4 ≤ _; omega) (by decide)) (by show 4 ≤ _; omega)
    · rw [h0] at hok ⊢
      exact value_word3 Wd free canon st sl d v.f1 A2 A3 _ c2 _ c3 W _ h he hd (by omega) hok hG (hfit.room (m := v.f1.size) (by omega) (by omega)) (by omega)
    · rw [h0] at hok ⊢
      exact value_text Wd free canon st sl d v.f1 A2 A3 _ c2 _ c3 W _ h he hd (by omega) hok hG hz (hfit.room (m := 12 * v.f1.size + 14) (by omega) (by omega)) (by omega)
theorem valW_succ (free canon : Bool) (r : Nat) (v : J) (st : St) (he : st.e = 0) : valW free canon (r + 1) v st =
    if nodeOK v.f0 v.f1 v.f2.length v.f3.length = false then ⟨st.out, 47⟩
    else if v.f0 = 5 then putF free (itemsW free (valW free canon r) 0 v.f3 (putF free st [91])) [93]
    else if v.f0 = 6 then putF free (membersW free (valW free canon r) [] 0 (namesOf canon v.f2 v.f3) (itemsOf canon v.f2 v.f3) (putF free st [123])) [125]
    else if v.f0 = 3 then putF free st v.f1.data.toList
    else if v.f0 = 4 then putsF free st (quoteB v.f1)
    else putF free st (wordB v.f0.toNat).data.toList := by
  rw [valW, if_neg (by simp [he])]
theorem node6_len {f1 : ByteArray} {n2 n3 : Nat} (h : nodeOK 6 f1 n2 n3 = true) : n2 = n3 := by
  unfold nodeOK at h
  simp at h
  exact h.2
theorem wvalue_ok (free canon : Bool) (hso : canon = true → SortedOK) : ∀ r, r ≤ 32 → WOK free canon r (32 - (r : Int))
  | 0, _ => by
    intro Wd st sl W v A2 A3 c2 c3 h hfit hsm _ hF2 hc2 hF3 hc3 hG
    by_cases he : st.e = 0
    · by_cases h5 : v.f0 = 5
      · rw [valW, if_neg (by simp [he]), if_pos (.inl h5), h5]
        exact value_deep5 Wd free canon st sl _ v.f1 A2 A3 _ c2 _ c3 W _ h he (by decide) (by decide)
      · by_cases h6 : v.f0 = 6
        · rw [valW, if_neg (by simp [he]), if_pos (.inr h6), h6]
          exact value_deep6 Wd free canon st sl _ v.f1 A2 A3 _ c2 _ c3 W _ h he (by decide) (by decide)
        · exact plain_ok free canon 0 _ (by decide) Wd st sl W v A2 A3 c2 c3 h hfit hsm.text hG he h5 h6
    · rw [valW_bad _ _ _ _ _ he]
      exact value_bad Wd free canon st sl _ v.f0 v.f1 A2 A3 _ c2 _ c3 W _ h he
  | r + 1, hr => by
    have IH := wvalue_ok free canon hso r (by omega)
    have ed : wrap64 ((32 - ((r + 1 : Nat) : Int)) + 1) = 32 - (r : Int) := by unfold wrap64; omega
    rw [← ed] at IH
    intro Wd st sl W v A2 A3 c2 c3 h hfit hsm hln hF2 hc2 hF3 hc3 hG
    have hd1 : ¬ (32 : Int) < 32 - ((r + 1 : Nat) : Int) := by omega
    have hd2 : ¬ (32 : Int) ≤ 32 - ((r + 1 : Nat) : Int) := by omega
    have hw : wtJ (r + 1) v = 12 * v.f1.size + 16 + wtN v.f2 + wtI r v.f3 := by rw [wtJ, wtN, wtI]
    obtain ⟨hz, hsn, hsy⟩ := (show v.f1.size ≤ 288230376151711743 ∧ (∀ s, s ∈ v.f2 → s.size ≤ 288230376151711743) ∧ ∀ y, y ∈ v.f3 → SmJ r y from hsm)
    by_cases he : st.e = 0
    · by_cases h5 : v.f0 = 5
      · rw [valW_succ free canon r v st he]
        rw [h5]
        cases hok : nodeOK 5 v.f1 v.f2.length v.f3.length with
        | false => rw [if_pos rfl]; exact value_node5 Wd free canon st sl _ v.f1 A2 A3 _ c2 _ c3 W _ h he hd1 hd2 (by omega) hok hG
        | true =>
          rw [if_neg (by decide), if_pos rfl]
          exact value_list Wd free canon st sl _ v.f1 A2 A3 _ c2 _ c3 W _ h v.f3 rfl r he hd1 hd2 hok hG (by omega) hfit hsy (fun hc => (show v.f3.length ≤ 1000000 ∧ ∀ y, y ∈ v.f3 → LnJ r y from hln hc).2) hF3 hc3 IH
      · by_cases h6 : v.f0 = 6
        · rw [valW_succ free canon r v st he]
          rw [h6]
          cases hok : nodeOK 6 v.f1 v.f2.length v.f3.length with
          | false => rw [if_pos rfl]; exact value_node6 Wd free canon st sl _ v.f1 A2 A3 _ c2 _ c3 W _ h he hd1 hd2 (by omega) hok hG
          | true =>
            rw [if_neg (by decide), if_neg (by decide), if_pos rfl]
            cases canon with
            | false => exact value_obj Wd free st sl _ v.f1 A2 A3 _ c2 _ c3 W _ h v.f2 v.f3 rfl rfl (node6_len hok) r he hd1 hd2 hok hG (by omega) hfit hsn hsy (fun hc => by cases hc) hF2 hc2 hF3 hc3 IH
            | true => exact value_objC Wd free st sl _ v.f1 A2 A3 _ c2 _ c3 W _ h v.f2 v.f3 rfl rfl (node6_len hok) r he hd1 hd2 hok hG (by omega) hfit hsn hsy (fun hc => hln hc) hF2 hc2 hF3 hc3 IH (hso rfl)
        · exact plain_ok free canon (r + 1) _ hd1 Wd st sl W v A2 A3 c2 c3 h hfit hz hG he h5 h6
    · rw [valW_bad _ _ _ _ _ he]
      exact value_bad Wd free canon st sl _ v.f0 v.f1 A2 A3 _ c2 _ c3 W _ h he
end Go.Proofs.YtaalajhmfdcalaaDoor.X
namespace Go.Proofs.YtaalajhmfdcalaaDoor.X
open Go.RowKit Go.Lib Go.Proofs.YtaalajhmfdcalaaDoorW.PrintWords Go.Proofs.YtaalajhmfdcalaaDoorW.PrintLast Go.Proofs.YtaalajhmfdcalaaDoorW.PrintMore
theorem heap25 : Kd.Heap k25 := Kd.heap_fix (fun _ hd => Kd.heap_iso _ (Kd.heap_pair (Kd.heap_int _) (Kd.heap_pair Kd.heap_string (Kd.heap_pair (Kd.heap_slice 9 Kd.heap_string) (Kd.heap_slice 25 hd)))))
def printS (v : J) : St := valW false false 32 v ⟨[], 0⟩
def printB (v : J) : ByteArray := if (printS v).e = 0 then bs (printS v).out else ⟨#[]⟩
/-- The writer as Print makes it. -/
theorem wr_new (free : Bool) (W : World) : Wr W.heap.size free ⟨[], 0⟩ (.slice none 0 0) (W.alloc (.cells #[.slice none 0 0, .bool free, .int .i64 0] 60)) :=
  ⟨heap_alloc_new W _, Own.nil _ _ (by rw [World.size_alloc]; omega)⟩
theorem fit_new (n : Nat) : Fit false ⟨[], 0⟩ n := ⟨(fun h => by cases h), (fun _ => by decide)⟩
set_option maxRecDepth 1000000 in
set_option maxHeartbeats 4000000 in
theorem print_calls (f0 : Int) (f1 : ByteArray) (l2 : List ByteArray) (l3 : List J) (A2 A3 : Option Addr) (c2 c3 : Nat) (W : World) (hsm : SmJ 32 ⟨f0, f1, l2, l3⟩) (hC2 : Kd.string.C W A2 l2.length l2) (hc2 : l2.length ≤ c2) (hC3 : k25.C W A3 l3.length l3) (hc3 : l3.length ≤ c3) (hG : GLw W) (hT : Tabs W) :
    Calls Tryd.prog 17 #[jVal f0 f1 A2 A3 l2.length c2 l3.length c3] W fun x W' => x = .returned (.tuple #[.string (printB ⟨f0, f1, l2, l3⟩), .int .i64 (printS ⟨f0, f1, l2, l3⟩).e]) ∧ Below W.heap.size W W' := by
  have hvo := wvalue_ok false false (fun h => by cases h) 32 (Nat.le_refl _)
  rw [show (32 : Int) - ((32 : Nat) : Int) = 0 by decide] at hvo
  have hval := fun (b : Obj) => hvo (W.alloc b).heap.size ⟨[], 0⟩ (.slice none 0 0) ((W.alloc b).alloc (.cells #[.slice none 0 0, .bool false, .int .i64 0] 60)) ⟨f0, f1, l2, l3⟩ A2 A3 c2 c3 (wr_new false _) (fit_new _) hsm (fun h => by cases h)
    (Kd.F_alloc (Kd.F_alloc (Kd.F_mono (Kd.C_F Kd.heap_string hC2) (fun k hk => ⟨by rw [World.size_alloc]; omega, by simp [Value.ownBlock]⟩)) b) _) hc2
    (Kd.F_alloc (Kd.F_alloc (Kd.F_mono (Kd.C_F heap25 hC3) (fun k hk => ⟨by rw [World.size_alloc]; omega, by simp [Value.ownBlock]⟩)) b) _) hc3
    (fun W' hb => have hb' : Below W.heap.size W W' := (below_alloc (below_alloc (Below.refl _ _) b) _).trans (hb.mono (by rw [World.size_alloc]; omega)); ⟨hG.below hb', hT.bel hb'⟩)
  simp only [World.size_alloc] at hval
  have HV := Aside0.mk hval
  clear hvo hval hsm hC2 hC3 hG hT hc2 hc3
  have HS := Aside0.mk (show printS ⟨f0, f1, l2, l3⟩ = valW false false 32 ⟨f0, f1, l2, l3⟩ ⟨[], 0⟩ from rfl)
  have HPB := Aside0.mk (show printB ⟨f0, f1, l2, l3⟩ = if (printS ⟨f0, f1, l2, l3⟩).e = 0 then bs (printS ⟨f0, f1, l2, l3⟩).out else ⟨#[]⟩ from rfl)
  generalize printS ⟨f0, f1, l2, l3⟩ = ps at *
  generalize printB ⟨f0, f1, l2, l3⟩ = pb at *
  by_cases he : ps.e = 0
  · have e0 : ((ps.e : Int) != 0) = false := by rw [he]; rfl
    have HP := Aside0.mk (show pb = bs ps.out by rw [HPB.out, if_pos he])
    have HE := Aside0.mk he
    clear he
    go_enter Tryd.func17, Tryd.ntmps17
    go_wp2_with (go_at_call 33; (with_reducible refine (HV.out _).mono ?_); rintro e w1 ⟨rfl, st1, sl1, hs, _, hw, ho⟩; have hs' := hs.eq; rw [← HS.out] at hs'; subst hs'; have c2' := (blk_cell hw.blk 2).trans rfl; have c0' := (blk_cell hw.blk 0).trans rfl; have hcv := own_string hw.own; have HB := Aside0.mk (show Below W.heap.size W w1 from (below_alloc (below_alloc (Below.refl _ _) _) _).trans (ho.low.mono (by omega))); clear hs hw ho; dsimp at c2' c0')
    go_ret2
    rw [HP.out, HE.out]
    exact ⟨rfl, by repeat (first | exact HB.out | apply below_drewN | apply below_drew1)⟩
  · have e0 : ((ps.e : Int) != 0) = true := by
      have : ¬ (ps.e : Int) = 0 := by omega
      simp only [bne_iff_ne, ne_eq]
      exact this
    have HP := Aside0.mk (show pb = ⟨#[]⟩ by rw [HPB.out, if_neg he])
    clear he
    go_enter Tryd.func17, Tryd.ntmps17
    go_wp2_with (go_at_call 33; (with_reducible refine (HV.out _).mono ?_); rintro e w1 ⟨rfl, st1, sl1, hs, _, hw, ho⟩; have hs' := hs.eq; rw [← HS.out] at hs'; subst hs'; have c2' := (blk_cell hw.blk 2).trans rfl; have c0' := (blk_cell hw.blk 0).trans rfl; have hcv := own_string hw.own; have HB := Aside0.mk (show Below W.heap.size W w1 from (below_alloc (below_alloc (Below.refl _ _) _) _).trans (ho.low.mono (by omega))); clear hs hw ho; dsimp at c2' c0')
    go_region
    go_wp2
    go_ret2
    rw [HP.out]
    exact ⟨rfl, by repeat (first | exact HB.out | apply below_drewN | apply below_drew1)⟩
end Go.Proofs.YtaalajhmfdcalaaDoor.X
namespace Go.Proofs.YtaalajhmfdcalaaDoor.X
open Go.RowKit Go.Lib Go.Proofs.YtaalajhmfdcalaaDoorW.PrintWords
def Head (c : UInt8) : Prop := isBl c = false ∧ c ≠ 93 ∧ c ≠ 125
theorem bsJ_data (b : ByteArray) : bsJ b.data.toList = b := by
  apply ByteArray.ext
  simp [bsJ]
theorem litF_head {l : List UInt8} (h : (litF l).2 = true) : ∃ c t, l = c :: t ∧ (c = 45 ∨ isDg c = true) := by
  cases l with
  | nil => exact absurd h (by decide)
  | cons c t =>
    refine ⟨c, t, rfl, ?_⟩
    by_cases h1 : c = 45
    · exact .inl h1
    · refine .inr ?_
      cases hd : isDg c with
      | true => rfl
      | false =>
        exfalso
        unfold litF at h
        have e0 : ¬ (c :: t)[0]? = some 45 := fun hh => h1 (by simpa using hh)
        simp only [if_neg e0] at h
        by_cases h48 : (c :: t)[0]? = some 48
        · have : c = 48 := by simpa using h48
          rw [this] at hd
          exact absurd hd (by decide)
        · rw [if_neg h48] at h
          have : digsF ((c :: t).drop 0) = 0 := digs_stop _ 0 (fun d hh => by
            have : c = d := by simpa using hh
            rw [← this]; exact hd)
          rw [if_pos this] at h
          cases h
theorem dg_head {c : UInt8} (h : c = 45 ∨ isDg c = true) : Head c ∧ ¬ c = 110 ∧ ¬ c = 116 ∧ ¬ c = 102 := by
  have key : ∀ n : Fin 256, (UInt8.ofNat n.val = 45 ∨ isDg (UInt8.ofNat n.val) = true) → (isBl (UInt8.ofNat n.val) = false ∧ UInt8.ofNat n.val ≠ 93 ∧ UInt8.ofNat n.val ≠ 125) ∧ ¬ UInt8.ofNat n.val = 110 ∧ ¬ UInt8.ofNat n.val = 116 ∧ ¬ UInt8.ofNat n.val = 102 := by decide +kernel
  have e : UInt8.ofNat c.toNat = c := by simp
  have := key ⟨c.toNat, c.toNat_lt⟩
  simp only [e] at this
  exact this h
theorem node0_ {f1 : ByteArray} {n2 n3 : Nat} {f0 : Int} (h0 : f0 = 0 ∨ f0 = 1 ∨ f0 = 2) (h : nodeOK f0 f1 n2 n3 = true) : f1.size = 0 ∧ n2 = 0 ∧ n3 = 0 := by
  unfold nodeOK at h
  rw [if_pos h0] at h
  simpa using h
theorem node3_ {f1 : ByteArray} {n2 n3 : Nat} (h : nodeOK 3 f1 n2 n3 = true) : litF f1.data.toList = (f1.size, true) ∧ n2 = 0 ∧ n3 = 0 := by
  unfold nodeOK at h
  simp at h
  exact ⟨Prod.ext h.2.1 h.1, h.2.2.1, h.2.2.2⟩
theorem node4_ {f1 : ByteArray} {n2 n3 : Nat} (h : nodeOK 4 f1 n2 n3 = true) : validD f1.data.toList = true ∧ n2 = 0 ∧ n3 = 0 := by
  unfold nodeOK at h
  simp at h
  exact h
theorem node5_ {f1 : ByteArray} {n2 n3 : Nat} (h : nodeOK 5 f1 n2 n3 = true) : f1.size = 0 ∧ n2 = 0 := by
  unfold nodeOK at h
  rw [if_neg (by decide), if_neg (by decide), if_neg (by decide), if_pos rfl] at h
  exact of_decide_eq_true h
theorem node6_ {f1 : ByteArray} {n2 n3 : Nat} (h : nodeOK 6 f1 n2 n3 = true) : f1.size = 0 ∧ n2 = n3 := by
  unfold nodeOK at h
  rw [if_neg (by decide), if_neg (by decide), if_neg (by decide), if_neg (by decide), if_pos rfl] at h
  exact of_decide_eq_true h
theorem nodeOK_kinds {f0 : Int} {f1 : ByteArray} {n2 n3 : Nat} (h : nodeOK f0 f1 n2 n3 = true) (h5 : ¬ f0 = 5) (h6 : ¬ f0 = 6) : f0 = 0 ∨ f0 = 1 ∨ f0 = 2 ∨ f0 = 3 ∨ f0 = 4 := nodeOK_plain h h5 h6
theorem encB_head {v : J} (h : nodeOK v.f0 v.f1 v.f2.length v.f3.length = true) (h5 : ¬ v.f0 = 5) (h6 : ¬ v.f0 = 6) : ∃ c t, encB v = c :: t ∧ Head c := by
  unfold encB
  rcases nodeOK_kinds h h5 h6 with h0 | h0 | h0 | h0 | h0
  · rw [h0]; exact ⟨110, _, rfl, by unfold Head; decide⟩
  · rw [h0]; exact ⟨102, _, rfl, by unfold Head; decide⟩
  · rw [h0]; exact ⟨116, _, rfl, by unfold Head; decide⟩
  · rw [h0] at h ⊢
    obtain ⟨c, t, e, hc⟩ := litF_head (by rw [(node3_ h).1])
    rw [if_pos rfl]
    exact ⟨c, t, e, (dg_head hc).1⟩
  · rw [h0, if_neg (by decide), if_pos rfl, quote_eq]
    exact ⟨34, _, rfl, by unfold Head; decide⟩
theorem encJ_head : ∀ (r : Nat) (v : J), OKJ r v → ∃ c t, encJ r v = c :: t ∧ Head c
  | 0, v, h => encB_head h.1 h.2.1 h.2.2
  | r + 1, v, h => by
    rw [encJ]
    by_cases h5 : v.f0 = 5
    · rw [if_pos h5]; exact ⟨91, _, rfl, by unfold Head; decide⟩
    · rw [if_neg h5]
      by_cases h6 : v.f0 = 6
      · rw [if_pos h6]; exact ⟨123, _, rfl, by unfold Head; decide⟩
      · rw [if_neg h6]; exact encB_head h.1 h5 h6
theorem blank_head {s l : List UInt8} {p : Nat} {c : UInt8} (h : Has s p (c :: l)) (hc : Head c) : blanksF s p = p :=
  blanks_stop s p fun d hd => by
    rw [h.cons.1] at hd
    injection hd with hd
    rw [← hd]; exact hc.1
theorem enc_blank {s l : List UInt8} {p r : Nat} {v : J} (hv : OKJ r v) (h : Has s p (encJ r v ++ l)) : blanksF s p = p := by
  obtain ⟨c, t, e, hc⟩ := encJ_head r v hv
  rw [e] at h
  exact blank_head h hc
theorem base_back {v : J} {s : List UInt8} {p k r : Nat} (hn : nodeOK v.f0 v.f1 v.f2.length v.f3.length = true) (h5 : ¬ v.f0 = 5) (h6 : ¬ v.f0 = 6) (h : Has s p (encB v)) (hs : Stop s (p + (encB v).length)) (hk : s.length < k) : valueF s k r p = some (.val v (p + (encB v).length)) := by
  obtain ⟨f0, f1, f2, f3⟩ := v
  simp only at hn h5 h6
  have nil : ∀ {α : Type} {l : List α}, l.length = 0 → l = [] := fun h => List.length_eq_zero_iff.1 h
  unfold encB at h hs ⊢
  simp only at h hs ⊢
  rcases nodeOK_kinds hn h5 h6 with h0 | h0 | h0 | h0 | h0
  · obtain ⟨e1, e2, e3⟩ := node0_ (.inl h0) hn
    rw [str_empty f1 e1, nil e2, nil e3]
    subst h0
    have hh : Has s p [110, 117, 108, 108] := h
    unfold valueF
    rw [hh.cons.1]
    dsimp only
    rw [if_pos rfl, word_back _ p hh]
    rfl
  · obtain ⟨e1, e2, e3⟩ := node0_ (.inr (.inl h0)) hn
    rw [str_empty f1 e1, nil e2, nil e3]
    subst h0
    have hh : Has s p [102, 97, 108, 115, 101] := h
    unfold valueF
    rw [hh.cons.1]
    dsimp only
    rw [if_neg (by decide), if_neg (by decide), if_pos rfl, word_back _ p hh]
    rfl
  · obtain ⟨e1, e2, e3⟩ := node0_ (.inr (.inr h0)) hn
    rw [str_empty f1 e1, nil e2, nil e3]
    subst h0
    have hh : Has s p [116, 114, 117, 101] := h
    unfold valueF
    rw [hh.cons.1]
    dsimp only
    rw [if_neg (by decide), if_pos rfl, word_back _ p hh]
    rfl
  · subst h0
    obtain ⟨e1, e2, e3⟩ := node3_ hn
    rw [nil e2, nil e3]
    rw [if_pos rfl] at h hs ⊢
    obtain ⟨c, t, e, hc⟩ := litF_head (by rw [e1])
    have hl : litF f1.data.toList = (f1.data.toList.length, true) := by rw [size_data]; exact e1
    have hb := number_back h hs hl
    have hc0 : s[p]? = some c := by rw [e] at h; exact h.cons.1
    obtain ⟨_, n1, n2, n3⟩ := dg_head hc
    unfold valueF
    rw [hc0]
    dsimp only
    rw [if_neg n1, if_neg n2, if_neg n3, if_pos hc, hb]
    simp only [Out.map, bsJ_data]
  · subst h0
    obtain ⟨e1, e2, e3⟩ := node4_ hn
    rw [nil e2, nil e3]
    rw [if_neg (by decide), if_pos rfl] at h hs ⊢
    obtain ⟨q1, q2⟩ := quoted_back e1 h hk
    unfold valueF
    rw [q1]
    dsimp only
    rw [if_neg (by decide), if_neg (by decide), if_neg (by decide), if_neg (by decide), if_pos rfl, q2]
    simp only [Option.map_some, Out.map, bsJ_data]
/-- What stands between the brackets of a list, from an item on. -/
theorem items_back {s : List UInt8} {k r : Nat} (IH : ∀ v, OKJ r v → ∀ p, Has s p (encJ r v) → Stop s (p + (encJ r v).length) → valueF s k r p = some (.val v (p + (encJ r v).length))) :
    ∀ (l : List J) (y : J) (a : List J) (q n i : Nat), (∀ z, z ∈ y :: l → OKJ r z) → Has s q (encJ r y ++ (encI (encJ r) (i + 1) l ++ [93])) → s.length < q + n → sevL (oneI (valueF s k r)) s 93 n a q = some (.val (a ++ y :: l) (q + (encJ r y ++ (encI (encJ r) (i + 1) l ++ [93])).length))
  | l, y, a, q, 0, i, hok, h, hn => by
    have := h.len (by simp only [List.length_append, List.length_cons]; omega)
    omega
  | [], y, a, q, n + 1, i, hok, h, hn => by
    have hr := h.right
    simp only [encI, List.nil_append] at hr
    have hc := hr.cons.1
    have hst := Stop.of hc (by decide)
    have hv := IH y (hok y (List.mem_cons_self ..)) q h.left hst
    unfold sevL oneI
    rw [hv]
    simp only [Option.map_some, Out.map]
    rw [hst.blank, hc]
    simp only [if_true, encI, List.nil_append, List.length_append, List.length_cons, List.length_nil]
    rfl
  | z :: l, y, a, q, n + 1, i, hok, h, hn => by
    have hr := h.right
    have e : encI (encJ r) (i + 1) (z :: l) ++ [93] = 44 :: (encJ r z ++ (encI (encJ r) (i + 1 + 1) l ++ [93])) := by simp [encI]
    rw [e] at hr
    obtain ⟨hc, hr⟩ := hr.cons
    have hst := Stop.of hc (by decide)
    have hv := IH y (hok y (List.mem_cons_self ..)) q h.left hst
    have hzok : OKJ r z := hok z (by simp)
    unfold sevL
    have h1 : oneI (valueF s k r) a q = some (.val (a ++ [y]) (q + (encJ r y).length)) := by unfold oneI; rw [hv]; rfl
    rw [h1]
    simp only
    rw [hst.blank, hc]
    dsimp only
    rw [if_neg (by decide), if_pos rfl, enc_blank hzok hr, items_back IH l z (a ++ [y]) _ n (i + 1) (fun w hw => hok w (List.mem_cons_of_mem _ hw)) hr (by omega)]
    rw [e]
    simp only [List.append_assoc, List.singleton_append, List.length_append, List.length_cons, List.length_nil]
    congr 2
    omega
/-- One member. -/
theorem member_back {s : List UInt8} {k r : Nat} (hk : s.length < k) (IH : ∀ v, OKJ r v → ∀ p, Has s p (encJ r v) → Stop s (p + (encJ r v).length) → valueF s k r p = some (.val v (p + (encJ r v).length)))
    {nm : ByteArray} {y : J} {a : List ByteArray × List J} {q : Nat} {z : UInt8} {post : List UInt8} (hv : validD nm.data.toList = true) (hy : OKJ r y) (hn : ¬ nm.data.toList ∈ a.1.map (fun b => b.data.toList)) (hz : z ∈ ([0, 44, 93, 125] : List UInt8)) (h : Has s q (qB nm ++ (58 :: (encJ r y ++ (z :: post))))) :
    oneM (valueF s k r) s k a q = some (.val (a.1 ++ [nm], a.2 ++ [y]) (q + (qB nm).length + 1 + (encJ r y).length)) ∧ s[q + (qB nm).length + 1 + (encJ r y).length]? = some z := by
  have hq := h.left
  obtain ⟨q1, q2⟩ := quoted_back hv hq hk
  obtain ⟨hc, hr⟩ := h.right.cons
  have hc2 := hr.right.cons.1
  have hb : blanksF s (q + (qB nm).length) = q + (qB nm).length := blanks_stop _ _ fun d hd => by
    rw [hc] at hd; injection hd with hd; rw [← hd]; decide
  refine ⟨?_, hc2⟩
  unfold oneM
  rw [q1]
  dsimp only
  rw [if_pos rfl, q2]
  dsimp only
  rw [if_neg hn, hb, hc]
  dsimp only
  rw [if_pos rfl, enc_blank hy hr, IH y hy _ hr.left (Stop.of hc2 hz)]
  simp only [Option.map_some, Out.map, bsJ_data]
theorem members_back {s : List UInt8} {k r : Nat} (hk : s.length < k) (IH : ∀ v, OKJ r v → ∀ p, Has s p (encJ r v) → Stop s (p + (encJ r v).length) → valueF s k r p = some (.val v (p + (encJ r v).length))) :
    ∀ (ns : List ByteArray) (ys : List J) (nm : ByteArray) (y : J) (a : List ByteArray × List J) (q n i : Nat), ns.length = ys.length → (∀ z, z ∈ y :: ys → OKJ r z) → (∀ z, z ∈ nm :: ns → validD z.data.toList = true) → ((a.1 ++ nm :: ns).map (fun b => b.data.toList)).Nodup →
      Has s q (qB nm ++ (58 :: (encJ r y ++ (encM (encJ r) (i + 1) ns ys ++ [125])))) → s.length < q + n → sevL (oneM (valueF s k r) s k) s 125 n a q = some (.val (a.1 ++ nm :: ns, a.2 ++ y :: ys) (q + (qB nm ++ (58 :: (encJ r y ++ (encM (encJ r) (i + 1) ns ys ++ [125])))).length))
  | ns, ys, nm, y, a, q, 0, i, hl, hok, hva, hnd, h, hn => by
    have := h.len (by simp only [List.length_append, List.length_cons]; omega)
    omega
  | [], _ :: _, nm, y, a, q, n + 1, i, hl, hok, hva, hnd, h, hn => by simp at hl
  | _ :: _, [], nm, y, a, q, n + 1, i, hl, hok, hva, hnd, h, hn => by simp at hl
  | [], [], nm, y, a, q, n + 1, i, hl, hok, hva, hnd, h, hn => by
    have hnm : ¬ nm.data.toList ∈ a.1.map (fun b => b.data.toList) := by
      rw [List.map_append, List.nodup_append] at hnd
      exact fun hh => hnd.2.2 _ hh nm.data.toList (by simp) rfl
    have e : encM (encJ r) (i + 1) [] [] ++ [125] = [125] := rfl
    rw [e] at h
    obtain ⟨h1, h2⟩ := member_back hk IH (hva nm (List.mem_cons_self ..)) (hok y (List.mem_cons_self ..)) hnm (z := 125) (post := []) (by decide) h
    unfold sevL
    rw [h1]
    simp only
    rw [(Stop.of h2 (by decide)).blank, h2]
    simp only [if_true, e, List.length_append, List.length_cons, List.length_nil]
    congr 2
    omega
  | nm2 :: ns, y2 :: ys, nm, y, a, q, n + 1, i, hl, hok, hva, hnd, h, hn => by
    have hnm : ¬ nm.data.toList ∈ a.1.map (fun b => b.data.toList) := by
      rw [List.map_append, List.nodup_append] at hnd
      exact fun hh => hnd.2.2 _ hh nm.data.toList (by simp) rfl
    have e : encM (encJ r) (i + 1) (nm2 :: ns) (y2 :: ys) ++ [125] = 44 :: (qB nm2 ++ (58 :: (encJ r y2 ++ (encM (encJ r) (i + 1 + 1) ns ys ++ [125])))) := by simp [encM]
    rw [e] at h
    obtain ⟨h1, h2⟩ := member_back hk IH (hva nm (List.mem_cons_self ..)) (hok y (List.mem_cons_self ..)) hnm (z := 44) (by decide) h
    have hr := h.right.cons.2.right.cons.2
    have hb : blanksF s (q + (qB nm).length + 1 + (encJ r y).length + 1) = q + (qB nm).length + 1 + (encJ r y).length + 1 := by
      rw [quote_eq nm2] at hr
      exact blank_head hr (by unfold Head; decide)
    unfold sevL
    rw [h1]
    simp only
    rw [(Stop.of h2 (by decide)).blank, h2]
    dsimp only
    rw [if_neg (by decide), if_pos rfl, hb, members_back hk IH ns ys nm2 y2 (a.1 ++ [nm], a.2 ++ [y]) _ n (i + 1) (by simpa using hl) (fun w hw => hok w (List.mem_cons_of_mem _ hw)) (fun w hw => hva w (List.mem_cons_of_mem _ hw)) (by simpa using hnd) hr (by omega)]
    rw [e]
    simp only [List.append_assoc, List.singleton_append, List.length_append, List.length_cons, List.length_nil]
    congr 2
    omega
theorem value_back {s : List UInt8} {k : Nat} (hk : s.length < k) : ∀ (r : Nat) (v : J), OKJ r v → ∀ p, Has s p (encJ r v) → Stop s (p + (encJ r v).length) → valueF s k r p = some (.val v (p + (encJ r v).length))
  | 0, v, hok, p, h, hs => base_back hok.1 hok.2.1 hok.2.2 h hs hk
  | r + 1, v, hok, p, h, hs => by
    have IH := value_back hk r
    have nil : ∀ {α : Type} {l : List α}, l.length = 0 → l = [] := fun h => List.length_eq_zero_iff.1 h
    obtain ⟨hn, hitems, hnames⟩ := hok
    rw [encJ] at h hs ⊢
    by_cases h5 : v.f0 = 5
    · rw [if_pos h5] at h hs ⊢
      have hit := hitems (.inl h5)
      clear hs
      obtain ⟨f0, f1, f2, f3⟩ := v
      simp only at hn h5 hit h ⊢
      subst h5
      obtain ⟨e1, e2⟩ := node5_ hn
      rw [str_empty f1 e1, nil e2]
      have hc := h.cons
      unfold valueF
      rw [hc.1]
      dsimp only
      rw [if_neg (by decide), if_neg (by decide), if_neg (by decide), if_neg (by decide), if_neg (by decide), if_pos (.inl rfl), if_pos rfl]
      have key : sevF (oneI (valueF s k r)) s 93 k [] p = some (.val f3 (p + (91 :: (encI (encJ r) 0 f3 ++ [93])).length)) := by
        unfold sevF
        cases f3 with
        | nil =>
          have h93 := hc.2.cons.1
          rw [(Stop.of h93 (by decide)).blank, h93]
          simp [encI]
        | cons y l =>
          have e : encI (encJ r) 0 (y :: l) ++ [93] = encJ r y ++ (encI (encJ r) (0 + 1) l ++ [93]) := by simp [encI]
          have h2 := hc.2
          rw [e] at h2 ⊢
          obtain ⟨c, t, ec, hh⟩ := encJ_head r y (hit y (List.mem_cons_self ..))
          have hcc : s[p + 1]? = some c := by rw [ec] at h2; exact h2.cons.1
          rw [enc_blank (hit y (List.mem_cons_self ..)) h2, hcc]
          simp only
          rw [if_neg hh.2.1, items_back IH l y [] (p + 1) k 0 hit h2 (by omega)]
          simp only [List.nil_append, List.length_cons]
          congr 2
          omega
      rw [key]
      rfl
    · rw [if_neg h5] at h hs ⊢
      by_cases h6 : v.f0 = 6
      · rw [if_pos h6] at h hs ⊢
        have hit := hitems (.inr h6)
        obtain ⟨hva, hnd⟩ := hnames h6
        clear hs
        obtain ⟨f0, f1, f2, f3⟩ := v
        simp only at hn h6 hit h hva hnd ⊢
        subst h6
        obtain ⟨e1, e2⟩ := node6_ hn
        rw [str_empty f1 e1]
        have hc := h.cons
        unfold valueF
        rw [hc.1]
        dsimp only
        rw [if_neg (by decide), if_neg (by decide), if_neg (by decide), if_neg (by decide), if_neg (by decide), if_pos (.inr rfl), if_neg (by decide)]
        have key : sevF (oneM (valueF s k r) s k) s 125 k ([], []) p = some (.val (f2, f3) (p + (123 :: (encM (encJ r) 0 f2 f3 ++ [125])).length)) := by
          unfold sevF
          cases f2 with
          | nil =>
            have e3 : f3 = [] := nil e2.symm
            subst e3
            have h125 := hc.2.cons.1
            rw [(Stop.of h125 (by decide)).blank, h125]
            simp [encM]
          | cons nm ns =>
            cases f3 with
            | nil => simp at e2
            | cons y ys =>
              have e : encM (encJ r) 0 (nm :: ns) (y :: ys) ++ [125] = qB nm ++ (58 :: (encJ r y ++ (encM (encJ r) (0 + 1) ns ys ++ [125]))) := by simp [encM]
              have h2 := hc.2
              rw [e] at h2 ⊢
              have h3 := h2
              rw [quote_eq nm] at h3
              rw [blank_head h3 (by unfold Head; decide), h3.cons.1]
              simp only
              rw [if_neg (by decide), members_back hk IH ns ys nm y ([], []) (p + 1) k 0 (by simpa using e2) hit hva (by simpa using hnd) h2 (by omega)]
              simp only [List.nil_append, List.length_cons]
              congr 2
              omega
        rw [key]
        rfl
      · rw [if_neg h6] at h hs ⊢
        exact base_back hn h5 h6 h hs hk
theorem parse_back {v : J} (hok : OKJ 32 v) (hl : (encJ 32 v).length ≤ 16384) {k : Nat} (hk : (encJ 32 v).length < k) : parseJ (encJ 32 v) k = some (.val v 0) := by
  have h : Has (encJ 32 v) 0 (encJ 32 v) := ⟨[], by simp⟩
  have hst : Stop (encJ 32 v) (0 + (encJ 32 v).length) := .inl (by rw [List.getElem?_eq_none_iff]; omega)
  have hb : blanksF (encJ 32 v) 0 = 0 := enc_blank (l := []) hok (by simpa using h)
  unfold parseJ
  rw [if_neg (by omega), hb, value_back hk 32 v hok 0 h hst]
  simp only
  rw [hst.blank, if_neg (by omega)]
end Go.Proofs.YtaalajhmfdcalaaDoor.X
namespace Go.Proofs.YtaalajhmfdcalaaDoor.X
open Go.RowKit Go.Lib Go.Maps Go.Proofs.YtaalajhmfdcalaaDoorW.PrintWords Go.Proofs.YtaalajhmfdcalaaDoorW.PrintLast Go.Proofs.YtaalajhmfdcalaaDoorW.PrintMore
theorem OSt.mapped {R B V PR PD PM M : Nat} {d : Int} {a : List ByteArray × List J} {sn sv : Value} {W W' : World} {D : DataW Unit} {nm : List UInt8} (h : OSt R B V PR PD PM M d a.1 a sn sv W) (h1 : IsMap D) (h3 : ∀ b : List UInt8, D.atKey (.string b) (.lit (.int .i64 0)) = .lit (.int .i64 (if b ∈ a.1.map (fun n => n.data.toList) then 1 else 0)))
    (hown : W'.ownsMap Tryd.prog 9 (plainElem Tryd.prog 3) M (a.1.length + 1) (D.put (.string nm) (.lit (.int .i64 1)))) (hg : W.grownBy W' (some M)) : OSt R B V PR PD PM M d (a.1 ++ [bs nm]) a sn sv W' :=
  ⟨blk_grownM h.v h.seen hg, blk_grownM h.r h.seen hg, blk_grownM h.dd h.seen hg, blk_grownM h.pm h.seen hg, seen_put (W := W) (bs nm) h1 h3 hown, R_map h.names h.seen hg, R_map h.items h.seen hg⟩
theorem key_bs (nm : List UInt8) (h : nm.length ≤ maxLen) : keyOf Tryd.prog 9 (.string (bs nm)) = some (.string nm) := Go.WideMaps.keyOf_string_mk Tryd.underlying9 (s := bs nm) (by rw [bs_size]; exact h)
theorem textF_len (s : List UInt8) : ∀ (k : Nat) (out : List UInt8) (p q : Nat) (t : List UInt8), textF s k out p = some (.val t q) → t.length ≤ out.length + 2 * (q - p)
  | 0, out, p, q, t, h => by simp [textF] at h
  | k + 1, out, p, q, t, h => by
    cases hc : s[p]? with
    | none => rw [textF_short _ _ _ _ hc] at h; injection h with h; cases h
    | some c =>
      have hlt := (List.getElem?_eq_some_iff.1 hc).1
      by_cases h34 : c = 34
      · rw [textF_end _ _ _ _ _ hc h34] at h
        injection h with h
        injection h with h _
        rw [h]; omega
      · by_cases h32 : c.toNat < 32
        · rw [textF_low _ _ _ _ _ hc h32] at h; injection h with h; cases h
        · by_cases h92 : c = 92
          · rw [textF_esc _ _ _ _ _ hc h92] at h
            cases hes : escF s p with
            | err e q1 => rw [hes] at h; injection h with h; cases h
            | val r q1 =>
              rw [hes] at h
              obtain ⟨h1, h2, _⟩ := escF_val _ _ _ _ hes
              have h3 := textF_len s k _ _ _ _ h
              have h4 := textF_val s k _ _ _ _ h
              have h5 := encodeRune_le r
              rw [List.length_append] at h3
              omega
          · by_cases h128 : c.toNat < 128
            · rw [textF_ascii _ _ _ _ _ hc h34 h32 h92 h128] at h
              have h3 := textF_len s k _ _ _ _ h
              have h4 := textF_val s k _ _ _ _ h
              rw [List.length_append, List.length_singleton] at h3
              omega
            · rw [textF_rune _ _ _ _ _ hc h128] at h
              split at h
              · split at h <;> (injection h with h; cases h)
              · have h3 := textF_len s k _ _ _ _ h
                have h4 := textF_val s k _ _ _ _ h
                rw [List.length_append] at h3
                have h5 := List.length_take_le (decodeGo ⟨(s.drop p).toArray⟩).2 (s.drop p)
                omega
set_option maxRecDepth 1000000 in
set_option maxHeartbeats 4000000 in
theorem obj1_A (R : Nat) (s : ByteArray) (k r V PR PD PM M : Nat) (d p0 : Int) (W0 : World) (hl : s.size ≤ 10000000000) (hR0 : RdB R s p0 W0) (hT : Tabs W0) (hG : OGeo R W0.heap.size V PR PD PM M) (hVal : ValOK R s k r (wrap64 (d + 1)))
    (a : List ByteArray × List J) (q : Nat) (o : Out (List ByteArray × List J)) (W : World) (hq : q ≤ s.size) (h : Inv R s W0 (OI R W0.heap.size V PR PD PM M d) a q W) (h1 : s.data.toList[q]? = none) (h2 : o = .err 3 s.data.toList.length) :
    Calls Tryd.prog 69 #[.pointer (some ⟨PR, 0, none⟩), .pointer (some ⟨PM, 0, none⟩), .pointer (some ⟨V, 0, none⟩), .pointer (some ⟨PD, 0, none⟩)] W (SevEnds R s W0 (OI R W0.heap.size V PR PD PM M d) o) := by
  obtain ⟨hR, hO, hlq, hnq, sn, sv, hS⟩ := h
  have HT := Aside0.mk (fun (w : World) (ho : On R W0 w) => hT.on hR0 ho)
  have HR := Aside0.mk hR
  have HOW := Aside0.mk hO
  have HS := Aside0.mk hS
  have HG := Aside0.mk hG
  have HRB := Aside0.mk hR0.lt
  have HRW := Aside0.mk hR.lt
  have HVal := Aside0.mk hVal
  have r0 : W.cell? ⟨PR, 0, none⟩ = some (ptr R) := (blk_cell hS.r 0).trans rfl
  have c1 := hR.c1
  clear hR hO hS hR0 hT hVal hG
  have hps : s.size ≤ q := by rw [List.getElem?_eq_none_iff, size_data] at h1; exact h1
  have HX := Aside0.mk (h2.trans (by rw [size_data]))
  clear h1 h2
  go_enter Tryd.func69, Tryd.ntmps69
  go_wp2_with (go_at_call 39; (with_reducible refine (peek_short R s q hps _ ?rd1).mono ?_); (case rd1 => exact HR.out); rintro e w1 ⟨rfl, hb⟩; have HB := Aside0.mk hb; clear hb)
  exact ⟨rfl, SevEnds.no HX.out (HOW.out.drawn HB.out)⟩
set_option maxRecDepth 1000000 in
set_option maxHeartbeats 4000000 in
theorem obj1_B (R : Nat) (s : ByteArray) (k r V PR PD PM M : Nat) (d p0 : Int) (W0 : World) (hl : s.size ≤ 10000000000) (hR0 : RdB R s p0 W0) (hT : Tabs W0) (hG : OGeo R W0.heap.size V PR PD PM M) (hVal : ValOK R s k r (wrap64 (d + 1)))
    (a : List ByteArray × List J) (q : Nat) (o : Out (List ByteArray × List J)) (W : World) (hq : q ≤ s.size) (h : Inv R s W0 (OI R W0.heap.size V PR PD PM M d) a q W) (c : UInt8) (h1 : s.data.toList[q]? = some c) (h34 : c ≠ 34) (h2 : o = .err 40 q) :
    Calls Tryd.prog 69 #[.pointer (some ⟨PR, 0, none⟩), .pointer (some ⟨PM, 0, none⟩), .pointer (some ⟨V, 0, none⟩), .pointer (some ⟨PD, 0, none⟩)] W (SevEnds R s W0 (OI R W0.heap.size V PR PD PM M d) o) := by
  obtain ⟨hR, hO, hlq, hnq, sn, sv, hS⟩ := h
  have HT := Aside0.mk (fun (w : World) (ho : On R W0 w) => hT.on hR0 ho)
  have HR := Aside0.mk hR
  have HOW := Aside0.mk hO
  have HS := Aside0.mk hS
  have HG := Aside0.mk hG
  have HRB := Aside0.mk hR0.lt
  have HRW := Aside0.mk hR.lt
  have HVal := Aside0.mk hVal
  have r0 : W.cell? ⟨PR, 0, none⟩ = some (ptr R) := (blk_cell hS.r 0).trans rfl
  have c1 := hR.c1
  clear hR hO hS hR0 hT hVal hG
  have HC := Aside0.mk h1
  have HX := Aside0.mk h2
  have e34 : ((c.toNat : Int) != 34) = true := (bne_u8' c 34).trans (congrArg (!·) (decide_eq_false h34))
  clear h1 h2 h34
  go_enter Tryd.func69, Tryd.ntmps69
  go_wp2_with (go_at_call 39; (with_reducible refine (peek_ok R s q c HC.out _ ?rd1).mono ?_); (case rd1 => exact HR.out); rintro e w1 ⟨rfl, hb⟩; have HR1 := Aside0.mk (HR.out.drawn hb); have HO1 := Aside0.mk ((On.refl R W).drawn hb); have HS1 := Aside0.mk (HS.out.on HG.out HO1.out); have r1 : w1.cell? ⟨PR, 0, none⟩ = some (ptr R) := (blk_cell HS1.out.r 0).trans rfl; have d1 := HR1.out.c1; clear hb)
  go_region_with ((go_at_call 29; (with_reducible refine (fail_calls _ _ _ _).mono ?_); rintro e w9 ⟨rfl, hb⟩; refine any_dummy w9 ⟨rfl, SevEnds.no HX.out (HOW.out.trans ((HO1.out.drewN 1).drawn hb))⟩ ?_))
  all_goals trivial
set_option maxRecDepth 1000000 in
set_option maxHeartbeats 4000000 in
theorem obj1_C (R : Nat) (s : ByteArray) (k r V PR PD PM M : Nat) (d p0 : Int) (W0 : World) (hl : s.size ≤ 10000000000) (hR0 : RdB R s p0 W0) (hT : Tabs W0) (hG : OGeo R W0.heap.size V PR PD PM M) (hVal : ValOK R s k r (wrap64 (d + 1)))
    (a : List ByteArray × List J) (q : Nat) (o : Out (List ByteArray × List J)) (W : World) (hq : q ≤ s.size) (h : Inv R s W0 (OI R W0.heap.size V PR PD PM M d) a q W) (h1 : s.data.toList[q]? = some 34) (e q1 : Nat) (h2 : textF s.data.toList k [] (q + 1) = some (.err e q1)) (h3 : o = .err e q1) :
    Calls Tryd.prog 69 #[.pointer (some ⟨PR, 0, none⟩), .pointer (some ⟨PM, 0, none⟩), .pointer (some ⟨V, 0, none⟩), .pointer (some ⟨PD, 0, none⟩)] W (SevEnds R s W0 (OI R W0.heap.size V PR PD PM M d) o) := by
  obtain ⟨hR, hO, hlq, hnq, sn, sv, hS⟩ := h
  have HT := Aside0.mk (fun (w : World) (ho : On R W0 w) => hT.on hR0 ho)
  have HR := Aside0.mk hR
  have HOW := Aside0.mk hO
  have HS := Aside0.mk hS
  have HG := Aside0.mk hG
  have HRB := Aside0.mk hR0.lt
  have HRW := Aside0.mk hR.lt
  have HVal := Aside0.mk hVal
  have r0 : W.cell? ⟨PR, 0, none⟩ = some (ptr R) := (blk_cell hS.r 0).trans rfl
  have c1 := hR.c1
  clear hR hO hS hR0 hT hVal hG
  have HC := Aside0.mk h1
  have hlt := at_lt' h1
  have e34 : (((34 : UInt8).toNat : Int) != 34) = false := by decide
  clear h1
  have HE := Aside0.mk h2
  have HX := Aside0.mk h3
  clear h2 h3
  go_enter Tryd.func69, Tryd.ntmps69
  go_wp2_with (first | (go_at_call 39; (with_reducible refine (peek_ok R s q 34 HC.out _ ?rd1).mono ?_); (case rd1 => exact HR.out); rintro e w1 ⟨rfl, hb⟩; have HR1 := Aside0.mk (HR.out.drawn hb); have HO1 := Aside0.mk ((On.refl R W).drawn hb); have HS1 := Aside0.mk (HS.out.on HG.out HO1.out); have r1 : w1.cell? ⟨PR, 0, none⟩ = some (ptr R) := (blk_cell HS1.out.r 0).trans rfl; have d1 := HR1.out.c1; clear hb) | (go_at_call 42; (with_reducible refine (Calls.err_of (text_calls R s q k _ hl hlt _ ?rd2 ?tb2 HE.out) rfl).mono ?_); (case rd2 => exact HR1.out); (case tb2 => exact HT.out _ (HOW.out.trans HO1.out)); rintro e w2 ⟨rfl, ho⟩; have HO2 := Aside0.mk (HO1.out.trans ho); clear ho))
  exact ⟨rfl, SevEnds.no HX.out (HOW.out.trans HO2.out)⟩
set_option maxRecDepth 1000000 in
set_option maxHeartbeats 4000000 in
theorem obj1_D (R : Nat) (s : ByteArray) (k r V PR PD PM M : Nat) (d p0 : Int) (W0 : World) (hl : s.size ≤ 10000000000) (hR0 : RdB R s p0 W0) (hT : Tabs W0) (hG : OGeo R W0.heap.size V PR PD PM M) (hVal : ValOK R s k r (wrap64 (d + 1)))
    (a : List ByteArray × List J) (q : Nat) (o : Out (List ByteArray × List J)) (W : World) (hq : q ≤ s.size) (h : Inv R s W0 (OI R W0.heap.size V PR PD PM M d) a q W) (h1 : s.data.toList[q]? = some 34) (nm : List UInt8) (q1 : Nat) (h2 : textF s.data.toList k [] (q + 1) = some (.val nm q1)) (hm : nm ∈ a.1.map (fun b => b.data.toList)) (h3 : o = .err 45 q) :
    Calls Tryd.prog 69 #[.pointer (some ⟨PR, 0, none⟩), .pointer (some ⟨PM, 0, none⟩), .pointer (some ⟨V, 0, none⟩), .pointer (some ⟨PD, 0, none⟩)] W (SevEnds R s W0 (OI R W0.heap.size V PR PD PM M d) o) := by
  obtain ⟨hR, hO, hlq, hnq, sn, sv, hS⟩ := h
  have HT := Aside0.mk (fun (w : World) (ho : On R W0 w) => hT.on hR0 ho)
  have HR := Aside0.mk hR
  have HOW := Aside0.mk hO
  have HS := Aside0.mk hS
  have HG := Aside0.mk hG
  have HRB := Aside0.mk hR0.lt
  have HRW := Aside0.mk hR.lt
  have HVal := Aside0.mk hVal
  have r0 : W.cell? ⟨PR, 0, none⟩ = some (ptr R) := (blk_cell hS.r 0).trans rfl
  have c1 := hR.c1
  clear hR hO hS hR0 hT hVal hG
  have HC := Aside0.mk h1
  have hlt := at_lt' h1
  have e34 : (((34 : UInt8).toNat : Int) != 34) = false := by decide
  clear h1
  have HE := Aside0.mk h2
  have ht1 := textF_val _ _ _ _ _ _ h2
  have ht2 := textF_len _ _ _ _ _ _ h2
  rw [size_data] at ht1
  rw [List.length_nil] at ht2
  have HK := Aside0.mk (key_bs nm (by unfold maxLen; omega))
  have HX := Aside0.mk h3
  clear h2 h3
  go_enter Tryd.func69, Tryd.ntmps69
  go_wp2_with (first | (go_at_call 39; (with_reducible refine (peek_ok R s q 34 HC.out _ ?rd1).mono ?_); (case rd1 => exact HR.out); rintro e w1 ⟨rfl, hb⟩; have HR1 := Aside0.mk (HR.out.drawn hb); have HO1 := Aside0.mk ((On.refl R W).drawn hb); have HS1 := Aside0.mk (HS.out.on HG.out HO1.out); have r1 : w1.cell? ⟨PR, 0, none⟩ = some (ptr R) := (blk_cell HS1.out.r 0).trans rfl; have d1 := HR1.out.c1; clear hb) | (go_at_call 42; (with_reducible refine (Calls.val_of (text_calls R s q k _ hl hlt _ ?rd2 ?tb2 HE.out) rfl).mono ?_); (case rd2 => exact HR1.out); (case tb2 => exact HT.out _ (HOW.out.trans HO1.out)); rintro e w2 ⟨v, rfl, hv, hr, ho⟩; subst hv; have HO2 := Aside0.mk (HO1.out.trans ho); have HR2 := Aside0.mk hr; have HS2 := Aside0.mk (HS.out.on HG.out HO2.out); have r2 : w2.cell? ⟨PR, 0, none⟩ = some (ptr R) := (blk_cell HS2.out.r 0).trans rfl; have m2 : w2.cell? ⟨PM, 0, none⟩ = some (.map (some M)) := (blk_cell HS2.out.pm 0).trans rfl; clear hr ho) | (at_lookup; obtain ⟨D, hD1, hD2, hD3⟩ := HS2.out.seen; refine wpList_lookup_own_int _ rfl _ _ 97 rfl 9 3 .i64 key9 Tryd.underlying97 Tryd.underlying3 (zero3 _) M a.1.length D rfl hD2 (.string (bs nm)) (.string nm) rfl HK.out ?_; intro cc hat hwc; rw [hD3 nm, if_pos hm] at hat; injection hat with hat; injection hat with _ hat; subst hat; have HD1 := Aside0.mk hD1; have HD2 := Aside0.mk hD2; have HD3 := Aside0.mk hD3; clear hD1 hD2 hD3 hwc) | (go_at_call 29; (with_reducible refine (fail_calls _ _ _ _).mono ?_); rintro e w9 ⟨rfl, hb⟩; have HB9 := Aside0.mk hb; clear hb))
  exact ⟨rfl, SevEnds.no HX.out (HOW.out.trans (HO2.out.drawn HB9.out))⟩
set_option maxRecDepth 1000000 in
set_option maxHeartbeats 4000000 in
theorem obj1_E (R : Nat) (s : ByteArray) (k r V PR PD PM M : Nat) (d p0 : Int) (W0 : World) (hl : s.size ≤ 10000000000) (hR0 : RdB R s p0 W0) (hT : Tabs W0) (hG : OGeo R W0.heap.size V PR PD PM M) (hVal : ValOK R s k r (wrap64 (d + 1)))
    (a : List ByteArray × List J) (q : Nat) (o : Out (List ByteArray × List J)) (W : World) (hq : q ≤ s.size) (h : Inv R s W0 (OI R W0.heap.size V PR PD PM M d) a q W) (h1 : s.data.toList[q]? = some 34) (nm : List UInt8) (q1 : Nat) (h2 : textF s.data.toList k [] (q + 1) = some (.val nm q1)) (hm : nm ∉ a.1.map (fun b => b.data.toList)) (h4 : s.data.toList[blanksF s.data.toList q1]? = none) (h3 : o = .err 3 s.data.toList.length) :
    Calls Tryd.prog 69 #[.pointer (some ⟨PR, 0, none⟩), .pointer (some ⟨PM, 0, none⟩), .pointer (some ⟨V, 0, none⟩), .pointer (some ⟨PD, 0, none⟩)] W (SevEnds R s W0 (OI R W0.heap.size V PR PD PM M d) o) := by
  obtain ⟨hR, hO, hlq, hnq, sn, sv, hS⟩ := h
  have HT := Aside0.mk (fun (w : World) (ho : On R W0 w) => hT.on hR0 ho)
  have HR := Aside0.mk hR
  have HOW := Aside0.mk hO
  have HS := Aside0.mk hS
  have HG := Aside0.mk hG
  have HRB := Aside0.mk hR0.lt
  have HRW := Aside0.mk hR.lt
  have HVal := Aside0.mk hVal
  have r0 : W.cell? ⟨PR, 0, none⟩ = some (ptr R) := (blk_cell hS.r 0).trans rfl
  have c1 := hR.c1
  clear hR hO hS hR0 hT hVal hG
  have HC := Aside0.mk h1
  have hlt := at_lt' h1
  have e34 : (((34 : UInt8).toNat : Int) != 34) = false := by decide
  clear h1
  have HE := Aside0.mk h2
  have ht1 := textF_val _ _ _ _ _ _ h2
  have ht2 := textF_len _ _ _ _ _ _ h2
  rw [size_data] at ht1
  rw [List.length_nil] at ht2
  have HK := Aside0.mk (key_bs nm (by unfold maxLen; omega))
  have HX := Aside0.mk (h3.trans (by rw [size_data]))
  clear h2 h3
  have hb1 := blanks_ge s.data.toList q1
  have hb2 := blanks_le s.data.toList q1 (by rw [size_data]; exact ht1.2)
  rw [size_data] at hb2
  have hps : s.size ≤ blanksF s.data.toList q1 := by rw [List.getElem?_eq_none_iff, size_data] at h4; exact h4
  clear h4
  generalize hg1 : blanksF s.data.toList q1 = b1 at *
  have HG1 := Aside0.mk hg1
  clear hg1
  go_enter Tryd.func69, Tryd.ntmps69
  go_wp2_with (first | (go_at_call 39; (with_reducible refine (peek_ok R s q 34 HC.out _ ?rd1).mono ?_); (case rd1 => exact HR.out); rintro e w1 ⟨rfl, hb⟩; have HR1 := Aside0.mk (HR.out.drawn hb); have HO1 := Aside0.mk ((On.refl R W).drawn hb); have HS1 := Aside0.mk (HS.out.on HG.out HO1.out); have r1 : w1.cell? ⟨PR, 0, none⟩ = some (ptr R) := (blk_cell HS1.out.r 0).trans rfl; have d1 := HR1.out.c1; clear hb) | (go_at_call 42; (with_reducible refine (Calls.val_of (text_calls R s q k _ hl hlt _ ?rd2 ?tb2 HE.out) rfl).mono ?_); (case rd2 => exact HR1.out); (case tb2 => exact HT.out _ (HOW.out.trans HO1.out)); rintro e w2 ⟨v, rfl, hv, hr, ho⟩; subst hv; have HO2 := Aside0.mk (HO1.out.trans ho); have HR2 := Aside0.mk hr; have HS2 := Aside0.mk (HS.out.on HG.out HO2.out); have r2 : w2.cell? ⟨PR, 0, none⟩ = some (ptr R) := (blk_cell HS2.out.r 0).trans rfl; have m2 : w2.cell? ⟨PM, 0, none⟩ = some (.map (some M)) := (blk_cell HS2.out.pm 0).trans rfl; clear hr ho) | (at_lookup; obtain ⟨D, hD1, hD2, hD3⟩ := HS2.out.seen; refine wpList_lookup_own_int _ rfl _ _ 97 rfl 9 3 .i64 key9 Tryd.underlying97 Tryd.underlying3 (zero3 _) M a.1.length D rfl hD2 (.string (bs nm)) (.string nm) rfl HK.out ?_; intro cc hat hwc; rw [hD3 nm, if_neg hm] at hat; injection hat with hat; injection hat with _ hat; subst hat; have HD1 := Aside0.mk hD1; have HD2 := Aside0.mk hD2; have HD3 := Aside0.mk hD3; clear hD1 hD2 hD3 hwc) | (at_mapUpdate; refine wpList_mapUpdate_own _ rfl _ _ _ 97 rfl 9 3 key9 Tryd.underlying97 _ M a.1.length _ rfl HD2.out (by unfold maxLen; omega) _ _ _ rfl rfl HK.out _ [] (plainElem_int Tryd.underlying3 (by decide)) ?_; intro w3 hown3 hg3; have HS3 := Aside0.mk (HS2.out.mapped HD1.out HD3.out hown3 hg3); have HO3 := Aside0.mk ((HOW.out.trans HO2.out).grownRow hg3 (fun b hb => by injection hb with hb; have := HG.out.m; omega) (Nat.le_of_lt HRB.out)); have HR3 := Aside0.mk (show RdB R s q1 w3 from blk_grownM HR2.out HS2.out.seen hg3); have r3 : w3.cell? ⟨PR, 0, none⟩ = some (ptr R) := (blk_cell HS3.out.r 0).trans rfl; clear hown3 hg3) | (go_at_call 27; (with_reducible refine (blanks_calls R s q1 (by omega) (by omega) _ ?rd4).mono ?_); (case rd4 => exact HR3.out); rintro e w4 ⟨rfl, hr, ho⟩; rw [HG1.out] at hr; have HR4 := Aside0.mk hr; have HN4 := Aside0.mk ho; have HO4 := Aside0.mk (HO3.out.trans ho); have HS4 := Aside0.mk (HS3.out.on HG.out ho); have r4 : w4.cell? ⟨PR, 0, none⟩ = some (ptr R) := (blk_cell HS4.out.r 0).trans rfl; clear hr ho) | (go_at_call 39; (with_reducible refine (peek_short R s b1 hps _ ?rd5).mono ?_); (case rd5 => exact HR4.out); rintro e w5 ⟨rfl, hb⟩; have HB := Aside0.mk hb; clear hb))
  exact ⟨rfl, SevEnds.no HX.out (HO4.out.drawn HB.out)⟩
set_option maxRecDepth 1000000 in
set_option maxHeartbeats 4000000 in
theorem obj1_F (R : Nat) (s : ByteArray) (k r V PR PD PM M : Nat) (d p0 : Int) (W0 : World) (hl : s.size ≤ 10000000000) (hR0 : RdB R s p0 W0) (hT : Tabs W0) (hG : OGeo R W0.heap.size V PR PD PM M) (hVal : ValOK R s k r (wrap64 (d + 1)))
    (a : List ByteArray × List J) (q : Nat) (o : Out (List ByteArray × List J)) (W : World) (hq : q ≤ s.size) (h : Inv R s W0 (OI R W0.heap.size V PR PD PM M d) a q W) (h1 : s.data.toList[q]? = some 34) (nm : List UInt8) (q1 : Nat) (h2 : textF s.data.toList k [] (q + 1) = some (.val nm q1)) (hm : nm ∉ a.1.map (fun b => b.data.toList)) (c : UInt8) (h4 : s.data.toList[blanksF s.data.toList q1]? = some c) (h58 : c ≠ 58) (h3 : o = .err 40 (blanksF s.data.toList q1)) :
    Calls Tryd.prog 69 #[.pointer (some ⟨PR, 0, none⟩), .pointer (some ⟨PM, 0, none⟩), .pointer (some ⟨V, 0, none⟩), .pointer (some ⟨PD, 0, none⟩)] W (SevEnds R s W0 (OI R W0.heap.size V PR PD PM M d) o) := by
  obtain ⟨hR, hO, hlq, hnq, sn, sv, hS⟩ := h
  have HT := Aside0.mk (fun (w : World) (ho : On R W0 w) => hT.on hR0 ho)
  have HR := Aside0.mk hR
  have HOW := Aside0.mk hO
  have HS := Aside0.mk hS
  have HG := Aside0.mk hG
  have HRB := Aside0.mk hR0.lt
  have HRW := Aside0.mk hR.lt
  have HVal := Aside0.mk hVal
  have r0 : W.cell? ⟨PR, 0, none⟩ = some (ptr R) := (blk_cell hS.r 0).trans rfl
  have c1 := hR.c1
  clear hR hO hS hR0 hT hVal hG
  have HC := Aside0.mk h1
  have hlt := at_lt' h1
  have e34 : (((34 : UInt8).toNat : Int) != 34) = false := by decide
  clear h1
  have HE := Aside0.mk h2
  have ht1 := textF_val _ _ _ _ _ _ h2
  have ht2 := textF_len _ _ _ _ _ _ h2
  rw [size_data] at ht1
  rw [List.length_nil] at ht2
  have HK := Aside0.mk (key_bs nm (by unfold maxLen; omega))
  have HX := Aside0.mk h3
  clear h2 h3
  have hb1 := blanks_ge s.data.toList q1
  have hb2 := blanks_le s.data.toList q1 (by rw [size_data]; exact ht1.2)
  rw [size_data] at hb2
  have HC2 := Aside0.mk h4
  have e58 : ((c.toNat : Int) != 58) = true := (bne_u8' c 58).trans (congrArg (!·) (decide_eq_false h58))
  clear h4 h58
  generalize hg1 : blanksF s.data.toList q1 = b1 at *
  have HG1 := Aside0.mk hg1
  clear hg1
  go_enter Tryd.func69, Tryd.ntmps69
  go_wp2_with (first | (go_at_call 39; (with_reducible refine (peek_ok R s q 34 HC.out _ ?rd1).mono ?_); (case rd1 => exact HR.out); rintro e w1 ⟨rfl, hb⟩; have HR1 := Aside0.mk (HR.out.drawn hb); have HO1 := Aside0.mk ((On.refl R W).drawn hb); have HS1 := Aside0.mk (HS.out.on HG.out HO1.out); have r1 : w1.cell? ⟨PR, 0, none⟩ = some (ptr R) := (blk_cell HS1.out.r 0).trans rfl; have d1 := HR1.out.c1; clear hb) | (go_at_call 42; (with_reducible refine (Calls.val_of (text_calls R s q k _ hl hlt _ ?rd2 ?tb2 HE.out) rfl).mono ?_); (case rd2 => exact HR1.out); (case tb2 => exact HT.out _ (HOW.out.trans HO1.out)); rintro e w2 ⟨v, rfl, hv, hr, ho⟩; subst hv; have HO2 := Aside0.mk (HO1.out.trans ho); have HR2 := Aside0.mk hr; have HS2 := Aside0.mk (HS.out.on HG.out HO2.out); have r2 : w2.cell? ⟨PR, 0, none⟩ = some (ptr R) := (blk_cell HS2.out.r 0).trans rfl; have m2 : w2.cell? ⟨PM, 0, none⟩ = some (.map (some M)) := (blk_cell HS2.out.pm 0).trans rfl; clear hr ho) | (at_lookup; obtain ⟨D, hD1, hD2, hD3⟩ := HS2.out.seen; refine wpList_lookup_own_int _ rfl _ _ 97 rfl 9 3 .i64 key9 Tryd.underlying97 Tryd.underlying3 (zero3 _) M a.1.length D rfl hD2 (.string (bs nm)) (.string nm) rfl HK.out ?_; intro cc hat hwc; rw [hD3 nm, if_neg hm] at hat; injection hat with hat; injection hat with _ hat; subst hat; have HD1 := Aside0.mk hD1; have HD2 := Aside0.mk hD2; have HD3 := Aside0.mk hD3; clear hD1 hD2 hD3 hwc) | (at_mapUpdate; refine wpList_mapUpdate_own _ rfl _ _ _ 97 rfl 9 3 key9 Tryd.underlying97 _ M a.1.length _ rfl HD2.out (by unfold maxLen; omega) _ _ _ rfl rfl HK.out _ [] (plainElem_int Tryd.underlying3 (by decide)) ?_; intro w3 hown3 hg3; have HS3 := Aside0.mk (HS2.out.mapped HD1.out HD3.out hown3 hg3); have HO3 := Aside0.mk ((HOW.out.trans HO2.out).grownRow hg3 (fun b hb => by injection hb with hb; have := HG.out.m; omega) (Nat.le_of_lt HRB.out)); have HR3 := Aside0.mk (show RdB R s q1 w3 from blk_grownM HR2.out HS2.out.seen hg3); have r3 : w3.cell? ⟨PR, 0, none⟩ = some (ptr R) := (blk_cell HS3.out.r 0).trans rfl; clear hown3 hg3) | (go_at_call 27; (with_reducible refine (blanks_calls R s q1 (by omega) (by omega) _ ?rd4).mono ?_); (case rd4 => exact HR3.out); rintro e w4 ⟨rfl, hr, ho⟩; rw [HG1.out] at hr; have HR4 := Aside0.mk hr; have HN4 := Aside0.mk ho; have HO4 := Aside0.mk (HO3.out.trans ho); have HS4 := Aside0.mk (HS3.out.on HG.out ho); have r4 : w4.cell? ⟨PR, 0, none⟩ = some (ptr R) := (blk_cell HS4.out.r 0).trans rfl; clear hr ho) | (go_at_call 39; (with_reducible refine (peek_ok R s b1 c HC2.out _ ?rd5).mono ?_); (case rd5 => exact HR4.out); rintro e w5 ⟨rfl, hb⟩; have HR5 := Aside0.mk (HR4.out.drawn hb); have HN5 := Aside0.mk ((On.refl R w4).drawn hb); have HO5 := Aside0.mk (HO4.out.drawn hb); have HS5 := Aside0.mk (HS4.out.on HG.out HN5.out); have r5 : w5.cell? ⟨PR, 0, none⟩ = some (ptr R) := (blk_cell HS5.out.r 0).trans rfl; have d5 := HR5.out.c1; have f5 := HR5.out.f1; have r5' : (w5.setCell ⟨R, 1, none⟩ (.int .i64 ((b1 : Int) + 1))).cell? ⟨PR, 0, none⟩ = some (ptr R) := (blk_cell (HS5.out.on HG.out ((On.refl R w5).set 1 (.int .i64 ((b1 : Int) + 1)))).r 0).trans rfl; clear hb))
  go_region_with ((go_at_call 29; (with_reducible refine (fail_calls _ _ _ _).mono ?_); rintro e w9 ⟨rfl, hb⟩; refine any_dummy w9 ⟨rfl, SevEnds.no HX.out ((HO5.out.drewN 1).drawn hb)⟩ ?_))
  all_goals trivial
end Go.Proofs.YtaalajhmfdcalaaDoor.X
namespace Go.Proofs.YtaalajhmfdcalaaDoor.X
open Go.RowKit Go.Lib Go.Maps Go.Proofs.YtaalajhmfdcalaaDoorW.PrintWords Go.Proofs.YtaalajhmfdcalaaDoorW.PrintLast Go.Proofs.YtaalajhmfdcalaaDoorW.PrintMore
theorem seen_row {W : World} {B M : Nat} {ok : Nat → Prop} {sv : Value} {l : List J} {ns : List ByteArray} (h : k25.R 25 W B ok sv l) (hs : Seen W M ns) : some M ≠ sv.ownBlock := fun hh => by
  obtain ⟨cells, hc⟩ := Kd.R_typed h M hh.symm
  exact hs.ne hc rfl
theorem OSt.named {R B V PR PD PM M : Nat} {d : Int} {a : List ByteArray × List J} {sn sv v1 : Value} {W W7 : World} {nm : List UInt8} (h : OSt R B V PR PD PM M d (a.1 ++ [bs nm]) a sn sv W) (hn : Kd.string.R 9 W7 B (fun k => k ≠ V) v1 (a.1 ++ [bs nm]))
    (hg : W.grownBy W7 sn.ownBlock) (hat : v1.ownBlock = sn.ownBlock ∨ ∃ b, v1.ownBlock = some b ∧ W.heap.size ≤ b) : OSt R B V PR PD PM M d (a.1 ++ [bs nm]) (a.1 ++ [bs nm], a.2) v1 sv (W7.setCell ⟨V, 2, none⟩ v1) := by
  have n1 : PR ≠ V := by rintro rfl; have := h.r; rw [h.v] at this; cases this
  have n2 : PD ≠ V := by rintro rfl; have := h.dd; rw [h.v] at this; cases this
  have n3 : PM ≠ V := by rintro rfl; have := h.pm; rw [h.v] at this; cases this
  have hv := blk_grown (o := .cells #[.int .i64 6, .string ⟨#[]⟩, sn, sv] 25 (0, 0)) h.v hg (Kd.R_away h.names (fun _ hk => hk))
  have nM : V ≠ M := h.seen.ne h.v
  have rM : some M ≠ sn.ownBlock := fun hh => by
    obtain ⟨cells, hc⟩ := Kd.R_typed h.names M hh.symm
    exact h.seen.ne hc rfl
  refine ⟨(blk_set 2 v1 hv).trans rfl, ?_, ?_, ?_, ?_, Kd.R_far hn (fun _ hk => hk) _, ?_⟩
  · exact (Below.heap_setCell _ _ _ _ n1).trans (blk_grown (o := .cells #[ptr R] 47 (0, 0)) h.r hg (Kd.R_ne h.names h.r (by decide)))
  · exact (Below.heap_setCell _ _ _ _ n2).trans (blk_grown (o := .cells #[.int .i64 d] 3 (0, 0)) h.dd hg (Kd.R_ne h.names h.dd (by decide)))
  · exact (Below.heap_setCell _ _ _ _ n3).trans (blk_grown (o := .cells #[.map (some M)] 97 (0, 0)) h.pm hg (Kd.R_ne h.names h.pm (by decide)))
  · exact h.seen.move ((Below.heap_setCell _ _ _ _ (Ne.symm nM)).trans (hg.block M h.seen.lt rM))
  · exact Kd.R_far (Kd.R_after h.items hg hat) (fun _ hk => hk.1) _
set_option maxRecDepth 1000000 in
set_option maxHeartbeats 4000000 in
theorem obj1_G (R : Nat) (s : ByteArray) (k r V PR PD PM M : Nat) (d p0 : Int) (W0 : World) (hl : s.size ≤ 10000000000) (hR0 : RdB R s p0 W0) (hT : Tabs W0) (hG : OGeo R W0.heap.size V PR PD PM M) (hVal : ValOK R s k r (wrap64 (d + 1)))
    (a : List ByteArray × List J) (q : Nat) (o : Out (List ByteArray × List J)) (W : World) (hq : q ≤ s.size) (h : Inv R s W0 (OI R W0.heap.size V PR PD PM M d) a q W) (h1 : s.data.toList[q]? = some 34) (nm : List UInt8) (q1' : Nat) (h2 : textF s.data.toList k [] (q + 1) = some (.val nm q1')) (hm : nm ∉ a.1.map (fun b => b.data.toList)) (h4 : s.data.toList[blanksF s.data.toList q1']? = some 58) (e q1 : Nat) (h5 : valueF s.data.toList k r (blanksF s.data.toList (blanksF s.data.toList q1' + 1)) = some (.err e q1)) (h3 : o = .err e q1) :
    Calls Tryd.prog 69 #[.pointer (some ⟨PR, 0, none⟩), .pointer (some ⟨PM, 0, none⟩), .pointer (some ⟨V, 0, none⟩), .pointer (some ⟨PD, 0, none⟩)] W (SevEnds R s W0 (OI R W0.heap.size V PR PD PM M d) o) := by
  obtain ⟨hR, hO, hlq, hnq, sn, sv, hS⟩ := h
  obtain ⟨A, c, esv⟩ := Kd.R_slice hS.items
  subst esv
  have HT := Aside0.mk (fun (w : World) (ho : On R W0 w) => hT.on hR0 ho)
  have HR := Aside0.mk hR
  have HOW := Aside0.mk hO
  have HS := Aside0.mk hS
  have HG := Aside0.mk hG
  have HRB := Aside0.mk hR0.lt
  have HRW := Aside0.mk hR.lt
  have HVal := Aside0.mk hVal
  have r0 : W.cell? ⟨PR, 0, none⟩ = some (ptr R) := (blk_cell hS.r 0).trans rfl
  have c1 := hR.c1
  clear hR hO hS hR0 hT hVal hG
  have HC := Aside0.mk h1
  have hlt := at_lt' h1
  have hltb := at_lt' h4
  have e34 : (((34 : UInt8).toNat : Int) != 34) = false := by decide
  have e58 : (((58 : UInt8).toNat : Int) != 58) = false := by decide
  have HE := Aside0.mk h2
  have HC2 := Aside0.mk h4
  have ht1 := textF_val _ _ _ _ _ _ h2
  have ht2 := textF_len _ _ _ _ _ _ h2
  rw [size_data] at ht1
  rw [List.length_nil] at ht2
  have HK := Aside0.mk (key_bs nm (by unfold maxLen; omega))
  have hb1 := blanks_ge s.data.toList q1'
  have hb3 := blanks_ge s.data.toList (blanksF s.data.toList q1' + 1)
  have hb4 := blanks_le s.data.toList (blanksF s.data.toList q1' + 1) (by rw [size_data]; omega)
  rw [size_data] at hb4
  have HE8 := Aside0.mk h5
  have HX := Aside0.mk h3
  clear h1 h2 h4 h5 h3
  generalize hg2 : blanksF s.data.toList (blanksF s.data.toList q1' + 1) = b2 at *
  generalize hg1 : blanksF s.data.toList q1' = b1 at *
  have HG1 := Aside0.mk hg1
  have HG2 := Aside0.mk hg2
  clear hg1 hg2
  go_enter Tryd.func69, Tryd.ntmps69
  go_wp2_with (first | (go_at_call 39; (with_reducible refine (peek_ok R s q 34 HC.out _ ?rd1).mono ?_); (case rd1 => exact HR.out); rintro e w1 ⟨rfl, hb⟩; have HR1 := Aside0.mk (HR.out.drawn hb); have HO1 := Aside0.mk ((On.refl R W).drawn hb); have HS1 := Aside0.mk (HS.out.on HG.out HO1.out); have r1 : w1.cell? ⟨PR, 0, none⟩ = some (ptr R) := (blk_cell HS1.out.r 0).trans rfl; have d1 := HR1.out.c1; clear hb) | (go_at_call 42; (with_reducible refine (Calls.val_of (text_calls R s q k _ hl hlt _ ?rd2 ?tb2 HE.out) rfl).mono ?_); (case rd2 => exact HR1.out); (case tb2 => exact HT.out _ (HOW.out.trans HO1.out)); rintro e w2 ⟨v, rfl, hv, hr, ho⟩; subst hv; have HO2 := Aside0.mk (HO1.out.trans ho); have HR2 := Aside0.mk hr; have HS2 := Aside0.mk (HS.out.on HG.out HO2.out); have r2 : w2.cell? ⟨PR, 0, none⟩ = some (ptr R) := (blk_cell HS2.out.r 0).trans rfl; have m2 : w2.cell? ⟨PM, 0, none⟩ = some (.map (some M)) := (blk_cell HS2.out.pm 0).trans rfl; clear hr ho) | (at_lookup; obtain ⟨D, hD1, hD2, hD3⟩ := HS2.out.seen; refine wpList_lookup_own_int _ rfl _ _ 97 rfl 9 3 .i64 key9 Tryd.underlying97 Tryd.underlying3 (zero3 _) M a.1.length D rfl hD2 (.string (bs nm)) (.string nm) rfl HK.out ?_; intro cc hat hwc; rw [hD3 nm, if_neg hm] at hat; injection hat with hat; injection hat with _ hat; subst hat; have HD1 := Aside0.mk hD1; have HD2 := Aside0.mk hD2; have HD3 := Aside0.mk hD3; clear hD1 hD2 hD3 hwc) | (at_mapUpdate; refine wpList_mapUpdate_own _ rfl _ _ _ 97 rfl 9 3 key9 Tryd.underlying97 _ M a.1.length _ rfl HD2.out (by unfold maxLen; omega) _ _ _ rfl rfl HK.out _ [] (plainElem_int Tryd.underlying3 (by decide)) ?_; intro w3 hown3 hg3; have HS3 := Aside0.mk (HS2.out.mapped HD1.out HD3.out hown3 hg3); have HO3 := Aside0.mk ((HOW.out.trans HO2.out).grownRow hg3 (fun b hb => by injection hb with hb; have := HG.out.m; omega) (Nat.le_of_lt HRB.out)); have HR3 := Aside0.mk (show RdB R s q1' w3 from blk_grownM HR2.out HS2.out.seen hg3); have r3 : w3.cell? ⟨PR, 0, none⟩ = some (ptr R) := (blk_cell HS3.out.r 0).trans rfl; clear hown3 hg3) | (go_at_call 27; (with_reducible refine (blanks_calls R s q1' (by omega) (by omega) _ ?rd4).mono ?_); (case rd4 => exact HR3.out); rintro e w4 ⟨rfl, hr, ho⟩; rw [HG1.out] at hr; have HR4 := Aside0.mk hr; have HN4 := Aside0.mk ho; have HO4 := Aside0.mk (HO3.out.trans ho); have HS4 := Aside0.mk (HS3.out.on HG.out ho); have r4 : w4.cell? ⟨PR, 0, none⟩ = some (ptr R) := (blk_cell HS4.out.r 0).trans rfl; clear hr ho) | (go_at_call 39; (with_reducible refine (peek_ok R s b1 58 HC2.out _ ?rd5).mono ?_); (case rd5 => exact HR4.out); rintro e w5 ⟨rfl, hb⟩; have HR5 := Aside0.mk (HR4.out.drawn hb); have HN5 := Aside0.mk ((On.refl R w4).drawn hb); have HO5 := Aside0.mk (HO4.out.drawn hb); have HS5 := Aside0.mk (HS4.out.on HG.out HN5.out); have r5 : w5.cell? ⟨PR, 0, none⟩ = some (ptr R) := (blk_cell HS5.out.r 0).trans rfl; have d5 := HR5.out.c1; have f5 := HR5.out.f1; have r5' : (w5.setCell ⟨R, 1, none⟩ (.int .i64 ((b1 : Int) + 1))).cell? ⟨PR, 0, none⟩ = some (ptr R) := (blk_cell (HS5.out.on HG.out ((On.refl R w5).set 1 (.int .i64 ((b1 : Int) + 1)))).r 0).trans rfl; clear hb) | (go_at_call 27; (with_reducible refine (blanks_calls R s (b1 + 1) (by omega) (by omega) _ ?rd6).mono ?_); (case rd6 => exact HR5.out.set _); rintro e w6 ⟨rfl, hr, ho⟩; rw [HG2.out] at hr; have HR6 := Aside0.mk hr; have HO6 := Aside0.mk ((HO5.out.set 1 _).trans ho); have HS6 := Aside0.mk (HS5.out.on HG.out (((On.refl R w5).set 1 _).trans ho)); obtain ⟨An, cn, en⟩ := Kd.R_slice HS6.out.names; subst en; have v6 : w6.cell? ⟨V, 2, none⟩ = some (.slice An a.1.length cn) := (blk_cell HS6.out.v 2).trans rfl; clear hr ho) | (at_builtin; refine Kd.R_append Kd.string (w0 := w6) W0.heap.size rfl (.tmp 51) (.tmp 53) 22 9 (.string ⟨#[]⟩) 16 rfl Tryd.underlying22 info9 rfl (by decide) (by decide) _ a.1 (bs nm) [.string (bs nm)] (fun k => k ≠ V) (fun _ => False) rfl rfl rfl (fun _ h => h.elim) ?fr7 HS6.out.names ?bl7 ?bs7 (by omega) ?_; (case fr7 => intro k hk; have := lt_of_block HS6.out.v; omega); (case bl7 => exact Below.refl _ _); (case bs7 => exact HO6.out.size); intro v1 w7 hn7 _ hg7 hat7; obtain ⟨A7, c7, e7⟩ := Kd.R_slice hn7; rw [List.length_append, List.length_singleton] at e7; subst e7; have HS7 := Aside0.mk (HS6.out.named hn7 hg7 hat7); have HO7 := Aside0.mk (HO6.out.grownRow hg7 (fun b hb => Kd.R_base HS6.out.names b hb) (Nat.le_of_lt HRB.out)); have HR7 := Aside0.mk (show RdB R s b2 w7 from (hg7.block R HR6.out.lt (fun hh => by have := Kd.R_base HS6.out.names R hh.symm; have := HRB.out; omega)).trans HR6.out); have HV7 := Aside0.mk (blk_grown (o := .cells #[.int .i64 6, .string ⟨#[]⟩, .slice An a.1.length cn, (.slice A a.2.length c)] 25 (0, 0)) HS6.out.v hg7 (Kd.R_away HS6.out.names (fun _ hk => hk))); have v7 : w7.cell? ⟨V, 2, none⟩ = some (.slice An a.1.length cn) := (blk_cell HV7.out 2).trans rfl; have x7 := blk_free HV7.out 2; clear hn7 hg7 hat7))
  have HR8 := Aside0.mk (show RdB R s b2 (w7.setCell ⟨V, 2, none⟩ (.slice A7 (a.1.length + 1) c7)) from (Below.heap_setCell _ _ _ _ (by show R ≠ V; have := HRB.out; have := HG.out.v; omega)).trans HR7.out)
  have HO8 := Aside0.mk (HO7.out.new V 2 (.slice A7 (a.1.length + 1) c7) HG.out.v (Nat.le_of_lt HRB.out))
  clear r0 c1 r1 d1 r2 m2 r3 r4 r5 d5 f5 r5' v6 v7 x7 HR HOW HS HRW
  have HS := HS7
  clear HS7 HR1 HO1 HS1 HO2 HR2 HS2 HD1 HD2 HD3 HS3 HO3 HR3 HR4 HN4 HO4 HS4 HR5 HN5 HO5 HS5 HR6 HO6 HS6 HO7 HR7 HV7 HC HC2 HK HE HG1 HG2 e34 e58
  generalize w7.setCell ⟨V, 2, none⟩ (.slice A7 (a.1.length + 1) c7) = w8 at HS HR8 HO8 ⊢
  have HRW := Aside0.mk HR8.out.lt
  have HT8 := Aside0.mk (fun (w : World) (ho : On R w8 w) => HT.out _ (HO8.out.trans ho))
  refine start_ (n := 13) (S := fun w' => w'.cell? ⟨V, 3, none⟩ = some (.slice A a.2.length c) ∧ w'.cell? ⟨PR, 0, none⟩ = some (ptr R) ∧ w'.cell? ⟨PD, 0, none⟩ = some (.int .i64 d)) (ds := [10, 12]) #[false, false, false, false, false, false, false, false, false, false, false, false, false] (by kernel_rfl) rfl rfl ⟨(blk_cell HS.out.v 3).trans rfl, (blk_cell HS.out.r 0).trans rfl, (blk_cell HS.out.dd 0).trans rfl⟩ (fun hHeld => ?_)
  have HR2 := Aside0.mk (show RdB R s b2 w8.drew from HR8.out.drew)
  have HO2 := Aside0.mk (show On R w8 w8.drew from (On.refl R w8).drewN 1)
  generalize w8.drew = w2 at HR2 HO2 hHeld ⊢
  have HS2 := Aside0.mk (HS.out.on HG.out HO2.out)
  refine pure_ (i := 0) (N := some 56) (v := ?_) (a' := ?_) #[true, false, false, false, false, false, false, false, false, false, false, false, false] rfl rfl (by kernel_rfl) (fun _ _ _ h => h) (Or.inl ⟨by rfl, ?_⟩) ?_ ?_
  rotate_left
  · intro w'
    go_simp
    with_reducible rfl
  rotate_left
  · simp only [Act.put, List.setIfInBounds_toArray, List.set_cons_zero, List.set_cons_succ, i64_w, i32_w]
    rfl
  refine take_ (i := 1) (N := some 57) (v := ?_) (a' := ?_) #[true, true, false, false, false, false, false, false, false, false, false, false, false] rfl rfl (by kernel_rfl) (fun _ _ _ h => h) (Or.inl ⟨by rfl, ?_⟩) hHeld ?_ ?_
  rotate_left
  · rintro w' ⟨s0, s1, s2⟩
    go_simp
    with_reducible rfl
  rotate_left
  · simp only [Act.put, List.setIfInBounds_toArray, List.set_cons_zero, List.set_cons_succ, i64_w, i32_w]
    rfl
  refine take_ (i := 2) (N := some 58) (v := ?_) (a' := ?_) #[true, true, true, false, false, false, false, false, false, false, false, false, false] rfl rfl (by kernel_rfl) (fun _ _ _ h => h) (Or.inl ⟨by rfl, ?_⟩) hHeld ?_ ?_
  rotate_left
  · rintro w' ⟨s0, s1, s2⟩
    go_simp
    with_reducible rfl
  rotate_left
  · simp only [Act.put, List.setIfInBounds_toArray, List.set_cons_zero, List.set_cons_succ, i64_w, i32_w]
    rfl
  refine take_ (i := 3) (N := some 59) (v := ?_) (a' := ?_) #[true, true, true, true, false, false, false, false, false, false, false, false, false] rfl rfl (by kernel_rfl) (fun _ _ _ h => h) (Or.inl ⟨by rfl, ?_⟩) hHeld ?_ ?_
  rotate_left
  · rintro w' ⟨s0, s1, s2⟩
    go_simp
    with_reducible rfl
  rotate_left
  · simp only [Act.put, List.setIfInBounds_toArray, List.set_cons_zero, List.set_cons_succ, i64_w, i32_w]
    rfl
  refine pure_ (i := 4) (N := some 60) (v := ?_) (a' := ?_) #[true, true, true, true, true, false, false, false, false, false, false, false, false] rfl rfl (by kernel_rfl) (fun _ _ _ h => h) (Or.inl ⟨by rfl, ?_⟩) ?_ ?_
  rotate_left
  · intro w'
    go_simp
    with_reducible rfl
  rotate_left
  · simp only [Act.put, List.setIfInBounds_toArray, List.set_cons_zero, List.set_cons_succ, i64_w, i32_w]
    rfl
  refine pure_ (i := 6) (N := some 62) (v := ?_) (a' := ?_) #[true, true, true, true, true, false, true, false, false, false, false, false, false] rfl rfl (by kernel_rfl) (fun _ _ _ h => h) (Or.inl ⟨by rfl, ?_⟩) ?_ ?_
  rotate_left
  · intro w'
    go_simp
    with_reducible rfl
  rotate_left
  · simp only [Act.put, List.setIfInBounds_toArray, List.set_cons_zero, List.set_cons_succ, i64_w, i32_w]
    rfl
  refine two_ (i := 5) (j := 7) (Ni := some 61) (Nj := some 63) #[true, true, true, true, true, true, true, false, false, false, false, false, false] #[true, true, true, true, true, false, true, true, false, false, false, false, false] rfl rfl rfl rfl (by kernel_rfl) (by decide) (by decide) (fun K hK => ?_) (fun K hK => ?_)
  · refine callP_ Tryd.func28 (by kernel_rfl) rfl #[ptr R, .int .i64 (wrap64 (d + 1))] (by rfl) rfl rfl (by (try simp only [List.map_toArray, List.map_cons, List.map_nil]); first | done | rfl) ?_
    refine (Calls.err_of (HVal.out b2 _ _ hb4 HE8.out HR2.out (HT8.out _ HO2.out)) rfl).mono ?_
    rintro e w3 ⟨rfl, ho⟩
    exact .inr ⟨_, rfl, rfl, SevEnds.no HX.out (HO8.out.trans (HO2.out.trans ho))⟩
  · refine value_ (w1 := ?_) (v := ?_) (by rfl) rfl ?_ ?_
    rotate_left 2
    · go_simp
      constructor
      · rfl
      · rfl
    have HO3 := Aside0.mk (HO2.out.alloc (Nat.le_of_lt HRW.out) (Obj.cells #[.int .i64 0, .string ⟨#[]⟩, .slice none 0 0, .slice none 0 0] 25))
    have HR3 := Aside0.mk (HR2.out.below (below_alloc (Below.refl _ _) (Obj.cells #[.int .i64 0, .string ⟨#[]⟩, .slice none 0 0, .slice none 0 0] 25)))
    have HS3 := Aside0.mk (HS.out.on HG.out HO3.out)
    refine hK.out _ _ ⟨(blk_cell HS3.out.v 3).trans rfl, (blk_cell HS3.out.r 0).trans rfl, (blk_cell HS3.out.dd 0).trans rfl⟩ (fun hHeld => ?_)
    clear hK K
    refine norm_ (a' := ?_) ?_ ?_
    rotate_left
    · show Act.put _ (some 63) _ = _
      simp only [Act.put, List.setIfInBounds_toArray, List.set_cons_zero, List.set_cons_succ, i64_w, i32_w]
      rfl
    refine one_ (i := 5) (N := some 61) #[true, true, true, true, true, true, true, true, false, false, false, false, false] rfl rfl (by kernel_rfl) (by decide) (fun K hK => ?_)
    refine callP_ Tryd.func28 (by kernel_rfl) rfl #[ptr R, .int .i64 (wrap64 (d + 1))] (by rfl) rfl rfl (by (try simp only [List.map_toArray, List.map_cons, List.map_nil]); first | done | rfl) ?_
    refine (Calls.err_of (HVal.out b2 _ _ hb4 HE8.out HR3.out (HT8.out _ HO3.out)) rfl).mono ?_
    rintro e w3 ⟨rfl, ho⟩
    exact .inr ⟨_, rfl, rfl, SevEnds.no HX.out (HO8.out.trans (HO3.out.trans ho))⟩
set_option maxRecDepth 1000000 in
set_option maxHeartbeats 4000000 in
theorem obj1_H (R : Nat) (s : ByteArray) (k r V PR PD PM M : Nat) (d p0 : Int) (W0 : World) (hl : s.size ≤ 10000000000) (hR0 : RdB R s p0 W0) (hT : Tabs W0) (hG : OGeo R W0.heap.size V PR PD PM M) (hVal : ValOK R s k r (wrap64 (d + 1)))
    (a : List ByteArray × List J) (q : Nat) (o : Out (List ByteArray × List J)) (W : World) (hq : q ≤ s.size) (h : Inv R s W0 (OI R W0.heap.size V PR PD PM M d) a q W) (h1 : s.data.toList[q]? = some 34) (nm : List UInt8) (q1' : Nat) (h2 : textF s.data.toList k [] (q + 1) = some (.val nm q1')) (hm : nm ∉ a.1.map (fun b => b.data.toList)) (h4 : s.data.toList[blanksF s.data.toList q1']? = some 58) (j : J) (q1 : Nat) (h5 : valueF s.data.toList k r (blanksF s.data.toList (blanksF s.data.toList q1' + 1)) = some (.val j q1)) (hqq : blanksF s.data.toList (blanksF s.data.toList q1' + 1) < q1) (h3 : o = .val (a.1 ++ [bs nm], a.2 ++ [j]) q1) :
    Calls Tryd.prog 69 #[.pointer (some ⟨PR, 0, none⟩), .pointer (some ⟨PM, 0, none⟩), .pointer (some ⟨V, 0, none⟩), .pointer (some ⟨PD, 0, none⟩)] W (SevEnds R s W0 (OI R W0.heap.size V PR PD PM M d) o) := by
  obtain ⟨hR, hO, hlq, hnq, sn, sv, hS⟩ := h
  obtain ⟨A, c, esv⟩ := Kd.R_slice hS.items
  subst esv
  have HT := Aside0.mk (fun (w : World) (ho : On R W0 w) => hT.on hR0 ho)
  have HR := Aside0.mk hR
  have HOW := Aside0.mk hO
  have HS := Aside0.mk hS
  have HG := Aside0.mk hG
  have HRB := Aside0.mk hR0.lt
  have HRW := Aside0.mk hR.lt
  have HVal := Aside0.mk hVal
  have r0 : W.cell? ⟨PR, 0, none⟩ = some (ptr R) := (blk_cell hS.r 0).trans rfl
  have c1 := hR.c1
  clear hR hO hS hR0 hT hVal hG
  have HC := Aside0.mk h1
  have hlt := at_lt' h1
  have hltb := at_lt' h4
  have e34 : (((34 : UInt8).toNat : Int) != 34) = false := by decide
  have e58 : (((58 : UInt8).toNat : Int) != 58) = false := by decide
  have HE := Aside0.mk h2
  have HC2 := Aside0.mk h4
  have ht1 := textF_val _ _ _ _ _ _ h2
  have ht2 := textF_len _ _ _ _ _ _ h2
  rw [size_data] at ht1
  rw [List.length_nil] at ht2
  have HK := Aside0.mk (key_bs nm (by unfold maxLen; omega))
  have hb1 := blanks_ge s.data.toList q1'
  have hb3 := blanks_ge s.data.toList (blanksF s.data.toList q1' + 1)
  have hb4 := blanks_le s.data.toList (blanksF s.data.toList q1' + 1) (by rw [size_data]; omega)
  rw [size_data] at hb4
  have HE8 := Aside0.mk h5
  have HX := Aside0.mk h3
  clear h1 h2 h4 h5 h3
  generalize hg2 : blanksF s.data.toList (blanksF s.data.toList q1' + 1) = b2 at *
  generalize hg1 : blanksF s.data.toList q1' = b1 at *
  have HG1 := Aside0.mk hg1
  have HG2 := Aside0.mk hg2
  clear hg1 hg2
  go_enter Tryd.func69, Tryd.ntmps69
  go_wp2_with (first | (go_at_call 39; (with_reducible refine (peek_ok R s q 34 HC.out _ ?rd1).mono ?_); (case rd1 => exact HR.out); rintro e w1 ⟨rfl, hb⟩; have HR1 := Aside0.mk (HR.out.drawn hb); have HO1 := Aside0.mk ((On.refl R W).drawn hb); have HS1 := Aside0.mk (HS.out.on HG.out HO1.out); have r1 : w1.cell? ⟨PR, 0, none⟩ = some (ptr R) := (blk_cell HS1.out.r 0).trans rfl; have d1 := HR1.out.c1; clear hb) | (go_at_call 42; (with_reducible refine (Calls.val_of (text_calls R s q k _ hl hlt _ ?rd2 ?tb2 HE.out) rfl).mono ?_); (case rd2 => exact HR1.out); (case tb2 => exact HT.out _ (HOW.out.trans HO1.out)); rintro e w2 ⟨v, rfl, hv, hr, ho⟩; subst hv; have HO2 := Aside0.mk (HO1.out.trans ho); have HR2 := Aside0.mk hr; have HS2 := Aside0.mk (HS.out.on HG.out HO2.out); have r2 : w2.cell? ⟨PR, 0, none⟩ = some (ptr R) := (blk_cell HS2.out.r 0).trans rfl; have m2 : w2.cell? ⟨PM, 0, none⟩ = some (.map (some M)) := (blk_cell HS2.out.pm 0).trans rfl; clear hr ho) | (at_lookup; obtain ⟨D, hD1, hD2, hD3⟩ := HS2.out.seen; refine wpList_lookup_own_int _ rfl _ _ 97 rfl 9 3 .i64 key9 Tryd.underlying97 Tryd.underlying3 (zero3 _) M a.1.length D rfl hD2 (.string (bs nm)) (.string nm) rfl HK.out ?_; intro cc hat hwc; rw [hD3 nm, if_neg hm] at hat; injection hat with hat; injection hat with _ hat; subst hat; have HD1 := Aside0.mk hD1; have HD2 := Aside0.mk hD2; have HD3 := Aside0.mk hD3; clear hD1 hD2 hD3 hwc) | (at_mapUpdate; refine wpList_mapUpdate_own _ rfl _ _ _ 97 rfl 9 3 key9 Tryd.underlying97 _ M a.1.length _ rfl HD2.out (by unfold maxLen; omega) _ _ _ rfl rfl HK.out _ [] (plainElem_int Tryd.underlying3 (by decide)) ?_; intro w3 hown3 hg3; have HS3 := Aside0.mk (HS2.out.mapped HD1.out HD3.out hown3 hg3); have HO3 := Aside0.mk ((HOW.out.trans HO2.out).grownRow hg3 (fun b hb => by injection hb with hb; have := HG.out.m; omega) (Nat.le_of_lt HRB.out)); have HR3 := Aside0.mk (show RdB R s q1' w3 from blk_grownM HR2.out HS2.out.seen hg3); have r3 : w3.cell? ⟨PR, 0, none⟩ = some (ptr R) := (blk_cell HS3.out.r 0).trans rfl; clear hown3 hg3) | (go_at_call 27; (with_reducible refine (blanks_calls R s q1' (by omega) (by omega) _ ?rd4).mono ?_); (case rd4 => exact HR3.out); rintro e w4 ⟨rfl, hr, ho⟩; rw [HG1.out] at hr; have HR4 := Aside0.mk hr; have HN4 := Aside0.mk ho; have HO4 := Aside0.mk (HO3.out.trans ho); have HS4 := Aside0.mk (HS3.out.on HG.out ho); have r4 : w4.cell? ⟨PR, 0, none⟩ = some (ptr R) := (blk_cell HS4.out.r 0).trans rfl; clear hr ho) | (go_at_call 39; (with_reducible refine (peek_ok R s b1 58 HC2.out _ ?rd5).mono ?_); (case rd5 => exact HR4.out); rintro e w5 ⟨rfl, hb⟩; have HR5 := Aside0.mk (HR4.out.drawn hb); have HN5 := Aside0.mk ((On.refl R w4).drawn hb); have HO5 := Aside0.mk (HO4.out.drawn hb); have HS5 := Aside0.mk (HS4.out.on HG.out HN5.out); have r5 : w5.cell? ⟨PR, 0, none⟩ = some (ptr R) := (blk_cell HS5.out.r 0).trans rfl; have d5 := HR5.out.c1; have f5 := HR5.out.f1; have r5' : (w5.setCell ⟨R, 1, none⟩ (.int .i64 ((b1 : Int) + 1))).cell? ⟨PR, 0, none⟩ = some (ptr R) := (blk_cell (HS5.out.on HG.out ((On.refl R w5).set 1 (.int .i64 ((b1 : Int) + 1)))).r 0).trans rfl; clear hb) | (go_at_call 27; (with_reducible refine (blanks_calls R s (b1 + 1) (by omega) (by omega) _ ?rd6).mono ?_); (case rd6 => exact HR5.out.set _); rintro e w6 ⟨rfl, hr, ho⟩; rw [HG2.out] at hr; have HR6 := Aside0.mk hr; have HO6 := Aside0.mk ((HO5.out.set 1 _).trans ho); have HS6 := Aside0.mk (HS5.out.on HG.out (((On.refl R w5).set 1 _).trans ho)); obtain ⟨An, cn, en⟩ := Kd.R_slice HS6.out.names; subst en; have v6 : w6.cell? ⟨V, 2, none⟩ = some (.slice An a.1.length cn) := (blk_cell HS6.out.v 2).trans rfl; clear hr ho) | (at_builtin; refine Kd.R_append Kd.string (w0 := w6) W0.heap.size rfl (.tmp 51) (.tmp 53) 22 9 (.string ⟨#[]⟩) 16 rfl Tryd.underlying22 info9 rfl (by decide) (by decide) _ a.1 (bs nm) [.string (bs nm)] (fun k => k ≠ V) (fun _ => False) rfl rfl rfl (fun _ h => h.elim) ?fr7 HS6.out.names ?bl7 ?bs7 (by omega) ?_; (case fr7 => intro k hk; have := lt_of_block HS6.out.v; omega); (case bl7 => exact Below.refl _ _); (case bs7 => exact HO6.out.size); intro v1 w7 hn7 _ hg7 hat7; obtain ⟨A7, c7, e7⟩ := Kd.R_slice hn7; rw [List.length_append, List.length_singleton] at e7; subst e7; have HS7 := Aside0.mk (HS6.out.named hn7 hg7 hat7); have HO7 := Aside0.mk (HO6.out.grownRow hg7 (fun b hb => Kd.R_base HS6.out.names b hb) (Nat.le_of_lt HRB.out)); have HR7 := Aside0.mk (show RdB R s b2 w7 from (hg7.block R HR6.out.lt (fun hh => by have := Kd.R_base HS6.out.names R hh.symm; have := HRB.out; omega)).trans HR6.out); have HV7 := Aside0.mk (blk_grown (o := .cells #[.int .i64 6, .string ⟨#[]⟩, .slice An a.1.length cn, (.slice A a.2.length c)] 25 (0, 0)) HS6.out.v hg7 (Kd.R_away HS6.out.names (fun _ hk => hk))); have v7 : w7.cell? ⟨V, 2, none⟩ = some (.slice An a.1.length cn) := (blk_cell HV7.out 2).trans rfl; have x7 := blk_free HV7.out 2; clear hn7 hg7 hat7))
  have HR8 := Aside0.mk (show RdB R s b2 (w7.setCell ⟨V, 2, none⟩ (.slice A7 (a.1.length + 1) c7)) from (Below.heap_setCell _ _ _ _ (by show R ≠ V; have := HRB.out; have := HG.out.v; omega)).trans HR7.out)
  have HO8 := Aside0.mk (HO7.out.new V 2 (.slice A7 (a.1.length + 1) c7) HG.out.v (Nat.le_of_lt HRB.out))
  clear r0 c1 r1 d1 r2 m2 r3 r4 r5 d5 f5 r5' v6 v7 x7 HR HOW HS HRW
  have HS := HS7
  clear HS7 HR1 HO1 HS1 HO2 HR2 HS2 HD1 HD2 HD3 HS3 HO3 HR3 HR4 HN4 HO4 HS4 HR5 HN5 HO5 HS5 HR6 HO6 HS6 HO7 HR7 HV7 HC HC2 HK HE HG1 HG2 e34 e58
  generalize w7.setCell ⟨V, 2, none⟩ (.slice A7 (a.1.length + 1) c7) = w8 at HS HR8 HO8 ⊢
  have HRW := Aside0.mk HR8.out.lt
  have HT8 := Aside0.mk (fun (w : World) (ho : On R w8 w) => HT.out _ (HO8.out.trans ho))
  refine start_ (n := 13) (S := fun w' => w'.cell? ⟨V, 3, none⟩ = some (.slice A a.2.length c) ∧ w'.cell? ⟨PR, 0, none⟩ = some (ptr R) ∧ w'.cell? ⟨PD, 0, none⟩ = some (.int .i64 d)) (ds := [10, 12]) #[false, false, false, false, false, false, false, false, false, false, false, false, false] (by kernel_rfl) rfl rfl ⟨(blk_cell HS.out.v 3).trans rfl, (blk_cell HS.out.r 0).trans rfl, (blk_cell HS.out.dd 0).trans rfl⟩ (fun hHeld => ?_)
  have HR2 := Aside0.mk (show RdB R s b2 w8.drew from HR8.out.drew)
  have HO2 := Aside0.mk (show On R w8 w8.drew from (On.refl R w8).drewN 1)
  generalize w8.drew = w2 at HR2 HO2 hHeld ⊢
  have HS2 := Aside0.mk (HS.out.on HG.out HO2.out)
  refine pure_ (i := 0) (N := some 56) (v := ?_) (a' := ?_) #[true, false, false, false, false, false, false, false, false, false, false, false, false] rfl rfl (by kernel_rfl) (fun _ _ _ h => h) (Or.inl ⟨by rfl, ?_⟩) ?_ ?_
  rotate_left
  · intro w'
    go_simp
    with_reducible rfl
  rotate_left
  · simp only [Act.put, List.setIfInBounds_toArray, List.set_cons_zero, List.set_cons_succ, i64_w, i32_w]
    rfl
  refine take_ (i := 1) (N := some 57) (v := ?_) (a' := ?_) #[true, true, false, false, false, false, false, false, false, false, false, false, false] rfl rfl (by kernel_rfl) (fun _ _ _ h => h) (Or.inl ⟨by rfl, ?_⟩) hHeld ?_ ?_
  rotate_left
  · rintro w' ⟨s0, s1, s2⟩
    go_simp
    with_reducible rfl
  rotate_left
  · simp only [Act.put, List.setIfInBounds_toArray, List.set_cons_zero, List.set_cons_succ, i64_w, i32_w]
    rfl
  refine take_ (i := 2) (N := some 58) (v := ?_) (a' := ?_) #[true, true, true, false, false, false, false, false, false, false, false, false, false] rfl rfl (by kernel_rfl) (fun _ _ _ h => h) (Or.inl ⟨by rfl, ?_⟩) hHeld ?_ ?_
  rotate_left
  · rintro w' ⟨s0, s1, s2⟩
    go_simp
    with_reducible rfl
  rotate_left
  · simp only [Act.put, List.setIfInBounds_toArray, List.set_cons_zero, List.set_cons_succ, i64_w, i32_w]
    rfl
  refine take_ (i := 3) (N := some 59) (v := ?_) (a' := ?_) #[true, true, true, true, false, false, false, false, false, false, false, false, false] rfl rfl (by kernel_rfl) (fun _ _ _ h => h) (Or.inl ⟨by rfl, ?_⟩) hHeld ?_ ?_
  rotate_left
  · rintro w' ⟨s0, s1, s2⟩
    go_simp
    with_reducible rfl
  rotate_left
  · simp only [Act.put, List.setIfInBounds_toArray, List.set_cons_zero, List.set_cons_succ, i64_w, i32_w]
    rfl
  refine pure_ (i := 4) (N := some 60) (v := ?_) (a' := ?_) #[true, true, true, true, true, false, false, false, false, false, false, false, false] rfl rfl (by kernel_rfl) (fun _ _ _ h => h) (Or.inl ⟨by rfl, ?_⟩) ?_ ?_
  rotate_left
  · intro w'
    go_simp
    with_reducible rfl
  rotate_left
  · simp only [Act.put, List.setIfInBounds_toArray, List.set_cons_zero, List.set_cons_succ, i64_w, i32_w]
    rfl
  refine pure_ (i := 6) (N := some 62) (v := ?_) (a' := ?_) #[true, true, true, true, true, false, true, false, false, false, false, false, false] rfl rfl (by kernel_rfl) (fun _ _ _ h => h) (Or.inl ⟨by rfl, ?_⟩) ?_ ?_
  rotate_left
  · intro w'
    go_simp
    with_reducible rfl
  rotate_left
  · simp only [Act.put, List.setIfInBounds_toArray, List.set_cons_zero, List.set_cons_succ, i64_w, i32_w]
    rfl
  refine join_ (σ := Value × Value × Nat) 5 #[true, true, true, true, true, true, true, true, false, false, false, false, false] (fun s_ => [(61, .agg #[.int .i64 j.f0, .string j.f1, s_.1, s_.2.1]), (63, .slice (some ⟨s_.2.2, 0, none⟩) 1 1)]) (fun s_ w' => RdB R s q1 w' ∧ On R w8 w' ∧ k25.M w' W0.heap.size (fun b => w8.heap.size ≤ b) j [.int .i64 j.f0, .string j.f1, s_.1, s_.2.1] ∧ w'.heap[s_.2.2]? = some (.cells #[.int .i64 0, .string ⟨#[]⟩, .slice none 0 0, .slice none 0 0] 25 (0, 0))) ?_ ?_
  rotate_left
  · intro hCont
    refine two_ (i := 5) (j := 7) (Ni := some 61) (Nj := some 63) #[true, true, true, true, true, true, true, false, false, false, false, false, false] #[true, true, true, true, true, false, true, true, false, false, false, false, false] rfl rfl rfl rfl (by kernel_rfl) (by decide) (by decide) (fun K hK => ?_) (fun K hK => ?_)
    · refine callP_ Tryd.func28 (by kernel_rfl) rfl #[ptr R, .int .i64 (wrap64 (d + 1))] (by rfl) rfl rfl (by (try simp only [List.map_toArray, List.map_cons, List.map_nil]); first | done | rfl) ?_
      refine (Calls.val_of (HVal.out b2 _ _ hb4 HE8.out HR2.out (HT8.out _ HO2.out)) rfl).mono ?_
      rintro e w3 ⟨v, rfl, ⟨v2, v3, rfl, g2, g3⟩, hr, ho⟩
      refine .inl ⟨_, rfl, ?_⟩
      have HO3 := Aside0.mk (HO2.out.trans ho)
      have HR3 := Aside0.mk hr
      have HM3 := Aside0.mk (jV_M (B' := W0.heap.size) (N := w8.heap.size) g2 g3 (Nat.le_trans HO8.out.size HO2.out.size) HO2.out.size)
      have HS3 := Aside0.mk (HS.out.on HG.out HO3.out)
      clear hr ho g2 g3
      refine hK.out _ _ ⟨(blk_cell HS3.out.v 3).trans rfl, (blk_cell HS3.out.r 0).trans rfl, (blk_cell HS3.out.dd 0).trans rfl⟩ (fun hHeld => ?_)
      clear hK K
      refine norm_ (a' := ?_) ?_ ?_
      rotate_left
      · show Act.put _ (some 61) _ = _
        simp only [Act.put, List.setIfInBounds_toArray, List.set_cons_zero, List.set_cons_succ, i64_w, i32_w]
        rfl
      refine one_ (i := 7) (N := some 63) #[true, true, true, true, true, true, true, true, false, false, false, false, false] rfl rfl (by kernel_rfl) (by decide) (fun K hK => ?_)
      refine value_ (w1 := ?_) (v := ?_) (by rfl) rfl ?_ ?_
      rotate_left 2
      · go_simp
        constructor
        · rfl
        · rfl
      have HO4 := Aside0.mk (HO3.out.alloc (Nat.le_of_lt HRW.out) (Obj.cells #[.int .i64 0, .string ⟨#[]⟩, .slice none 0 0, .slice none 0 0] 25))
      have HR4 := Aside0.mk (HR3.out.below (below_alloc (Below.refl _ _) (Obj.cells #[.int .i64 0, .string ⟨#[]⟩, .slice none 0 0, .slice none 0 0] 25)))
      have HM4 := Aside0.mk (Kd.M_below HM3.out (below_alloc (Below.refl _ _) (Obj.cells #[.int .i64 0, .string ⟨#[]⟩, .slice none 0 0, .slice none 0 0] 25)))
      have HS4 := Aside0.mk (HS.out.on HG.out HO4.out)
      refine hK.out _ _ ⟨(blk_cell HS4.out.v 3).trans rfl, (blk_cell HS4.out.r 0).trans rfl, (blk_cell HS4.out.dd 0).trans rfl⟩ (fun hHeld => ?_)
      clear hK K
      refine norm_ (a' := ?_) ?_ ?_
      rotate_left
      · show Act.put _ (some 63) _ = _
        simp only [Act.put, List.setIfInBounds_toArray, List.set_cons_zero, List.set_cons_succ, i64_w, i32_w]
        rfl
      exact norm_ (by simp only [putAll, Act.put, List.setIfInBounds_toArray, List.set_cons_zero, List.set_cons_succ]) (hCont (v2, v3, w3.heap.size) _ ⟨HR4.out, HO4.out, HM4.out, heap_alloc_new _ _⟩)
    · refine value_ (w1 := ?_) (v := ?_) (by rfl) rfl ?_ ?_
      rotate_left 2
      · go_simp
        constructor
        · rfl
        · rfl
      have HO3 := Aside0.mk (HO2.out.alloc (Nat.le_of_lt HRW.out) (Obj.cells #[.int .i64 0, .string ⟨#[]⟩, .slice none 0 0, .slice none 0 0] 25))
      have HR3 := Aside0.mk (HR2.out.below (below_alloc (Below.refl _ _) (Obj.cells #[.int .i64 0, .string ⟨#[]⟩, .slice none 0 0, .slice none 0 0] 25)))
      have HG3 := Aside0.mk (heap_alloc_new w2 (Obj.cells #[.int .i64 0, .string ⟨#[]⟩, .slice none 0 0, .slice none 0 0] 25))
      have HS3 := Aside0.mk (HS.out.on HG.out HO3.out)
      refine hK.out _ _ ⟨(blk_cell HS3.out.v 3).trans rfl, (blk_cell HS3.out.r 0).trans rfl, (blk_cell HS3.out.dd 0).trans rfl⟩ (fun hHeld => ?_)
      clear hK K
      refine norm_ (a' := ?_) ?_ ?_
      rotate_left
      · show Act.put _ (some 63) _ = _
        simp only [Act.put, List.setIfInBounds_toArray, List.set_cons_zero, List.set_cons_succ, i64_w, i32_w]
        rfl
      refine one_ (i := 5) (N := some 61) #[true, true, true, true, true, true, true, true, false, false, false, false, false] rfl rfl (by kernel_rfl) (by decide) (fun K hK => ?_)
      refine callP_ Tryd.func28 (by kernel_rfl) rfl #[ptr R, .int .i64 (wrap64 (d + 1))] (by rfl) rfl rfl (by (try simp only [List.map_toArray, List.map_cons, List.map_nil]); first | done | rfl) ?_
      refine (Calls.val_of (HVal.out b2 _ _ hb4 HE8.out HR3.out (HT8.out _ HO3.out)) rfl).mono ?_
      rintro e w4 ⟨v, rfl, ⟨v2, v3, rfl, g2, g3⟩, hr, ho⟩
      refine .inl ⟨_, rfl, ?_⟩
      have HO4 := Aside0.mk (HO3.out.trans ho)
      have HR4 := Aside0.mk hr
      have HM4 := Aside0.mk (jV_M (B' := W0.heap.size) (N := w8.heap.size) g2 g3 (Nat.le_trans HO8.out.size HO3.out.size) HO3.out.size)
      have HS4 := Aside0.mk (HS.out.on HG.out HO4.out)
      have HG4 := Aside0.mk (blk_on HG3.out (by have := HO2.out.size; have := HRW.out; omega) ho)
      clear hr ho g2 g3
      refine hK.out _ _ ⟨(blk_cell HS4.out.v 3).trans rfl, (blk_cell HS4.out.r 0).trans rfl, (blk_cell HS4.out.dd 0).trans rfl⟩ (fun hHeld => ?_)
      clear hK K
      refine norm_ (a' := ?_) ?_ ?_
      rotate_left
      · show Act.put _ (some 61) _ = _
        simp only [Act.put, List.setIfInBounds_toArray, List.set_cons_zero, List.set_cons_succ, i64_w, i32_w]
        rfl
      exact norm_ (by simp only [putAll, Act.put, List.setIfInBounds_toArray, List.set_cons_zero, List.set_cons_succ]) (hCont (v2, v3, w2.heap.size) _ ⟨HR4.out, HO4.out, HM4.out, HG4.out⟩)
  · rintro ⟨v2, v3, g⟩ w5 ⟨hR5, hO5, hM5, hG5⟩
    dsimp only at hM5 hG5
    obtain ⟨A2, c2, A3, c3, e2, e3⟩ := M_slices hM5
    subst e2 e3
    simp only [putAll, Act.put, List.setIfInBounds_toArray, List.set_cons_zero, List.set_cons_succ]
    have HR5 := Aside0.mk hR5
    have HO5 := Aside0.mk hO5
    have HM5 := Aside0.mk hM5
    have HG5 := Aside0.mk hG5
    have HS5 := Aside0.mk (HS.out.on HG.out hO5)
    clear hR5 hO5 hM5 hG5 HR2 HO2 HS2 hHeld
    have hI5 := HS5.out.items
    obtain ⟨inner, hown, hrep⟩ := hI5.2
    have HIN := Aside0.mk (show w5.ownsRow W0.heap.size 25 4 (.slice A a.2.length c) a.2.length inner from hown)
    have HRP := Aside0.mk hrep
    have hil : inner.length = a.2.length * 4 := hrep.1
    have HI5 := Aside0.mk hI5
    clear hown hrep hI5
    refine one_ (i := 8) (N := some 64) #[true, true, true, true, true, true, true, true, true, false, false, false, false] rfl rfl (by kernel_rfl) (by decide) (fun K hK => ?_)
    refine app0_step (B := W0.heap.size) rfl (.tmp 57) (.tmp 63) 23 25 (.agg #[(.int .i64 0), (.string ⟨#[]⟩), (.slice none 0 0), (.slice none 0 0)]) 4 72 rfl Tryd.underlying23 info25 rfl (by decide) (by decide) (.slice A a.2.length c) a.2.length inner [.int .i64 0, .string ⟨#[]⟩, .slice none 0 0, .slice none 0 0] g rfl rfl rfl (by intro u hu; simp only [List.mem_cons, List.not_mem_nil, or_false] at hu; rcases hu with rfl | rfl | rfl | rfl <;> rfl) HG5.out HIN.out (Nat.le_trans HO8.out.size HO5.out.size) (by omega) ?_
    intro v1 w6 hown1 hg hat
    obtain ⟨g1, c1, e1⟩ := own_form hown1 (by omega)
    subst e1
    have HON := Aside0.mk hown1
    have HAT := Aside0.mk hat
    have HGR := Aside0.mk hg
    have HV6 := Aside0.mk (blk_grown (o := .cells #[.int .i64 6, .string ⟨#[]⟩, .slice A7 (a.1.length + 1) c7, .slice A a.2.length c] 25 (0, 0)) HS5.out.v hg (Kd.R_away HI5.out (fun _ hk => hk.1)))
    have HP6 := Aside0.mk (blk_grown (o := .cells #[ptr R] 47 (0, 0)) HS5.out.r hg (Kd.R_ne HI5.out HS5.out.r (by decide)))
    have HD6 := Aside0.mk (blk_grown (o := .cells #[.int .i64 d] 3 (0, 0)) HS5.out.dd hg (Kd.R_ne HI5.out HS5.out.dd (by decide)))
    have HM6 := Aside0.mk (blk_grown (o := .cells #[.map (some M)] 97 (0, 0)) HS5.out.pm hg (Kd.R_ne HI5.out HS5.out.pm (by decide)))
    have HSE6 := Aside0.mk (HS5.out.seen.move (hg.block M HS5.out.seen.lt (seen_row HI5.out HS5.out.seen)))
    have HN6 := Aside0.mk (Kd.R_over' HS5.out.names (Kd.R_typed HI5.out) (by decide) hg)
    have HO6 := Aside0.mk (HO8.out.trans HO5.out |>.grownRow hg (fun b hb => Kd.R_base HI5.out b hb) (Nat.le_of_lt HRB.out))
    have HR6 := Aside0.mk (show RdB R s q1 w6 from (hg.block R HR5.out.lt (fun hh => by have := Kd.R_base HI5.out R hh.symm; have := HRB.out; omega)).trans HR5.out)
    have hV1 : g1 ≠ V := by
      intro hgv
      rcases HAT.out with ha | ha
      · exact Kd.R_away HI5.out (fun _ hk => hk.1) (hgv ▸ ha)
      · have ha : some g1 = some w5.heap.size := ha
        injection ha with ha
        have := lt_of_block HS5.out.v
        omega
    have hgR : g1 ≠ R := by
      have h1 := own_base hown1 g1 rfl
      have := HRB.out
      omega
    have z0 : w6.cell? ⟨g1, a.2.length * 4, none⟩ = some (.int .i64 0) := (hown1.cellAt (a.2.length * 4) (by omega)).trans (getz inner a.2.length hil 0 (by omega))
    have z1 : w6.cell? ⟨g1, a.2.length * 4 + 1, none⟩ = some (.string ⟨#[]⟩) := (hown1.cellAt (a.2.length * 4 + 1) (by omega)).trans (getz inner a.2.length hil 1 (by omega))
    have z2 : w6.cell? ⟨g1, a.2.length * 4 + 2, none⟩ = some (.slice none 0 0) := (hown1.cellAt (a.2.length * 4 + 2) (by omega)).trans (getz inner a.2.length hil 2 (by omega))
    have z3 : w6.cell? ⟨g1, a.2.length * 4 + 3, none⟩ = some (.slice none 0 0) := (hown1.cellAt (a.2.length * 4 + 3) (by omega)).trans (getz inner a.2.length hil 3 (by omega))
    have y0 := hown1.frozenAt (a.2.length * 4)
    have y1 := hown1.frozenAt (a.2.length * 4 + 1)
    have y2 := hown1.frozenAt (a.2.length * 4 + 2)
    have y3 := hown1.frozenAt (a.2.length * 4 + 3)
    have x3 : w6.cell? ⟨V, 3, none⟩ = some (.slice A a.2.length c) := (blk_cell HV6.out 3).trans rfl
    have hV2 : V ≠ g1 := Ne.symm hV1
    have xf := blk_free HV6.out 3
    clear hown1 hg hat
    refine hK.out _ _ ⟨(blk_cell HV6.out 3).trans rfl, (blk_cell HP6.out 0).trans rfl, (blk_cell HD6.out 0).trans rfl⟩ (fun hHeld => ?_)
    clear hK K
    refine norm_ (a' := ?_) ?_ ?_
    rotate_left
    · show Act.put _ (some 64) _ = _
      simp only [Act.put, List.setIfInBounds_toArray, List.set_cons_zero, List.set_cons_succ, i64_w, i32_w]
      rfl
    have b0 : (0 : Int) ≤ (a.2.length : Int) := by omega
    have b1 : (a.2.length : Int) < ((a.2.length + 1 : Nat) : Int) := by omega
    have b2 : (a.2.length : Int) < (a.2.length : Int) + 1 := by omega
    refine pure_ (i := 9) (N := some 65) (v := ?_) (a' := ?_) #[true, true, true, true, true, true, true, true, true, true, false, false, false] rfl rfl (by kernel_rfl) (fun _ _ _ h => h) (Or.inl ⟨by rfl, ?_⟩) ?_ ?_
    rotate_left
    · intro w'
      go_simp
      with_reducible rfl
    rotate_left
    · simp only [Act.put, List.setIfInBounds_toArray, List.set_cons_zero, List.set_cons_succ, i64_w, i32_w]
      rfl
    refine pure_ (i := 11) (N := some 66) (v := ?_) (a' := ?_) #[true, true, true, true, true, true, true, true, true, true, false, true, false] rfl rfl (by kernel_rfl) (fun _ _ _ h => h) (Or.inl ⟨by rfl, ?_⟩) ?_ ?_
    rotate_left
    · intro w'
      go_simp
      with_reducible rfl
    rotate_left
    · simp only [Act.put, List.setIfInBounds_toArray, List.set_cons_zero, List.set_cons_succ, i64_w, i32_w]
      rfl
    have FIN := Aside0.mk (items_fin (j := j) (ok := fun k => k ≠ V ∧ some k ≠ Value.ownBlock (.slice A7 (a.1.length + 1) c7)) (fun _ hk => hk.1) rfl HRB.out HG.out.v (lt_of_block HS.out.v) HS.out.items (fun k hk => ⟨by have := lt_of_block HS.out.v; omega, fun hh => by have := Kd.R_lt HS.out.names k hh.symm; omega⟩) HO5.out HRP.out hil HI5.out.1 HM5.out HON.out HGR.out HAT.out HV6.out HO6.out HR6.out hV1)
    refine twoL_ (i := 10) (j := 12) (Ni := none) (Nj := none) #[true, true, true, true, true, true, true, true, true, true, true, true, false] #[true, true, true, true, true, true, true, true, true, true, false, true, true] rfl rfl rfl rfl (by kernel_rfl) (by decide) (by decide) (fun K hK => ?_) (fun K hK => ?_)
    · refine skip_ (w1 := ?_) (by rfl) rfl ?_ ?_
      rotate_left
      · go_simp
        rfl
      refine hK.out _ _ ?_
      clear hK K
      refine last_ (i := 12) (N := none) #[true, true, true, true, true, true, true, true, true, true, true, true, true] rfl rfl (by kernel_rfl) (by decide) (fun K hK => ?_)
      refine skip_ (w1 := ?_) (by rfl) rfl ?_ ?_
      rotate_left
      · go_simp
        rfl
      refine hK.out _ _ ?_
      clear hK K
      refine done_ (by kernel_rfl) ?_
      try go_wp2
      go_end0
      exact SevEnds.ok HX.out (OI_final (a := (a.1 ++ [bs nm], a.2)) HON.out HV6.out HP6.out HD6.out HM6.out HSE6.out HN6.out (by show a.2.length + 1 ≤ q1; omega) (by show (a.1 ++ [bs nm]).length ≤ q1; rw [List.length_append, List.length_singleton]; omega) FIN.out)
    · refine skip_ (w1 := ?_) (by rfl) rfl ?_ ?_
      rotate_left
      · go_simp
        rfl
      refine hK.out _ _ ?_
      clear hK K
      refine last_ (i := 10) (N := none) #[true, true, true, true, true, true, true, true, true, true, true, true, true] rfl rfl (by kernel_rfl) (by decide) (fun K hK => ?_)
      refine skip_ (w1 := ?_) (by rfl) rfl ?_ ?_
      rotate_left
      · go_simp
        rfl
      refine hK.out _ _ ?_
      clear hK K
      refine done_ (by kernel_rfl) ?_
      try go_wp2
      go_end0
      have hcm := set4W_comm w6 V g1 a.2.length (.slice (some ⟨g1, 0, none⟩) (a.2.length + 1) c1) (.int .i64 j.f0) (.string j.f1) (.slice A2 j.f2.length c2) (.slice A3 j.f3.length c3) hV1
      have hfin := OI_final (a := (a.1 ++ [bs nm], a.2)) HON.out HV6.out HP6.out HD6.out HM6.out HSE6.out HN6.out (by show a.2.length + 1 ≤ q1; omega) (by show (a.1 ++ [bs nm]).length ≤ q1; rw [List.length_append, List.length_singleton]; omega) FIN.out
      rw [← hcm] at hfin
      exact SevEnds.ok HX.out hfin
theorem obj1_calls (R : Nat) (s : ByteArray) (k r V PR PD PM M : Nat) (d p0 : Int) (W0 : World) (hl : s.size ≤ 10000000000) (hR0 : RdB R s p0 W0) (hT : Tabs W0) (hG : OGeo R W0.heap.size V PR PD PM M) (hVal : ValOK R s k r (wrap64 (d + 1)))
    (a : List ByteArray × List J) (q : Nat) (o : Out (List ByteArray × List J)) (W : World) (hq : q ≤ s.size) (hF : oneM (valueF s.data.toList k r) s.data.toList k a q = some o) (h : Inv R s W0 (OI R W0.heap.size V PR PD PM M d) a q W) :
    Calls Tryd.prog 69 #[.pointer (some ⟨PR, 0, none⟩), .pointer (some ⟨PM, 0, none⟩), .pointer (some ⟨V, 0, none⟩), .pointer (some ⟨PD, 0, none⟩)] W (SevEnds R s W0 (OI R W0.heap.size V PR PD PM M d) o) := by
  rcases oneM_item _ _ _ _ _ _ hF with ⟨h1, h2⟩ | ⟨c, h1, h34, h2⟩ | ⟨h1, ⟨e, p, h2, h3⟩ | ⟨nm, q1, h2, ⟨hm, h3⟩ | ⟨hm, ⟨h4, h3⟩ | ⟨c, h4, h58, h3⟩ | ⟨h4, ⟨e, p, h5, h3⟩ | ⟨x, q2, h5, h3⟩⟩⟩⟩⟩
  · exact obj1_A R s k r V PR PD PM M d p0 W0 hl hR0 hT hG hVal a q o W hq h h1 h2
  · exact obj1_B R s k r V PR PD PM M d p0 W0 hl hR0 hT hG hVal a q o W hq h c h1 h34 h2
  · exact obj1_C R s k r V PR PD PM M d p0 W0 hl hR0 hT hG hVal a q o W hq h h1 e p h2 h3
  · exact obj1_D R s k r V PR PD PM M d p0 W0 hl hR0 hT hG hVal a q o W hq h h1 nm q1 h2 hm h3
  · exact obj1_E R s k r V PR PD PM M d p0 W0 hl hR0 hT hG hVal a q o W hq h h1 nm q1 h2 hm h4 h3
  · exact obj1_F R s k r V PR PD PM M d p0 W0 hl hR0 hT hG hVal a q o W hq h h1 nm q1 h2 hm c h4 h58 h3
  · exact obj1_G R s k r V PR PD PM M d p0 W0 hl hR0 hT hG hVal a q o W hq h h1 nm q1 h2 hm h4 e p h5 h3
  · refine obj1_H R s k r V PR PD PM M d p0 W0 hl hR0 hT hG hVal a q o W hq h h1 nm q1 h2 hm h4 x q2 h5 (valueF_val _ _ _ _ _ _ ?_ h5).1 h3
    have := (List.getElem?_eq_some_iff.1 h4).1
    exact blanks_le _ _ (by omega)
end Go.Proofs.YtaalajhmfdcalaaDoor.X
namespace Go.Proofs.YtaalajhmfdcalaaDoor.X
open Go.RowKit Go.Lib Go.Proofs.YtaalajhmfdcalaaDoorW.PrintWords Go.Proofs.YtaalajhmfdcalaaDoorW.PrintLast Go.Proofs.YtaalajhmfdcalaaDoorW.PrintMore
abbrev oV : Obj := Obj.cells #[.int .i64 6, .string ⟨#[]⟩, .slice none 0 0, .slice none 0 0] 25
abbrev oW (W0 : World) (n : Nat) : World := ((W0.alloc oV).alloc (.map #[] 0)).alloc (Obj.cells #[.map (some n)] 97)
def objEnd (R : Nat) (s : ByteArray) (W : World) (o : Out (List ByteArray × List J)) (x : Ending) (W' : World) : Prop :=
  On R W W' ∧ match o with
    | .val a q => x = .returned (.tuple #[]) ∧ RdB R s q W' ∧ ∃ sn sv, W'.heap[W.heap.size + 1 + 1 + 1]? = some (.cells #[.int .i64 6, .string ⟨#[]⟩, sn, sv] 25 (0, 0)) ∧ Kd.string.R 9 W' W.heap.size (fun k => k ≠ W.heap.size + 1 + 1) sn a.1 ∧ k25.R 25 W' W.heap.size (fun k => some k ≠ sn.ownBlock ∧ k ≠ W.heap.size + 1 + 1) sv a.2 ∧
        W'.heap[W.heap.size + 1 + 1]? = some (.cells #[.int .i64 0, .string ⟨#[]⟩, .slice none 0 0, .slice none 0 0] 25 (0, 0))
    | .err e q => x = pan e q
theorem OI_hI {R V PR PD PM M : Nat} {d : Int} {W0 : World} (g : OGeo R W0.heap.size V PR PD PM M) : ∀ a q q' W W', q ≤ q' → OI R W0.heap.size V PR PD PM M d a q W → On R W W' → OI R W0.heap.size V PR PD PM M d a q' W' :=
  fun _ _ _ _ _ hq h hO => OI.on hq h g hO
theorem obj_sev (R : Nat) (s : ByteArray) (k r : Nat) (d : Int) (p : Nat) (W : World) (hl : s.size ≤ 10000000000) (h : RdB R s p W) (hT : Tabs W) (hp : p < s.size) (hVal : ValOK R s k r (wrap64 (d + 1)))
    (o : Out (List ByteArray × List J)) (hF : sevF (oneM (valueF s.data.toList k r) s.data.toList k) s.data.toList 125 k ([], []) p = some o) :
    Calls Tryd.prog 67 #[ptr R, .int .u8 125, .func (.func 69) #[] #[.pointer (some ⟨W.heap.size, 0, none⟩), .pointer (some ⟨W.heap.size + 1 + 1 + 1 + 1 + 1, 0, none⟩), .pointer (some ⟨W.heap.size + 1 + 1 + 1, 0, none⟩), .pointer (some ⟨W.heap.size + 1, 0, none⟩)]]
      (oW (lW0 R d W) (W.heap.size + 1 + 1 + 1 + 1)) (objEnd R s W o) := by
  have hR := h.lt
  have hb0 := lW0_below R d W
  have hs0 := lW0_size R d W
  obtain ⟨b1, b2, b3⟩ := lW0_boxes R d W
  have hO0 : On R W (lW0 R d W) := On.of_below (Nat.le_of_lt hR) hb0
  have hR0 : RdB R s p (lW0 R d W) := h.below hb0
  have hT0 : Tabs (lW0 R d W) := hT.on h hO0
  generalize hW0 : lW0 R d W = W0 at *
  have hb1 : Below W0.heap.size W0 (oW W0 (W.heap.size + 1 + 1 + 1 + 1)) := below_alloc (below_alloc (below_alloc (Below.refl _ _) _) _) _
  have hO1 : On R W0 (oW W0 (W.heap.size + 1 + 1 + 1 + 1)) := On.of_below (by omega) hb1
  have hV := heap_alloc_new W0 oV
  have e1 : (W0.alloc oV).heap.size = W.heap.size + 1 + 1 + 1 + 1 := by simp [hs0]
  have e2 : ((W0.alloc oV).alloc (.map #[] 0)).heap.size = W.heap.size + 1 + 1 + 1 + 1 + 1 := by simp [hs0]
  have hM := Seen.made (W0.alloc oV)
  have hPM := heap_alloc_new ((W0.alloc oV).alloc (.map #[] 0)) (Obj.cells #[.map (some (W.heap.size + 1 + 1 + 1 + 1))] 97)
  rw [hs0] at hV
  rw [e1] at hM
  rw [e2] at hPM
  have hMlt := hM.lt
  have hG : OGeo R W0.heap.size (W.heap.size + 1 + 1 + 1) W.heap.size (W.heap.size + 1) (W.heap.size + 1 + 1 + 1 + 1 + 1) (W.heap.size + 1 + 1 + 1 + 1) := ⟨by omega, by omega, by omega, by omega, by omega, by omega⟩
  have key := sevObj_calls R s 125 (oneM (valueF s.data.toList k r) s.data.toList k) (OI R W0.heap.size (W.heap.size + 1 + 1 + 1) W.heap.size (W.heap.size + 1) (W.heap.size + 1 + 1 + 1 + 1 + 1) (W.heap.size + 1 + 1 + 1 + 1) d) W0 (.pointer (some ⟨W.heap.size, 0, none⟩)) (.pointer (some ⟨W.heap.size + 1 + 1 + 1 + 1 + 1, 0, none⟩)) (.pointer (some ⟨W.heap.size + 1 + 1 + 1, 0, none⟩)) (.pointer (some ⟨W.heap.size + 1, 0, none⟩)) hl
    (OI_hI hG)
    (fun a q a' q' hq h1 => by
      have := oneM_val s.data.toList k _ (fun q j q' hq hv => valueF_val _ _ _ _ _ _ hq hv) a q a' q' (by rw [size_data]; exact hq) h1
      rw [size_data] at this
      exact this.2)
    (fun a q o W hq h1 h2 => obj1_calls R s k r _ _ _ _ _ d p W0 hl hR0 hT0 hG hVal a q o W hq h1 h2)
    k ([], []) p o hp _ ⟨hR0.below hb1, hO1, Nat.zero_le _, Nat.zero_le _, _, _, ⟨Below.alloc_at (Below.alloc_at hV), Below.alloc_at (Below.alloc_at (Below.alloc_at b1)), Below.alloc_at (Below.alloc_at (Below.alloc_at b2)), hPM, hM.move ((below_alloc (Below.refl _ _) _).block _ hMlt), Kd.R_nil _ _ _ _ _, Kd.R_nil _ _ _ _ _⟩⟩ hF
  refine key.mono fun x W' hh => ?_
  cases o with
  | val a q =>
    obtain ⟨hx, h1, h2, _, _, sn, sv, h3⟩ := hh
    refine ⟨hO0.trans h2, hx, h1, sn, sv, h3.v, Kd.R_lower (Kd.R_mono (Kd.R_bound h3.names) (fun k hk => by have := hk.2.1; omega)) (by omega), Kd.R_lower (Kd.R_mono (Kd.R_bound h3.items) (fun k hk => ⟨hk.1.2, by have := hk.2.1; omega⟩)) (by omega), blk_on b3 (by omega) h2⟩
  | err e q => exact ⟨hO0.trans hh.2, hh.1⟩
set_option maxRecDepth 1000000 in
set_option maxHeartbeats 4000000 in
theorem object_calls (R : Nat) (s : ByteArray) (k r : Nat) (d : Int) (p : Nat) (W : World) (hl : s.size ≤ 10000000000) (h : RdB R s p W) (hT : Tabs W) (hp : p < s.size) (hVal : ValOK R s k r (wrap64 (d + 1)))
    (o : Out (List ByteArray × List J)) (hF : sevF (oneM (valueF s.data.toList k r) s.data.toList k) s.data.toList 125 k ([], []) p = some o) :
    Calls Tryd.prog 44 #[ptr R, .int .i64 d] W (Ends R s W (o.map fun a => (⟨6, bsJ [], a.1, a.2⟩ : J)) (jV W.heap.size)) := by
  have key := Aside0.mk (obj_sev R s k r d p W hl h hT hp hVal o hF)
  have hRW := h.lt
  have hmm := @run_makeMap Tryd.prog
  clear hT hF hVal h
  cases o with
  | err e q =>
    go_enter Tryd.func44, Tryd.ntmps44
    go_wp2_with (go_at_call 67; (with_reducible refine (key.out).mono ?_); rintro e w1 ⟨ho, rfl⟩; have HO := Aside0.mk ho; clear ho)
    exact ⟨rfl, Ends.no rfl HO.out⟩
  | val a q =>
    go_enter Tryd.func44, Tryd.ntmps44
    go_wp2_with (go_at_call 67; (with_reducible refine (key.out).mono ?_); rintro e w1 ⟨ho, rfl, hr, sn, sv, hv, hn, hi, hb⟩; have HO := Aside0.mk ho; have HR := Aside0.mk hr; have HI := Aside0.mk hi; have HB := Aside0.mk hb; have HV := Aside0.mk hv; obtain ⟨A, c, e3⟩ := Kd.R_slice hi; subst e3; obtain ⟨A2, c2, e2⟩ := Kd.R_slice hn; subst e2; have HN := Aside0.mk hn; have v0 : w1.cell? ⟨W.heap.size + 1 + 1 + 1, 0, none⟩ = some (.int .i64 6) := (blk_cell hv 0).trans rfl; have v1 : w1.cell? ⟨W.heap.size + 1 + 1 + 1, 1, none⟩ = some (.string ⟨#[]⟩) := (blk_cell hv 1).trans rfl; have v2 : w1.cell? ⟨W.heap.size + 1 + 1 + 1, 2, none⟩ = some (.slice A2 a.1.length c2) := (blk_cell hv 2).trans rfl; have v3 : w1.cell? ⟨W.heap.size + 1 + 1 + 1, 3, none⟩ = some (.slice A a.2.length c) := (blk_cell hv 3).trans rfl; have r0 : w1.cell? ⟨W.heap.size + 1 + 1, 0, none⟩ = some (.int .i64 0) := (blk_cell hb 0).trans rfl; have r1 : w1.cell? ⟨W.heap.size + 1 + 1, 1, none⟩ = some (.string ⟨#[]⟩) := (blk_cell hb 1).trans rfl; have r2 : w1.cell? ⟨W.heap.size + 1 + 1, 2, none⟩ = some (.slice none 0 0) := (blk_cell hb 2).trans rfl; have r3 : w1.cell? ⟨W.heap.size + 1 + 1, 3, none⟩ = some (.slice none 0 0) := (blk_cell hb 3).trans rfl; have f0 := blk_free hb 0; have f1 := blk_free hb 1; have f2 := blk_free hb 2; have f3 := blk_free hb 3; clear ho hr hv hi hb hn)
    refine bodyPost_ret (results_cell_row rfl _ _ (W.heap.size + 1 + 1) 25 #[.int .i64 6, .string ⟨#[]⟩, .slice A2 a.1.length c2, .slice A a.2.length c] (0, 0) _ rfl (blk4 HB.out _ _ _ _) Tryd.underlying25 rfl (by kernel_rfl)) rfl ?_
    have hR1 := set4_ends (b := W.heap.size + 1 + 1) HR.out HO.out hRW (by omega) (.int .i64 6) (.string ⟨#[]⟩) (.slice A2 a.1.length c2) (.slice A a.2.length c)
    refine Ends.ok rfl ⟨.slice A2 a.1.length c2, .slice A a.2.length c, rfl, ?_, ?_⟩ hR1.1 hR1.2
    · exact Kd.R_mono (Kd.R_far (p := ⟨W.heap.size + 1 + 1, 3, none⟩) (Kd.R_far (p := ⟨W.heap.size + 1 + 1, 2, none⟩) (Kd.R_far (p := ⟨W.heap.size + 1 + 1, 1, none⟩) (Kd.R_far (p := ⟨W.heap.size + 1 + 1, 0, none⟩) HN.out (fun _ hk => hk) _) (fun _ hk => hk) _) (fun _ hk => hk) _) (fun _ hk => hk) _) (fun _ _ => trivial)
    · exact Kd.R_mono (Kd.R_far (p := ⟨W.heap.size + 1 + 1, 3, none⟩) (Kd.R_far (p := ⟨W.heap.size + 1 + 1, 2, none⟩) (Kd.R_far (p := ⟨W.heap.size + 1 + 1, 1, none⟩) (Kd.R_far (p := ⟨W.heap.size + 1 + 1, 0, none⟩) HI.out (fun _ hk => hk.2) _) (fun _ hk => hk.2) _) (fun _ hk => hk.2) _) (fun _ hk => hk.2) _) (fun _ hk => hk.1)
end Go.Proofs.YtaalajhmfdcalaaDoor.X
namespace Go.Proofs.YtaalajhmfdcalaaDoor.X
open Go.RowKit Go.Lib Go.Proofs.YtaalajhmfdcalaaDoorW.PrintWords Go.Proofs.YtaalajhmfdcalaaDoorW.PrintLast Go.Proofs.YtaalajhmfdcalaaDoorW.PrintMore
theorem Kd.R_far4 {α : Type} {dd : Kd α} {e B b : Nat} {w : World} {ok : Nat → Prop} {v : Value} {l : List α} (h : dd.R e w B ok v l) (hb : ∀ k, ok k → k ≠ b) (c0 c1 c2 c3 : Value) :
    dd.R e ((((w.setCell ⟨b, 0, none⟩ c0).setCell ⟨b, 1, none⟩ c1).setCell ⟨b, 2, none⟩ c2).setCell ⟨b, 3, none⟩ c3) B ok v l :=
  Kd.R_far (Kd.R_far (Kd.R_far (Kd.R_far h (p := ⟨b, 0, none⟩) hb _) (p := ⟨b, 1, none⟩) hb _) (p := ⟨b, 2, none⟩) hb _) (p := ⟨b, 3, none⟩) hb _
theorem value_end {R : Nat} {s : ByteArray} {q : Nat} {W w1 : World} {o : Out J} {j : J} {v2 v3 : Value} (ho : o = .val j q) (hR : RdB R s q w1) (hO : On R (W.alloc zJ) w1) (hRW : R < W.heap.size)
    (g2 : Kd.string.R 9 w1 (W.heap.size + 1) (fun _ => True) v2 j.f2) (g3 : k25.R 25 w1 (W.heap.size + 1) (fun k => some k ≠ v2.ownBlock) v3 j.f3) :
    Ends R s W o (jV W.heap.size) (.returned (.agg #[.int .i64 j.f0, .string j.f1, v2, v3])) ((((w1.setCell ⟨W.heap.size, 0, none⟩ (.int .i64 j.f0)).setCell ⟨W.heap.size, 1, none⟩ (.string j.f1)).setCell ⟨W.heap.size, 2, none⟩ v2).setCell ⟨W.heap.size, 3, none⟩ v3) := by
  have hO1 : On R W w1 := (On.of_below (Nat.le_of_lt hRW) (below_alloc (Below.refl _ _) _)).trans hO
  have h1 := set4_ends (b := W.heap.size) hR hO1 hRW (Nat.le_refl _) (.int .i64 j.f0) (.string j.f1) v2 v3
  refine Ends.ok ho ⟨v2, v3, rfl, ?_, ?_⟩ h1.1 h1.2
  · exact Kd.R_mono (Kd.R_far4 (Kd.R_lower (Kd.R_bound g2) (Nat.le_succ _)) (b := W.heap.size) (fun k hk => by have := hk.2.1; omega) _ _ _ _) (fun _ _ => trivial)
  · exact Kd.R_mono (Kd.R_far4 (Kd.R_lower (Kd.R_bound g3) (Nat.le_succ _)) (b := W.heap.size) (fun k hk => by have := hk.2.1; omega) _ _ _ _) (fun _ hk => hk.1)
theorem below_base {α : Type} {dd : Kd α} {e R n : Nat} {W1 W2 w : World} {ok : Nat → Prop} {v : Value} {l : List α} (hs : W1.heap.size = n) (hO : On R W1 W2) (h : dd.R e w W2.heap.size ok v l) : dd.R e w n ok v l :=
  Kd.R_lower h (by have := hO.size; omega)
set_option maxRecDepth 1000000 in
set_option maxHeartbeats 8000000 in
theorem value_step (R : Nat) (s : ByteArray) (k r : Nat) (hl : s.size ≤ 10000000000) (hr : r ≤ 32) (IH : ∀ r', r' + 1 = r → ValOK R s k r' (32 - (r' : Int))) : ValOK R s k r (32 - (r : Int)) := by
  intro p o W hp hF h hT
  have HR1 := Aside0.mk (show RdB R s p (W.alloc zJ) from h.below (below_alloc (Below.refl _ _) _))
  have HRW := Aside0.mk h.lt
  have hRB : W.heap.size ≠ R := by have := h.lt; omega
  have HB := Aside0.mk (heap_alloc_new W zJ)
  have HT := Aside0.mk (fun (w : World) (ho : On R (W.alloc zJ) w) => hT.on h ((On.of_below (Nat.le_of_lt h.lt) (below_alloc (Below.refl _ _) _)).trans ho))
  have HOW := Aside0.mk (show On R W (W.alloc zJ) from On.of_below (Nat.le_of_lt h.lt) (below_alloc (Below.refl _ _) _))
  have esz : (W.alloc zJ).heap.size = W.heap.size + 1 := by simp
  clear h hT
  unfold valueF at hF
  cases hc : s.data.toList[p]? with
  | none =>
    rw [hc] at hF
    have hps : s.size ≤ p := by rw [List.getElem?_eq_none_iff, size_data] at hc; exact hc
    have HX := Aside0.mk (show o = .err 3 s.size by injection hF with hF; rw [← hF, size_data])
    clear hc hF
    go_enter Tryd.func28, Tryd.ntmps28
    go_wp2_with (go_at_call 39; (with_reducible refine (peek_short R s p hps _ ?rd).mono ?_); (case rd => exact HR1.out); rintro e w1 ⟨rfl, hb⟩; have HB := Aside0.mk hb; clear hb)
    exact ⟨rfl, Ends.no HX.out (HOW.out.drawn HB.out)⟩
  | some c =>
    rw [hc] at hF
    simp only at hF
    have HC := Aside0.mk hc
    have hlt := at_lt' hc
    have hu := c.toNat_lt
    clear hc
    by_cases h110 : c = 110
    · rw [if_pos h110] at hF
      have e110 : ((c.toNat : Int) == 110) = true := (beq_u8 c 110 (by omega)).trans (decide_eq_true h110)
      clear h110
      cases hs : wordF s.data.toList [110, 117, 108, 108] p with
      | err e q =>
        have HX := Aside0.mk (show o = .err e q by rw [hs] at hF; injection hF with hF; exact hF.symm)
        have HS := Aside0.mk (show wordF s.data.toList (ByteArray.data ⟨#[110, 117, 108, 108]⟩).toList p = .err e q from hs)
        clear hs hF
        go_enter Tryd.func28, Tryd.ntmps28
        go_wp2_with (first | (go_at_call 39; (with_reducible refine (peek_ok R s p c HC.out _ ?rd1x1).mono ?_); (case rd1x1 => exact HR1.out); rintro e w1 ⟨rfl, hb⟩; have HR2 := Aside0.mk (HR1.out.drawn hb); have HN2 := Aside0.mk ((On.refl R (W.alloc zJ)).drawn hb); have d2 := HR2.out.c1; clear hb) | (go_at_call 40; (with_reducible refine (Calls.err_of (word_calls R s ⟨#[110, 117, 108, 108]⟩ p (by have hz : ByteArray.size ⟨#[110, 117, 108, 108]⟩ = 4 := rfl; rw [hz]; omega) (by omega) _ ?rdy2) HS.out).mono ?_); (case rdy2 => exact HR2.out); rintro e w3 ⟨rfl, ho⟩; have HN3 := Aside0.mk (HN2.out.trans ho); clear ho))
        exact ⟨rfl, Ends.no HX.out (HOW.out.trans HN3.out)⟩
      | val u q =>
        have HX := Aside0.mk (show o = .val (⟨0, bsJ [], [], []⟩ : J) q by rw [hs] at hF; injection hF with hF; exact hF.symm)
        have HS := Aside0.mk (show wordF s.data.toList (ByteArray.data ⟨#[110, 117, 108, 108]⟩).toList p = .val u q from hs)
        clear hs hF
        go_enter Tryd.func28, Tryd.ntmps28
        go_wp2_with (first | (go_at_call 39; (with_reducible refine (peek_ok R s p c HC.out _ ?rd1x3).mono ?_); (case rd1x3 => exact HR1.out); rintro e w1 ⟨rfl, hb⟩; have HR2 := Aside0.mk (HR1.out.drawn hb); have HN2 := Aside0.mk ((On.refl R (W.alloc zJ)).drawn hb); have d2 := HR2.out.c1; clear hb) | (go_at_call 40; (with_reducible refine (Calls.val_of (word_calls R s ⟨#[110, 117, 108, 108]⟩ p (by have hz : ByteArray.size ⟨#[110, 117, 108, 108]⟩ = 4 := rfl; rw [hz]; omega) (by omega) _ ?rdy4) HS.out).mono ?_); (case rdy4 => exact HR2.out); rintro e w3 ⟨v, rfl, hv, hr, ho⟩; have HR3 := Aside0.mk hr; have HN3 := Aside0.mk (HN2.out.trans ho); have hv : v = .tuple #[] := hv; subst hv; have HB3 := Aside0.mk (blk_on HB.out hRB (HN2.out.trans ho)); have b0 := (blk_cell HB3.out 0); have b1 := (blk_cell HB3.out 1); have b2 := (blk_cell HB3.out 2); have b3 := (blk_cell HB3.out 3); have g0 := blk_free HB3.out 0; have g1 := blk_free HB3.out 1; have g2 := blk_free HB3.out 2; have g3 := blk_free HB3.out 3; dsimp at b0 b1 b2 b3; clear hr ho))
        refine bodyPost_ret (results_cell_row rfl _ _ W.heap.size 25 #[.int .i64 0, .string ⟨#[]⟩, .slice none 0 0, .slice none 0 0] (0, 0) _ rfl (blk4 HB3.out _ _ _ _) Tryd.underlying25 rfl (by kernel_rfl)) rfl ?_
        exact value_end (j := ⟨0, bsJ [], [], []⟩) HX.out HR3.out HN3.out HRW.out (Kd.R_nil _ _ _ _ _) (Kd.R_nil _ _ _ _ _)
    rw [if_neg h110] at hF
    have e110 : ((c.toNat : Int) == 110) = false := (beq_u8 c 110 (by omega)).trans (decide_eq_false h110)
    clear h110
    by_cases h116 : c = 116
    · rw [if_pos h116] at hF
      have e116 : ((c.toNat : Int) == 116) = true := (beq_u8 c 116 (by omega)).trans (decide_eq_true h116)
      clear h116
      cases hs : wordF s.data.toList [116, 114, 117, 101] p with
      | err e q =>
        have HX := Aside0.mk (show o = .err e q by rw [hs] at hF; injection hF with hF; exact hF.symm)
        have HS := Aside0.mk (show wordF s.data.toList (ByteArray.data ⟨#[116, 114, 117, 101]⟩).toList p = .err e q from hs)
        clear hs hF
        go_enter Tryd.func28, Tryd.ntmps28
        go_wp2_with (first | (go_at_call 39; (with_reducible refine (peek_ok R s p c HC.out _ ?rd1x5).mono ?_); (case rd1x5 => exact HR1.out); rintro e w1 ⟨rfl, hb⟩; have HR2 := Aside0.mk (HR1.out.drawn hb); have HN2 := Aside0.mk ((On.refl R (W.alloc zJ)).drawn hb); have d2 := HR2.out.c1; clear hb) | (go_at_call 40; (with_reducible refine (Calls.err_of (word_calls R s ⟨#[116, 114, 117, 101]⟩ p (by have hz : ByteArray.size ⟨#[116, 114, 117, 101]⟩ = 4 := rfl; rw [hz]; omega) (by omega) _ ?rdy6) HS.out).mono ?_); (case rdy6 => exact HR2.out); rintro e w3 ⟨rfl, ho⟩; have HN3 := Aside0.mk (HN2.out.trans ho); clear ho))
        exact ⟨rfl, Ends.no HX.out (HOW.out.trans HN3.out)⟩
      | val u q =>
        have HX := Aside0.mk (show o = .val (⟨2, bsJ [], [], []⟩ : J) q by rw [hs] at hF; injection hF with hF; exact hF.symm)
        have HS := Aside0.mk (show wordF s.data.toList (ByteArray.data ⟨#[116, 114, 117, 101]⟩).toList p = .val u q from hs)
        clear hs hF
        go_enter Tryd.func28, Tryd.ntmps28
        go_wp2_with (first | (go_at_call 39; (with_reducible refine (peek_ok R s p c HC.out _ ?rd1x7).mono ?_); (case rd1x7 => exact HR1.out); rintro e w1 ⟨rfl, hb⟩; have HR2 := Aside0.mk (HR1.out.drawn hb); have HN2 := Aside0.mk ((On.refl R (W.alloc zJ)).drawn hb); have d2 := HR2.out.c1; clear hb) | (go_at_call 40; (with_reducible refine (Calls.val_of (word_calls R s ⟨#[116, 114, 117, 101]⟩ p (by have hz : ByteArray.size ⟨#[116, 114, 117, 101]⟩ = 4 := rfl; rw [hz]; omega) (by omega) _ ?rdy8) HS.out).mono ?_); (case rdy8 => exact HR2.out); rintro e w3 ⟨v, rfl, hv, hr, ho⟩; have HR3 := Aside0.mk hr; have HN3 := Aside0.mk (HN2.out.trans ho); have hv : v = .tuple #[] := hv; subst hv; have HB3 := Aside0.mk (blk_on HB.out hRB (HN2.out.trans ho)); have b0 := (blk_cell HB3.out 0); have b1 := (blk_cell HB3.out 1); have b2 := (blk_cell HB3.out 2); have b3 := (blk_cell HB3.out 3); have g0 := blk_free HB3.out 0; have g1 := blk_free HB3.out 1; have g2 := blk_free HB3.out 2; have g3 := blk_free HB3.out 3; dsimp at b0 b1 b2 b3; clear hr ho))
        refine bodyPost_ret (results_cell_row rfl _ _ W.heap.size 25 #[.int .i64 2, .string ⟨#[]⟩, .slice none 0 0, .slice none 0 0] (0, 0) _ rfl (blk4 HB3.out _ _ _ _) Tryd.underlying25 rfl (by kernel_rfl)) rfl ?_
        exact value_end (j := ⟨2, bsJ [], [], []⟩) HX.out HR3.out HN3.out HRW.out (Kd.R_nil _ _ _ _ _) (Kd.R_nil _ _ _ _ _)
    rw [if_neg h116] at hF
    have e116 : ((c.toNat : Int) == 116) = false := (beq_u8 c 116 (by omega)).trans (decide_eq_false h116)
    clear h116
    by_cases h102 : c = 102
    · rw [if_pos h102] at hF
      have e102 : ((c.toNat : Int) == 102) = true := (beq_u8 c 102 (by omega)).trans (decide_eq_true h102)
      clear h102
      cases hs : wordF s.data.toList [102, 97, 108, 115, 101] p with
      | err e q =>
        have HX := Aside0.mk (show o = .err e q by rw [hs] at hF; injection hF with hF; exact hF.symm)
        have HS := Aside0.mk (show wordF s.data.toList (ByteArray.data ⟨#[102, 97, 108, 115, 101]⟩).toList p = .err e q from hs)
        clear hs hF
        go_enter Tryd.func28, Tryd.ntmps28
        go_wp2_with (first | (go_at_call 39; (with_reducible refine (peek_ok R s p c HC.out _ ?rd1x9).mono ?_); (case rd1x9 => exact HR1.out); rintro e w1 ⟨rfl, hb⟩; have HR2 := Aside0.mk (HR1.out.drawn hb); have HN2 := Aside0.mk ((On.refl R (W.alloc zJ)).drawn hb); have d2 := HR2.out.c1; clear hb) | (go_at_call 40; (with_reducible refine (Calls.err_of (word_calls R s ⟨#[102, 97, 108, 115, 101]⟩ p (by have hz : ByteArray.size ⟨#[102, 97, 108, 115, 101]⟩ = 5 := rfl; rw [hz]; omega) (by omega) _ ?rdy10) HS.out).mono ?_); (case rdy10 => exact HR2.out); rintro e w3 ⟨rfl, ho⟩; have HN3 := Aside0.mk (HN2.out.trans ho); clear ho))
        exact ⟨rfl, Ends.no HX.out (HOW.out.trans HN3.out)⟩
      | val u q =>
        have HX := Aside0.mk (show o = .val (⟨1, bsJ [], [], []⟩ : J) q by rw [hs] at hF; injection hF with hF; exact hF.symm)
        have HS := Aside0.mk (show wordF s.data.toList (ByteArray.data ⟨#[102, 97, 108, 115, 101]⟩).toList p = .val u q from hs)
        clear hs hF
        go_enter Tryd.func28, Tryd.ntmps28
        go_wp2_with (first | (go_at_call 39; (with_reducible refine (peek_ok R s p c HC.out _ ?rd1x11).mono ?_); (case rd1x11 => exact HR1.out); rintro e w1 ⟨rfl, hb⟩; have HR2 := Aside0.mk (HR1.out.drawn hb); have HN2 := Aside0.mk ((On.refl R (W.alloc zJ)).drawn hb); have d2 := HR2.out.c1; clear hb) | (go_at_call 40; (with_reducible refine (Calls.val_of (word_calls R s ⟨#[102, 97, 108, 115, 101]⟩ p (by have hz : ByteArray.size ⟨#[102, 97, 108, 115, 101]⟩ = 5 := rfl; rw [hz]; omega) (by omega) _ ?rdy12) HS.out).mono ?_); (case rdy12 => exact HR2.out); rintro e w3 ⟨v, rfl, hv, hr, ho⟩; have HR3 := Aside0.mk hr; have HN3 := Aside0.mk (HN2.out.trans ho); have hv : v = .tuple #[] := hv; subst hv; have HB3 := Aside0.mk (blk_on HB.out hRB (HN2.out.trans ho)); have b0 := (blk_cell HB3.out 0); have b1 := (blk_cell HB3.out 1); have b2 := (blk_cell HB3.out 2); have b3 := (blk_cell HB3.out 3); have g0 := blk_free HB3.out 0; have g1 := blk_free HB3.out 1; have g2 := blk_free HB3.out 2; have g3 := blk_free HB3.out 3; dsimp at b0 b1 b2 b3; clear hr ho))
        refine bodyPost_ret (results_cell_row rfl _ _ W.heap.size 25 #[.int .i64 1, .string ⟨#[]⟩, .slice none 0 0, .slice none 0 0] (0, 0) _ rfl (blk4 HB3.out _ _ _ _) Tryd.underlying25 rfl (by kernel_rfl)) rfl ?_
        exact value_end (j := ⟨1, bsJ [], [], []⟩) HX.out HR3.out HN3.out HRW.out (Kd.R_nil _ _ _ _ _) (Kd.R_nil _ _ _ _ _)
    rw [if_neg h102] at hF
    have e102 : ((c.toNat : Int) == 102) = false := (beq_u8 c 102 (by omega)).trans (decide_eq_false h102)
    clear h102
    by_cases hnum : c = 45 ∨ isDg c = true
    · rw [if_pos hnum] at hF
      by_cases h45 : c = 45
      · have e45 : ((c.toNat : Int) == 45) = true := (beq_u8 c 45 (by omega)).trans (decide_eq_true h45)
        clear h45 hnum
        cases hs : numberF s.data.toList p with
        | err e q =>
          have HX := Aside0.mk (show o = .err e q by rw [hs] at hF; injection hF with hF; exact hF.symm)
          have HS := Aside0.mk hs
          clear hs hF
          go_enter Tryd.func28, Tryd.ntmps28
          go_wp2_with (first | (go_at_call 39; (with_reducible refine (peek_ok R s p c HC.out _ ?rd1x13).mono ?_); (case rd1x13 => exact HR1.out); rintro e w1 ⟨rfl, hb⟩; have HR2 := Aside0.mk (HR1.out.drawn hb); have HN2 := Aside0.mk ((On.refl R (W.alloc zJ)).drawn hb); have d2 := HR2.out.c1; clear hb) | (go_at_call 41; (with_reducible refine (Calls.err_of (number_calls R s p (by omega) (by omega) _ ?rdy14) HS.out).mono ?_); (case rdy14 => exact HR2.out); rintro e w3 ⟨rfl, ho⟩; have HN3 := Aside0.mk (HN2.out.trans ho); clear ho))
          exact ⟨rfl, Ends.no HX.out (HOW.out.trans HN3.out)⟩
        | val u q =>
          have HX := Aside0.mk (show o = .val (⟨3, bsJ u, [], []⟩ : J) q by rw [hs] at hF; injection hF with hF; exact hF.symm)
          have HS := Aside0.mk hs
          clear hs hF
          go_enter Tryd.func28, Tryd.ntmps28
          go_wp2_with (first | (go_at_call 39; (with_reducible refine (peek_ok R s p c HC.out _ ?rd1x15).mono ?_); (case rd1x15 => exact HR1.out); rintro e w1 ⟨rfl, hb⟩; have HR2 := Aside0.mk (HR1.out.drawn hb); have HN2 := Aside0.mk ((On.refl R (W.alloc zJ)).drawn hb); have d2 := HR2.out.c1; clear hb) | (go_at_call 41; (with_reducible refine (Calls.val_of (number_calls R s p (by omega) (by omega) _ ?rdy16) HS.out).mono ?_); (case rdy16 => exact HR2.out); rintro e w3 ⟨v, rfl, hv, hr, ho⟩; have HR3 := Aside0.mk hr; have HN3 := Aside0.mk (HN2.out.trans ho); have hv : v = .string (bs u) := hv; subst hv; have HB3 := Aside0.mk (blk_on HB.out hRB (HN2.out.trans ho)); have b0 := (blk_cell HB3.out 0); have b1 := (blk_cell HB3.out 1); have b2 := (blk_cell HB3.out 2); have b3 := (blk_cell HB3.out 3); have g0 := blk_free HB3.out 0; have g1 := blk_free HB3.out 1; have g2 := blk_free HB3.out 2; have g3 := blk_free HB3.out 3; dsimp at b0 b1 b2 b3; clear hr ho))
          refine bodyPost_ret (results_cell_row rfl _ _ W.heap.size 25 #[.int .i64 3, .string (bs u), .slice none 0 0, .slice none 0 0] (0, 0) _ rfl (blk4 HB3.out _ _ _ _) Tryd.underlying25 rfl (by kernel_rfl)) rfl ?_
          exact value_end (j := ⟨3, bsJ u, [], []⟩) HX.out HR3.out HN3.out HRW.out (Kd.R_nil _ _ _ _ _) (Kd.R_nil _ _ _ _ _)
      · have e45 : ((c.toNat : Int) == 45) = false := (beq_u8 c 45 (by omega)).trans (decide_eq_false h45)
        have hdg : isDg c = true := hnum.resolve_left h45
        unfold isDg at hdg
        have hdg := of_decide_eq_true hdg
        have a1 : (48 : Int) ≤ (c.toNat : Int) := by omega
        have a2 : (c.toNat : Int) ≤ 57 := by omega
        clear h45 hnum hdg
        cases hs : numberF s.data.toList p with
        | err e q =>
          have HX := Aside0.mk (show o = .err e q by rw [hs] at hF; injection hF with hF; exact hF.symm)
          have HS := Aside0.mk hs
          clear hs hF
          go_enter Tryd.func28, Tryd.ntmps28
          go_wp2_with (first | (go_at_call 39; (with_reducible refine (peek_ok R s p c HC.out _ ?rd1x17).mono ?_); (case rd1x17 => exact HR1.out); rintro e w1 ⟨rfl, hb⟩; have HR2 := Aside0.mk (HR1.out.drawn hb); have HN2 := Aside0.mk ((On.refl R (W.alloc zJ)).drawn hb); have d2 := HR2.out.c1; clear hb) | (go_at_call 41; (with_reducible refine (Calls.err_of (number_calls R s p (by omega) (by omega) _ ?rdy18) HS.out).mono ?_); (case rdy18 => exact HR2.out); rintro e w3 ⟨rfl, ho⟩; have HN3 := Aside0.mk (HN2.out.trans ho); clear ho))
          exact ⟨rfl, Ends.no HX.out (HOW.out.trans HN3.out)⟩
        | val u q =>
          have HX := Aside0.mk (show o = .val (⟨3, bsJ u, [], []⟩ : J) q by rw [hs] at hF; injection hF with hF; exact hF.symm)
          have HS := Aside0.mk hs
          clear hs hF
          go_enter Tryd.func28, Tryd.ntmps28
          go_wp2_with (first | (go_at_call 39; (with_reducible refine (peek_ok R s p c HC.out _ ?rd1x19).mono ?_); (case rd1x19 => exact HR1.out); rintro e w1 ⟨rfl, hb⟩; have HR2 := Aside0.mk (HR1.out.drawn hb); have HN2 := Aside0.mk ((On.refl R (W.alloc zJ)).drawn hb); have d2 := HR2.out.c1; clear hb) | (go_at_call 41; (with_reducible refine (Calls.val_of (number_calls R s p (by omega) (by omega) _ ?rdy20) HS.out).mono ?_); (case rdy20 => exact HR2.out); rintro e w3 ⟨v, rfl, hv, hr, ho⟩; have HR3 := Aside0.mk hr; have HN3 := Aside0.mk (HN2.out.trans ho); have hv : v = .string (bs u) := hv; subst hv; have HB3 := Aside0.mk (blk_on HB.out hRB (HN2.out.trans ho)); have b0 := (blk_cell HB3.out 0); have b1 := (blk_cell HB3.out 1); have b2 := (blk_cell HB3.out 2); have b3 := (blk_cell HB3.out 3); have g0 := blk_free HB3.out 0; have g1 := blk_free HB3.out 1; have g2 := blk_free HB3.out 2; have g3 := blk_free HB3.out 3; dsimp at b0 b1 b2 b3; clear hr ho))
          refine bodyPost_ret (results_cell_row rfl _ _ W.heap.size 25 #[.int .i64 3, .string (bs u), .slice none 0 0, .slice none 0 0] (0, 0) _ rfl (blk4 HB3.out _ _ _ _) Tryd.underlying25 rfl (by kernel_rfl)) rfl ?_
          exact value_end (j := ⟨3, bsJ u, [], []⟩) HX.out HR3.out HN3.out HRW.out (Kd.R_nil _ _ _ _ _) (Kd.R_nil _ _ _ _ _)
    rw [if_neg hnum] at hF
    have e45 : ((c.toNat : Int) == 45) = false := (beq_u8 c 45 (by omega)).trans (decide_eq_false (fun h => hnum (.inl h)))
    have hdg : ¬ (48 ≤ c.toNat ∧ c.toNat ≤ 57) := fun h => hnum (.inr (by unfold isDg; exact decide_eq_true h))
    clear hnum
    by_cases hlo : 48 ≤ c.toNat
    · have a1 : (48 : Int) ≤ (c.toNat : Int) := by omega
      have a3 : ¬ (c.toNat : Int) ≤ 57 := by omega
      have a4 : decide ((c.toNat : Int) ≤ 57) = false := decide_eq_false a3
      clear hlo hdg
      by_cases h34 : c = 34
      · rw [if_pos h34] at hF
        have e34 : ((c.toNat : Int) == 34) = true := (beq_u8 c 34 (by omega)).trans (decide_eq_true h34)
        clear h34
        obtain ⟨o1, hs, ho⟩ := omap_some _ _ _ hF
        have HE := Aside0.mk hs
        have HS := Aside0.mk (rfl : o1 = o1)
        clear hs hF
        cases o1 with
        | err e q =>
          have HX := Aside0.mk (show o = .err e q from ho)
          clear ho
          go_enter Tryd.func28, Tryd.ntmps28
          go_wp2_with (first | (go_at_call 39; (with_reducible refine (peek_ok R s p c HC.out _ ?rd1x21).mono ?_); (case rd1x21 => exact HR1.out); rintro e w1 ⟨rfl, hb⟩; have HR2 := Aside0.mk (HR1.out.drawn hb); have HN2 := Aside0.mk ((On.refl R (W.alloc zJ)).drawn hb); have d2 := HR2.out.c1; clear hb) | (go_at_call 42; (with_reducible refine (Calls.err_of (text_calls R s p k _ hl hlt _ ?rdy22 ?tby22 HE.out) rfl).mono ?_); (case rdy22 => exact HR2.out); (case tby22 => exact HT.out _ HN2.out); rintro e w3 ⟨rfl, ho⟩; have HN3 := Aside0.mk (HN2.out.trans ho); clear ho))
          exact ⟨rfl, Ends.no HX.out (HOW.out.trans HN3.out)⟩
        | val u q =>
          have HX := Aside0.mk (show o = .val (⟨4, bsJ u, [], []⟩ : J) q from ho)
          clear ho
          go_enter Tryd.func28, Tryd.ntmps28
          go_wp2_with (first | (go_at_call 39; (with_reducible refine (peek_ok R s p c HC.out _ ?rd1x23).mono ?_); (case rd1x23 => exact HR1.out); rintro e w1 ⟨rfl, hb⟩; have HR2 := Aside0.mk (HR1.out.drawn hb); have HN2 := Aside0.mk ((On.refl R (W.alloc zJ)).drawn hb); have d2 := HR2.out.c1; clear hb) | (go_at_call 42; (with_reducible refine (Calls.val_of (text_calls R s p k _ hl hlt _ ?rdy24 ?tby24 HE.out) rfl).mono ?_); (case rdy24 => exact HR2.out); (case tby24 => exact HT.out _ HN2.out); rintro e w3 ⟨v, rfl, hv, hr, ho⟩; have HR3 := Aside0.mk hr; have HN3 := Aside0.mk (HN2.out.trans ho); have hv : v = .string (bs u) := hv; subst hv; have HB3 := Aside0.mk (blk_on HB.out hRB (HN2.out.trans ho)); have b0 := (blk_cell HB3.out 0); have b1 := (blk_cell HB3.out 1); have b2 := (blk_cell HB3.out 2); have b3 := (blk_cell HB3.out 3); have g0 := blk_free HB3.out 0; have g1 := blk_free HB3.out 1; have g2 := blk_free HB3.out 2; have g3 := blk_free HB3.out 3; dsimp at b0 b1 b2 b3; clear hr ho))
          refine bodyPost_ret (results_cell_row rfl _ _ W.heap.size 25 #[.int .i64 4, .string (bs u), .slice none 0 0, .slice none 0 0] (0, 0) _ rfl (blk4 HB3.out _ _ _ _) Tryd.underlying25 rfl (by kernel_rfl)) rfl ?_
          exact value_end (j := ⟨4, bsJ u, [], []⟩) HX.out HR3.out HN3.out HRW.out (Kd.R_nil _ _ _ _ _) (Kd.R_nil _ _ _ _ _)
      rw [if_neg h34] at hF
      have e34 : ((c.toNat : Int) == 34) = false := (beq_u8 c 34 (by omega)).trans (decide_eq_false h34)
      clear h34
      by_cases hbr : c = 91 ∨ c = 123
      · rw [if_pos hbr] at hF
        cases r with
        | zero =>
          have HX := Aside0.mk (show o = .err 46 p by injection hF with hF; exact hF.symm)
          clear hF
          have hd : ((32 : Int) ≤ 32 - ((0 : Nat) : Int)) := by omega
          by_cases h91 : c = 91
          · have e91 : ((c.toNat : Int) == 91) = true := (beq_u8 c 91 (by omega)).trans (decide_eq_true h91)
            clear h91 hbr
            go_enter Tryd.func28, Tryd.ntmps28
            go_wp2_with (first | (go_at_call 39; (with_reducible refine (peek_ok R s p c HC.out _ ?rd1x25).mono ?_); (case rd1x25 => exact HR1.out); rintro e w1 ⟨rfl, hb⟩; have HR2 := Aside0.mk (HR1.out.drawn hb); have HN2 := Aside0.mk ((On.refl R (W.alloc zJ)).drawn hb); have d2 := HR2.out.c1; clear hb) | (go_at_call 29; (with_reducible refine (fail_calls _ _ _ _).mono ?_); rintro e w9 ⟨rfl, hb⟩; have HB9 := Aside0.mk hb; clear hb))
            exact ⟨rfl, Ends.no HX.out (HOW.out.trans (HN2.out.drawn HB9.out))⟩
          · have e91 : ((c.toNat : Int) == 91) = false := (beq_u8 c 91 (by omega)).trans (decide_eq_false h91)
            have e123 : ((c.toNat : Int) == 123) = true := (beq_u8 c 123 (by omega)).trans (decide_eq_true (hbr.resolve_left h91))
            clear h91 hbr
            go_enter Tryd.func28, Tryd.ntmps28
            go_wp2_with (first | (go_at_call 39; (with_reducible refine (peek_ok R s p c HC.out _ ?rd1x26).mono ?_); (case rd1x26 => exact HR1.out); rintro e w1 ⟨rfl, hb⟩; have HR2 := Aside0.mk (HR1.out.drawn hb); have HN2 := Aside0.mk ((On.refl R (W.alloc zJ)).drawn hb); have d2 := HR2.out.c1; clear hb) | (go_at_call 29; (with_reducible refine (fail_calls _ _ _ _).mono ?_); rintro e w9 ⟨rfl, hb⟩; have HB9 := Aside0.mk hb; clear hb))
            exact ⟨rfl, Ends.no HX.out (HOW.out.trans (HN2.out.drawn HB9.out))⟩
        | succ r' =>
          simp only at hF
          have hd : ¬ ((32 : Int) ≤ 32 - ((r' + 1 : Nat) : Int)) := by omega
          have hd2 : decide ((32 : Int) ≤ 32 - ((r' + 1 : Nat) : Int)) = false := decide_eq_false hd
          have HI := Aside0.mk (show ValOK R s k r' (wrap64 (32 - ((r' + 1 : Nat) : Int) + 1)) by rw [Go.Proofs.YtaalajhmfdcalaaDoor.X.wr _ (by omega), show (32 - ((r' + 1 : Nat) : Int) + 1) = 32 - (r' : Int) by omega]; exact IH r' rfl)
          have HSZ := Aside0.mk esz
          generalize hdd : 32 - ((r' + 1 : Nat) : Int) = d at *
          clear hdd
          by_cases h91 : c = 91
          · rw [if_pos h91] at hF
            have e91 : ((c.toNat : Int) == 91) = true := (beq_u8 c 91 (by omega)).trans (decide_eq_true h91)
            clear h91 hbr
            obtain ⟨o1, hs, ho⟩ := omap_some _ _ _ hF
            have HE := Aside0.mk hs
            clear hs hF
            cases o1 with
            | err e q =>
              have HX := Aside0.mk (show o = .err e q from ho)
              clear ho
              go_enter Tryd.func28, Tryd.ntmps28
              go_wp2_with (first | (go_at_call 39; (with_reducible refine (peek_ok R s p c HC.out _ ?rd1x27).mono ?_); (case rd1x27 => exact HR1.out); rintro e w1 ⟨rfl, hb⟩; have HR2 := Aside0.mk (HR1.out.drawn hb); have HN2 := Aside0.mk ((On.refl R (W.alloc zJ)).drawn hb); have d2 := HR2.out.c1; clear hb) | (go_at_call 43; (with_reducible refine (Calls.err_of (list_calls R s k r' d p _ hl ?rdy28 ?tby28 hlt (HI.out) _ HE.out) rfl).mono ?_); (case rdy28 => exact HR2.out); (case tby28 => exact HT.out _ HN2.out); rintro e w3 ⟨rfl, ho⟩; have HN3 := Aside0.mk (HN2.out.trans ho); clear ho))
              exact ⟨rfl, Ends.no HX.out (HOW.out.trans HN3.out)⟩
            | val u q =>
              have HX := Aside0.mk (show o = .val (⟨5, bsJ [], [], u⟩ : J) q from ho)
              clear ho
              go_enter Tryd.func28, Tryd.ntmps28
              go_wp2_with (first | (go_at_call 39; (with_reducible refine (peek_ok R s p c HC.out _ ?rd1x29).mono ?_); (case rd1x29 => exact HR1.out); rintro e w1 ⟨rfl, hb⟩; have HR2 := Aside0.mk (HR1.out.drawn hb); have HN2 := Aside0.mk ((On.refl R (W.alloc zJ)).drawn hb); have d2 := HR2.out.c1; clear hb) | (go_at_call 43; (with_reducible refine (Calls.val_of (list_calls R s k r' d p _ hl ?rdy30 ?tby30 hlt (HI.out) _ HE.out) rfl).mono ?_); (case rdy30 => exact HR2.out); (case tby30 => exact HT.out _ HN2.out); rintro e w3 ⟨v, rfl, hv, hr, ho⟩; have HR3 := Aside0.mk hr; have HN3 := Aside0.mk (HN2.out.trans ho); obtain ⟨v2, v3, rfl, j2, j3⟩ := hv; have j2 := below_base HSZ.out HN2.out j2; have j3 := below_base HSZ.out HN2.out j3; have HJ2 := Aside0.mk j2; have HJ3 := Aside0.mk j3; obtain ⟨A2, c2, e2⟩ := Kd.R_slice j2; obtain ⟨A3, c3, e3⟩ := Kd.R_slice j3; subst e2 e3; clear j2 j3; have HB3 := Aside0.mk (blk_on HB.out hRB (HN2.out.trans ho)); have b0 := (blk_cell HB3.out 0); have b1 := (blk_cell HB3.out 1); have b2 := (blk_cell HB3.out 2); have b3 := (blk_cell HB3.out 3); have g0 := blk_free HB3.out 0; have g1 := blk_free HB3.out 1; have g2 := blk_free HB3.out 2; have g3 := blk_free HB3.out 3; dsimp at b0 b1 b2 b3; clear hr ho))
              refine bodyPost_ret (results_cell_row rfl _ _ W.heap.size 25 #[.int .i64 5, .string ⟨#[]⟩, .slice A2 ([] : List ByteArray).length c2, .slice A3 u.length c3] (0, 0) _ rfl (blk4 HB3.out _ _ _ _) Tryd.underlying25 rfl (by kernel_rfl)) rfl ?_
              exact value_end (j := ⟨5, bsJ [], [], u⟩) HX.out HR3.out HN3.out HRW.out HJ2.out HJ3.out
          · rw [if_neg h91] at hF
            have e91 : ((c.toNat : Int) == 91) = false := (beq_u8 c 91 (by omega)).trans (decide_eq_false h91)
            have e123 : ((c.toNat : Int) == 123) = true := (beq_u8 c 123 (by omega)).trans (decide_eq_true (hbr.resolve_left h91))
            clear h91 hbr
            obtain ⟨o1, hs, ho⟩ := omap_some _ _ _ hF
            have HE := Aside0.mk hs
            clear hs hF
            cases o1 with
            | err e q =>
              have HX := Aside0.mk (show o = .err e q from ho)
              clear ho
              go_enter Tryd.func28, Tryd.ntmps28
              go_wp2_with (first | (go_at_call 39; (with_reducible refine (peek_ok R s p c HC.out _ ?rd1x31).mono ?_); (case rd1x31 => exact HR1.out); rintro e w1 ⟨rfl, hb⟩; have HR2 := Aside0.mk (HR1.out.drawn hb); have HN2 := Aside0.mk ((On.refl R (W.alloc zJ)).drawn hb); have d2 := HR2.out.c1; clear hb) | (go_at_call 44; (with_reducible refine (Calls.err_of (object_calls R s k r' d p _ hl ?rdy32 ?tby32 hlt (HI.out) _ HE.out) rfl).mono ?_); (case rdy32 => exact HR2.out); (case tby32 => exact HT.out _ HN2.out); rintro e w3 ⟨rfl, ho⟩; have HN3 := Aside0.mk (HN2.out.trans ho); clear ho))
              exact ⟨rfl, Ends.no HX.out (HOW.out.trans HN3.out)⟩
            | val u q =>
              have HX := Aside0.mk (show o = .val (⟨6, bsJ [], u.1, u.2⟩ : J) q from ho)
              clear ho
              go_enter Tryd.func28, Tryd.ntmps28
              go_wp2_with (first | (go_at_call 39; (with_reducible refine (peek_ok R s p c HC.out _ ?rd1x33).mono ?_); (case rd1x33 => exact HR1.out); rintro e w1 ⟨rfl, hb⟩; have HR2 := Aside0.mk (HR1.out.drawn hb); have HN2 := Aside0.mk ((On.refl R (W.alloc zJ)).drawn hb); have d2 := HR2.out.c1; clear hb) | (go_at_call 44; (with_reducible refine (Calls.val_of (object_calls R s k r' d p _ hl ?rdy34 ?tby34 hlt (HI.out) _ HE.out) rfl).mono ?_); (case rdy34 => exact HR2.out); (case tby34 => exact HT.out _ HN2.out); rintro e w3 ⟨v, rfl, hv, hr, ho⟩; have HR3 := Aside0.mk hr; have HN3 := Aside0.mk (HN2.out.trans ho); obtain ⟨v2, v3, rfl, j2, j3⟩ := hv; have j2 := below_base HSZ.out HN2.out j2; have j3 := below_base HSZ.out HN2.out j3; have HJ2 := Aside0.mk j2; have HJ3 := Aside0.mk j3; obtain ⟨A2, c2, e2⟩ := Kd.R_slice j2; obtain ⟨A3, c3, e3⟩ := Kd.R_slice j3; subst e2 e3; clear j2 j3; have HB3 := Aside0.mk (blk_on HB.out hRB (HN2.out.trans ho)); have b0 := (blk_cell HB3.out 0); have b1 := (blk_cell HB3.out 1); have b2 := (blk_cell HB3.out 2); have b3 := (blk_cell HB3.out 3); have g0 := blk_free HB3.out 0; have g1 := blk_free HB3.out 1; have g2 := blk_free HB3.out 2; have g3 := blk_free HB3.out 3; dsimp at b0 b1 b2 b3; clear hr ho))
              refine bodyPost_ret (results_cell_row rfl _ _ W.heap.size 25 #[.int .i64 6, .string ⟨#[]⟩, .slice A2 u.1.length c2, .slice A3 u.2.length c3] (0, 0) _ rfl (blk4 HB3.out _ _ _ _) Tryd.underlying25 rfl (by kernel_rfl)) rfl ?_
              exact value_end (j := ⟨6, bsJ [], u.1, u.2⟩) HX.out HR3.out HN3.out HRW.out HJ2.out HJ3.out
      · rw [if_neg hbr] at hF
        have HX := Aside0.mk (show o = .err 40 p by injection hF with hF; exact hF.symm)
        have e91 : ((c.toNat : Int) == 91) = false := (beq_u8 c 91 (by omega)).trans (decide_eq_false (fun h => hbr (.inl h)))
        have e123 : ((c.toNat : Int) == 123) = false := (beq_u8 c 123 (by omega)).trans (decide_eq_false (fun h => hbr (.inr h)))
        clear hF hbr
        go_enter Tryd.func28, Tryd.ntmps28
        go_wp2_with (first | (go_at_call 39; (with_reducible refine (peek_ok R s p c HC.out _ ?rd1x35).mono ?_); (case rd1x35 => exact HR1.out); rintro e w1 ⟨rfl, hb⟩; have HR2 := Aside0.mk (HR1.out.drawn hb); have HN2 := Aside0.mk ((On.refl R (W.alloc zJ)).drawn hb); have d2 := HR2.out.c1; clear hb) | (go_at_call 29; (with_reducible refine (fail_calls _ _ _ _).mono ?_); rintro e w9 ⟨rfl, hb⟩; have HB9 := Aside0.mk hb; clear hb))
        exact ⟨rfl, Ends.no HX.out (HOW.out.trans (HN2.out.drawn HB9.out))⟩
    · have a1 : ¬ (48 : Int) ≤ (c.toNat : Int) := by omega
      have a3 : decide ((48 : Int) ≤ (c.toNat : Int)) = false := decide_eq_false a1
      clear hlo hdg
      by_cases h34 : c = 34
      · rw [if_pos h34] at hF
        have e34 : ((c.toNat : Int) == 34) = true := (beq_u8 c 34 (by omega)).trans (decide_eq_true h34)
        clear h34
        obtain ⟨o1, hs, ho⟩ := omap_some _ _ _ hF
        have HE := Aside0.mk hs
        have HS := Aside0.mk (rfl : o1 = o1)
        clear hs hF
        cases o1 with
        | err e q =>
          have HX := Aside0.mk (show o = .err e q from ho)
          clear ho
          go_enter Tryd.func28, Tryd.ntmps28
          go_wp2_with (first | (go_at_call 39; (with_reducible refine (peek_ok R s p c HC.out _ ?rd1x36).mono ?_); (case rd1x36 => exact HR1.out); rintro e w1 ⟨rfl, hb⟩; have HR2 := Aside0.mk (HR1.out.drawn hb); have HN2 := Aside0.mk ((On.refl R (W.alloc zJ)).drawn hb); have d2 := HR2.out.c1; clear hb) | (go_at_call 42; (with_reducible refine (Calls.err_of (text_calls R s p k _ hl hlt _ ?rdy37 ?tby37 HE.out) rfl).mono ?_); (case rdy37 => exact HR2.out); (case tby37 => exact HT.out _ HN2.out); rintro e w3 ⟨rfl, ho⟩; have HN3 := Aside0.mk (HN2.out.trans ho); clear ho))
          exact ⟨rfl, Ends.no HX.out (HOW.out.trans HN3.out)⟩
        | val u q =>
          have HX := Aside0.mk (show o = .val (⟨4, bsJ u, [], []⟩ : J) q from ho)
          clear ho
          go_enter Tryd.func28, Tryd.ntmps28
          go_wp2_with (first | (go_at_call 39; (with_reducible refine (peek_ok R s p c HC.out _ ?rd1x38).mono ?_); (case rd1x38 => exact HR1.out); rintro e w1 ⟨rfl, hb⟩; have HR2 := Aside0.mk (HR1.out.drawn hb); have HN2 := Aside0.mk ((On.refl R (W.alloc zJ)).drawn hb); have d2 := HR2.out.c1; clear hb) | (go_at_call 42; (with_reducible refine (Calls.val_of (text_calls R s p k _ hl hlt _ ?rdy39 ?tby39 HE.out) rfl).mono ?_); (case rdy39 => exact HR2.out); (case tby39 => exact HT.out _ HN2.out); rintro e w3 ⟨v, rfl, hv, hr, ho⟩; have HR3 := Aside0.mk hr; have HN3 := Aside0.mk (HN2.out.trans ho); have hv : v = .string (bs u) := hv; subst hv; have HB3 := Aside0.mk (blk_on HB.out hRB (HN2.out.trans ho)); have b0 := (blk_cell HB3.out 0); have b1 := (blk_cell HB3.out 1); have b2 := (blk_cell HB3.out 2); have b3 := (blk_cell HB3.out 3); have g0 := blk_free HB3.out 0; have g1 := blk_free HB3.out 1; have g2 := blk_free HB3.out 2; have g3 := blk_free HB3.out 3; dsimp at b0 b1 b2 b3; clear hr ho))
          refine bodyPost_ret (results_cell_row rfl _ _ W.heap.size 25 #[.int .i64 4, .string (bs u), .slice none 0 0, .slice none 0 0] (0, 0) _ rfl (blk4 HB3.out _ _ _ _) Tryd.underlying25 rfl (by kernel_rfl)) rfl ?_
          exact value_end (j := ⟨4, bsJ u, [], []⟩) HX.out HR3.out HN3.out HRW.out (Kd.R_nil _ _ _ _ _) (Kd.R_nil _ _ _ _ _)
      rw [if_neg h34] at hF
      have e34 : ((c.toNat : Int) == 34) = false := (beq_u8 c 34 (by omega)).trans (decide_eq_false h34)
      clear h34
      by_cases hbr : c = 91 ∨ c = 123
      · rw [if_pos hbr] at hF
        cases r with
        | zero =>
          have HX := Aside0.mk (show o = .err 46 p by injection hF with hF; exact hF.symm)
          clear hF
          have hd : ((32 : Int) ≤ 32 - ((0 : Nat) : Int)) := by omega
          by_cases h91 : c = 91
          · have e91 : ((c.toNat : Int) == 91) = true := (beq_u8 c 91 (by omega)).trans (decide_eq_true h91)
            clear h91 hbr
            go_enter Tryd.func28, Tryd.ntmps28
            go_wp2_with (first | (go_at_call 39; (with_reducible refine (peek_ok R s p c HC.out _ ?rd1x40).mono ?_); (case rd1x40 => exact HR1.out); rintro e w1 ⟨rfl, hb⟩; have HR2 := Aside0.mk (HR1.out.drawn hb); have HN2 := Aside0.mk ((On.refl R (W.alloc zJ)).drawn hb); have d2 := HR2.out.c1; clear hb) | (go_at_call 29; (with_reducible refine (fail_calls _ _ _ _).mono ?_); rintro e w9 ⟨rfl, hb⟩; have HB9 := Aside0.mk hb; clear hb))
            exact ⟨rfl, Ends.no HX.out (HOW.out.trans (HN2.out.drawn HB9.out))⟩
          · have e91 : ((c.toNat : Int) == 91) = false := (beq_u8 c 91 (by omega)).trans (decide_eq_false h91)
            have e123 : ((c.toNat : Int) == 123) = true := (beq_u8 c 123 (by omega)).trans (decide_eq_true (hbr.resolve_left h91))
            clear h91 hbr
            go_enter Tryd.func28, Tryd.ntmps28
            go_wp2_with (first | (go_at_call 39; (with_reducible refine (peek_ok R s p c HC.out _ ?rd1x41).mono ?_); (case rd1x41 => exact HR1.out); rintro e w1 ⟨rfl, hb⟩; have HR2 := Aside0.mk (HR1.out.drawn hb); have HN2 := Aside0.mk ((On.refl R (W.alloc zJ)).drawn hb); have d2 := HR2.out.c1; clear hb) | (go_at_call 29; (with_reducible refine (fail_calls _ _ _ _).mono ?_); rintro e w9 ⟨rfl, hb⟩; have HB9 := Aside0.mk hb; clear hb))
            exact ⟨rfl, Ends.no HX.out (HOW.out.trans (HN2.out.drawn HB9.out))⟩
        | succ r' =>
          simp only at hF
          have hd : ¬ ((32 : Int) ≤ 32 - ((r' + 1 : Nat) : Int)) := by omega
          have hd2 : decide ((32 : Int) ≤ 32 - ((r' + 1 : Nat) : Int)) = false := decide_eq_false hd
          have HI := Aside0.mk (show ValOK R s k r' (wrap64 (32 - ((r' + 1 : Nat) : Int) + 1)) by rw [Go.Proofs.YtaalajhmfdcalaaDoor.X.wr _ (by omega), show (32 - ((r' + 1 : Nat) : Int) + 1) = 32 - (r' : Int) by omega]; exact IH r' rfl)
          have HSZ := Aside0.mk esz
          generalize hdd : 32 - ((r' + 1 : Nat) : Int) = d at *
          clear hdd
          by_cases h91 : c = 91
          · rw [if_pos h91] at hF
            have e91 : ((c.toNat : Int) == 91) = true := (beq_u8 c 91 (by omega)).trans (decide_eq_true h91)
            clear h91 hbr
            obtain ⟨o1, hs, ho⟩ := omap_some _ _ _ hF
            have HE := Aside0.mk hs
            clear hs hF
            cases o1 with
            | err e q =>
              have HX := Aside0.mk (show o = .err e q from ho)
              clear ho
              go_enter Tryd.func28, Tryd.ntmps28
              go_wp2_with (first | (go_at_call 39; (with_reducible refine (peek_ok R s p c HC.out _ ?rd1x42).mono ?_); (case rd1x42 => exact HR1.out); rintro e w1 ⟨rfl, hb⟩; have HR2 := Aside0.mk (HR1.out.drawn hb); have HN2 := Aside0.mk ((On.refl R (W.alloc zJ)).drawn hb); have d2 := HR2.out.c1; clear hb) | (go_at_call 43; (with_reducible refine (Calls.err_of (list_calls R s k r' d p _ hl ?rdy43 ?tby43 hlt (HI.out) _ HE.out) rfl).mono ?_); (case rdy43 => exact HR2.out); (case tby43 => exact HT.out _ HN2.out); rintro e w3 ⟨rfl, ho⟩; have HN3 := Aside0.mk (HN2.out.trans ho); clear ho))
              exact ⟨rfl, Ends.no HX.out (HOW.out.trans HN3.out)⟩
            | val u q =>
              have HX := Aside0.mk (show o = .val (⟨5, bsJ [], [], u⟩ : J) q from ho)
              clear ho
              go_enter Tryd.func28, Tryd.ntmps28
              go_wp2_with (first | (go_at_call 39; (with_reducible refine (peek_ok R s p c HC.out _ ?rd1x44).mono ?_); (case rd1x44 => exact HR1.out); rintro e w1 ⟨rfl, hb⟩; have HR2 := Aside0.mk (HR1.out.drawn hb); have HN2 := Aside0.mk ((On.refl R (W.alloc zJ)).drawn hb); have d2 := HR2.out.c1; clear hb) | (go_at_call 43; (with_reducible refine (Calls.val_of (list_calls R s k r' d p _ hl ?rdy45 ?tby45 hlt (HI.out) _ HE.out) rfl).mono ?_); (case rdy45 => exact HR2.out); (case tby45 => exact HT.out _ HN2.out); rintro e w3 ⟨v, rfl, hv, hr, ho⟩; have HR3 := Aside0.mk hr; have HN3 := Aside0.mk (HN2.out.trans ho); obtain ⟨v2, v3, rfl, j2, j3⟩ := hv; have j2 := below_base HSZ.out HN2.out j2; have j3 := below_base HSZ.out HN2.out j3; have HJ2 := Aside0.mk j2; have HJ3 := Aside0.mk j3; obtain ⟨A2, c2, e2⟩ := Kd.R_slice j2; obtain ⟨A3, c3, e3⟩ := Kd.R_slice j3; subst e2 e3; clear j2 j3; have HB3 := Aside0.mk (blk_on HB.out hRB (HN2.out.trans ho)); have b0 := (blk_cell HB3.out 0); have b1 := (blk_cell HB3.out 1); have b2 := (blk_cell HB3.out 2); have b3 := (blk_cell HB3.out 3); have g0 := blk_free HB3.out 0; have g1 := blk_free HB3.out 1; have g2 := blk_free HB3.out 2; have g3 := blk_free HB3.out 3; dsimp at b0 b1 b2 b3; clear hr ho))
              refine bodyPost_ret (results_cell_row rfl _ _ W.heap.size 25 #[.int .i64 5, .string ⟨#[]⟩, .slice A2 ([] : List ByteArray).length c2, .slice A3 u.length c3] (0, 0) _ rfl (blk4 HB3.out _ _ _ _) Tryd.underlying25 rfl (by kernel_rfl)) rfl ?_
              exact value_end (j := ⟨5, bsJ [], [], u⟩) HX.out HR3.out HN3.out HRW.out HJ2.out HJ3.out
          · rw [if_neg h91] at hF
            have e91 : ((c.toNat : Int) == 91) = false := (beq_u8 c 91 (by omega)).trans (decide_eq_false h91)
            have e123 : ((c.toNat : Int) == 123) = true := (beq_u8 c 123 (by omega)).trans (decide_eq_true (hbr.resolve_left h91))
            clear h91 hbr
            obtain ⟨o1, hs, ho⟩ := omap_some _ _ _ hF
            have HE := Aside0.mk hs
            clear hs hF
            cases o1 with
            | err e q =>
              have HX := Aside0.mk (show o = .err e q from ho)
              clear ho
              go_enter Tryd.func28, Tryd.ntmps28
              go_wp2_with (first | (go_at_call 39; (with_reducible refine (peek_ok R s p c HC.out _ ?rd1x46).mono ?_); (case rd1x46 => exact HR1.out); rintro e w1 ⟨rfl, hb⟩; have HR2 := Aside0.mk (HR1.out.drawn hb); have HN2 := Aside0.mk ((On.refl R (W.alloc zJ)).drawn hb); have d2 := HR2.out.c1; clear hb) | (go_at_call 44; (with_reducible refine (Calls.err_of (object_calls R s k r' d p _ hl ?rdy47 ?tby47 hlt (HI.out) _ HE.out) rfl).mono ?_); (case rdy47 => exact HR2.out); (case tby47 => exact HT.out _ HN2.out); rintro e w3 ⟨rfl, ho⟩; have HN3 := Aside0.mk (HN2.out.trans ho); clear ho))
              exact ⟨rfl, Ends.no HX.out (HOW.out.trans HN3.out)⟩
            | val u q =>
              have HX := Aside0.mk (show o = .val (⟨6, bsJ [], u.1, u.2⟩ : J) q from ho)
              clear ho
              go_enter Tryd.func28, Tryd.ntmps28
              go_wp2_with (first | (go_at_call 39; (with_reducible refine (peek_ok R s p c HC.out _ ?rd1x48).mono ?_); (case rd1x48 => exact HR1.out); rintro e w1 ⟨rfl, hb⟩; have HR2 := Aside0.mk (HR1.out.drawn hb); have HN2 := Aside0.mk ((On.refl R (W.alloc zJ)).drawn hb); have d2 := HR2.out.c1; clear hb) | (go_at_call 44; (with_reducible refine (Calls.val_of (object_calls R s k r' d p _ hl ?rdy49 ?tby49 hlt (HI.out) _ HE.out) rfl).mono ?_); (case rdy49 => exact HR2.out); (case tby49 => exact HT.out _ HN2.out); rintro e w3 ⟨v, rfl, hv, hr, ho⟩; have HR3 := Aside0.mk hr; have HN3 := Aside0.mk (HN2.out.trans ho); obtain ⟨v2, v3, rfl, j2, j3⟩ := hv; have j2 := below_base HSZ.out HN2.out j2; have j3 := below_base HSZ.out HN2.out j3; have HJ2 := Aside0.mk j2; have HJ3 := Aside0.mk j3; obtain ⟨A2, c2, e2⟩ := Kd.R_slice j2; obtain ⟨A3, c3, e3⟩ := Kd.R_slice j3; subst e2 e3; clear j2 j3; have HB3 := Aside0.mk (blk_on HB.out hRB (HN2.out.trans ho)); have b0 := (blk_cell HB3.out 0); have b1 := (blk_cell HB3.out 1); have b2 := (blk_cell HB3.out 2); have b3 := (blk_cell HB3.out 3); have g0 := blk_free HB3.out 0; have g1 := blk_free HB3.out 1; have g2 := blk_free HB3.out 2; have g3 := blk_free HB3.out 3; dsimp at b0 b1 b2 b3; clear hr ho))
              refine bodyPost_ret (results_cell_row rfl _ _ W.heap.size 25 #[.int .i64 6, .string ⟨#[]⟩, .slice A2 u.1.length c2, .slice A3 u.2.length c3] (0, 0) _ rfl (blk4 HB3.out _ _ _ _) Tryd.underlying25 rfl (by kernel_rfl)) rfl ?_
              exact value_end (j := ⟨6, bsJ [], u.1, u.2⟩) HX.out HR3.out HN3.out HRW.out HJ2.out HJ3.out
      · rw [if_neg hbr] at hF
        have HX := Aside0.mk (show o = .err 40 p by injection hF with hF; exact hF.symm)
        have e91 : ((c.toNat : Int) == 91) = false := (beq_u8 c 91 (by omega)).trans (decide_eq_false (fun h => hbr (.inl h)))
        have e123 : ((c.toNat : Int) == 123) = false := (beq_u8 c 123 (by omega)).trans (decide_eq_false (fun h => hbr (.inr h)))
        clear hF hbr
        go_enter Tryd.func28, Tryd.ntmps28
        go_wp2_with (first | (go_at_call 39; (with_reducible refine (peek_ok R s p c HC.out _ ?rd1x50).mono ?_); (case rd1x50 => exact HR1.out); rintro e w1 ⟨rfl, hb⟩; have HR2 := Aside0.mk (HR1.out.drawn hb); have HN2 := Aside0.mk ((On.refl R (W.alloc zJ)).drawn hb); have d2 := HR2.out.c1; clear hb) | (go_at_call 29; (with_reducible refine (fail_calls _ _ _ _).mono ?_); rintro e w9 ⟨rfl, hb⟩; have HB9 := Aside0.mk hb; clear hb))
        exact ⟨rfl, Ends.no HX.out (HOW.out.trans (HN2.out.drawn HB9.out))⟩
theorem value_ok (s : ByteArray) (k : Nat) (hl : s.size ≤ 10000000000) (R : Nat) : ∀ r, r ≤ 32 → ValOK R s k r (32 - (r : Int))
  | 0, h => value_step R s k 0 hl h (fun r' hr => by omega)
  | r + 1, h => value_step R s k (r + 1) hl h (fun r' hr => by have e : r' = r := (by omega); rw [e]; exact value_ok s k hl R r (by omega))
end Go.Proofs.YtaalajhmfdcalaaDoor.X
namespace Go.Proofs.YtaalajhmfdcalaaDoor.X
open Go.RowKit Go.Lib Go.Proofs.YtaalajhmfdcalaaDoorW.PrintWords Go.Proofs.YtaalajhmfdcalaaDoorW.PrintLast Go.Proofs.YtaalajhmfdcalaaDoorW.PrintMore
theorem wpS_named {P : Program} {c : Code} {Q : Exit → Act → List Frame → World → Prop} {a : Act} {cs : List Frame} {w : World} (h : ∀ Q' : Exit → Act → World → Prop, Aside0 (∀ e a' w', Q e a' cs w' → Q' e a' w') → c.wp P Q' a w) : c.wpS P Q a cs w :=
  wpS_of_wp (h _ ⟨fun _ _ _ h => h⟩)
theorem fault_assert (e a : Int) (w : World) : (Instr.typeAssert (flt e a) 20 45 true).run Tryd.prog w = .ok (.tuple #[.agg #[.int .i64 e, .int .i64 a], .bool true]) w := by
  first
    | exact run_typeAssert_sameB _ _ _
    | (unfold Instr.typeAssert; simp [go_sem, Tryd.underlying45])
theorem wpS_norm {P : Program} {c : Code} {Q : Exit → Act → List Frame → World → Prop} {a a' : Act} {cs : List Frame} {w : World} (h : a = a') (k : c.wpS P Q a' cs w) : c.wpS P Q a cs w := h ▸ k
set_option maxRecDepth 1000000 in
set_option maxHeartbeats 2000000 in
/-- The deferred closure over a panicking frame: the fault's error and place are laid, the value is emptied. -/
theorem catch_fault (B : Nat) (e a : Int) (z0 z1 z2 z3 : Value) (x y : Int) (w : World) (h0 : w.heap[B]? = some (.cells #[z0, z1, z2, z3] 25 (0, 0))) (h1 : w.heap[B + 1]? = some (.cells #[.int .i64 x] 26 (0, 0))) (h2 : w.heap[B + 2]? = some (.cells #[.int .i64 y] 3 (0, 0))) :
    CallsD Tryd.prog 26 #[.pointer (some ⟨B, 0, none⟩), .pointer (some ⟨B + 1, 0, none⟩), .pointer (some ⟨B + 2, 0, none⟩)] (.panicking [{ v := flt e a, recovered := false }]) w fun en u' w' =>
      en = .returned (.tuple #[]) ∧ u' = .panicking [{ v := flt e a, recovered := true }] ∧ Below B w w' ∧
        w'.heap[B]? = some (.cells #[.int .i64 0, .string ⟨#[]⟩, .slice none 0 0, .slice none 0 0] 25 (0, 0)) ∧ w'.heap[B + 1]? = some (.cells #[.int .i64 e] 26 (0, 0)) ∧ w'.heap[B + 2]? = some (.cells #[.int .i64 a] 3 (0, 0)) := by
  have hlt := lt_of_block h2
  have H0 := Aside0.mk h0
  have H1 := Aside0.mk h1
  have H2 := Aside0.mk h2
  clear h0 h1 h2
  refine callsD_of_wpS Tryd.func26 rfl fun c₀ cs hu => ?_
  simp only [Tryd.ntmps26, List.size_toArray, List.length_cons, List.length_nil, Nat.reduceAdd, Nat.reduceSub, Array.replicate_succ, Array.replicate_zero, List.push_toArray, List.append_toArray, List.nil_append, List.cons_append]
  apply wpS_seq
  apply wpS_region
  simp [wpOpsS, go_sem, recoverD, hu, Exit.thenS]
  apply wpS_seq
  apply wpS_region
  simp [wpOpsS, go_sem, Exit.thenS]
  refine wpS_cond (t := true) rfl ?_
  rw [if_pos rfl]
  refine wpS_of_wp ?_
  have hta := fault_assert e a
  have HF := Aside0.mk (heap_alloc_new w (Obj.cells #[.int .i64 e, .int .i64 a] 45))
  have HB := Aside0.mk (below_alloc (Below.refl w.heap.size w) (Obj.cells #[.int .i64 e, .int .i64 a] 45))
  go_wp2
  generalize hw1 : w.alloc (Obj.cells #[.int .i64 e, .int .i64 a] 45) = w1 at *
  have HC0 := Aside0.mk ((HB.out.block B (by omega)).trans H0.out)
  have HC1 := Aside0.mk ((HB.out.block (B + 1) (by omega)).trans H1.out)
  have HC2 := Aside0.mk ((HB.out.block (B + 2) (by omega)).trans H2.out)
  clear hw1
  refine start_ (n := 8) (S := fun w' => w'.cell? ⟨w.heap.size, 0, none⟩ = some (.int .i64 e) ∧ w'.cell? ⟨w.heap.size, 1, none⟩ = some (.int .i64 a)) (ds := []) #[false, false, false, false, false, false, false, false] (by kernel_rfl) rfl rfl ⟨(blk_cell HF.out 0).trans rfl, (blk_cell HF.out 1).trans rfl⟩ (fun hHeld => ?_)
  have HF2 := Aside0.mk (show w1.drew.heap[w.heap.size]? = _ from HF.out)
  have HB2 := Aside0.mk (below_drew1 HB.out)
  have HD0 := Aside0.mk (show w1.drew.heap[B]? = _ from HC0.out)
  have HD1 := Aside0.mk (show w1.drew.heap[B + 1]? = _ from HC1.out)
  have HD2 := Aside0.mk (show w1.drew.heap[B + 2]? = _ from HC2.out)
  generalize w1.drew = w2 at *
  refine pure_ (i := 0) (N := some 17) (v := ?_) (a' := ?_) #[true, false, false, false, false, false, false, false] rfl rfl (by kernel_rfl) (fun _ _ _ h => h) (Or.inl ⟨by rfl, ?_⟩) ?_ ?_
  rotate_left
  · intro w'
    go_simp
    with_reducible rfl
  rotate_left
  · simp only [Act.put, List.setIfInBounds_toArray, List.set_cons_zero, List.set_cons_succ, i64_w, i32_w]
    rfl
  refine pure_ (i := 1) (N := some 18) (v := ?_) (a' := ?_) #[true, true, false, false, false, false, false, false] rfl rfl (by kernel_rfl) (fun _ _ _ h => h) (Or.inl ⟨by rfl, ?_⟩) ?_ ?_
  rotate_left
  · intro w'
    go_simp
    with_reducible rfl
  rotate_left
  · simp only [Act.put, List.setIfInBounds_toArray, List.set_cons_zero, List.set_cons_succ, i64_w, i32_w]
    rfl
  refine pure_ (i := 3) (N := some 20) (v := ?_) (a' := ?_) #[true, true, false, true, false, false, false, false] rfl rfl (by kernel_rfl) (fun _ _ _ h => h) (Or.inl ⟨by rfl, ?_⟩) ?_ ?_
  rotate_left
  · intro w'
    go_simp
    with_reducible rfl
  rotate_left
  · simp only [Act.put, List.setIfInBounds_toArray, List.set_cons_zero, List.set_cons_succ, i64_w, i32_w]
    rfl
  refine take_ (i := 2) (N := some 19) (v := ?_) (a' := ?_) #[true, true, true, true, false, false, false, false] rfl rfl (by kernel_rfl) (fun _ _ _ h => h) (Or.inl ⟨by rfl, ?_⟩) hHeld ?_ ?_
  rotate_left
  · rintro w' ⟨s0, s1⟩
    go_simp
    with_reducible rfl
  rotate_left
  · simp only [Act.put, List.setIfInBounds_toArray, List.set_cons_zero, List.set_cons_succ, i64_w, i32_w]
    rfl
  refine take_ (i := 4) (N := some 21) (v := ?_) (a' := ?_) #[true, true, true, true, true, false, false, false] rfl rfl (by kernel_rfl) (fun _ _ _ h => h) (Or.inl ⟨by rfl, ?_⟩) hHeld ?_ ?_
  rotate_left
  · rintro w' ⟨s0, s1⟩
    go_simp
    with_reducible rfl
  rotate_left
  · simp only [Act.put, List.setIfInBounds_toArray, List.set_cons_zero, List.set_cons_succ, i64_w, i32_w]
    rfl
  have nb0 : B ≠ w.heap.size := by omega
  have nb1 : w.heap.size ≠ B := by omega
  have nb2 : B + 1 ≠ w.heap.size := by omega
  have nb3 : w.heap.size ≠ B + 1 := by omega
  have nb4 : B + 2 ≠ w.heap.size := by omega
  have nb5 : w.heap.size ≠ B + 2 := by omega
  have q0 := blk_cell HD0.out 0
  have q1 := blk_cell HD0.out 1
  have q2 := blk_cell HD0.out 2
  have q3 := blk_cell HD0.out 3
  have p0 := blk_free HD0.out 0
  have p1 := blk_free HD0.out 1
  have p2 := blk_free HD0.out 2
  have p3 := blk_free HD0.out 3
  have q4 := blk_cell HD1.out 0
  have p4 := blk_free HD1.out 0
  have q5 := blk_cell HD2.out 0
  have p5 := blk_free HD2.out 0
  have s0 := hHeld.1
  have s1 := hHeld.2
  dsimp at q0 q1 q2 q3 q4 q5
  refine one_ (i := 5) (N := none) #[true, true, true, true, true, true, false, false] rfl rfl (by kernel_rfl) (by decide) (fun K hK => ?_)
  refine skip_ (w1 := ?_) (by rfl) rfl ?_ ?_
  rotate_left
  · go_simp
    rfl
  refine hK.out _ _ ⟨by go_simp, by go_simp⟩ (fun hHeld => ?_)
  clear hK K
  refine one_ (i := 6) (N := none) #[true, true, true, true, true, true, true, false] rfl rfl (by kernel_rfl) (by decide) (fun K hK => ?_)
  refine skip_ (w1 := ?_) (by rfl) rfl ?_ ?_
  rotate_left
  · go_simp
    rfl
  refine hK.out _ _ ⟨by go_simp, by go_simp⟩ (fun hHeld => ?_)
  clear hK K
  refine one_ (i := 7) (N := none) #[true, true, true, true, true, true, true, true] rfl rfl (by kernel_rfl) (by decide) (fun K hK => ?_)
  refine skip_ (w1 := ?_) (by rfl) rfl ?_ ?_
  rotate_left
  · go_simp
    rfl
  refine hK.out _ _ ⟨by go_simp, by go_simp⟩ (fun hHeld => ?_)
  clear hK K
  refine done_ (by kernel_rfl) ?_
  have hb4 := blk4 HD0.out (.int .i64 0) (.string ⟨#[]⟩) (.slice none 0 0) (.slice none 0 0)
  refine ⟨rfl, _, rfl, _, results_none rfl _ _ _, rfl, rfl, ?_, ?_, ?_, ?_⟩
  · have m0 : Below B w w2 := HB2.out.mono (by omega)
    refine Below.setCell ?_ (show B ≤ B + 2 by omega) _
    refine Below.setCell ?_ (show B ≤ B + 1 by omega) _
    refine Below.setCell ?_ (Nat.le_refl B) _
    refine Below.setCell ?_ (Nat.le_refl B) _
    refine Below.setCell ?_ (Nat.le_refl B) _
    refine Below.setCell ?_ (Nat.le_refl B) _
    exact m0
  · exact (Below.heap_setCell _ _ _ _ (by show B ≠ B + 2; omega)).trans ((Below.heap_setCell _ _ _ _ (by show B ≠ B + 1; omega)).trans hb4)
  · refine (Below.heap_setCell _ _ _ _ (by show B + 1 ≠ B + 2; omega)).trans (blk_put (cs := #[.int .i64 x]) ?_ 0 _ rfl)
    exact (Below.heap_setCell _ _ _ _ (by show B + 1 ≠ B; omega)).trans ((Below.heap_setCell _ _ _ _ (by show B + 1 ≠ B; omega)).trans ((Below.heap_setCell _ _ _ _ (by show B + 1 ≠ B; omega)).trans ((Below.heap_setCell _ _ _ _ (by show B + 1 ≠ B; omega)).trans HD1.out)))
  · refine blk_put (cs := #[.int .i64 y]) ?_ 0 _ rfl
    exact (Below.heap_setCell _ _ _ _ (by show B + 2 ≠ B + 1; omega)).trans ((Below.heap_setCell _ _ _ _ (by show B + 2 ≠ B; omega)).trans ((Below.heap_setCell _ _ _ _ (by show B + 2 ≠ B; omega)).trans ((Below.heap_setCell _ _ _ _ (by show B + 2 ≠ B; omega)).trans ((Below.heap_setCell _ _ _ _ (by show B + 2 ≠ B; omega)).trans HD2.out))))
theorem catch_idle (B : Nat) (w : World) :
    CallsD Tryd.prog 26 #[.pointer (some ⟨B, 0, none⟩), .pointer (some ⟨B + 1, 0, none⟩), .pointer (some ⟨B + 2, 0, none⟩)] .returning w fun en u' w' => en = .returned (.tuple #[]) ∧ u' = .returning ∧ w' = w := by
  refine callsD_of_wpS Tryd.func26 rfl fun c₀ cs hu => ?_
  simp only [Tryd.ntmps26, List.size_toArray, List.length_cons, List.length_nil, Nat.reduceAdd, Nat.reduceSub, Array.replicate_succ, Array.replicate_zero, List.push_toArray, List.append_toArray, List.nil_append, List.cons_append]
  apply wpS_seq
  apply wpS_region
  simp [wpOpsS, go_sem, recoverD, hu, Exit.thenS]
  apply wpS_seq
  apply wpS_region
  simp [wpOpsS, go_sem, Exit.thenS]
  refine wpS_cond (t := false) rfl ?_
  rw [if_neg (by decide)]
  refine wpS_of_wp (wp_skip ?_)
  cases c₀
  simp_all [bodyPostS, results, Tryd.results26]
end Go.Proofs.YtaalajhmfdcalaaDoor.X
namespace Go.Proofs.YtaalajhmfdcalaaDoor.X
open Go.RowKit Go.Lib Go.Proofs.YtaalajhmfdcalaaDoorW.PrintWords Go.Proofs.YtaalajhmfdcalaaDoorW.PrintLast Go.Proofs.YtaalajhmfdcalaaDoorW.PrintMore
theorem Tabs.below {W W' : World} (hT : Tabs W) (hb : Below W.heap.size W W') : Tabs W' := by
  have key : ∀ (a : Addr) (v : Value), W.cell? a = some v → W'.cell? a = some v := fun a v h => (hb.cell (World.block_lt_of_cell? W _ h)).trans h
  exact ⟨fun c hc => key _ _ (hT.1 c hc), fun i hi => ⟨key _ _ (hT.2 i hi).1, key _ _ (hT.2 i hi).2⟩⟩
theorem parse_results (B : Nat) (tmps : Array Value) (w : World) (z0 z1 z2 z3 : Value) (e a : Int) (t2 : tmps.getD 2 undef = .pointer (some ⟨B, 0, none⟩)) (t3 : tmps.getD 3 undef = .pointer (some ⟨B + 1, 0, none⟩)) (t4 : tmps.getD 4 undef = .pointer (some ⟨B + 2, 0, none⟩))
    (h0 : w.heap[B]? = some (.cells #[z0, z1, z2, z3] 25 (0, 0))) (h1 : w.heap[B + 1]? = some (.cells #[.int .i64 e] 26 (0, 0))) (h2 : w.heap[B + 2]? = some (.cells #[.int .i64 a] 3 (0, 0))) :
    (results Tryd.f11 tmps).run Tryd.prog w = .ok (.tuple #[.agg #[z0, z1, z2, z3], .int .i64 e, .int .i64 a]) w := by
  have c1 := (blk_cell h1 0).trans rfl
  have c2 := (blk_cell h2 0).trans rfl
  have d0 : w.cell? ⟨B, 0, none⟩ = some z0 := (blk_cell h0 0).trans rfl
  have d1 : w.cell? ⟨B, 1, none⟩ = some z1 := (blk_cell h0 1).trans rfl
  have d2 : w.cell? ⟨B, 2, none⟩ = some z2 := (blk_cell h0 2).trans rfl
  have d3 : w.cell? ⟨B, 3, none⟩ = some z3 := (blk_cell h0 3).trans rfl
  have t2' : tmps[2]?.getD undef = .pointer (some ⟨B, 0, none⟩) := by simpa using t2
  have t3' : tmps[3]?.getD undef = .pointer (some ⟨B + 1, 0, none⟩) := by simpa using t3
  have t4' : tmps[4]?.getD undef = .pointer (some ⟨B + 2, 0, none⟩) := by simpa using t4
  unfold results
  rw [Tryd.results11]
  simp [t2', t3', t4', asAddr, go_sem, c1, c2, d0, d1, d2, d3]
def parseV (B : Nat) (j : J) (e a : Int) (x : Ending) (W : World) : Prop := ∃ v2 v3, x = .returned (.tuple #[.agg #[.int .i64 j.f0, .string j.f1, v2, v3], .int .i64 e, .int .i64 a]) ∧ Kd.string.R 9 W B (fun _ => True) v2 j.f2 ∧ k25.R 25 W B (fun k => some k ≠ v2.ownBlock) v3 j.f3
def zV : J := ⟨0, bsJ [], [], []⟩
/-- What Parse answers. -/
def parseEnd (B : Nat) (o : Out J) (x : Ending) (W : World) : Prop :=
  match o with
  | .val j _ => parseV B j 0 0 x W
  | .err e q => parseV B zV e q x W
abbrev pW (s : ByteArray) (W : World) : World := (((W.alloc zJ).alloc (Obj.cells #[.int .i64 0] 26)).alloc (Obj.cells #[.int .i64 0] 3)).alloc (Obj.cells #[.string s, .int .i64 0] 49)
theorem pW_facts (s : ByteArray) (W : World) : RdB (W.heap.size + 1 + 1 + 1) s (0 : Nat) (pW s W) ∧ Below W.heap.size W (pW s W) ∧ (pW s W).heap[W.heap.size]? = some (.cells #[.int .i64 0, .string ⟨#[]⟩, .slice none 0 0, .slice none 0 0] 25 (0, 0)) ∧ (pW s W).heap[W.heap.size + 1]? = some (.cells #[.int .i64 0] 26 (0, 0)) ∧ (pW s W).heap[W.heap.size + 2]? = some (.cells #[.int .i64 0] 3 (0, 0)) := by
  have h1 := heap_alloc_new W zJ
  have h2 := heap_alloc_new (W.alloc zJ) (Obj.cells #[.int .i64 0] 26)
  have h3 := heap_alloc_new ((W.alloc zJ).alloc (Obj.cells #[.int .i64 0] 26)) (Obj.cells #[.int .i64 0] 3)
  have h4 := heap_alloc_new (((W.alloc zJ).alloc (Obj.cells #[.int .i64 0] 26)).alloc (Obj.cells #[.int .i64 0] 3)) (Obj.cells #[.string s, .int .i64 0] 49)
  have e2 : (W.alloc zJ).heap.size = W.heap.size + 1 := by simp
  have e3 : ((W.alloc zJ).alloc (Obj.cells #[.int .i64 0] 26)).heap.size = W.heap.size + 1 + 1 := by simp
  have e4 : (((W.alloc zJ).alloc (Obj.cells #[.int .i64 0] 26)).alloc (Obj.cells #[.int .i64 0] 3)).heap.size = W.heap.size + 1 + 1 + 1 := by simp
  rw [e2] at h2
  rw [e3] at h3
  rw [e4] at h4
  exact ⟨h4, below_alloc (below_alloc (below_alloc (below_alloc (Below.refl _ _) _) _) _) _, Below.alloc_at (Below.alloc_at (Below.alloc_at h1)), Below.alloc_at (Below.alloc_at h2), Below.alloc_at h3⟩
theorem R_at_base {α : Type} {dd : Kd α} {e base B : Nat} {w : World} {ok : Nat → Prop} {v : Value} {l : List α} (h : dd.R e w base ok v l) (hb : B + 4 ≤ base) : dd.R e w B (fun k => ok k ∧ B + 4 ≤ k) v l :=
  Kd.R_lower (Kd.R_mono (Kd.R_bound h) (fun k hk => ⟨hk.1, by have := hk.2.1; omega⟩)) (by omega)
theorem On.low {R : Nat} {W W' : World} (h : On (R + 1 + 1 + 1) W W') : Below R W W' := h.below.mono (by omega)
theorem pset {B : Nat} {s : ByteArray} {q : Int} {W w : World} (hR : RdB (B + 1 + 1 + 1) s q w) (hO : On (B + 1 + 1 + 1) W w) (c0 c1 c2 c3 : Value) :
    RdB (B + 1 + 1 + 1) s q ((((w.setCell ⟨B, 0, none⟩ c0).setCell ⟨B, 1, none⟩ c1).setCell ⟨B, 2, none⟩ c2).setCell ⟨B, 3, none⟩ c3) ∧
    ∀ (b : Nat) (o : Obj), b ≠ B → w.heap[b]? = some o → ((((w.setCell ⟨B, 0, none⟩ c0).setCell ⟨B, 1, none⟩ c1).setCell ⟨B, 2, none⟩ c2).setCell ⟨B, 3, none⟩ c3).heap[b]? = some o := by
  have key : ∀ (b : Nat) (o : Obj), b ≠ B → w.heap[b]? = some o → ((((w.setCell ⟨B, 0, none⟩ c0).setCell ⟨B, 1, none⟩ c1).setCell ⟨B, 2, none⟩ c2).setCell ⟨B, 3, none⟩ c3).heap[b]? = some o := fun b o hne h =>
    (Below.heap_setCell _ _ _ _ hne).trans ((Below.heap_setCell _ _ _ _ hne).trans ((Below.heap_setCell _ _ _ _ hne).trans ((Below.heap_setCell _ _ _ _ hne).trans h)))
  exact ⟨key _ _ (by omega) hR, key⟩
abbrev setB (w : World) (B : Nat) (c0 c1 c2 c3 : Value) : World := (((w.setCell ⟨B, 0, none⟩ c0).setCell ⟨B, 1, none⟩ c1).setCell ⟨B, 2, none⟩ c2).setCell ⟨B, 3, none⟩ c3
theorem setB_heap (w : World) (B b : Nat) (c0 c1 c2 c3 : Value) (h : b ≠ B) : (setB w B c0 c1 c2 c3).heap[b]? = w.heap[b]? := by
  unfold setB
  rw [Below.heap_setCell _ _ _ _ h, Below.heap_setCell _ _ _ _ h, Below.heap_setCell _ _ _ _ h, Below.heap_setCell _ _ _ _ h]
theorem setB_size (w : World) (B : Nat) (c0 c1 c2 c3 : Value) : (setB w B c0 c1 c2 c3).heap.size = w.heap.size := by
  unfold setB
  rw [World.size_setCell, World.size_setCell, World.size_setCell, World.size_setCell]
theorem setB_below {W w : World} {B : Nat} (h : Below B W w) (c0 c1 c2 c3 : Value) : Below B W (setB w B c0 c1 c2 c3) :=
  Below.setCell (Below.setCell (Below.setCell (Below.setCell h (Nat.le_refl B) _) (Nat.le_refl B) _) (Nat.le_refl B) _) (Nat.le_refl B) _
theorem R_fin {α : Type} {dd : Kd α} {e B : Nat} {w w' : World} {ok : Nat → Prop} {v : Value} {l : List α} (h : dd.R e w B (fun k => ok k ∧ B + 4 ≤ k) v l) (hk : ∀ k, B + 4 ≤ k → k < w.heap.size → w'.heap[k]? = w.heap[k]?) : dd.R e w' B ok v l :=
  Kd.R_mono (Kd.R_move (Kd.R_bound h) (fun k hh => hk k hh.1.2 hh.2.2.1)) (fun _ hh => hh.1.1)
set_option maxRecDepth 1000000 in
set_option maxHeartbeats 4000000 in
theorem parse_calls (s : ByteArray) (k : Nat) (o : Out J) (W : World) (hT : Tabs W) (hF : parseJ s.data.toList k = some o) : Calls Tryd.prog 11 #[.string s] W fun x W' => parseEnd W.heap.size o x W' ∧ Below W.heap.size W W' := by
  have hmf : ∀ (fn : Fn) (first cap : Array Value) (w : World), (Instr.makeFunc fn first cap).run Tryd.prog w = .ok (.func fn first cap) w := fun _ _ _ _ => rfl
  unfold parseJ at hF
  by_cases hlong : 16384 < s.data.toList.length
  · rw [if_pos hlong] at hF
    have HX := Aside0.mk (show o = .err 1 0 by injection hF with hF; exact hF.symm)
    rw [size_data] at hlong
    have a1 : (16384 : Int) < (s.size : Int) := by omega
    clear hF hlong hT
    go_enter_defers Tryd.func11, Tryd.ntmps11
    go_wp2
    have f1 := heap_alloc_new W zJ
    have f2 := heap_alloc_new (W.alloc zJ) (Obj.cells #[.int .i64 1] 26)
    have f3 := heap_alloc_new ((W.alloc zJ).alloc (Obj.cells #[.int .i64 1] 26)) (Obj.cells #[.int .i64 0] 3)
    have e2 : (W.alloc zJ).heap.size = W.heap.size + 1 := by simp
    have e3 : ((W.alloc zJ).alloc (Obj.cells #[.int .i64 1] 26)).heap.size = W.heap.size + 1 + 1 := by simp
    rw [e2] at f2
    rw [e3] at f3
    refine ⟨_, parse_results W.heap.size _ _ _ _ _ _ 1 0 rfl rfl rfl (Below.alloc_at (Below.alloc_at f1)) (Below.alloc_at f2) f3, ?_, below_alloc (below_alloc (below_alloc (Below.refl _ _) _) _) _⟩
    rw [HX.out]
    exact ⟨_, _, rfl, Kd.R_nil _ _ _ _ _, Kd.R_nil _ _ _ _ _⟩
  · rw [if_neg hlong] at hF
    rw [size_data] at hlong
    have a1 : ¬ (16384 : Int) < (s.size : Int) := by omega
    obtain ⟨hR0, hB0, hK0, hK1, hK2⟩ := pW_facts s W
    have HR0 := Aside0.mk hR0
    have HB0 := Aside0.mk hB0
    have HK0 := Aside0.mk hK0
    have HK1 := Aside0.mk hK1
    have HK2 := Aside0.mk hK2
    have HT := Aside0.mk (fun (w : World) (ho : On (W.heap.size + 1 + 1 + 1) (pW s W) w) => (hT.below hB0).on hR0 ho)
    have HVal := Aside0.mk (fun (q : Nat) (o : Out J) (w : World) (h1 : q ≤ s.size) (h2 : valueF s.data.toList k 32 q = some o) (h3 : RdB (W.heap.size + 1 + 1 + 1) s q w) (h4 : Tabs w) => (show Calls Tryd.prog 28 #[ptr (W.heap.size + 1 + 1 + 1), .int .i64 0] w (Ends (W.heap.size + 1 + 1 + 1) s w o (jV w.heap.size)) from value_ok s k (by omega) (W.heap.size + 1 + 1 + 1) 32 (Nat.le_refl _) q o w h1 h2 h3 h4))
    have hp0 := blanks_le s.data.toList 0 (Nat.zero_le _)
    rw [size_data] at hp0
    have esz : (pW s W).heap.size = W.heap.size + 4 := by simp [pW]
    have HSB : ∀ {w : World}, On (W.heap.size + 1 + 1 + 1) (pW s W) w → W.heap.size + 4 ≤ w.heap.size := fun ho => by have := ho.size; omega
    clear hR0 hB0 hK0 hK1 hK2 hT
    generalize hg0 : blanksF s.data.toList 0 = p0 at *
    have HG0 := Aside0.mk hg0
    clear hg0
    cases hv : valueF s.data.toList k 32 p0 with
    | none => rw [hv] at hF; cases hF
    | some o1 =>
      rw [hv] at hF
      have HE := Aside0.mk hv
      cases o1 with
      | err e q =>
        have HX := Aside0.mk (show o = .err e q by injection hF with hF; exact hF.symm)
        clear hv hF
        go_enter_defers Tryd.func11, Tryd.ntmps11
        go_wp2_with (first | (go_at_call 27; (with_reducible refine (blanks_calls (W.heap.size + 1 + 1 + 1) s 0 (by omega) (by omega) _ ?rd1a).mono ?_); (case rd1a => exact HR0.out); rintro e w1 ⟨rfl, hr, ho⟩; rw [HG0.out] at hr; have HR1 := Aside0.mk hr; have HO1 := Aside0.mk ho; clear hr ho) | (go_at_call 28; (with_reducible refine (Calls.err_of (HVal.out p0 _ _ hp0 HE.out HR1.out (HT.out _ HO1.out)) rfl).mono ?_); rintro e w2 ⟨rfl, ho⟩; have HO2 := Aside0.mk (HO1.out.trans ho); clear ho))
        have hk0 := blk_on HK0.out (by omega) HO2.out
        have hk1 := blk_on HK1.out (by omega) HO2.out
        have hk2 := blk_on HK2.out (by omega) HO2.out
        refine leaves_cons (f := 26) (args := #[.pointer (some ⟨W.heap.size, 0, none⟩), .pointer (some ⟨W.heap.size + 1, 0, none⟩), .pointer (some ⟨W.heap.size + 2, 0, none⟩)]) (by simp) (by simp [go_sem]) ?_
        refine (catch_fault W.heap.size e q _ _ _ _ 0 0 _ hk0 hk1 hk2).mono ?_
        rintro en u' w3 ⟨rfl, rfl, hb, h0, h1, h2⟩
        refine ⟨_, parse_results W.heap.size _ _ _ _ _ _ e q rfl rfl rfl h0 h1 h2, ?_, (HB0.out.trans (On.low HO2.out)).trans hb⟩
        rw [HX.out]
        exact ⟨_, _, rfl, Kd.R_nil _ _ _ _ _, Kd.R_nil _ _ _ _ _⟩
      | val j q1 =>
        obtain ⟨hq0, hq1⟩ := valueF_val _ _ _ _ _ _ (by rw [size_data]; exact hp0) hv
        rw [size_data] at hq1
        simp only at hF
        generalize hg1 : blanksF s.data.toList q1 = q2 at *
        have HG1 := Aside0.mk hg1
        clear hv hg1
        have hq20 : (0 : Int) ≤ (q2 : Int) := by omega
        by_cases hlt : q2 < s.data.toList.length
        · rw [if_pos hlt] at hF
          rw [size_data] at hlt
          have HX := Aside0.mk (show o = .err 4 q2 by injection hF with hF; exact hF.symm)
          have a2 : (q2 : Int) < (s.size : Int) := by omega
          clear hF hlt
          go_enter_defers Tryd.func11, Tryd.ntmps11
          go_wp2_with (first | (go_at_call 27; (with_reducible refine (blanks_calls (W.heap.size + 1 + 1 + 1) s 0 (by omega) (by omega) _ ?rd1b).mono ?_); (case rd1b => exact HR0.out); rintro e w1 ⟨rfl, hr, ho⟩; rw [HG0.out] at hr; have HR1 := Aside0.mk hr; have HO1 := Aside0.mk ho; clear hr ho) | (go_at_call 28; (with_reducible refine (Calls.val_of (HVal.out p0 _ _ hp0 HE.out HR1.out (HT.out _ HO1.out)) rfl).mono ?_); rintro e w2 ⟨v, rfl, ⟨v2, v3, rfl, j2, j3⟩, hr, ho⟩; have HR2 := Aside0.mk hr; have HO2 := Aside0.mk (HO1.out.trans ho); have j2 := R_at_base j2 (HSB HO1.out); have j3 := R_at_base j3 (HSB HO1.out); have HJ2 := Aside0.mk j2; have HJ3 := Aside0.mk j3; have HW1 := Aside0.mk HO1.out.size; obtain ⟨A2, c2, e2⟩ := Kd.R_slice j2; obtain ⟨A3, c3, e3⟩ := Kd.R_slice j3; subst e2 e3; have hk2 := blk_on HK0.out (by omega) HO2.out; have b0 : w2.cell? ⟨W.heap.size, 0, none⟩ = some (.int .i64 0) := (blk_cell hk2 0).trans rfl; have b1 : w2.cell? ⟨W.heap.size, 1, none⟩ = some (.string ⟨#[]⟩) := (blk_cell hk2 1).trans rfl; have b2 : w2.cell? ⟨W.heap.size, 2, none⟩ = some (.slice none 0 0) := (blk_cell hk2 2).trans rfl; have b3 : w2.cell? ⟨W.heap.size, 3, none⟩ = some (.slice none 0 0) := (blk_cell hk2 3).trans rfl; have g0 := blk_free hk2 0; have g1 := blk_free hk2 1; have g2 := blk_free hk2 2; have g3 := blk_free hk2 3; have HB4 := Aside0.mk (blk4 hk2 (.int .i64 j.f0) (.string j.f1) (.slice A2 j.f2.length c2) (.slice A3 j.f3.length c3)); have HS3 := Aside0.mk (pset HR2.out HO2.out (.int .i64 j.f0) (.string j.f1) (.slice A2 j.f2.length c2) (.slice A3 j.f3.length c3)); clear hr ho j2 j3 hk2) | (go_at_call 27; (with_reducible refine (blanks_calls (W.heap.size + 1 + 1 + 1) s q1 (by omega) hq1 _ ?rd3b).mono ?_); (case rd3b => exact HS3.out.1); rintro e w3 ⟨rfl, hr, ho⟩; rw [HG1.out] at hr; have HR3 := Aside0.mk hr; have HO3 := Aside0.mk ho; have d0 := hr.c0; have d1 := hr.c1; clear hr ho))
          go_quiet (fail)
          go_wp2_with (go_at_call 29; (with_reducible refine (fail_calls _ _ _ _).mono ?_); rintro e w9 ⟨rfl, hb⟩; have HB9 := Aside0.mk hb; clear hb)
          have HO9 := Aside0.mk (show On (W.heap.size + 1 + 1 + 1) _ w9 from (HO3.out.drewN _).drawn HB9.out)
          have hk0 := blk_on HB4.out (by omega) HO9.out
          have hk1 := blk_on (HS3.out.2 _ _ (by omega) (blk_on HK1.out (by omega) HO2.out)) (by omega) HO9.out
          have hk2 := blk_on (HS3.out.2 _ _ (by omega) (blk_on HK2.out (by omega) HO2.out)) (by omega) HO9.out
          refine leaves_cons (f := 26) (args := #[.pointer (some ⟨W.heap.size, 0, none⟩), .pointer (some ⟨W.heap.size + 1, 0, none⟩), .pointer (some ⟨W.heap.size + 2, 0, none⟩)]) (by simp) (by simp [go_sem]) ?_
          refine (catch_fault W.heap.size 4 q2 _ _ _ _ 0 0 _ hk0 hk1 hk2).mono ?_
          rintro en u' w10 ⟨rfl, rfl, hb, h0, h1, h2⟩
          refine ⟨_, parse_results W.heap.size _ _ _ _ _ _ 4 q2 rfl rfl rfl h0 h1 h2, ?_, ?_⟩
          · rw [HX.out]
            exact ⟨_, _, rfl, Kd.R_nil _ _ _ _ _, Kd.R_nil _ _ _ _ _⟩
          · exact ((HB0.out.trans (On.low HO2.out)).trans ((setB_below (Below.refl _ _) _ _ _ _).trans (On.low HO9.out))).trans hb
        · rw [if_neg hlt] at hF
          rw [size_data] at hlt
          have HX := Aside0.mk (show o = .val j 0 by injection hF with hF; exact hF.symm)
          have a2 : ¬ (q2 : Int) < (s.size : Int) := by omega
          clear hF hlt
          go_enter_defers Tryd.func11, Tryd.ntmps11
          go_wp2_with (first | (go_at_call 27; (with_reducible refine (blanks_calls (W.heap.size + 1 + 1 + 1) s 0 (by omega) (by omega) _ ?rd1c).mono ?_); (case rd1c => exact HR0.out); rintro e w1 ⟨rfl, hr, ho⟩; rw [HG0.out] at hr; have HR1 := Aside0.mk hr; have HO1 := Aside0.mk ho; clear hr ho) | (go_at_call 28; (with_reducible refine (Calls.val_of (HVal.out p0 _ _ hp0 HE.out HR1.out (HT.out _ HO1.out)) rfl).mono ?_); rintro e w2 ⟨v, rfl, ⟨v2, v3, rfl, j2, j3⟩, hr, ho⟩; have HR2 := Aside0.mk hr; have HO2 := Aside0.mk (HO1.out.trans ho); have j2 := R_at_base j2 (HSB HO1.out); have j3 := R_at_base j3 (HSB HO1.out); have HJ2 := Aside0.mk j2; have HJ3 := Aside0.mk j3; have HW1 := Aside0.mk HO1.out.size; obtain ⟨A2, c2, e2⟩ := Kd.R_slice j2; obtain ⟨A3, c3, e3⟩ := Kd.R_slice j3; subst e2 e3; have hk2 := blk_on HK0.out (by omega) HO2.out; have b0 : w2.cell? ⟨W.heap.size, 0, none⟩ = some (.int .i64 0) := (blk_cell hk2 0).trans rfl; have b1 : w2.cell? ⟨W.heap.size, 1, none⟩ = some (.string ⟨#[]⟩) := (blk_cell hk2 1).trans rfl; have b2 : w2.cell? ⟨W.heap.size, 2, none⟩ = some (.slice none 0 0) := (blk_cell hk2 2).trans rfl; have b3 : w2.cell? ⟨W.heap.size, 3, none⟩ = some (.slice none 0 0) := (blk_cell hk2 3).trans rfl; have g0 := blk_free hk2 0; have g1 := blk_free hk2 1; have g2 := blk_free hk2 2; have g3 := blk_free hk2 3; have HB4 := Aside0.mk (blk4 hk2 (.int .i64 j.f0) (.string j.f1) (.slice A2 j.f2.length c2) (.slice A3 j.f3.length c3)); have HS3 := Aside0.mk (pset HR2.out HO2.out (.int .i64 j.f0) (.string j.f1) (.slice A2 j.f2.length c2) (.slice A3 j.f3.length c3)); clear hr ho j2 j3 hk2) | (go_at_call 27; (with_reducible refine (blanks_calls (W.heap.size + 1 + 1 + 1) s q1 (by omega) hq1 _ ?rd3c).mono ?_); (case rd3c => exact HS3.out.1); rintro e w3 ⟨rfl, hr, ho⟩; rw [HG1.out] at hr; have HR3 := Aside0.mk hr; have HO3 := Aside0.mk ho; have d0 := hr.c0; have d1 := hr.c1; clear hr ho))
          have hk0 := blk_on HB4.out (by omega) HO3.out
          have hk1 := blk_on (HS3.out.2 _ _ (by omega) (blk_on HK1.out (by omega) HO2.out)) (by omega) HO3.out
          have hk2 := blk_on (HS3.out.2 _ _ (by omega) (blk_on HK2.out (by omega) HO2.out)) (by omega) HO3.out
          have k00 : w3.cell? ⟨W.heap.size, 0, none⟩ = some (.int .i64 j.f0) := (blk_cell hk0 0).trans rfl
          have k01 : w3.cell? ⟨W.heap.size, 1, none⟩ = some (.string j.f1) := (blk_cell hk0 1).trans rfl
          have k02 : w3.cell? ⟨W.heap.size, 2, none⟩ = some (.slice A2 j.f2.length c2) := (blk_cell hk0 2).trans rfl
          have k03 : w3.cell? ⟨W.heap.size, 3, none⟩ = some (.slice A3 j.f3.length c3) := (blk_cell hk0 3).trans rfl
          have k10 : w3.cell? ⟨W.heap.size + 1, 0, none⟩ = some (.int .i64 0) := (blk_cell hk1 0).trans rfl
          have k20 : w3.cell? ⟨W.heap.size + 1 + 1, 0, none⟩ = some (.int .i64 0) := (blk_cell hk2 0).trans rfl
          have x00 := blk_free hk0 0
          have x01 := blk_free hk0 1
          have x02 := blk_free hk0 2
          have x03 := blk_free hk0 3
          have x10 := blk_free hk1 0
          have x20 : w3.frozen? ⟨W.heap.size + 1 + 1, 0, none⟩ = false := blk_free hk2 0
          have HH0 := Aside0.mk hk0
          have HH1 := Aside0.mk hk1
          have HH2 := Aside0.mk hk2
          clear hk0 hk1 hk2 b0 b1 b2 b3 g0 g1 g2 g3
          go_quiet (fail)
          go_wp2
          refine leaves_cons (f := 26) (args := #[.pointer (some ⟨W.heap.size, 0, none⟩), .pointer (some ⟨W.heap.size + 1, 0, none⟩), .pointer (some ⟨W.heap.size + 2, 0, none⟩)]) (by simp) (by simp [go_sem]) ?_
          refine (catch_idle W.heap.size _).mono ?_
          rintro en u' w10 ⟨rfl, rfl, rfl⟩
          have q0 := blk4 (show (w3.drewN nq).heap[W.heap.size]? = _ from HH0.out) (.int .i64 j.f0) (.string j.f1) (.slice A2 j.f2.length c2) (.slice A3 j.f3.length c3)
          have q1 := blk_put (cs := #[.int .i64 0]) ((setB_heap (w3.drewN nq) W.heap.size (W.heap.size + 1) (.int .i64 j.f0) (.string j.f1) (.slice A2 j.f2.length c2) (.slice A3 j.f3.length c3) (by omega)).trans HH1.out) 0 (.int .i64 0) rfl
          have q2' := blk_put (cs := #[.int .i64 0]) ((Below.heap_setCell (setB (w3.drewN nq) W.heap.size (.int .i64 j.f0) (.string j.f1) (.slice A2 j.f2.length c2) (.slice A3 j.f3.length c3)) ⟨W.heap.size + 1, 0, none⟩ (.int .i64 0) (W.heap.size + 2) (by show W.heap.size + 2 ≠ W.heap.size + 1; omega)).trans ((setB_heap (w3.drewN nq) W.heap.size (W.heap.size + 2) (.int .i64 j.f0) (.string j.f1) (.slice A2 j.f2.length c2) (.slice A3 j.f3.length c3) (by omega)).trans HH2.out)) 0 (.int .i64 0) rfl
          refine ⟨_, parse_results W.heap.size _ _ _ _ _ _ 0 0 rfl rfl rfl ((Below.heap_setCell _ _ _ _ (by show W.heap.size ≠ W.heap.size + 2; omega)).trans ((Below.heap_setCell _ _ _ _ (by show W.heap.size ≠ W.heap.size + 1; omega)).trans q0)) ((Below.heap_setCell _ _ _ _ (by show W.heap.size + 1 ≠ W.heap.size + 2; omega)).trans q1) q2', ?_, ?_⟩
          · rw [HX.out]
            have hkeep : ∀ k, W.heap.size + 4 ≤ k → k < w2.heap.size → (((setB (w3.drewN nq) W.heap.size (.int .i64 j.f0) (.string j.f1) (.slice A2 j.f2.length c2) (.slice A3 j.f3.length c3)).setCell ⟨W.heap.size + 1, 0, none⟩ (.int .i64 0)).setCell ⟨W.heap.size + 1 + 1, 0, none⟩ (.int .i64 0)).heap[k]? = w2.heap[k]? := fun k h1 h2 =>
              (Below.heap_setCell _ _ _ _ (by show k ≠ W.heap.size + 1 + 1; omega)).trans ((Below.heap_setCell _ _ _ _ (by show k ≠ W.heap.size + 1; omega)).trans ((setB_heap _ _ k _ _ _ _ (by omega)).trans ((HO3.out.kept k (by omega) (by rw [setB_size]; exact h2)).trans (setB_heap _ _ k _ _ _ _ (by omega)))))
            exact ⟨_, _, rfl, R_fin HJ2.out hkeep, R_fin HJ3.out hkeep⟩
          · have m1 := (HB0.out.trans (On.low HO2.out)).trans ((setB_below (Below.refl _ _) (.int .i64 j.f0) (.string j.f1) (.slice A2 j.f2.length c2) (.slice A3 j.f3.length c3)).trans (On.low (HO3.out.drewN nq)))
            exact Below.setCell (Below.setCell (setB_below m1 _ _ _ _) (show W.heap.size ≤ W.heap.size + 1 by omega) _) (show W.heap.size ≤ W.heap.size + 1 + 1 by omega) _
end Go.Proofs.YtaalajhmfdcalaaDoor.X
namespace Go.Proofs.YtaalajhmfdcalaaDoor.X
open Go.RowKit
structure GL (w : World) : Prop where
  words : GLw w
  tabs : Tabs w
theorem GL_below {w W : World} (h : GL w) (hb : Below w.heap.size w W) : GL W := ⟨h.words.below hb, h.tabs.bel hb⟩
end Go.Proofs.YtaalajhmfdcalaaDoor.X
namespace Go.Proofs.YtaalajhmfdcalaaDoor.X
open Go.RowKit Go.Lib Go.Proofs.YtaalajhmfdcalaaDoorW.PrintWords Go.Proofs.YtaalajhmfdcalaaDoorW.PrintLast Go.Proofs.YtaalajhmfdcalaaDoorW.PrintMore
def jtext_Parse.f (a0 : ByteArray) : Option (Int × ByteArray × List ByteArray × (List (S25)) × Int × Int) :=
  match parseJ a0.data.toList (a0.size + 1) with
  | none => none
  | some (.err e p) => some (0, ⟨#[]⟩, [], [], (e : Int), (p : Int))
  | some (.val j _) => some (j.f0, j.f1, j.f2, j.f3, 0, 0)
theorem jtext_Parse.calls (a0 : ByteArray) (r1 : Int) (r2 : ByteArray) (r3 : List ByteArray) (r4 : List (S25)) (r5 r6 : Int) (w : World) (hG : GL w) (h : jtext_Parse.f a0 = some (r1, r2, r3, r4, r5, r6)) :
    Calls Tryd.prog 11 #[.string a0] w fun e w' => ∃ v2_ v3_ : Value, e = .returned (.tuple #[.agg #[.int .i64 r1, .string r2, v2_, v3_], .int .i64 r5, .int .i64 r6]) ∧ Kd.R Kd.string 9 w' w.heap.size (fun _ => True) v2_ r3 ∧ Kd.R k25 25 w' w.heap.size (fun k_ => some k_ ≠ (v2_ : Value).ownBlock) v3_ r4 ∧ Below w.heap.size w w' := by
  unfold jtext_Parse.f at h
  cases ho : parseJ a0.data.toList (a0.size + 1) with
  | none => rw [ho] at h; cases h
  | some o =>
    rw [ho] at h
    refine (parse_calls a0 _ o w hG.tabs ho).mono ?_
    rintro e w' ⟨he, hb⟩
    cases o with
    | err e1 p =>
      simp only [Option.some.injEq, Prod.mk.injEq] at h
      obtain ⟨rfl, rfl, rfl, rfl, rfl, rfl⟩ := h
      obtain ⟨v2, v3, rfl, h2, h3⟩ := he
      exact ⟨v2, v3, rfl, h2, h3, hb⟩
    | val j q =>
      simp only [Option.some.injEq, Prod.mk.injEq] at h
      obtain ⟨rfl, rfl, rfl, rfl, rfl, rfl⟩ := h
      obtain ⟨v2, v3, rfl, h2, h3⟩ := he
      exact ⟨v2, v3, rfl, h2, h3, hb⟩
def smB : Nat → J → Bool
  | 0, v => decide (v.f1.size ≤ 288230376151711743)
  | r + 1, v => decide (v.f1.size ≤ 288230376151711743) && v.f2.all (fun s => decide (s.size ≤ 288230376151711743)) && v.f3.all (fun y => smB r y)
theorem smB_iff : ∀ (r : Nat) (v : J), smB r v = true ↔ SmJ r v
  | 0, v => by simp [smB, SmJ]
  | r + 1, v => by
    simp only [smB, SmJ, Bool.and_eq_true, decide_eq_true_eq, List.all_eq_true, and_assoc]
    refine and_congr Iff.rfl (and_congr Iff.rfl ⟨fun h y hy => (smB_iff r y).1 (h y hy), fun h y hy => (smB_iff r y).2 (h y hy)⟩)
def jtext_Print.f (a0_0 : Int) (a0_1 : ByteArray) (l0_2 : List ByteArray) (l0_3 : List (S25)) : Option (ByteArray × Int) :=
  if smB 32 ⟨a0_0, a0_1, l0_2, l0_3⟩ = true then some (printB ⟨a0_0, a0_1, l0_2, l0_3⟩, ((printS ⟨a0_0, a0_1, l0_2, l0_3⟩).e : Int)) else none
theorem jtext_Print.calls (a0_0 : Int) (a0_1 : ByteArray) (A0_2 : Option Addr) (c0_2 : Nat) (l0_2 : List ByteArray) (A0_3 : Option Addr) (c0_3 : Nat) (l0_3 : List (S25)) (r1 : ByteArray) (r2 : Int) (w : World) (hr0_2 : Kd.C Kd.string w A0_2 l0_2.length l0_2) (hc0_2 : l0_2.length ≤ c0_2) (hr0_3 : Kd.C k25 w A0_3 l0_3.length l0_3) (hc0_3 : l0_3.length ≤ c0_3) (hG : GL w) (h : jtext_Print.f a0_0 a0_1 l0_2 l0_3 = some (r1, r2)) :
    Calls Tryd.prog 17 #[.agg #[.int .i64 a0_0, .string a0_1, .slice A0_2 l0_2.length c0_2, .slice A0_3 l0_3.length c0_3]] w fun e w' => e = .returned (.tuple #[.string r1, .int .i64 r2]) ∧ Below w.heap.size w w' := by
  unfold jtext_Print.f at h
  split at h
  · rename_i hs
    simp only [Option.some.injEq, Prod.mk.injEq] at h
    obtain ⟨rfl, rfl⟩ := h
    exact print_calls a0_0 a0_1 l0_2 l0_3 A0_2 A0_3 c0_2 c0_3 w ((smB_iff 32 _).1 hs) hr0_2 hc0_2 hr0_3 hc0_3 hG.words hG.tabs
  · cases h
end Go.Proofs.YtaalajhmfdcalaaDoor.X
namespace Go.Proofs.YtaalajhmfdcalaaDoor.X
open Go.RowKit Go.Lib Go.Proofs.YtaalajhmfdcalaaDoorW.PrintWords
/-- No string longer than B, no list longer than L. -/
inductive Bd (B L : Nat) : J → Prop
  | mk (f0 : Int) (f1 : ByteArray) (f2 : List ByteArray) (f3 : List J) : f1.size ≤ B → (∀ s, s ∈ f2 → s.size ≤ B) → f2.length ≤ L → f3.length ≤ L → (∀ y, y ∈ f3 → Bd B L y) → Bd B L ⟨f0, f1, f2, f3⟩
theorem rd_nat (xs : List J) (i : Nat) (h : i < xs.length) : rd_T25 xs (i : Int) = xs[i] := by
  unfold rd_T25
  rw [show ((i : Int)).toNat = i from Int.toNat_natCast i, List.getD_eq_getElem?_getD, List.getElem?_eq_getElem h]
  rfl
theorem wrap_id (x : Int) (h0 : -9223372036854775808 ≤ x) (h1 : x ≤ 9223372036854775807) : wrap64 x = x := by unfold wrap64; omega
theorem ge_succ {K k : Nat} (h : K + 1 ≤ k) : ∃ k', k = k' + 1 ∧ K ≤ k' := ⟨k - 1, by omega, by omega⟩
theorem eta_J (y : J) : (⟨y.f0, y.f1, y.f2, y.f3⟩ : J) = y := by cases y; rfl
theorem smB_of {B L : Nat} (hB : B ≤ 288230376151711743) : ∀ (r : Nat) {v : J}, Bd B L v → smB r v = true
  | 0, v, h => by
    cases h with
    | mk f0 f1 f2 f3 h1 _ _ _ _ => unfold smB; exact decide_eq_true (by show f1.size ≤ _; omega)
  | r + 1, v, h => by
    cases h with
    | mk f0 f1 f2 f3 h1 h2 _ _ h3 =>
      unfold smB
      simp only [Bool.and_eq_true, decide_eq_true_eq, List.all_eq_true]
      exact ⟨⟨by omega, fun s hs => Nat.le_trans (h2 s hs) hB⟩, fun y hy => smB_of hB r (h3 y hy)⟩
end Go.Proofs.YtaalajhmfdcalaaDoor.X
namespace Go.Proofs.YtaalajhmfdcalaaDoor.X
end Go.Proofs.YtaalajhmfdcalaaDoor.X
namespace Go.Proofs.YtaalajhmfdcalaaDoor.X
open Go.RowKit Go.Proofs.YtaalajhmfdcalaaDoor.X Go.Proofs.YtaalajhmfdcalaaDoorW.PrintWords Go.Proofs.YtaalajhmfdcalaaDoorW.PrintLast Go.Proofs.YtaalajhmfdcalaaDoorW.PrintMore
attribute [local go_sem] max2_int min2_int max_two min_two max_three min_three max_four min_four   -- for this text's walks alone
set_option linter.unusedVariables false
set_option linter.unusedSimpArgs false

/-! ### wicketlaw04_num: function 14 -/
def wicketlaw04_num.f (a0 : Int) : Option (Int) := some a0
set_option maxHeartbeats 8000000 in
set_option maxRecDepth 100000 in
theorem wicketlaw04_num.calls (a0 : Int) (r : Int) (w : World) (h : wicketlaw04_num.f a0 = some r) :
    Calls Tryd.prog 14 #[.int .i64 a0] w fun e w' => e = .returned (.int .i64 r) ∧ Drawn0 w w' := by
  have H : (some a0) = some r := h
  clear h
  obtain rfl := Option.some.inj H
  go_enter Tryd.func14, Tryd.ntmps14
  go_wp2
  go_ret
  exact ⟨by first | rfl | (simp; done) | (simp [*]; done), by repeat (first | exact Drawn0.refl _ | apply Drawn0.step)⟩

/-! ### wicketlaw04_live: function 13 -/
def wicketlaw04_live.f  : Option (Bool) := (jtext_Parse.f (⟨#[32, 123, 34, 97, 34, 32, 58, 32, 91, 49, 44, 32, 116, 114, 117, 101, 44, 32, 34, 120, 34, 93, 125, 32]⟩ : ByteArray)).bind fun bt101 => ((jtext_Print.f bt101.1 bt101.2.1 bt101.2.2.1 bt101.2.2.2.1).bind fun bt112 => ((jtext_Parse.f (⟨#[91, 49, 44, 93]⟩ : ByteArray)).bind fun bt114 => ((wicketlaw04_num.f bt101.2.2.2.2.1).bind fun t125 => (if t125 = 0 then ((wicketlaw04_num.f bt112.2).bind fun t126 => (if t126 = 0 then (if bt112.1.toList = ([123, 34, 97, 34, 58, 91, 49, 44, 116, 114, 117, 101, 44, 34, 120, 34, 93, 125] : List UInt8) then ((wicketlaw04_num.f bt114.2.2.2.2.1).bind fun t127 => (if t127 = 40 then (some (bt114.2.2.2.2.2 == 3)) else none)) else none) else none)) else none))))
set_option maxHeartbeats 8000000 in
set_option maxRecDepth 100000 in
theorem wicketlaw04_live.calls  (r : Bool) (w : World) (hG : GL w) (h : wicketlaw04_live.f  = some r) :
    Calls Tryd.prog 13 #[] w fun e w' => e = .returned (.bool r) ∧ Below w.heap.size w w' := by
  have hu25 := Tryd.underlying25
  have HB := Aside0.mk (Below.refl w.heap.size w)
  have HG := Aside0.mk hG
  clear hG
  have H : ((jtext_Parse.f (⟨#[32, 123, 34, 97, 34, 32, 58, 32, 91, 49, 44, 32, 116, 114, 117, 101, 44, 32, 34, 120, 34, 93, 125, 32]⟩ : ByteArray)).bind fun bt101 => ((jtext_Print.f bt101.1 bt101.2.1 bt101.2.2.1 bt101.2.2.2.1).bind fun bt112 => ((jtext_Parse.f (⟨#[91, 49, 44, 93]⟩ : ByteArray)).bind fun bt114 => ((wicketlaw04_num.f bt101.2.2.2.2.1).bind fun t125 => (if t125 = 0 then ((wicketlaw04_num.f bt112.2).bind fun t126 => (if t126 = 0 then (if bt112.1.toList = ([123, 34, 97, 34, 58, 91, 49, 44, 116, 114, 117, 101, 44, 34, 120, 34, 93, 125] : List UInt8) then ((wicketlaw04_num.f bt114.2.2.2.2.1).bind fun t127 => (if t127 = 40 then (some (bt114.2.2.2.2.2 == 3)) else none)) else none) else none)) else none))))) = some r := h
  clear h
  replace H := Option.bind_eq_some_iff.mp H
  obtain ⟨⟨t101, t102, t103, t106, t109, t110⟩, A10, H⟩ := H
  replace H : ((jtext_Print.f t101 t102 t103 t106).bind fun bt112 => ((jtext_Parse.f (⟨#[91, 49, 44, 93]⟩ : ByteArray)).bind fun bt114 => ((wicketlaw04_num.f t109).bind fun t125 => (if t125 = 0 then ((wicketlaw04_num.f bt112.2).bind fun t126 => (if t126 = 0 then (if bt112.1.toList = ([123, 34, 97, 34, 58, 91, 49, 44, 116, 114, 117, 101, 44, 34, 120, 34, 93, 125] : List UInt8) then ((wicketlaw04_num.f bt114.2.2.2.2.1).bind fun t127 => (if t127 = 40 then (some (bt114.2.2.2.2.2 == 3)) else none)) else none) else none)) else none)))) = some r := H
  have A1 := Aside0.mk A10
  clear A10
  replace H := Option.bind_eq_some_iff.mp H
  obtain ⟨⟨t112, t113⟩, A20, H⟩ := H
  replace H : ((jtext_Parse.f (⟨#[91, 49, 44, 93]⟩ : ByteArray)).bind fun bt114 => ((wicketlaw04_num.f t109).bind fun t125 => (if t125 = 0 then ((wicketlaw04_num.f t113).bind fun t126 => (if t126 = 0 then (if t112.toList = ([123, 34, 97, 34, 58, 91, 49, 44, 116, 114, 117, 101, 44, 34, 120, 34, 93, 125] : List UInt8) then ((wicketlaw04_num.f bt114.2.2.2.2.1).bind fun t127 => (if t127 = 40 then (some (bt114.2.2.2.2.2 == 3)) else none)) else none) else none)) else none))) = some r := H
  have A2 := Aside0.mk A20
  clear A20
  replace H := Option.bind_eq_some_iff.mp H
  obtain ⟨⟨t114, t115, t116, t119, t122, t123⟩, A30, H⟩ := H
  replace H : ((wicketlaw04_num.f t109).bind fun t125 => (if t125 = 0 then ((wicketlaw04_num.f t113).bind fun t126 => (if t126 = 0 then (if t112.toList = ([123, 34, 97, 34, 58, 91, 49, 44, 116, 114, 117, 101, 44, 34, 120, 34, 93, 125] : List UInt8) then ((wicketlaw04_num.f t122).bind fun t127 => (if t127 = 40 then (some (t123 == 3)) else none)) else none) else none)) else none)) = some r := H
  have A3 := Aside0.mk A30
  clear A30
  replace H := Option.bind_eq_some_iff.mp H
  obtain ⟨t125, A40, H⟩ := H
  obtain rfl : t109 = t125 := Option.some.inj A40
  replace H : (if t109 = 0 then ((wicketlaw04_num.f t113).bind fun t126 => (if t126 = 0 then (if t112.toList = ([123, 34, 97, 34, 58, 91, 49, 44, 116, 114, 117, 101, 44, 34, 120, 34, 93, 125] : List UInt8) then ((wicketlaw04_num.f t122).bind fun t127 => (if t127 = 40 then (some (t123 == 3)) else none)) else none) else none)) else none) = some r := H
  have A4 := Aside0.mk A40
  clear A40
  by_cases c5 : t109 = 0
  · rw [if_pos c5] at H
    have c5b0 : (t109 == 0) = true := beq_iff_eq.mpr c5
    have c5b1 : (t109 != 0) = false := bne_eq_false_iff_eq.mpr c5
    clear c5
    replace H := Option.bind_eq_some_iff.mp H
    obtain ⟨t126, A60, H⟩ := H
    obtain rfl : t113 = t126 := Option.some.inj A60
    replace H : (if t113 = 0 then (if t112.toList = ([123, 34, 97, 34, 58, 91, 49, 44, 116, 114, 117, 101, 44, 34, 120, 34, 93, 125] : List UInt8) then ((wicketlaw04_num.f t122).bind fun t127 => (if t127 = 40 then (some (t123 == 3)) else none)) else none) else none) = some r := H
    have A6 := Aside0.mk A60
    clear A60
    by_cases c7 : t113 = 0
    · rw [if_pos c7] at H
      have c7b0 : (t113 == 0) = true := beq_iff_eq.mpr c7
      have c7b1 : (t113 != 0) = false := bne_eq_false_iff_eq.mpr c7
      clear c7
      by_cases c8 : t112.toList = ([123, 34, 97, 34, 58, 91, 49, 44, 116, 114, 117, 101, 44, 34, 120, 34, 93, 125] : List UInt8)
      · rw [if_pos c8] at H
        have c8b0 : (t112.toList == ([123, 34, 97, 34, 58, 91, 49, 44, 116, 114, 117, 101, 44, 34, 120, 34, 93, 125] : List UInt8)) = true := beq_iff_eq.mpr c8
        have c8b1 : (t112.toList != ([123, 34, 97, 34, 58, 91, 49, 44, 116, 114, 117, 101, 44, 34, 120, 34, 93, 125] : List UInt8)) = false := bne_eq_false_iff_eq.mpr c8
        clear c8
        replace H := Option.bind_eq_some_iff.mp H
        obtain ⟨t127, A90, H⟩ := H
        obtain rfl : t122 = t127 := Option.some.inj A90
        replace H : (if t122 = 40 then (some (t123 == 3)) else none) = some r := H
        have A9 := Aside0.mk A90
        clear A90
        by_cases c10 : t122 = 40
        · rw [if_pos c10] at H
          have c10b0 : (t122 == 40) = true := beq_iff_eq.mpr c10
          have c10b1 : (t122 != 40) = false := bne_eq_false_iff_eq.mpr c10
          clear c10
          obtain rfl := Option.some.inj H
          go_enter Tryd.func13, Tryd.ntmps13
          go_wp2_with (first | ((with_reducible refine gate_callee (f := 11) rfl ?_); refine goesL_ (some 10) rfl rfl Tryd.func11 (by kernel_rfl) rfl #[.string (⟨#[32, 123, 34, 97, 34, 32, 58, 32, 91, 49, 44, 32, 116, 114, 117, 101, 44, 32, 34, 120, 34, 93, 125, 32]⟩ : ByteArray)] rfl (by (try simp only [List.map_toArray, List.map_cons, List.map_nil]); first | done | rfl | (simp only [List.length_drop, List.length_take]; rfl)) ?_; (with_reducible refine (jtext_Parse.calls (⟨#[32, 123, 34, 97, 34, 32, 58, 32, 91, 49, 44, 32, 116, 114, 117, 101, 44, 32, 34, 120, 34, 93, 125, 32]⟩ : ByteArray) t101 t102 t103 t106 t109 t110 _ ?side1 A1.out).mono ?_); (case side1 => exact GL_below HG.out (by repeat (first | (with_reducible first | exact HB.out | apply below_alloc | apply pw_below_drewN | apply below_drew1) | exact HB.out))); rintro e w11 ⟨v104, v107, rfl, ho0, ho1, hb⟩; refine ⟨_, rfl, ?_⟩; have n0_ := Aside0.mk (Kd.R_lower ho0 (below_size (by repeat (first | (with_reducible first | exact HB.out | apply below_alloc | apply pw_below_drewN | apply below_drew1) | exact HB.out)))); have n1_ := Aside0.mk (Kd.R_lower ho1 (below_size (by repeat (first | (with_reducible first | exact HB.out | apply below_alloc | apply pw_below_drewN | apply below_drew1) | exact HB.out)))); have n2_ := Aside0.mk (below_step (by repeat (first | (with_reducible first | exact HB.out | apply below_alloc | apply pw_below_drewN | apply below_drew1) | exact HB.out)) hb); clear HB; have HO105 := n0_; have HO108 := n1_; have HB := n2_; clear n0_ n1_ n2_; (try clear hb); (try clear hb2); (try clear hk); (try clear hi); (try clear ho0); (try clear ho1)) | ((with_reducible refine gate_dst (N := 1) rfl ?_); refine box_event ?hg (N := 1) ?hd (cs := #[.int .i64 0, .string (⟨#[]⟩ : ByteArray), .slice none 0 0, .slice none 0 0]) (t := 25) ?hr ?_; (case hd => rfl); (case hg => rfl); (case hr => first | (go_simp; done) | (go_simp; rfl)); intro gb111 hg w12 hbox hb; have n0_ := Aside0.mk (Kd.R_below (by (with_reducible repeat (first | apply Kd.R_alloc | apply Kd.R_drewN | apply Kd.R_drew)); exact HO105.out) hb); have n1_ := Aside0.mk (Kd.R_below (Kd.R_elderB (by (with_reducible repeat (first | apply Kd.R_alloc | apply Kd.R_drewN | apply Kd.R_drew)); exact HO108.out) gb111 (Nat.le_of_eq hg.symm)) hb); have n2_ := Aside0.mk (below_step (by repeat (first | (with_reducible first | exact HB.out | apply below_alloc | apply pw_below_drewN | apply below_drew1) | exact HB.out)) hb); have n3_ := Aside0.mk (hbox); have n4_ := Aside0.mk ((by rw [hg]; exact (below_size (by repeat (first | (with_reducible first | exact HB.out | apply below_alloc | apply pw_below_drewN | apply below_drew1) | exact HB.out))) : w.heap.size ≤ gb111)); have n5_ := Aside0.mk ((by rw [hg]; exact (below_size (by repeat (first | (with_reducible first | exact HB.out | apply below_alloc | apply pw_below_drewN | apply below_drew1) | exact HB.out))) : w.heap.size ≤ gb111)); clear HO105; clear HO108; clear HB; have HO105 := n0_; have HO108 := n1_; have HB := n2_; have BK111 := n3_; have GW111 := n4_; have GE111 := n5_; clear n0_ n1_ n2_ n3_ n4_ n5_; clear hb hbox hg; have hcz13_0 : w12.cell? ⟨gb111, 0, none⟩ = some (.int .i64 0) := (blk_cell BK111.out 0).trans rfl; have hcz13_1 : w12.cell? ⟨gb111, 1, none⟩ = some (.string (⟨#[]⟩ : ByteArray)) := (blk_cell BK111.out 1).trans rfl; have hcz13_2 : w12.cell? ⟨gb111, 2, none⟩ = some (.slice none 0 0) := (blk_cell BK111.out 2).trans rfl; have hcz13_3 : w12.cell? ⟨gb111, 3, none⟩ = some (.slice none 0 0) := (blk_cell BK111.out 3).trans rfl; have hfz13_0 := blk_frozen BK111.out 0; have hfz13_1 := blk_frozen BK111.out 1; have hfz13_2 := blk_frozen BK111.out 2; have hfz13_3 := blk_frozen BK111.out 3; obtain ⟨Ao14, co14, eo14⟩ := Kd.R_slice HO105.out; subst eo14; obtain ⟨Ao15, co15, eo15⟩ := Kd.R_slice HO108.out; subst eo15) | ((with_reducible refine gate_callee (f := 17) rfl ?_); refine goesL_ (some 16) rfl rfl Tryd.func17 (by kernel_rfl) rfl #[.agg #[.int .i64 t101, .string t102, .slice Ao14 t103.length co14, .slice Ao15 t106.length co15]] rfl (by (try simp only [List.map_toArray, List.map_cons, List.map_nil]); first | done | rfl | (simp only [List.length_drop, List.length_take]; rfl)) ?_; (with_reducible refine (jtext_Print.calls t101 t102 _ _ t103 _ _ t106 t112 t113 _ ?side1 ?side2 ?side3 ?side4 ?side5 A2.out).mono ?_); (case side1 => refine (Kd.R_reads' (e := 9) (base := w.heap.size) (ok := fun k_ => True) (n := t103.length) (c := co14) ?_).2.2; exact (by (with_reducible repeat (first | apply Kd.R_alloc | apply Kd.R_drewN | apply Kd.R_drew)); exact (Kd.R_mono (Kd.R_far (p := ⟨gb111, 3, none⟩) (Kd.R_far (p := ⟨gb111, 2, none⟩) (Kd.R_far (p := ⟨gb111, 1, none⟩) (Kd.R_far (p := ⟨gb111, 0, none⟩) (Kd.R_types HO105.out BK111.out (by decide)) (fun _ hk => hk.2) (.int .i64 t101)) (fun _ hk => hk.2) (.string t102)) (fun _ hk => hk.2) (.slice Ao14 t103.length co14)) (fun _ hk => hk.2) (.slice Ao15 t106.length co15)) (fun _ h_ => h_.1)))); (case side2 => exact (Kd.R_reads' HO105.out).2.1); (case side3 => refine (Kd.R_reads' (e := 25) (base := w.heap.size) (ok := fun k_ => (some k_ ≠ (.slice Ao14 t103.length co14 : Value).ownBlock ∧ k_ ≠ gb111)) (n := t106.length) (c := co15) ?_).2.2; exact (by (with_reducible repeat (first | apply Kd.R_alloc | apply Kd.R_drewN | apply Kd.R_drew)); exact (Kd.R_mono (Kd.R_far (p := ⟨gb111, 3, none⟩) (Kd.R_far (p := ⟨gb111, 2, none⟩) (Kd.R_far (p := ⟨gb111, 1, none⟩) (Kd.R_far (p := ⟨gb111, 0, none⟩) (Kd.R_mono HO108.out (fun k_ hk => (⟨hk, hk.2⟩ : _ ∧ k_ ≠ gb111))) (fun _ hk => hk.2) (.int .i64 t101)) (fun _ hk => hk.2) (.string t102)) (fun _ hk => hk.2) (.slice Ao14 t103.length co14)) (fun _ hk => hk.2) (.slice Ao15 t106.length co15)) (fun _ h_ => h_.1)))); (case side4 => exact (Kd.R_reads' HO108.out).2.1); (case side5 => exact GL_below HG.out (by repeat (first | (with_reducible first | exact HB.out | apply below_alloc | apply pw_below_drewN | apply below_drew1 | refine below_set ?_ GE111.out) | exact HB.out))); rintro e w16 ⟨rfl, hb⟩; refine ⟨_, rfl, ?_⟩; have n0_ := Aside0.mk (Kd.R_below (by (with_reducible repeat (first | apply Kd.R_alloc | apply Kd.R_drewN | apply Kd.R_drew)); exact (Kd.R_mono (Kd.R_far (p := ⟨gb111, 3, none⟩) (Kd.R_far (p := ⟨gb111, 2, none⟩) (Kd.R_far (p := ⟨gb111, 1, none⟩) (Kd.R_far (p := ⟨gb111, 0, none⟩) (Kd.R_types HO105.out BK111.out (by decide)) (fun _ hk => hk.2) (.int .i64 t101)) (fun _ hk => hk.2) (.string t102)) (fun _ hk => hk.2) (.slice Ao14 t103.length co14)) (fun _ hk => hk.2) (.slice Ao15 t106.length co15)) (fun _ h_ => h_.1))) hb); have n1_ := Aside0.mk (Kd.R_below (by (with_reducible repeat (first | apply Kd.R_alloc | apply Kd.R_drewN | apply Kd.R_drew)); exact (Kd.R_mono (Kd.R_far (p := ⟨gb111, 3, none⟩) (Kd.R_far (p := ⟨gb111, 2, none⟩) (Kd.R_far (p := ⟨gb111, 1, none⟩) (Kd.R_far (p := ⟨gb111, 0, none⟩) (Kd.R_mono HO108.out (fun k_ hk => (⟨hk, hk.2⟩ : _ ∧ k_ ≠ gb111))) (fun _ hk => hk.2) (.int .i64 t101)) (fun _ hk => hk.2) (.string t102)) (fun _ hk => hk.2) (.slice Ao14 t103.length co14)) (fun _ hk => hk.2) (.slice Ao15 t106.length co15)) (fun _ h_ => h_.1))) hb); have n2_ := Aside0.mk (blk_below (g := gb111) (o := .cells #[.int .i64 t101, .string t102, .slice Ao14 t103.length co14, .slice Ao15 t106.length co15] 25 (0, 0)) (by (with_reducible repeat (first | refine blk_drewN ?_ _ | refine blk_drew ?_ | refine blk_alloc ?_ _)); refine blk_put (cs := #[.int .i64 t101, .string t102, .slice Ao14 t103.length co14, .slice none 0 0]) ?_ 3 _ rfl; (with_reducible repeat (first | refine blk_drewN ?_ _ | refine blk_drew ?_ | refine blk_alloc ?_ _)); refine blk_put (cs := #[.int .i64 t101, .string t102, .slice none 0 0, .slice none 0 0]) ?_ 2 _ rfl; (with_reducible repeat (first | refine blk_drewN ?_ _ | refine blk_drew ?_ | refine blk_alloc ?_ _)); refine blk_put (cs := #[.int .i64 t101, .string (⟨#[]⟩ : ByteArray), .slice none 0 0, .slice none 0 0]) ?_ 1 _ rfl; (with_reducible repeat (first | refine blk_drewN ?_ _ | refine blk_drew ?_ | refine blk_alloc ?_ _)); refine blk_put (cs := #[.int .i64 0, .string (⟨#[]⟩ : ByteArray), .slice none 0 0, .slice none 0 0]) ?_ 0 _ rfl; (with_reducible repeat (first | refine blk_drewN ?_ _ | refine blk_drew ?_ | refine blk_alloc ?_ _)); exact BK111.out) hb); have n3_ := Aside0.mk (below_step (by repeat (first | (with_reducible first | exact HB.out | apply below_alloc | apply pw_below_drewN | apply below_drew1 | refine below_set ?_ GE111.out) | exact HB.out)) hb); clear HO105; clear HO108; clear BK111; clear HB; have HO105 := n0_; have HO108 := n1_; have BK111 := n2_; have HB := n3_; clear n0_ n1_ n2_ n3_; (try clear hb); (try clear hb2); (try clear hk); (try clear hi)) | ((with_reducible refine gate_callee (f := 11) rfl ?_); refine goesL_ (some 20) rfl rfl Tryd.func11 (by kernel_rfl) rfl #[.string (⟨#[91, 49, 44, 93]⟩ : ByteArray)] rfl (by (try simp only [List.map_toArray, List.map_cons, List.map_nil]); first | done | rfl | (simp only [List.length_drop, List.length_take]; rfl)) ?_; (with_reducible refine (jtext_Parse.calls (⟨#[91, 49, 44, 93]⟩ : ByteArray) t114 t115 t116 t119 t122 t123 _ ?side1 A3.out).mono ?_); (case side1 => exact GL_below HG.out (by repeat (first | (with_reducible first | exact HB.out | apply below_alloc | apply pw_below_drewN | apply below_drew1 | refine below_set ?_ GE111.out) | exact HB.out))); rintro e w17 ⟨v117, v120, rfl, ho0, ho1, hb⟩; refine ⟨_, rfl, ?_⟩; have n0_ := Aside0.mk (Kd.R_elder' (by (with_reducible repeat (first | apply Kd.R_alloc | apply Kd.R_drewN | apply Kd.R_drew)); exact HO105.out) (Kd.R_base ho0) hb); have n1_ := Aside0.mk (Kd.R_mono (Kd.R_told (Kd.R_told (Kd.R_old (by (with_reducible repeat (first | apply Kd.R_alloc | apply Kd.R_drewN | apply Kd.R_drew)); exact HO108.out) hb) (Kd.R_base ho0)) (Kd.R_base ho1)) (fun _ h_ => h_.1)); have n2_ := Aside0.mk (Kd.R_lower (Kd.R_new' ho0 (Kd.R_lt (by (with_reducible repeat (first | apply Kd.R_alloc | apply Kd.R_drewN | apply Kd.R_drew)); exact HO105.out))) (below_size (by repeat (first | (with_reducible first | exact HB.out | apply below_alloc | apply pw_below_drewN | apply below_drew1 | refine below_set ?_ GE111.out) | exact HB.out)))); have n3_ := Aside0.mk (Kd.R_lower (Kd.R_newB (Kd.R_new' (Kd.R_new' ho1 (Kd.R_lt (by (with_reducible repeat (first | apply Kd.R_alloc | apply Kd.R_drewN | apply Kd.R_drew)); exact HO105.out))) (Kd.R_lt (by (with_reducible repeat (first | apply Kd.R_alloc | apply Kd.R_drewN | apply Kd.R_drew)); exact HO108.out))) (g := gb111) (o := .cells #[.int .i64 t101, .string t102, .slice Ao14 t103.length co14, .slice Ao15 t106.length co15] 25 (0, 0)) (by (with_reducible repeat (first | refine blk_drewN ?_ _ | refine blk_drew ?_ | refine blk_alloc ?_ _)); exact BK111.out)) (below_size (by repeat (first | (with_reducible first | exact HB.out | apply below_alloc | apply pw_below_drewN | apply below_drew1 | refine below_set ?_ GE111.out) | exact HB.out)))); have n4_ := Aside0.mk (blk_below (g := gb111) (o := .cells #[.int .i64 t101, .string t102, .slice Ao14 t103.length co14, .slice Ao15 t106.length co15] 25 (0, 0)) (by (with_reducible repeat (first | refine blk_drewN ?_ _ | refine blk_drew ?_ | refine blk_alloc ?_ _)); exact BK111.out) hb); have n5_ := Aside0.mk (below_step (by repeat (first | (with_reducible first | exact HB.out | apply below_alloc | apply pw_below_drewN | apply below_drew1 | refine below_set ?_ GE111.out) | exact HB.out)) hb); clear HO105; clear HO108; clear BK111; clear HB; have HO105 := n0_; have HO108 := n1_; have HO118 := n2_; have HO121 := n3_; have BK111 := n4_; have HB := n5_; clear n0_ n1_ n2_ n3_ n4_ n5_; (try clear hb); (try clear hb2); (try clear hk); (try clear hi); (try clear ho0); (try clear ho1)) | ((with_reducible refine gate_dst (N := 6) rfl ?_); refine box_event ?hg (N := 6) ?hd (cs := #[.int .i64 0, .string (⟨#[]⟩ : ByteArray), .slice none 0 0, .slice none 0 0]) (t := 25) ?hr ?_; (case hd => rfl); (case hg => rfl); (case hr => first | (go_simp; done) | (go_simp; rfl)); intro gb124 hg w18 hbox hb; have n0_ := Aside0.mk (Kd.R_below (by (with_reducible repeat (first | apply Kd.R_alloc | apply Kd.R_drewN | apply Kd.R_drew)); exact HO105.out) hb); have n1_ := Aside0.mk (Kd.R_below (Kd.R_elderB (by (with_reducible repeat (first | apply Kd.R_alloc | apply Kd.R_drewN | apply Kd.R_drew)); exact HO108.out) gb124 (Nat.le_of_eq hg.symm)) hb); have n2_ := Aside0.mk (Kd.R_below (by (with_reducible repeat (first | apply Kd.R_alloc | apply Kd.R_drewN | apply Kd.R_drew)); exact HO118.out) hb); have n3_ := Aside0.mk (Kd.R_below (Kd.R_elderB (by (with_reducible repeat (first | apply Kd.R_alloc | apply Kd.R_drewN | apply Kd.R_drew)); exact HO121.out) gb124 (Nat.le_of_eq hg.symm)) hb); have n4_ := Aside0.mk (blk_below (g := gb111) (o := .cells #[.int .i64 t101, .string t102, .slice Ao14 t103.length co14, .slice Ao15 t106.length co15] 25 (0, 0)) (by (with_reducible repeat (first | refine blk_drewN ?_ _ | refine blk_drew ?_ | refine blk_alloc ?_ _)); exact BK111.out) hb); have n5_ := Aside0.mk (below_step (by repeat (first | (with_reducible first | exact HB.out | apply below_alloc | apply pw_below_drewN | apply below_drew1 | refine below_set ?_ GE111.out) | exact HB.out)) hb); have n6_ := Aside0.mk (hbox); have n7_ := Aside0.mk ((by rw [hg]; exact (below_size (by repeat (first | (with_reducible first | exact HB.out | apply below_alloc | apply pw_below_drewN | apply below_drew1 | refine below_set ?_ GE111.out) | exact HB.out))) : w.heap.size ≤ gb124)); have n8_ := Aside0.mk ((by rw [hg]; exact (below_size (by repeat (first | (with_reducible first | exact HB.out | apply below_alloc | apply pw_below_drewN | apply below_drew1 | refine below_set ?_ GE111.out) | exact HB.out))) : w.heap.size ≤ gb124)); have n9_ := Aside0.mk ((by rw [hg]; exact Nat.ne_of_lt (blk_lt (g := gb111) (o := .cells #[.int .i64 t101, .string t102, .slice Ao14 t103.length co14, .slice Ao15 t106.length co15] 25 (0, 0)) (by (with_reducible repeat (first | refine blk_drewN ?_ _ | refine blk_drew ?_ | refine blk_alloc ?_ _)); exact BK111.out)) : gb111 ≠ gb124)); have n10_ := Aside0.mk ((by rw [hg]; exact Nat.ne_of_gt (blk_lt (g := gb111) (o := .cells #[.int .i64 t101, .string t102, .slice Ao14 t103.length co14, .slice Ao15 t106.length co15] 25 (0, 0)) (by (with_reducible repeat (first | refine blk_drewN ?_ _ | refine blk_drew ?_ | refine blk_alloc ?_ _)); exact BK111.out)) : gb124 ≠ gb111)); clear HO105; clear HO108; clear HO118; clear HO121; clear BK111; clear HB; have HO105 := n0_; have HO108 := n1_; have HO118 := n2_; have HO121 := n3_; have BK111 := n4_; have HB := n5_; have BK124 := n6_; have GW124 := n7_; have GE124 := n8_; have NB111_124 := n9_; have NB124_111 := n10_; clear n0_ n1_ n2_ n3_ n4_ n5_ n6_ n7_ n8_ n9_ n10_; clear hb hbox hg; have hnb19 := NB124_111.out; have hnc19 := NB111_124.out; have hcz20_0 : w18.cell? ⟨gb124, 0, none⟩ = some (.int .i64 0) := (blk_cell BK124.out 0).trans rfl; have hcz20_1 : w18.cell? ⟨gb124, 1, none⟩ = some (.string (⟨#[]⟩ : ByteArray)) := (blk_cell BK124.out 1).trans rfl; have hcz20_2 : w18.cell? ⟨gb124, 2, none⟩ = some (.slice none 0 0) := (blk_cell BK124.out 2).trans rfl; have hcz20_3 : w18.cell? ⟨gb124, 3, none⟩ = some (.slice none 0 0) := (blk_cell BK124.out 3).trans rfl; have hfz20_0 := blk_frozen BK124.out 0; have hfz20_1 := blk_frozen BK124.out 1; have hfz20_2 := blk_frozen BK124.out 2; have hfz20_3 := blk_frozen BK124.out 3; obtain ⟨Ao21, co21, eo21⟩ := Kd.R_slice HO118.out; subst eo21; obtain ⟨Ao22, co22, eo22⟩ := Kd.R_slice HO121.out; subst eo22) | ((with_reducible refine gate_callee (f := 14) rfl ?_); refine goesL_ (some 25) rfl rfl Tryd.func14 (by kernel_rfl) rfl #[.int .i64 t109] rfl (by (try simp only [List.map_toArray, List.map_cons, List.map_nil]); first | done | rfl | (simp only [List.length_drop, List.length_take]; rfl)) ?_; (with_reducible refine (wicketlaw04_num.calls t109 t109 _ A4.out).mono ?_); rintro e w' ⟨rfl, ⟨nd, rfl⟩⟩; refine ⟨_, rfl, ?_⟩) | (go_at_call 14; (with_reducible refine (wicketlaw04_num.calls t113 t113 _ A6.out).mono ?_); rintro e w' ⟨rfl, ⟨nd, rfl⟩⟩) | (go_at_call 14; (with_reducible refine (wicketlaw04_num.calls t122 t122 _ A9.out).mono ?_); rintro e w' ⟨rfl, ⟨nd, rfl⟩⟩))
          go_ret
          exact ⟨by first | rfl | (simp [errW_none, errW_some] <;> rfl) | (simp [*, errW_none, errW_some] <;> rfl), by repeat (first | (with_reducible first | exact HB.out | apply below_alloc | apply pw_below_drewN | apply below_drew1 | refine below_set ?_ GE111.out | refine below_set ?_ GE124.out) | exact HB.out)⟩
        · rw [if_neg c10] at H
          have c10b0 : (t122 == 40) = false := beq_eq_false_iff_ne.mpr c10
          have c10b1 : (t122 != 40) = true := bne_iff_ne.mpr c10
          cases H
      · rw [if_neg c8] at H
        have c8b0 : (t112.toList == ([123, 34, 97, 34, 58, 91, 49, 44, 116, 114, 117, 101, 44, 34, 120, 34, 93, 125] : List UInt8)) = false := beq_eq_false_iff_ne.mpr c8
        have c8b1 : (t112.toList != ([123, 34, 97, 34, 58, 91, 49, 44, 116, 114, 117, 101, 44, 34, 120, 34, 93, 125] : List UInt8)) = true := bne_iff_ne.mpr c8
        cases H
    · rw [if_neg c7] at H
      have c7b0 : (t113 == 0) = false := beq_eq_false_iff_ne.mpr c7
      have c7b1 : (t113 != 0) = true := bne_iff_ne.mpr c7
      cases H
  · rw [if_neg c5] at H
    have c5b0 : (t109 == 0) = false := beq_eq_false_iff_ne.mpr c5
    have c5b1 : (t109 != 0) = true := bne_iff_ne.mpr c5
    cases H
end Go.Proofs.YtaalajhmfdcalaaDoor.X
namespace Go.Proofs.YtaalajhmfdcalaaDoor.X
open Go.RowKit
theorem live_true : wicketlaw04_live.f = some true := by kernel_rfl
end Go.Proofs.YtaalajhmfdcalaaDoor.X
namespace Go.Proofs.YtaalajhmfdcalaaDoor.X
open Go.RowKit Go.Lib Go.Proofs.YtaalajhmfdcalaaDoorW.PrintWords
theorem parse_f_val {a : ByteArray} {j : J} {q : Nat} (h : parseJ a.data.toList (a.size + 1) = some (.val j q)) : jtext_Parse.f a = some (j.f0, j.f1, j.f2, j.f3, 0, 0) := by unfold jtext_Parse.f; rw [h]
theorem parse_f_err {a : ByteArray} {e q : Nat} (h : parseJ a.data.toList (a.size + 1) = some (.err e q)) : jtext_Parse.f a = some (0, ⟨#[]⟩, [], [], (e : Int), (q : Int)) := by unfold jtext_Parse.f; rw [h]
end Go.Proofs.YtaalajhmfdcalaaDoor.X
namespace Go.Proofs.YtaalajhmfdcalaaDoor.X
open Go.RowKit Go.Lib Go.Proofs.YtaalajhmfdcalaaDoorW.PrintWords
theorem printS_fit (v : J) (h : (printS v).e = 0) : OKJ 32 v ∧ (printS v).out = encJ 32 v := by
  obtain ⟨_, h2, h3⟩ := valW_ok false 32 v ⟨[], 0⟩ h
  exact ⟨h2, by unfold printS; rw [h3]; rfl⟩
theorem putF_bnd {st : St} (s : List UInt8) (h : st.out.length ≤ 16384) : (putF false st s).out.length ≤ 16384 :=
  (Fit.put (free := false) (n := 0) s ⟨(fun hh => by cases hh), fun _ => h⟩ (Nat.le_refl _)).bnd rfl
theorem putsF_bnd : ∀ (l : List (List UInt8)) {st : St}, st.out.length ≤ 16384 → (putsF false st l).out.length ≤ 16384
  | [], st, h => h
  | a :: l, st, h => by rw [putsF_cons]; exact putsF_bnd l (putF_bnd a h)
theorem failF_bnd {st : St} (e : Nat) (h : st.out.length ≤ 16384) : (failF st e).out.length ≤ 16384 := by
  unfold failF
  split
  · exact h
  · exact h
theorem comma_bnd {st : St} (i : Nat) (h : st.out.length ≤ 16384) : (if i = 0 then st else putF false st [44]).out.length ≤ 16384 := by
  split
  · exact h
  · exact putF_bnd _ h
theorem itemsW_bnd {one : J → St → St} (ho : ∀ y st, st.out.length ≤ 16384 → (one y st).out.length ≤ 16384) : ∀ (l : List J) (i : Nat) (st : St), st.out.length ≤ 16384 → (itemsW false one i l st).out.length ≤ 16384
  | [], i, st, h => h
  | y :: l, i, st, h => by rw [itemsW]; exact itemsW_bnd ho l _ _ (ho _ _ (comma_bnd i h))
theorem membersW_bnd {one : J → St → St} (ho : ∀ y st, st.out.length ≤ 16384 → (one y st).out.length ≤ 16384) : ∀ (ns : List ByteArray) (ys : List J) (seen : List ByteArray) (i : Nat) (st : St), st.out.length ≤ 16384 → (membersW false one seen i ns ys st).out.length ≤ 16384
  | [], ys, seen, i, st, h => by simpa [membersW] using h
  | _ :: _, [], seen, i, st, h => by simpa [membersW] using h
  | nm :: ns, y :: ys, seen, i, st, h => by
    have hc := comma_bnd i h
    rw [membersW]
    try simp only
    generalize (if i = 0 then st else putF false st [44]) = st5 at hc ⊢
    split
    · exact hc
    · split
      · exact failF_bnd _ hc
      · split
        · exact failF_bnd _ hc
        · exact membersW_bnd ho ns ys _ _ _ (ho _ _ (putF_bnd _ (putsF_bnd _ hc)))
theorem valW_bnd (canon : Bool) : ∀ (r : Nat) (v : J) (st : St), st.out.length ≤ 16384 → (valW false canon r v st).out.length ≤ 16384
  | 0, v, st, h => by
    rw [valW]
    repeat' split
    all_goals first | exact h | exact putF_bnd _ h | exact putsF_bnd _ h
  | r + 1, v, st, h => by
    have ho := valW_bnd canon r
    rw [valW]
    repeat' split
    all_goals first | exact h | exact putF_bnd _ h | exact putsF_bnd _ h | exact putF_bnd _ (itemsW_bnd ho _ _ _ (putF_bnd _ h)) | exact putF_bnd _ (membersW_bnd ho _ _ _ _ _ (putF_bnd _ h))
theorem printS_len (v : J) (h : (printS v).e = 0) : (encJ 32 v).length ≤ 16384 := by
  rw [← (printS_fit v h).2]
  exact valW_bnd false 32 v ⟨[], 0⟩ (by decide)
theorem print_f_ok {B L : Nat} (hB : B ≤ 288230376151711743) {v : J} (h : Bd B L v) : jtext_Print.f v.f0 v.f1 v.f2 v.f3 = some (printB v, ((printS v).e : Int)) := by
  unfold jtext_Print.f
  rw [eta_J, if_pos (smB_of hB 32 h)]
/-- What was written is read. -/
theorem parse_print (v : J) (h : (printS v).e = 0) : jtext_Parse.f (printB v) = some (v.f0, v.f1, v.f2, v.f3, 0, 0) := by
  have e : (printB v).data.toList = encJ 32 v := by
    unfold printB
    rw [if_pos h, (printS_fit v h).2]
    rfl
  refine parse_f_val (j := v) (q := 0) ?_
  rw [e]
  exact parse_back (printS_fit v h).1 (printS_len v h) (by rw [← e, size_data]; omega)
end Go.Proofs.YtaalajhmfdcalaaDoor.X
namespace Go.Proofs.YtaalajhmfdcalaaDoor.X
open Go.RowKit Go.Lib Go.Proofs.YtaalajhmfdcalaaDoorW.PrintWords Go.Proofs.YtaalajhmfdcalaaDoorW.PrintLast Go.Proofs.YtaalajhmfdcalaaDoorW.PrintMore
set_option maxRecDepth 1000000 in
set_option maxHeartbeats 4000000 in
theorem less_calls (Bo Ba blk n c c2 c3 n3 : Nat) (ad : Addr) (A3 : Option Addr) (ns : List ByteArray) (G : Nat → Nat) (W : World) (i j : Nat) (hi : i < n) (hj : j < n) (hl : ns.length = n) (hG : ∀ k, k < n → G k < n)
    (h0 : W.cell? ⟨Bo, 0, none⟩ = some (.slice (some ad) n c2)) (h1 : W.cell? ⟨Ba, 0, none⟩ = some (.slice (some ⟨blk, 0, none⟩) n c)) (h2 : ∀ k, k < n → W.cell? ⟨blk, 0 + k, none⟩ = some (.int .i64 (G k : Nat))) (h3 : ∀ k, k < n → W.cell? (ad.add k) = some (.string (nmAt ns k))) :
    Calls Tryd.prog 78 #[.int .i64 i, .int .i64 j, .pointer (some ⟨Bo, 0, none⟩), .pointer (some ⟨Ba, 0, none⟩)] W fun e w' => e = .returned (.bool (Op.bytesLess (nmAt ns (G i)).toList (nmAt ns (G j)).toList)) ∧ ∃ q, w' = W.drewN q := by
  have gi := hG i hi
  have gj := hG j hj
  have ci : W.cell? ⟨blk, i, none⟩ = some (.int .i64 (G i : Nat)) := by have := h2 i hi; rwa [Nat.zero_add] at this
  have cj : W.cell? ⟨blk, j, none⟩ = some (.int .i64 (G j : Nat)) := by have := h2 j hj; rwa [Nat.zero_add] at this
  have ni := h3 (G i) gi
  have nj := h3 (G j) gj
  have p1 : (0 ≤ (i : Int)) = True := eq_true (by omega)
  have p2 : ((i : Int) < (n : Int)) = True := eq_true (by omega)
  have p3 : (0 ≤ (j : Int)) = True := eq_true (by omega)
  have p4 : ((j : Int) < (n : Int)) = True := eq_true (by omega)
  have p5 : (0 ≤ ((G i : Nat) : Int)) = True := eq_true (by omega)
  have p6 : (((G i : Nat) : Int) < (n : Int)) = True := eq_true (by omega)
  have p7 : (0 ≤ ((G j : Nat) : Int)) = True := eq_true (by omega)
  have p8 : (((G j : Nat) : Int) < (n : Int)) = True := eq_true (by omega)
  clear h2 h3 hG hi hj
  generalize G i = a at *
  generalize G j = b at *
  generalize nmAt ns a = na at *
  generalize nmAt ns b = nb at *
  go_enter Tryd.func78, Tryd.ntmps78
  go_wp2
  go_quiet (fail)
  go_wp2
  go_ret
  exact ⟨rfl, nq, rfl⟩
end Go.Proofs.YtaalajhmfdcalaaDoor.X
namespace Go.Proofs
open Go.Shelf Go.RowKit
def Tryd.sl6_ren : Go.Shelf.Ren := ⟨fun | 6 => 77 | 10 => 90 | 11 => 91 | 12 => 92 | 13 => 93 | 14 => 94 | 24 => 106 | 25 => 107 | 26 => 108 | 27 => 109 | 28 => 110 | 29 => 111 | 30 => 112 | 31 => 113 | 32 => 114 | 33 => 115 | 34 => 116 | 35 => 117 | 36 => 118 | 37 => 119 | 38 => 120 | 39 => 121 | n => n, fun | 0 => 0 | 3 => 3 | 4 => 4 | 5 => 5 | 9 => 9 | 12 => 12 | 17 => 17 | 20 => 20 | 26 => 109 | 32 => 125 | 33 => 126 | 35 => 128 | 37 => 130 | 41 => 106 | 44 => 135 | 49 => 114 | 51 => 137 | 53 => 144 | 54 => 145 | 58 => 90 | 60 => 150 | 64 => 154 | 66 => 156 | 67 => 157 | 75 => 164 | 76 => 165 | 77 => 166 | 78 => 167 | 79 => 168 | 80 => 169 | 82 => 171 | n => n, fun n => n⟩
set_option maxRecDepth 100000 in
theorem Tryd.sl6 : LaysGg.n6 Tryd.prog Tryd.sl6_ren := {
  mixed := by kernel_rfl
  f6 := Tryd.func77.trans (congrArg some (by kernel_rfl))
  f10 := Tryd.func90.trans (congrArg some (by kernel_rfl))
  f11 := Tryd.func91.trans (congrArg some (by kernel_rfl))
  f12 := Tryd.func92.trans (congrArg some (by kernel_rfl))
  f13 := Tryd.func93.trans (congrArg some (by kernel_rfl))
  f14 := Tryd.func94.trans (congrArg some (by kernel_rfl))
  f24 := Tryd.func106.trans (congrArg some (by kernel_rfl))
  f25 := Tryd.func107.trans (congrArg some (by kernel_rfl))
  f26 := Tryd.func108.trans (congrArg some (by kernel_rfl))
  f27 := Tryd.func109.trans (congrArg some (by kernel_rfl))
  f28 := Tryd.func110.trans (congrArg some (by kernel_rfl))
  f29 := Tryd.func111.trans (congrArg some (by kernel_rfl))
  f30 := Tryd.func112.trans (congrArg some (by kernel_rfl))
  f31 := Tryd.func113.trans (congrArg some (by kernel_rfl))
  f32 := Tryd.func114.trans (congrArg some (by kernel_rfl))
  f33 := Tryd.func115.trans (congrArg some (by kernel_rfl))
  f34 := Tryd.func116.trans (congrArg some (by kernel_rfl))
  f35 := Tryd.func117.trans (congrArg some (by kernel_rfl))
  f36 := Tryd.func118.trans (congrArg some (by kernel_rfl))
  f37 := Tryd.func119.trans (congrArg some (by kernel_rfl))
  f38 := Tryd.func120.trans (congrArg some (by kernel_rfl))
  f39 := Tryd.func121.trans (congrArg some (by kernel_rfl))
  t0 := Tryd.underlying0
  a0 := fun _ => by kernel_rfl
  z0 := fun _ => by kernel_rfl
  v0 := fun _ => by kernel_rfl
  i0 := by kernel_rfl
  t3 := Tryd.underlying3
  a3 := fun _ => by kernel_rfl
  z3 := fun _ => by kernel_rfl
  v3 := fun _ => by kernel_rfl
  i3 := by kernel_rfl
  t4 := Tryd.underlying4
  a4 := fun _ => by kernel_rfl
  z4 := fun _ => by kernel_rfl
  v4 := fun _ => by kernel_rfl
  i4 := by kernel_rfl
  t5 := Tryd.underlying5
  a5 := fun _ => by kernel_rfl
  z5 := fun _ => by kernel_rfl
  v5 := fun _ => by kernel_rfl
  i5 := by kernel_rfl
  t9 := Tryd.underlying9
  a9 := fun _ => by kernel_rfl
  z9 := fun _ => by kernel_rfl
  v9 := fun _ => by kernel_rfl
  i9 := by kernel_rfl
  t12 := Tryd.underlying12
  a12 := fun _ => by kernel_rfl
  z12 := fun _ => by kernel_rfl
  v12 := fun _ => by kernel_rfl
  i12 := by kernel_rfl
  t17 := Tryd.underlying17
  a17 := fun _ => by kernel_rfl
  z17 := fun _ => by kernel_rfl
  v17 := fun _ => by kernel_rfl
  i17 := by kernel_rfl
  t20 := Tryd.underlying20
  a20 := fun _ => by kernel_rfl
  z20 := fun _ => by kernel_rfl
  v20 := fun _ => by kernel_rfl
  i20 := by kernel_rfl
  t26 := Tryd.underlying109
  a26 := fun _ => by kernel_rfl
  z26 := fun _ => by kernel_rfl
  v26 := fun _ => by kernel_rfl
  i26 := by kernel_rfl
  t32 := Tryd.underlying125
  a32 := fun _ => by kernel_rfl
  z32 := fun _ => by kernel_rfl
  v32 := fun _ => by kernel_rfl
  i32 := by kernel_rfl
  t33 := Tryd.underlying126
  a33 := fun _ => by kernel_rfl
  z33 := fun _ => by kernel_rfl
  v33 := fun _ => by kernel_rfl
  i33 := by kernel_rfl
  t35 := Tryd.underlying128
  a35 := fun _ => by kernel_rfl
  z35 := fun _ => by kernel_rfl
  v35 := fun _ => by kernel_rfl
  i35 := by kernel_rfl
  t37 := Tryd.underlying130
  a37 := fun _ => by kernel_rfl
  z37 := fun _ => by kernel_rfl
  v37 := fun _ => by kernel_rfl
  i37 := by kernel_rfl
  t41 := Tryd.underlying106
  a41 := fun _ => by kernel_rfl
  z41 := fun _ => by kernel_rfl
  v41 := fun _ => by kernel_rfl
  i41 := by kernel_rfl
  t44 := Tryd.underlying135
  a44 := fun _ => by kernel_rfl
  z44 := fun _ => by kernel_rfl
  v44 := fun _ => by kernel_rfl
  i44 := by kernel_rfl
  t49 := Tryd.underlying114
  a49 := fun _ => by kernel_rfl
  z49 := fun _ => by kernel_rfl
  v49 := fun _ => by kernel_rfl
  i49 := by kernel_rfl
  t51 := Tryd.underlying137
  a51 := fun _ => by kernel_rfl
  z51 := fun _ => by kernel_rfl
  v51 := fun _ => by kernel_rfl
  i51 := by kernel_rfl
  t53 := Tryd.underlying144
  a53 := fun _ => by kernel_rfl
  z53 := fun _ => by kernel_rfl
  v53 := fun _ => by kernel_rfl
  i53 := by kernel_rfl
  t54 := Tryd.underlying145
  a54 := fun _ => by kernel_rfl
  z54 := fun _ => by kernel_rfl
  v54 := fun _ => by kernel_rfl
  i54 := by kernel_rfl
  t58 := Tryd.underlying90
  a58 := fun _ => by kernel_rfl
  z58 := fun _ => by kernel_rfl
  v58 := fun _ => by kernel_rfl
  i58 := by kernel_rfl
  t60 := Tryd.underlying150
  a60 := fun _ => by kernel_rfl
  z60 := fun _ => by kernel_rfl
  v60 := fun _ => by kernel_rfl
  i60 := by kernel_rfl
  t64 := Tryd.underlying154
  a64 := fun _ => by kernel_rfl
  z64 := fun _ => by kernel_rfl
  v64 := fun _ => by kernel_rfl
  i64 := by kernel_rfl
  t66 := Tryd.underlying156
  a66 := fun _ => by kernel_rfl
  z66 := fun _ => by kernel_rfl
  v66 := fun _ => by kernel_rfl
  i66 := by kernel_rfl
  t67 := Tryd.underlying157
  a67 := fun _ => by kernel_rfl
  z67 := fun _ => by kernel_rfl
  v67 := fun _ => by kernel_rfl
  i67 := by kernel_rfl
  t75 := Tryd.underlying164
  a75 := fun _ => by kernel_rfl
  z75 := fun _ => by kernel_rfl
  v75 := fun _ => by kernel_rfl
  i75 := by kernel_rfl
  t76 := Tryd.underlying165
  a76 := fun _ => by kernel_rfl
  z76 := fun _ => by kernel_rfl
  v76 := fun _ => by kernel_rfl
  i76 := by kernel_rfl
  t77 := Tryd.underlying166
  a77 := fun _ => by kernel_rfl
  z77 := fun _ => by kernel_rfl
  v77 := fun _ => by kernel_rfl
  i77 := by kernel_rfl
  t78 := Tryd.underlying167
  a78 := fun _ => by kernel_rfl
  z78 := fun _ => by kernel_rfl
  v78 := fun _ => by kernel_rfl
  i78 := by kernel_rfl
  t79 := Tryd.underlying168
  a79 := fun _ => by kernel_rfl
  z79 := fun _ => by kernel_rfl
  v79 := fun _ => by kernel_rfl
  i79 := by kernel_rfl
  t80 := Tryd.underlying169
  a80 := fun _ => by kernel_rfl
  z80 := fun _ => by kernel_rfl
  v80 := fun _ => by kernel_rfl
  i80 := by kernel_rfl
  t82 := Tryd.underlying171
  a82 := fun _ => by kernel_rfl
  z82 := fun _ => by kernel_rfl
  v82 := fun _ => by kernel_rfl
  i82 := by kernel_rfl }
end Go.Proofs
