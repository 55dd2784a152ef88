/- HttpBack: for every input the law returns true, and every argument reads as before: the plain law, the row, then the card (what the row lists is tied to the program's text). -/
import Derived.Test.YtmfkgjnlobiobaaGreatDoorPl
import Derived.Test.YtmfkgjnlobiobaaGreatDoorQ2
import Derived.Test.YtmfkgjnlobiobaaGreatDoorAr
import Derived.WalkKit
import Derived.ProofKit
import Derived.OpenShut
import Derived.ShutString
import Derived.Carry
import Derived.SizedLaws
import Derived.Deep.DeepHandedRow
import Derived.Deep.DeepWitnessRowRef
namespace Go.Proofs.YtmfkgjnlobiobaaGreatDoor.X
open Go.RowKit Go.Shelf Go.Proofs.YtmfkgjnlobiobaaGreatDoorW.PrintWords
def lowL (l : List S80) : List S80 := ((pairsL l).map lowP).map pairOf
theorem lowL_len (l : List S80) : (lowL l).length = l.length := by unfold lowL pairsL; rw [List.length_map, List.length_map, List.length_map]
theorem lowL_at (l : List S80) (i : Nat) (h : i < l.length) : (lowL l)[i]'(by rw [lowL_len]; exact h) = ⟨bs (lows (l[i]).f0.data.toList), (l[i]).f1⟩ := by
  unfold lowL pairsL
  simp only [List.getElem_map, lowP, pairOf]
  rw [bs_eq]
theorem small_l0 (l : List S80) (hs : ∀ f ∈ l, f.f0.size ≤ 140737488351232) (hl : l.length < 4398046511104) : ∀ (d k i : Nat), i + d = l.length → d < k → wicketlaw15_small.l0 k (l.map fF) (((lowL l).take i).map fF) (i : Int) = some ((lowL l).map fF)
  | _, 0, _, _, hk => absurd hk (Nat.not_lt_zero _)
  | 0, k + 1, i, hi, hk => by
    rw [wicketlaw15_small.l0, if_neg (by rw [List.length_map]; omega), List.take_of_length_le (by rw [lowL_len]; omega)]
  | d + 1, k + 1, i, hi, hk => by
    have h := small_l0 l hs hl d k (i + 1) (by omega) (by omega)
    rw [List.take_succ_eq_append_getElem (by rw [lowL_len]; omega), List.map_append, lowL_at l i (by omega)] at h
    rw [wicketlaw15_small.l0, if_pos (by rw [List.length_map]; omega), if_pos (by omega), rd_field l i (by omega)]
    unfold wicketref15_Small.f
    rw [if_pos (show (fF l[i]).f0.size ≤ 140737488351232 from hs _ (List.getElem_mem _))]
    simp only [Option.bind_some]
    rw [if_pos (by rw [List.length_map, List.length_take]; omega), wr _ (by omega)]
    exact h
theorem small_f (k : Nat) (l : List S80) (hs : ∀ f ∈ l, f.f0.size ≤ 140737488351232) (hl : l.length < 4398046511104) (hk : l.length < k) : wicketlaw15_small.f k (l.map fF) = some ((lowL l).map fF) := small_l0 l hs hl l.length k 0 (by omega) hk
theorem restF_many {first : List UInt8} {l : List (List UInt8 × List UInt8)} {b : List UInt8} (h : (restF first l b).2 = 0) : l.length ≤ 64 := by
  unfold restF at h
  by_cases hl : l.length > 64
  · rw [if_pos hl] at h
    cases h
  · omega
theorem reqF_many {m t : List UInt8} {l : List (List UInt8 × List UInt8)} {b : List UInt8} (h : (reqF m t l b).2 = 0) : l.length ≤ 64 := by
  unfold reqF at h
  split at h
  · cases h
  · split at h
    · cases h
    · exact restF_many h
theorem respF_many {n : Int} {l : List (List UInt8 × List UInt8)} {b : List UInt8} (h : (respF n l b).2 = 0) : l.length ≤ 64 := by
  unfold respF at h
  by_cases h1 : n < 100 ∨ n > 599
  · rw [if_pos h1] at h; cases h
  · rw [if_neg h1] at h
    exact restF_many h
theorem restF_err {first : List UInt8} {l : List (List UInt8 × List UInt8)} {b : List UInt8} (h : ¬ (restF first l b).2 = 0) : (restF first l b).1 = [] := by
  revert h
  unfold restF
  repeat' split
  all_goals first | (intro _; rfl) | (intro h; exact absurd rfl h)
theorem reqF_err {m t : List UInt8} {l : List (List UInt8 × List UInt8)} {b : List UInt8} (h : ¬ (reqF m t l b).2 = 0) : (reqF m t l b).1 = [] := by
  unfold reqF at h ⊢
  split
  · rfl
  · rename_i h1
    rw [if_neg h1] at h
    split
    · rfl
    · rename_i h2
      rw [if_neg h2] at h
      exact restF_err h
theorem respF_err {n : Int} {l : List (List UInt8 × List UInt8)} {b : List UInt8} (h : ¬ (respF n l b).2 = 0) : (respF n l b).1 = [] := by
  unfold respF at h ⊢
  by_cases h1 : n < 100 ∨ n > 599
  · rw [if_pos h1]
  · rw [if_neg h1] at h ⊢
    exact restF_err h
theorem back1 (n : Int) (l1 : List S80) (b1 : ByteArray) (hl1 : ∀ f ∈ l1, f.f0.size ≤ 140737488351232) (k : Nat) (hk : 100 ≤ k) :
    wicketlaw15_HttpBack.j1 (k + 1 + 1 + 1 + 1) (bs (respF n (pairsL l1) b1.data.toList).1) (respF n (pairsL l1) b1.data.toList).2 n l1 b1 = some true := by
  rw [wicketlaw15_HttpBack.j1]
  simp only [wicketlaw15_num.f, Option.bind_some]
  by_cases h0 : (respF n (pairsL l1) b1.data.toList).2 = 0
  · have hpp := parse_printR n (pairsL l1) b1.data.toList h0
    have hm := respF_many h0
    obtain ⟨m, rfl, hq, _⟩ := hpp
    have hlen : l1.length ≤ 64 := by unfold pairsL at hm; rwa [List.length_map] at hm
    rw [if_pos h0, ParseResponse_f, data_bs, hq, encS_ok]
    simp only [Option.bind_some]
    unfold wicketlaw15_answered.f
    rw [ours_f _ _ (by omega) (by omega)]
    simp only [Option.bind_some]
    rw [small_f _ _ hl1 (by omega) (by omega)]
    simp only [Option.bind_some]
    unfold wicketlaw15_response.f
    rw [if_pos trivial, if_pos trivial, if_pos rfl, if_pos (by rw [bs_eq]), show ((pairsL l1).map lowP).map pairOf = lowL l1 from rfl, fields_f _ _ (by rw [lowL_len]; omega) (by rw [lowL_len]; omega)]
    rfl
  · rw [if_neg h0]
theorem back0 (n : Int) (l1 : List S80) (b1 : ByteArray) (hl1 : ∀ f ∈ l1, f.f0.size ≤ 140737488351232) (m t : ByteArray) (l0 : List S80) (b0 : ByteArray) (hl0 : ∀ f ∈ l0, f.f0.size ≤ 140737488351232) (k : Nat) (hk : 40000 ≤ k) :
    wicketlaw15_HttpBack.j0 (k + 1 + 1 + 1 + 1 + 1) (bs (reqF m.data.toList t.data.toList (pairsL l0) b0.data.toList).1) (reqF m.data.toList t.data.toList (pairsL l0) b0.data.toList).2 (bs (respF n (pairsL l1) b1.data.toList).1) (respF n (pairsL l1) b1.data.toList).2 false m t l0 b0 n l1 b1 = some true := by
  have hrest := back1 n l1 b1 hl1 k (by omega)
  rw [wicketlaw15_HttpBack.j0, if_neg (by decide)]
  simp only [wicketlaw15_num.f, Option.bind_some]
  by_cases h0 : (reqF m.data.toList t.data.toList (pairsL l0) b0.data.toList).2 = 0
  · have hpp := parse_print _ _ _ _ h0
    have hm := reqF_many h0
    have hlen : l0.length ≤ 64 := by unfold pairsL at hm; rwa [List.length_map] at hm
    rw [if_pos h0, ParseRequest_f _ _ (by omega), data_bs, hpp.1, encP_ok]
    simp only [Option.bind_some]
    unfold wicketlaw15_asked.f
    rw [ours_f _ _ (by omega) (by omega)]
    simp only [Option.bind_some]
    rw [small_f _ _ hl0 (by omega) (by omega)]
    simp only [Option.bind_some]
    unfold wicketlaw15_request.f
    rw [if_pos trivial, if_pos trivial, if_pos (by rw [bs_eq]), if_pos (by rw [bs_eq]), if_pos (by rw [bs_eq]), show ((pairsL l0).map lowP).map pairOf = lowL l0 from rfl, fields_f _ _ (by rw [lowL_len]; omega) (by rw [lowL_len]; omega)]
    simp only [Option.bind_some]
    rw [if_pos trivial]
    exact hrest
  · rw [if_neg h0]
    exact hrest
theorem Back_f (n : Int) (l1 : List S80) (b1 : ByteArray) (hl1 : ∀ f ∈ l1, f.f0.size ≤ 140737488351232) (hb1 : b1.size ≤ 140737488351232) (m t : ByteArray) (l0 : List S80) (b0 : ByteArray) (hl0 : ∀ f ∈ l0, f.f0.size ≤ 140737488351232) (hb0 : b0.size ≤ 140737488351232) : wicketlaw15_HttpBack.f (40000 + 1 + 1 + 1 + 1 + 1) m t l0 b0 n l1 b1 = some true := by
  have h := back0 n l1 b1 hl1 m t l0 b0 hl0 40000 (Nat.le_refl _)
  unfold wicketlaw15_HttpBack.f
  rw [PrintRequest_f m t l0 b0 hl0 hb0]
  simp only [Option.bind_some]
  rw [PrintResponse_f _ n l1 b1 hl1 hb1]
  simp only [Option.bind_some]
  rw [show wicketlaw15_live.f (40000 + 1 + 1 + 1 + 1 + 1) = some true from live_at 39965]
  simp only [Option.bind_some, wicketlaw15_num.f]
  rw [if_pos trivial]
  have hs : ((bs (respF n (pairsL l1) b1.data.toList).1).toList != ([] : List UInt8)) = false ∨ (respF n (pairsL l1) b1.data.toList).2 = 0 := by
    by_cases h0 : (respF n (pairsL l1) b1.data.toList).2 = 0
    · exact .inr h0
    · rw [respF_err h0]
      exact .inl (by rw [toList_bs]; rfl)
  have hfin : (if (respF n (pairsL l1) b1.data.toList).2 = 0 then wicketlaw15_HttpBack.j0 (40000 + 1 + 1 + 1 + 1 + 1) (bs (reqF m.data.toList t.data.toList (pairsL l0) b0.data.toList).1) (reqF m.data.toList t.data.toList (pairsL l0) b0.data.toList).2 (bs (respF n (pairsL l1) b1.data.toList).1) (respF n (pairsL l1) b1.data.toList).2 false m t l0 b0 n l1 b1
      else wicketlaw15_HttpBack.j0 (40000 + 1 + 1 + 1 + 1 + 1) (bs (reqF m.data.toList t.data.toList (pairsL l0) b0.data.toList).1) (reqF m.data.toList t.data.toList (pairsL l0) b0.data.toList).2 (bs (respF n (pairsL l1) b1.data.toList).1) (respF n (pairsL l1) b1.data.toList).2 ((bs (respF n (pairsL l1) b1.data.toList).1).toList != ([] : List UInt8)) m t l0 b0 n l1 b1) = some true := by
    rcases hs with hs | hs
    · rw [hs]
      split <;> exact h
    · rw [if_pos hs]
      exact h
  by_cases h0 : (reqF m.data.toList t.data.toList (pairsL l0) b0.data.toList).2 = 0
  · rw [if_pos h0]
    exact hfin
  · rw [if_neg h0, if_pos (by rw [reqF_err h0]; exact toList_bs [])]
    exact hfin
end Go.Proofs.YtmfkgjnlobiobaaGreatDoor.X
namespace Go.Proofs.YtmfkgjnlobiobaaGreatDoor.httpBack
open Go.ChangeShapes Go.WideShapes Go.ChangeAt Go.RowKit
open Go.ChangeMaps (open_string shut_string)
theorem own : ownKnob Tryz.prog.godebug = none := by kernel_rfl
theorem laidOut : laidOutB Tryz.prog = true := by kernel_rfl
set_option maxRecDepth 100000 in
theorem contract (H : Type) (enc : TypeId × Value → H) (W : World) (base : Nat) (args : Array Value) (ds gs : List (DataW H)) (before : List MemPlace)
    (hval0 : ∀ (j : Nat) t v, Tryz.f7.params[j]? = some t → args[j]? = some v → Value.okWide Tryz.prog W .any base t v)
    (hW : DataW.Whole enc Tryz.prog Tryz.f7.params.toList Rows.httpBackSpec.vars false W args.toList ds gs before)
    (hsz0 : (DataW.weightsEach Tryz.prog (Tryz.f7.params.toList ++ Rows.httpBackSpec.plain.varTypes Tryz.prog) (ds ++ gs)).all (· ≤ reachBytes) = true) (hG : X.GL W) :
    Calls Tryz.prog 7 args W fun e W' => ∃ v, e = .returned v ∧ Rows.httpBackSpec.post enc Tryz.prog Tryz.f7 false true false false W args v W' := by
  have hval := hval0
  have hsz := hsz0
  have hW' := hW
  obtain ⟨p, q, hA0, hV, rfl, hfz, hnd⟩ := hW
  have hA : DataW.TrodAll enc Tryz.prog W 0 (fun _ => true) true Tryz.f7.params.toList args.toList ds p := hA0
  rw [Tryz.params7] at hA hval hsz
  obtain ⟨v0, vs0, d0, ds0, p0, q0, hargs, rfl, rfl, h0, r0⟩ := trodAll_cons hA
  obtain ⟨v1, vs1, d1, ds1, p1, q1, rfl, rfl, rfl, h1, r1⟩ := trodAll_cons r0
  obtain ⟨rfl, rfl, rfl⟩ := trodAll_nil r1
  obtain rfl : args = #[v0, v1] := by cases args; simp_all
  obtain ⟨rfl, rfl⟩ := trodVars_none hV
  have k0 := h0
  have lt0 : ∀ x ∈ p0, x.block < W.heap.size := by obtain ⟨m, hm⟩ := k0; exact DataW.trod_lt m _ _ _ hm
  have sz0 : ∀ k ∈ d0.weights Tryz.prog 24, k ≤ X.lim := fun k hk => of_decide_eq_true (List.all_eq_true.1 hsz k (DataW.weights_mem_each (j := 0) (t := 24) rfl rfl k hk))
  obtain ⟨m0, t0, A0, l0, c0, b0, rfl, hc0, hk0, hs0, hm0, ht0, hb0⟩ := X.open_request (hval 0 24 v0 rfl rfl) h0 sz0
  have k1 := h1
  have lt1 : ∀ x ∈ p1, x.block < W.heap.size := by obtain ⟨m, hm⟩ := k1; exact DataW.trod_lt m _ _ _ hm
  have sz1 : ∀ k ∈ d1.weights Tryz.prog 39, k ≤ X.lim := fun k hk => of_decide_eq_true (List.all_eq_true.1 hsz k (DataW.weights_mem_each (j := 1) (t := 39) rfl rfl k hk))
  obtain ⟨n1, A1, l1, c1, b1, rfl, hc1, hk1, hs1, hn1, hb1⟩ := X.open_response (hval 1 39 v1 rfl rfl) h1 sz1
  clear hA0 hval0 hsz0 hsz
  refine (X.wicketlaw15_HttpBack.calls (40000 + 1 + 1 + 1 + 1 + 1) m0 t0 A0 c0 l0 b0 n1 A1 c1 l1 b1 true W hk0 hc0 hk1 hc1 hG (X.Back_f n1 l1 b1 (fun f hf => (hs1 f hf).1) hb1 m0 t0 l0 b0 (fun f hf => (hs0 f hf).1) hb0)).mono fun e W' ⟨he, bel⟩ => ?_
  subst he
  exact ⟨_, rfl, _, _, _, [], _, [], hW', trodAll_mk1 (shut_bool Tryz.underlying4 _), (trodAll_cons_mk (Below.trod laidOut (by kernel_rfl) (of_decide_eq_true (by kernel_rfl)) k0 bel lt0) (trodAll_cons_mk (Below.trod laidOut (by kernel_rfl) (of_decide_eq_true (by kernel_rfl)) k1 bel lt1) trodAll_mk0)), rfl, bel.frame _, fun h => by cases h⟩
theorem lay_met (os : Os) : laidMetH Tryz.prog Rows.httpBackRow.laid ((World.laidAll Tryz.prog os Rows.httpBackRow.laid).forCall (fun _ _ => 0) ⟨#[], #[.agg #[.string ⟨#[]⟩, .string ⟨#[]⟩, .slice none 0 0, .string ⟨#[]⟩], .agg #[.int .i64 0, .slice none 0 0, .string ⟨#[]⟩]], []⟩).memory := by
  rw [MakeChecks.laidMetH_plain _ _ _ (by kernel_rfl)]
  exact laidMet_laidAll _ (by kernel_rfl) (by kernel_rfl)
theorem reads (os : Os) {H : Type} (enc : TypeId × Value → H) : ∃ places, DataW.whole enc Tryz.prog ((World.laidAll Tryz.prog os Rows.httpBackRow.laid).forCall (fun _ _ => 0) ⟨#[], #[.agg #[.string ⟨#[]⟩, .string ⟨#[]⟩, .slice none 0 0, .string ⟨#[]⟩], .agg #[.int .i64 0, .slice none 0 0, .string ⟨#[]⟩]], []⟩).memory Tryz.f7.params.toList Rows.httpBackSpec.vars false (#[.agg #[.string ⟨#[]⟩, .string ⟨#[]⟩, .slice none 0 0, .string ⟨#[]⟩], .agg #[.int .i64 0, .slice none 0 0, .string ⟨#[]⟩]] : Array Value).toList 8 = some ([.agg [.lit (.string []), .lit (.string []), .nil, .lit (.string [])], .agg [.lit (.int .i64 0), .nil, .lit (.string [])]], [], places) := ⟨[], by kernel_rfl⟩
set_option maxRecDepth 100000 in
theorem lifted (os : Os) (started : os.Started) (H : Type) (enc : TypeId × Value → H) (F : Stop.Interp) :
    ReturnsInHanded {} Tryz.checked os 7 .any ((OpenSpec.ofChange Rows.httpBackSpec).preRow enc Tryz.prog Tryz.f7 Rows.httpBackRow.domain false Rows.httpBackRow.laid) (((OpenSpec.ofChange Rows.httpBackSpec).at F).post enc Tryz.prog Tryz.f7 false true false false) := by
  obtain ⟨places, hx⟩ := reads os enc
  refine returnsInHanded_of_row (C := Tryz.checked) (s := OpenSpec.ofChange Rows.httpBackSpec) own started (by kernel_rfl) Tryz.func7
    (witness_row_atRef (enc := enc) (C := Tryz.checked) false (World.laidAll Tryz.prog os Rows.httpBackRow.laid) #[.agg #[.string ⟨#[]⟩, .string ⟨#[]⟩, .slice none 0 0, .string ⟨#[]⟩], .agg #[.int .i64 0, .slice none 0 0, .string ⟨#[]⟩]] (World.laidAll_os _ _ _) (by kernel_rfl) (by kernel_rfl) (by kernel_rfl)
      (OpenSpec.preRow_of_cond 8 hx (by kernel_rfl) (fun k hk => by cases hk) (by kernel_rfl) (lay_met os))) ?_
  intro W base args ds gs before hval hW _ _ hsz hL hS _
  exact contract H enc W base args ds gs before hval hW hsz (X.GL_of hL hS)
theorem said : Rows.HttpBackSaid :=
  OpenClaim.holds_of_cond 7 Tryz.f7 rfl rfl rfl rfl rfl rfl rfl ⟨rfl, rfl, rfl, rfl, rfl⟩ rfl rfl rfl rfl rfl (by kernel_rfl) Tryz.func7 (by kernel_rfl)
    (of_decide_eq_true (by kernel_rfl)) (by unfold Func.isWrapper; first | (rw [if_pos (by decide +kernel)]; kernel_rfl) | (rw [if_neg (by decide +kernel)]; exact ⟨rfl, rfl⟩))
    (fun os started H enc _ F => by rw [OpenClaim.pre_eq_preRow]; exact lifted os started H enc F)
theorem plain (f : FuncId) (fn : Func) (hf : Tryz.pinned.checked.prog.funcNamed "wicket/wicketlaw15.HttpBack" = some f) (hfn : Tryz.pinned.checked.prog.funcs[f]? = some fn) :
    true = Tryz.pinned.checked.prog.looks [] ∧ ∀ (j : Nat) t, fn.params[j]? = some t → Tryz.pinned.checked.prog.wantsStandIn t = false := by
  obtain rfl : f = 7 := Option.some.inj ((show Tryz.prog.funcNamed "wicket/wicketlaw15.HttpBack" = some 7 by kernel_rfl).symm.trans hf) |>.symm
  obtain rfl : fn = Tryz.f7 := (Option.some.inj (Tryz.func7.symm.trans hfn)).symm
  refine ⟨by kernel_rfl, fun j t ht => ?_⟩
  rw [Tryz.params7] at ht
  have hm := Array.mem_of_getElem? ht
  simp only [List.mem_toArray, List.mem_cons, List.not_mem_nil, or_false] at hm
  rcases hm with rfl | rfl
  · exact (show Tryz.prog.wantsStandIn 24 = false by kernel_rfl)
  · exact (show Tryz.prog.wantsStandIn 39 = false by kernel_rfl)
theorem card : Rows.HttpBackCardSaid :=
  Claim7.holds_tied_plain_at .later [] _ _ _ _ said (fun _ h => by cases h) (by kernel_rfl) (fun _ h => by cases h) httpBack_row_tie rfl ⟨rfl, rfl⟩ (by kernel_rfl) rfl plain (by kernel_rfl)
#print axioms card
end Go.Proofs.YtmfkgjnlobiobaaGreatDoor.httpBack
