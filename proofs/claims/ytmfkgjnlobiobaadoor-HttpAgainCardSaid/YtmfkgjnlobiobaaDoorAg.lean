/- HttpAgain: for every input the law returns true, and the argument reads as before: the plain law, the row, then the card (what the row lists is tied to the program's text). -/
import Derived.Test.YtmfkgjnlobiobaaDoorX9
import Derived.Test.YtmfkgjnlobiobaaDoorAs
import Derived.Test.YtmfkgjnlobiobaaDoorLd
import Derived.Test.YtmfkgjnlobiobaaDoorAr
import Derived.WalkKit
import Derived.ProofKit
import Derived.OpenShut
import Derived.ShutString
import Derived.Carry
import Derived.SizedLaws
import Derived.Deep.DeepHandedRow
import Derived.Deep.DeepWitnessRowRef
namespace Go.Proofs.YtmfkgjnlobiobaaDoor.X
open Go.RowKit Go.Shelf Go.Proofs.YtmfkgjnlobiobaaDoorW.PrintWords
def fF (p : S71) : S79 := ⟨p.f0, p.f1⟩
theorem rd_pair (l : List S71) (i : Nat) (h : i < l.length) : rd_T71 l (i : Int) = l[i] := by
  unfold rd_T71
  rw [Int.toNat_natCast]
  simp [h]
theorem rd_field (l : List S71) (i : Nat) (h : i < l.length) : rd_T79 (l.map fF) (i : Int) = fF l[i] := by
  unfold rd_T79
  rw [Int.toNat_natCast]
  simp [h]
theorem ours_l0 (l : List S71) (hl : l.length < 4398046511104) : ∀ (d k i : Nat), i + d = l.length → d < k → wicketlaw15_ours.l0 k l ((l.take i).map fF) (i : Int) = some (l.map fF)
  | _, 0, _, _, hk => absurd hk (Nat.not_lt_zero _)
  | 0, k + 1, i, hi, hk => by
    rw [wicketlaw15_ours.l0, if_neg (by omega), List.take_of_length_le (by omega)]
  | d + 1, k + 1, i, hi, hk => by
    rw [wicketlaw15_ours.l0, if_pos (by omega), if_pos (by omega), if_pos (by rw [List.length_map, List.length_take]; omega), rd_pair l i (by omega), wr _ (by omega)]
    have h := ours_l0 l hl d k (i + 1) (by omega) (by omega)
    rw [List.take_succ_eq_append_getElem (by omega), List.map_append] at h
    exact h
theorem ours_f (k : Nat) (l : List S71) (hl : l.length < 4398046511104) (hk : l.length < k) : wicketlaw15_ours.f k l = some (l.map fF) := ours_l0 l hl l.length k 0 (by omega) hk
theorem fields_l0 (l : List S71) (hl : l.length < 4398046511104) : ∀ (d k i : Nat), i + d = l.length → d < k → wicketlaw15_fields.l0 k l (l.map fF) (i : Int) = some true
  | _, 0, _, _, hk => absurd hk (Nat.not_lt_zero _)
  | 0, k + 1, i, hi, hk => by
    rw [wicketlaw15_fields.l0, if_neg (by omega)]
  | d + 1, k + 1, i, hi, hk => by
    rw [wicketlaw15_fields.l0, if_pos (by omega), if_pos (by omega), if_pos (by rw [List.length_map]; omega), rd_pair l i (by omega), rd_field l i (by omega), if_pos (show (l[i]).f0.toList = (fF l[i]).f0.toList from rfl), if_pos (show (l[i]).f1.toList = (fF l[i]).f1.toList from rfl), wr _ (by omega)]
    exact fields_l0 l hl d k (i + 1) (by omega) (by omega)
theorem fields_f (k : Nat) (l : List S71) (hl : l.length < 4398046511104) (hk : l.length < k) : wicketlaw15_fields.f k l (l.map fF) = some true := by
  unfold wicketlaw15_fields.f
  rw [if_pos (by rw [List.length_map])]
  exact fields_l0 l hl l.length k 0 (by omega) hk
theorem pairs_back (l : List (List UInt8 × List UInt8)) : pairsL (l.map pairOf) = l := by
  unfold pairsL
  rw [List.map_map]
  conv => rhs; rw [← List.map_id l]
  exact List.map_congr_left (fun f _ => by simp only [Function.comp, pairOf, data_bs]; rfl)
theorem low_same {l : List (List UInt8 × List UInt8)} (h : ∀ f ∈ l, lows f.1 = f.1) : l.map lowP = l := by
  conv => rhs; rw [← List.map_id l]
  exact List.map_congr_left (fun f hf => by show (lows f.1, f.2) = f; rw [h f hf])
theorem small_pairs {l : List (List UInt8 × List UInt8)} (h : ∀ f ∈ l, okF f.1 f.2 = true ∧ lows f.1 = f.1) : ∀ f ∈ l.map pairOf, f.f0.size ≤ 140737488351232 := by
  intro f hf
  obtain ⟨g, hg, rfl⟩ := List.mem_map.1 hf
  obtain ⟨h1, h2⟩ := h g hg
  have h3 := (okF_parts h1).1
  rw [h2] at h3
  unfold nameB at h3
  simp only [Bool.and_eq_true, decide_eq_true_eq] at h3
  show (bs g.1).size ≤ _
  rw [bs_size]
  omega
theorem encS_ok (n : Nat) (l : List (List UInt8 × List UInt8)) (b : List UInt8) : encS (n, l, b, 0, 0) = ((n : Int), l.map pairOf, bs b, 0, 0) := rfl
theorem encP_ok (m t : List UInt8) (l : List (List UInt8 × List UInt8)) (b : List UInt8) : encP (m, t, l, b, 0, 0) = (bs m, bs t, l.map pairOf, bs b, 0, 0) := rfl
theorem parseF_bad (raw : List UInt8) (h : ¬ okP (parseF raw)) : (parseF raw).1 = [] ∧ ¬ (parseF raw).2.2.2.2.1 = 0 := by
  refine ⟨?_, h⟩
  revert h
  unfold okP parseF targP tailP
  repeat' split
  all_goals first | (intro _; rfl) | (intro h; exact absurd rfl h)
theorem parseRF_bad (raw : List UInt8) (h : ¬ okS (parseRF raw)) : (parseRF raw).1 = 0 ∧ ¬ (parseRF raw).2.2.2.1 = 0 := by
  refine ⟨?_, h⟩
  revert h
  unfold okS parseRF tailS
  repeat' split
  all_goals first | (intro _; rfl) | (intro h; exact absurd rfl h)
theorem again_resp (raw : ByteArray) (hn : ¬ okP (parseF raw.data.toList)) : wicketlaw15_HttpAgain.f (40000 + 1 + 1 + 1) raw = some true := by
  obtain ⟨hm, he⟩ := parseF_bad _ hn
  unfold wicketlaw15_HttpAgain.f
  rw [ParseRequest_f _ _ (by omega)]
  simp only [Option.bind_some, wicketlaw15_num.f]
  rw [if_neg (show ¬ (encP (parseF raw.data.toList)).2.2.2.2.1 = 0 from fun h => he (by have h' : ((parseF raw.data.toList).2.2.2.2.1 : Int) = 0 := h; omega))]
  rw [ParseResponse_f]
  by_cases hr : okS (parseRF raw.data.toList)
  · obtain ⟨n, l, b, hp, hfs, hl, hb, hcase⟩ := parseRF_good _ hr
    rw [hp, encS_ok]
    have hsm := small_pairs hfs
    have hbs : (bs b).size ≤ 140737488351232 := by rw [bs_size]; omega
    simp only [Option.bind_some]
    rw [if_pos trivial, PrintResponse_f _ _ _ _ hsm hbs, pairs_back, data_bs]
    simp only [Option.bind_some]
    rcases hcase with ⟨h1, h2⟩ | h0
    · rw [h1]
      dsimp only
      rw [if_pos rfl, if_pos (toList_bs [])]
      have : raw.size > 30000 := by rw [size_data] at *; omega
      rw [decide_eq_true (by omega)]
    · have hpp := parse_printR n l b h0
      generalize hrf : respF (n : Int) l b = r at h0 hpp ⊢
      obtain ⟨s, e⟩ := r
      dsimp only at h0 hpp ⊢
      subst h0
      obtain ⟨m, hm', hq, _⟩ := hpp
      have hmn : m = n := by omega
      subst hmn
      rw [if_neg (by decide), ParseResponse_f, data_bs, hq, low_same (fun f hf => (hfs f hf).2), encS_ok]
      simp only [Option.bind_some]
      unfold wicketlaw15_answered.f
      rw [if_pos trivial, if_pos trivial, ours_f _ _ (by rw [List.length_map]; omega) (by rw [List.length_map]; omega)]
      simp only [Option.bind_some]
      unfold wicketlaw15_response.f
      rw [if_pos rfl, if_pos rfl, fields_f _ _ (by rw [List.length_map]; omega) (by rw [List.length_map]; omega)]
      simp only [Option.bind_some]
      rw [if_pos trivial, show wicketlaw15_live.f (40000 + 1 + 1 + 1) = some true from live_at 39963]
      rfl
  · obtain ⟨h0, h1⟩ := parseRF_bad _ hr
    simp only [Option.bind_some]
    rw [if_neg (show ¬ (encS (parseRF raw.data.toList)).2.2.2.1 = 0 from fun h => h1 (by have h' : ((parseRF raw.data.toList).2.2.2.1 : Int) = 0 := h; omega))]
    rw [if_pos (show (encS (parseRF raw.data.toList)).1 = 0 by show ((parseRF raw.data.toList).1 : Int) = 0; rw [h0]; rfl)]
    rw [if_pos (show (encP (parseF raw.data.toList)).1.toList = ([] : List UInt8) by show (bs (parseF raw.data.toList).1).toList = []; rw [hm]; exact toList_bs [])]
    rw [show wicketlaw15_live.f (40000 + 1 + 1 + 1) = some true from live_at 39963]
    rfl
theorem Again_f (raw : ByteArray) : wicketlaw15_HttpAgain.f (40000 + 1 + 1 + 1) raw = some true := by
  by_cases ho : okP (parseF raw.data.toList)
  · obtain ⟨m, t, l, b, hp, hfs, hl, hb, hcase⟩ := parseF_good _ ho
    unfold wicketlaw15_HttpAgain.f
    rw [ParseRequest_f _ _ (by omega), hp, encP_ok]
    simp only [Option.bind_some, wicketlaw15_num.f]
    have hsm := small_pairs hfs
    have hbs : (bs b).size ≤ 140737488351232 := by rw [bs_size]; omega
    rw [if_pos trivial, PrintRequest_f _ _ _ _ hsm hbs, pairs_back, data_bs, data_bs, data_bs]
    simp only [Option.bind_some]
    rcases hcase with ⟨h1, h2⟩ | h0
    · rw [h1, ParseRequest_f _ _ (by omega)]
      simp only [Option.bind_some]
      rw [if_pos trivial, if_pos (toList_bs [])]
      have : raw.size > 30000 := by rw [size_data] at *; omega
      rw [decide_eq_true (by omega)]
    · have hpp := parse_print m t l b h0
      have hP := PrintRequest_f (bs m) (bs t) (l.map pairOf) (bs b) hsm hbs
      rw [pairs_back, data_bs, data_bs, data_bs] at hP
      generalize hrf : reqF m t l b = r at h0 hpp hP ⊢
      obtain ⟨s, e⟩ := r
      dsimp only at h0 hpp hP ⊢
      subst h0
      rw [ParseRequest_f _ _ (by omega), data_bs, hpp.1, low_same (fun f hf => (hfs f hf).2), encP_ok]
      simp only [Option.bind_some]
      rw [if_neg (by decide), hP]
      simp only [Option.bind_some]
      unfold wicketlaw15_asked.f
      rw [if_pos trivial, if_pos trivial, ours_f _ _ (by rw [List.length_map]; omega) (by rw [List.length_map]; omega)]
      simp only [Option.bind_some]
      unfold wicketlaw15_request.f
      rw [if_pos rfl, if_pos rfl, if_pos rfl, fields_f _ _ (by rw [List.length_map]; omega) (by rw [List.length_map]; omega)]
      simp only [Option.bind_some]
      rw [if_pos trivial, if_pos trivial, if_pos trivial, show wicketlaw15_live.f (40000 + 1 + 1 + 1) = some true from live_at 39963]
      rfl
  · exact again_resp raw ho
end Go.Proofs.YtmfkgjnlobiobaaDoor.X
namespace Go.Proofs.YtmfkgjnlobiobaaDoor.httpAgain
open Go.ChangeShapes Go.WideShapes Go.ChangeAt Go.RowKit
open Go.ChangeMaps (open_string shut_string)
theorem own : ownKnob Tryd.prog.godebug = none := by kernel_rfl
theorem laidOut : laidOutB Tryd.prog = true := by kernel_rfl
set_option maxRecDepth 100000 in
theorem contract (H : Type) (enc : TypeId × Value → H) (W : World) (base : Nat) (args : Array Value) (ds gs : List (DataW H)) (before : List MemPlace)
    (hval0 : ∀ (j : Nat) t v, Tryd.f5.params[j]? = some t → args[j]? = some v → Value.okWide Tryd.prog W .any base t v)
    (hW : DataW.Whole enc Tryd.prog Tryd.f5.params.toList Rows.httpAgainSpec.vars false W args.toList ds gs before)
    (hsz0 : (DataW.weightsEach Tryd.prog (Tryd.f5.params.toList ++ Rows.httpAgainSpec.plain.varTypes Tryd.prog) (ds ++ gs)).all (· ≤ reachBytes) = true) (hG : X.GL W) :
    Calls Tryd.prog 5 args W fun e W' => ∃ v, e = .returned v ∧ Rows.httpAgainSpec.post enc Tryd.prog Tryd.f5 false true false false W args v W' := by
  have hval := hval0
  have hsz := hsz0
  have hW' := hW
  obtain ⟨p, q, hA0, hV, rfl, hfz, hnd⟩ := hW
  have hA : DataW.TrodAll enc Tryd.prog W 0 (fun _ => true) true Tryd.f5.params.toList args.toList ds p := hA0
  rw [Tryd.params5] at hA hval hsz
  obtain ⟨v0, vs0, d0, ds0, p0, q0, hargs, rfl, rfl, h0, r0⟩ := trodAll_cons hA
  obtain ⟨rfl, rfl, rfl⟩ := trodAll_nil r0
  obtain rfl : args = #[v0] := by cases args; simp_all
  obtain ⟨rfl, rfl⟩ := trodVars_none hV
  obtain ⟨a0, rfl, rfl, rfl, y0⟩ := open_string Tryd.underlying9 (hval 0 9 v0 rfl rfl) h0
  have w0 : a0.size ≤ 140737488351232 := by
    have z := sized_string hsz (j := 0) (t := 9) rfl rfl
    rw [Array.length_toList] at z
    exact z
  clear hA0 hval0 hsz0 hsz
  refine (X.wicketlaw15_HttpAgain.calls (40000 + 1 + 1 + 1) a0 true W hG (X.Again_f a0)).mono fun e W' ⟨he, bel⟩ => ?_
  subst he
  exact ⟨_, rfl, _, _, _, [], _, [], hW', trodAll_mk1 (shut_bool Tryd.underlying4 _), (trodAll_cons_mk (shut_string Tryd.underlying9 y0) trodAll_mk0), rfl, bel.frame _, fun h => by cases h⟩
theorem lay_met (os : Os) : laidMetH Tryd.prog Rows.httpAgainRow.laid ((World.laidAll Tryd.prog os Rows.httpAgainRow.laid).forCall (fun _ _ => 0) ⟨#[], #[.string ⟨#[]⟩], []⟩).memory := by
  rw [MakeChecks.laidMetH_plain _ _ _ (by kernel_rfl)]
  exact laidMet_laidAll _ (by kernel_rfl) (by kernel_rfl)
theorem reads (os : Os) {H : Type} (enc : TypeId × Value → H) : ∃ places, DataW.whole enc Tryd.prog ((World.laidAll Tryd.prog os Rows.httpAgainRow.laid).forCall (fun _ _ => 0) ⟨#[], #[.string ⟨#[]⟩], []⟩).memory Tryd.f5.params.toList Rows.httpAgainSpec.vars false (#[.string ⟨#[]⟩] : Array Value).toList 8 = some ([.lit (.string [])], [], places) := ⟨[], by kernel_rfl⟩
set_option maxRecDepth 100000 in
theorem lifted (os : Os) (started : os.Started) (H : Type) (enc : TypeId × Value → H) (F : Stop.Interp) :
    ReturnsInHanded {} Tryd.checked os 5 .any ((OpenSpec.ofChange Rows.httpAgainSpec).preRow enc Tryd.prog Tryd.f5 Rows.httpAgainRow.domain false Rows.httpAgainRow.laid) (((OpenSpec.ofChange Rows.httpAgainSpec).at F).post enc Tryd.prog Tryd.f5 false true false false) := by
  obtain ⟨places, hx⟩ := reads os enc
  refine returnsInHanded_of_row (C := Tryd.checked) (s := OpenSpec.ofChange Rows.httpAgainSpec) own started (by kernel_rfl) Tryd.func5
    (witness_row_atRef (enc := enc) (C := Tryd.checked) false (World.laidAll Tryd.prog os Rows.httpAgainRow.laid) #[.string ⟨#[]⟩] (World.laidAll_os _ _ _) (by kernel_rfl) (by kernel_rfl) (by kernel_rfl)
      (OpenSpec.preRow_of_cond 8 hx (by kernel_rfl) (fun k hk => by cases hk) (by kernel_rfl) (lay_met os))) ?_
  intro W base args ds gs before hval hW _ _ hsz hL hS _
  exact contract H enc W base args ds gs before hval hW hsz (X.GL_of hL hS)
theorem said : Rows.HttpAgainSaid :=
  OpenClaim.holds_of_cond 5 Tryd.f5 rfl rfl rfl rfl rfl rfl rfl ⟨rfl, rfl, rfl, rfl, rfl⟩ rfl rfl rfl rfl rfl (by kernel_rfl) Tryd.func5 (by kernel_rfl)
    (of_decide_eq_true (by kernel_rfl)) (by unfold Func.isWrapper; first | (rw [if_pos (by decide +kernel)]; kernel_rfl) | (rw [if_neg (by decide +kernel)]; exact ⟨rfl, rfl⟩))
    (fun os started H enc _ F => by rw [OpenClaim.pre_eq_preRow]; exact lifted os started H enc F)
theorem plain (f : FuncId) (fn : Func) (hf : Tryd.pinned.checked.prog.funcNamed "wicket/wicketlaw15.HttpAgain" = some f) (hfn : Tryd.pinned.checked.prog.funcs[f]? = some fn) :
    true = Tryd.pinned.checked.prog.looks [] ∧ ∀ (j : Nat) t, fn.params[j]? = some t → Tryd.pinned.checked.prog.wantsStandIn t = false := by
  obtain rfl : f = 5 := Option.some.inj ((show Tryd.prog.funcNamed "wicket/wicketlaw15.HttpAgain" = some 5 by kernel_rfl).symm.trans hf) |>.symm
  obtain rfl : fn = Tryd.f5 := (Option.some.inj (Tryd.func5.symm.trans hfn)).symm
  refine ⟨by kernel_rfl, fun j t ht => ?_⟩
  rw [Tryd.params5] at ht
  have hm := Array.mem_of_getElem? ht
  simp only [List.mem_toArray, List.mem_cons, List.not_mem_nil, or_false] at hm
  subst hm
  exact (show Tryd.prog.wantsStandIn 9 = false by kernel_rfl)
theorem card : Rows.HttpAgainCardSaid :=
  Claim7.holds_tied_plain_at .later [] _ _ _ _ said (fun _ h => by cases h) (by kernel_rfl) (fun _ h => by cases h) httpAgain_row_tie rfl ⟨rfl, rfl⟩ (by kernel_rfl) rfl plain (by kernel_rfl)
#print axioms card
end Go.Proofs.YtmfkgjnlobiobaaDoor.httpAgain
