/- HttpWhole: for every input the law returns true, and every argument reads as before: the plain law, the row, then the card (what the row lists is tied to the program text). -/
import Derived.Test.YtmfkgjnlobiobaaDoorX7
import Derived.Test.YtmfkgjnlobiobaaDoorRs
import Derived.Test.YtmfkgjnlobiobaaDoorLd
import Derived.Test.YtmfkgjnlobiobaaDoorAr
import Derived.WalkKit
import Derived.ProofKit
import Derived.OpenShut
import Derived.ShutString
import Derived.Carry
import Derived.SizedLaws
import Derived.Deep.DeepHandedRow
import Derived.Deep.DeepWitnessRowRef
namespace Go.Proofs.YtmfkgjnlobiobaaDoor.X
open Go.RowKit Go.Shelf Go.Proofs.YtmfkgjnlobiobaaDoorW.PrintWords
theorem not_okP_nil : ¬ okP (parseF []) := by unfold okP; decide
theorem not_okS_nil : ¬ okS (parseRF []) := by unfold okS; decide
theorem tmod_in (x : Int) (n : Nat) (hx : 0 ≤ x) (hn : 0 < n) : ∃ c : Nat, Int.tmod x (n : Int) = c ∧ c < n := by
  have h1 := Int.tmod_nonneg (n : Int) hx
  have h2 := Int.tmod_lt_of_pos x (show 0 < (n : Int) by omega)
  exact ⟨(Int.tmod x n).toNat, by omega, by omega⟩
theorem whole1 (k : Nat) (x2 : Int) (hx : 0 ≤ x2) (x3 : ByteArray) (h3 : x3.size ≤ 140737488351232) (n : Int) (l : List S71) (b : ByteArray) (hl : ∀ f ∈ l, f.f0.size ≤ 140737488351232) (hb : b.size ≤ 140737488351232) :
    wicketlaw15_HttpWhole.j1 (k + 1 + 1 + 1 + 1) x2 x3 n l b = some true := by
  rw [wicketlaw15_HttpWhole.j1, PrintResponse_f _ n l b hl hb]
  simp only [Option.bind_some, wicketlaw15_num.f]
  have hcases := parse_printR n (pairsL l) b.data.toList
  generalize respF n (pairsL l) b.data.toList = r at hcases ⊢
  obtain ⟨s, e⟩ := r
  dsimp only at hcases ⊢
  by_cases he : e = 0
  · obtain ⟨m, rfl, hp, hs⟩ := hcases he
    rw [if_pos he]
    have hok : okS (parseRF s) := by rw [hp]; rfl
    have hne : s ≠ [] := fun e0 => not_okS_nil (by rw [e0] at hok; exact hok)
    have hpos : 0 < s.length := List.length_pos_iff.2 hne
    obtain ⟨c, hc, hcl⟩ := tmod_in x2 s.length hx hpos
    rw [bs_size, if_neg (by omega), hc, if_pos (by omega), if_pos (by omega), Int.toNat_natCast, ParseResponse_f]
    simp only [Option.bind_some]
    rw [if_pos (by omega), ParseResponse_f]
    simp only [Option.bind_some]
    rw [Lib.extract_data, data_bs, List.drop_zero, Nat.sub_zero]
    have hcut : ¬ okS (parseRF (s.take c)) := by
      intro h
      refine parseRF_app (s.take c) (s.drop c) h ?_ (by rw [List.take_append_drop]; exact hok)
      intro e0
      have := congrArg List.length e0
      rw [List.length_drop, List.length_nil] at this
      omega
    rw [if_neg (show ¬ (encS (parseRF (s.take c))).2.2.2.1 = 0 from fun h => hcut (by unfold okS; have h' : ((parseRF (s.take c)).2.2.2.1 : Int) = 0 := h; omega))]
    have happ : (bs s ++ x3).data.toList = s ++ x3.data.toList := by simp [ByteArray.data_append, bs]
    rw [happ, toList_data]
    by_cases h0 : x3.data.toList = []
    · rw [h0, List.append_nil]
      have hz : (encS (parseRF s)).2.2.2.1 = 0 := by have h' : (parseRF s).2.2.2.1 = 0 := hok; show ((parseRF s).2.2.2.1 : Int) = 0; omega
      rw [hz]
      rfl
    · have hno := parseRF_app s x3.data.toList hok h0
      have hz : ((encS (parseRF (s ++ x3.data.toList))).2.2.2.1 == 0) = false := beq_eq_false_iff_ne.2 (fun h => hno (by unfold okS; have h' : ((parseRF (s ++ x3.data.toList)).2.2.2.1 : Int) = 0 := h; omega))
      have hz2 : (x3.data.toList == ([] : List UInt8)) = false := beq_eq_false_iff_ne.2 h0
      rw [hz, hz2]
      rfl
  · rw [if_neg he]
theorem whole0 (k : Nat) (hk : 40000 ≤ k) (x2 : Int) (hx : 0 ≤ x2) (x3 : ByteArray) (h3 : x3.size ≤ 140737488351232) (m t : ByteArray) (l0 : List S71) (b0 : ByteArray) (n : Int) (l : List S71) (b : ByteArray)
    (hl0 : ∀ f ∈ l0, f.f0.size ≤ 140737488351232) (hb0 : b0.size ≤ 140737488351232) (hl : ∀ f ∈ l, f.f0.size ≤ 140737488351232) (hb : b.size ≤ 140737488351232) :
    wicketlaw15_HttpWhole.j0 (k + 1 + 1 + 1 + 1 + 1) x2 x3 m t l0 b0 n l b = some true := by
  have hrest := whole1 k x2 hx x3 h3 n l b hl hb
  rw [wicketlaw15_HttpWhole.j0, PrintRequest_f m t l0 b0 hl0 hb0]
  simp only [Option.bind_some, wicketlaw15_num.f]
  have hcases := parse_print m.data.toList t.data.toList (pairsL l0) b0.data.toList
  generalize reqF m.data.toList t.data.toList (pairsL l0) b0.data.toList = r at hcases ⊢
  obtain ⟨s, e⟩ := r
  dsimp only at hcases ⊢
  by_cases he : e = 0
  · obtain ⟨hp, hs⟩ := hcases he
    rw [if_pos he]
    have hok : okP (parseF s) := by rw [hp]; rfl
    have hne : s ≠ [] := fun e0 => not_okP_nil (by rw [e0] at hok; exact hok)
    have hpos : 0 < s.length := List.length_pos_iff.2 hne
    obtain ⟨c, hc, hcl⟩ := tmod_in x2 s.length hx hpos
    rw [bs_size, if_neg (by omega), hc, if_pos (by omega), if_pos (by omega), Int.toNat_natCast, ParseRequest_f _ _ (by omega)]
    simp only [Option.bind_some]
    rw [if_pos (by omega), ParseRequest_f _ _ (by omega)]
    simp only [Option.bind_some]
    rw [Lib.extract_data, data_bs, List.drop_zero, Nat.sub_zero]
    have hcut : ¬ okP (parseF (s.take c)) := by
      intro h
      refine parseF_app (s.take c) (s.drop c) h ?_ (by rw [List.take_append_drop]; exact hok)
      intro e0
      have := congrArg List.length e0
      rw [List.length_drop, List.length_nil] at this
      omega
    rw [if_neg (show ¬ (encP (parseF (s.take c))).2.2.2.2.1 = 0 from fun h => hcut (by unfold okP; have h' : ((parseF (s.take c)).2.2.2.2.1 : Int) = 0 := h; omega))]
    have happ : (bs s ++ x3).data.toList = s ++ x3.data.toList := by simp [ByteArray.data_append, bs]
    rw [happ, toList_data]
    by_cases h0 : x3.data.toList = []
    · rw [h0, List.append_nil]
      have hz : (encP (parseF s)).2.2.2.2.1 = 0 := by have h' : (parseF s).2.2.2.2.1 = 0 := hok; show ((parseF s).2.2.2.2.1 : Int) = 0; omega
      rw [hz]
      exact hrest
    · have hno := parseF_app s x3.data.toList hok h0
      have hz : ((encP (parseF (s ++ x3.data.toList))).2.2.2.2.1 == 0) = false := beq_eq_false_iff_ne.2 (fun h => hno (by unfold okP; have h' : ((parseF (s ++ x3.data.toList)).2.2.2.2.1 : Int) = 0 := h; omega))
      have hz2 : (x3.data.toList == ([] : List UInt8)) = false := beq_eq_false_iff_ne.2 h0
      rw [hz, hz2]
      exact hrest
  · rw [if_neg he]
    exact hrest
theorem HttpWhole_f (m t : ByteArray) (l0 : List S71) (b0 : ByteArray) (n : Int) (l : List S71) (b : ByteArray) (x2 : Int) (x3 : ByteArray) (hx : -9223372036854775808 ≤ x2 ∧ x2 ≤ 9223372036854775807) (h3 : x3.size ≤ 140737488351232)
    (hl0 : ∀ f ∈ l0, f.f0.size ≤ 140737488351232) (hb0 : b0.size ≤ 140737488351232) (hl : ∀ f ∈ l, f.f0.size ≤ 140737488351232) (hb : b.size ≤ 140737488351232) :
    wicketlaw15_HttpWhole.f (40000 + 1 + 1 + 1 + 1 + 1) m t l0 b0 n l b x2 x3 = some true := by
  unfold wicketlaw15_HttpWhole.f
  rw [show wicketlaw15_live.f (40000 + 1 + 1 + 1 + 1 + 1) = some true from live_at 39965]
  simp only [Option.bind_some]
  rw [if_pos trivial]
  by_cases hneg : x2 < 0
  · rw [if_pos hneg, wr (x2 + 1) (by omega), wr _ (by omega)]
    exact whole0 40000 (Nat.le_refl _) _ (by omega) x3 h3 m t l0 b0 n l b hl0 hb0 hl hb
  · rw [if_neg hneg]
    exact whole0 40000 (Nat.le_refl _) _ (by omega) x3 h3 m t l0 b0 n l b hl0 hb0 hl hb
end Go.Proofs.YtmfkgjnlobiobaaDoor.X
namespace Go.Proofs.YtmfkgjnlobiobaaDoor.httpWhole
open Go.ChangeShapes Go.WideShapes Go.ChangeAt Go.RowKit
open Go.ChangeMaps (open_string shut_string)
theorem own : ownKnob Tryd.prog.godebug = none := by kernel_rfl
theorem laidOut : laidOutB Tryd.prog = true := by kernel_rfl
set_option maxRecDepth 100000 in
theorem contract (H : Type) (enc : TypeId × Value → H) (W : World) (base : Nat) (args : Array Value) (ds gs : List (DataW H)) (before : List MemPlace)
    (hval0 : ∀ (j : Nat) t v, Tryd.f6.params[j]? = some t → args[j]? = some v → Value.okWide Tryd.prog W .any base t v)
    (hW : DataW.Whole enc Tryd.prog Tryd.f6.params.toList Rows.httpWholeSpec.vars false W args.toList ds gs before)
    (hsz0 : (DataW.weightsEach Tryd.prog (Tryd.f6.params.toList ++ Rows.httpWholeSpec.plain.varTypes Tryd.prog) (ds ++ gs)).all (· ≤ reachBytes) = true) (hG : X.GL W) :
    Calls Tryd.prog 6 args W fun e W' => ∃ v, e = .returned v ∧ Rows.httpWholeSpec.post enc Tryd.prog Tryd.f6 false true false false W args v W' := by
  have hval := hval0
  have hsz := hsz0
  have hW' := hW
  obtain ⟨p, q, hA0, hV, rfl, hfz, hnd⟩ := hW
  have hA : DataW.TrodAll enc Tryd.prog W 0 (fun _ => true) true Tryd.f6.params.toList args.toList ds p := hA0
  rw [Tryd.params6] at hA hval hsz
  obtain ⟨v0, vs0, d0, ds0, p0, q0, hargs, rfl, rfl, h0, r0⟩ := trodAll_cons hA
  obtain ⟨v1, vs1, d1, ds1, p1, q1, rfl, rfl, rfl, h1, r1⟩ := trodAll_cons r0
  obtain ⟨v2, vs2, d2, ds2, p2, q2, rfl, rfl, rfl, h2, r2⟩ := trodAll_cons r1
  obtain ⟨v3, vs3, d3, ds3, p3, q3, rfl, rfl, rfl, h3, r3⟩ := trodAll_cons r2
  obtain ⟨rfl, rfl, rfl⟩ := trodAll_nil r3
  obtain rfl : args = #[v0, v1, v2, v3] := by cases args; simp_all
  obtain ⟨rfl, rfl⟩ := trodVars_none hV
  have k0 := h0
  have lt0 : ∀ x ∈ p0, x.block < W.heap.size := by obtain ⟨m, hm⟩ := k0; exact DataW.trod_lt m _ _ _ hm
  have sz0 : ∀ k ∈ d0.weights Tryd.prog 27, k ≤ X.lim := fun k hk => of_decide_eq_true (List.all_eq_true.1 hsz k (DataW.weights_mem_each (j := 0) (t := 27) rfl rfl k hk))
  obtain ⟨m0, t0, A0, l0, c0, b0, rfl, hc0, hk0, hs0, hm0, ht0, hb0⟩ := X.open_request (hval 0 27 v0 rfl rfl) h0 sz0
  have k1 := h1
  have lt1 : ∀ x ∈ p1, x.block < W.heap.size := by obtain ⟨m, hm⟩ := k1; exact DataW.trod_lt m _ _ _ hm
  have sz1 : ∀ k ∈ d1.weights Tryd.prog 39, k ≤ X.lim := fun k hk => of_decide_eq_true (List.all_eq_true.1 hsz k (DataW.weights_mem_each (j := 1) (t := 39) rfl rfl k hk))
  obtain ⟨n1, A1, l1, c1, b1, rfl, hc1, hk1, hs1, hn1, hb1⟩ := X.open_response (hval 1 39 v1 rfl rfl) h1 sz1
  obtain ⟨a2, rfl, rfl, rfl, w2⟩ := open_int Tryd.underlying3 (hval 2 3 v2 rfl rfl) h2
  obtain ⟨a3, rfl, rfl, rfl, y3⟩ := open_string Tryd.underlying9 (hval 3 9 v3 rfl rfl) h3
  have w3 : a3.size ≤ 140737488351232 := by
    have z := sized_string hsz (j := 3) (t := 9) rfl rfl
    rw [Array.length_toList] at z
    exact z
  clear hA0 hval0 hsz0 hsz
  refine (X.wicketlaw15_HttpWhole.calls (40000 + 1 + 1 + 1 + 1 + 1) m0 t0 A0 c0 l0 b0 n1 A1 c1 l1 b1 a2 a3 true W hk0 hc0 hk1 hc1 hG (X.HttpWhole_f m0 t0 l0 b0 n1 l1 b1 a2 a3 (X.int_wf w2) w3 (fun f hf => (hs0 f hf).1) hb0 (fun f hf => (hs1 f hf).1) hb1)).mono fun e W' ⟨he, bel⟩ => ?_
  subst he
  exact ⟨_, rfl, _, _, _, [], _, [], hW', trodAll_mk1 (shut_bool Tryd.underlying4 _), (trodAll_cons_mk (Below.trod laidOut (by kernel_rfl) (of_decide_eq_true (by kernel_rfl)) k0 bel lt0) (trodAll_cons_mk (Below.trod laidOut (by kernel_rfl) (of_decide_eq_true (by kernel_rfl)) k1 bel lt1) (trodAll_cons_mk (shut_int Tryd.underlying3 w2) (trodAll_cons_mk (shut_string Tryd.underlying9 y3) trodAll_mk0)))), rfl, bel.frame _, fun h => by cases h⟩
theorem lay_met (os : Os) : laidMetH Tryd.prog Rows.httpWholeRow.laid ((World.laidAll Tryd.prog os Rows.httpWholeRow.laid).forCall (fun _ _ => 0) ⟨#[], #[.agg #[.string ⟨#[]⟩, .string ⟨#[]⟩, .slice none 0 0, .string ⟨#[]⟩], .agg #[.int .i64 0, .slice none 0 0, .string ⟨#[]⟩], .int .i64 0, .string ⟨#[]⟩], []⟩).memory := by
  rw [MakeChecks.laidMetH_plain _ _ _ (by kernel_rfl)]
  exact laidMet_laidAll _ (by kernel_rfl) (by kernel_rfl)
theorem reads (os : Os) {H : Type} (enc : TypeId × Value → H) : ∃ places, DataW.whole enc Tryd.prog ((World.laidAll Tryd.prog os Rows.httpWholeRow.laid).forCall (fun _ _ => 0) ⟨#[], #[.agg #[.string ⟨#[]⟩, .string ⟨#[]⟩, .slice none 0 0, .string ⟨#[]⟩], .agg #[.int .i64 0, .slice none 0 0, .string ⟨#[]⟩], .int .i64 0, .string ⟨#[]⟩], []⟩).memory Tryd.f6.params.toList Rows.httpWholeSpec.vars false (#[.agg #[.string ⟨#[]⟩, .string ⟨#[]⟩, .slice none 0 0, .string ⟨#[]⟩], .agg #[.int .i64 0, .slice none 0 0, .string ⟨#[]⟩], .int .i64 0, .string ⟨#[]⟩] : Array Value).toList 8 = some ([.agg [.lit (.string []), .lit (.string []), .nil, .lit (.string [])], .agg [.lit (.int .i64 0), .nil, .lit (.string [])], .lit (.int .i64 0), .lit (.string [])], [], places) := ⟨[], by kernel_rfl⟩
set_option maxRecDepth 100000 in
theorem lifted (os : Os) (started : os.Started) (H : Type) (enc : TypeId × Value → H) (F : Stop.Interp) :
    ReturnsInHanded {} Tryd.checked os 6 .any ((OpenSpec.ofChange Rows.httpWholeSpec).preRow enc Tryd.prog Tryd.f6 Rows.httpWholeRow.domain false Rows.httpWholeRow.laid) (((OpenSpec.ofChange Rows.httpWholeSpec).at F).post enc Tryd.prog Tryd.f6 false true false false) := by
  obtain ⟨places, hx⟩ := reads os enc
  refine returnsInHanded_of_row (C := Tryd.checked) (s := OpenSpec.ofChange Rows.httpWholeSpec) own started (by kernel_rfl) Tryd.func6
    (witness_row_atRef (enc := enc) (C := Tryd.checked) false (World.laidAll Tryd.prog os Rows.httpWholeRow.laid) #[.agg #[.string ⟨#[]⟩, .string ⟨#[]⟩, .slice none 0 0, .string ⟨#[]⟩], .agg #[.int .i64 0, .slice none 0 0, .string ⟨#[]⟩], .int .i64 0, .string ⟨#[]⟩] (World.laidAll_os _ _ _) (by kernel_rfl) (by kernel_rfl) (by kernel_rfl)
      (OpenSpec.preRow_of_cond 8 hx (by kernel_rfl) (fun k hk => by cases hk) (by kernel_rfl) (lay_met os))) ?_
  intro W base args ds gs before hval hW _ _ hsz hL hS _
  exact contract H enc W base args ds gs before hval hW hsz (X.GL_of hL hS)
theorem said : Rows.HttpWholeSaid :=
  OpenClaim.holds_of_cond 6 Tryd.f6 rfl rfl rfl rfl rfl rfl rfl ⟨rfl, rfl, rfl, rfl, rfl⟩ rfl rfl rfl rfl rfl (by kernel_rfl) Tryd.func6 (by kernel_rfl)
    (of_decide_eq_true (by kernel_rfl)) (by unfold Func.isWrapper; first | (rw [if_pos (by decide +kernel)]; kernel_rfl) | (rw [if_neg (by decide +kernel)]; exact ⟨rfl, rfl⟩))
    (fun os started H enc _ F => by rw [OpenClaim.pre_eq_preRow]; exact lifted os started H enc F)
theorem plain (f : FuncId) (fn : Func) (hf : Tryd.pinned.checked.prog.funcNamed "wicket/wicketlaw15.HttpWhole" = some f) (hfn : Tryd.pinned.checked.prog.funcs[f]? = some fn) :
    true = Tryd.pinned.checked.prog.looks [] ∧ ∀ (j : Nat) t, fn.params[j]? = some t → Tryd.pinned.checked.prog.wantsStandIn t = false := by
  obtain rfl : f = 6 := Option.some.inj ((show Tryd.prog.funcNamed "wicket/wicketlaw15.HttpWhole" = some 6 by kernel_rfl).symm.trans hf) |>.symm
  obtain rfl : fn = Tryd.f6 := (Option.some.inj (Tryd.func6.symm.trans hfn)).symm
  refine ⟨by kernel_rfl, fun j t ht => ?_⟩
  rw [Tryd.params6] at ht
  have hm := Array.mem_of_getElem? ht
  simp only [List.mem_toArray, List.mem_cons, List.not_mem_nil, or_false] at hm
  rcases hm with rfl | rfl | rfl | rfl
  · exact (show Tryd.prog.wantsStandIn 27 = false by kernel_rfl)
  · exact (show Tryd.prog.wantsStandIn 39 = false by kernel_rfl)
  · exact (show Tryd.prog.wantsStandIn 3 = false by kernel_rfl)
  · exact (show Tryd.prog.wantsStandIn 9 = false by kernel_rfl)
theorem card : Rows.HttpWholeCardSaid :=
  Claim7.holds_tied_plain_at .later [] _ _ _ _ said (fun _ h => by cases h) (by kernel_rfl) (fun _ h => by cases h) httpWhole_row_tie rfl ⟨rfl, rfl⟩ (by kernel_rfl) rfl plain (by kernel_rfl)
#print axioms card
end Go.Proofs.YtmfkgjnlobiobaaDoor.httpWhole
